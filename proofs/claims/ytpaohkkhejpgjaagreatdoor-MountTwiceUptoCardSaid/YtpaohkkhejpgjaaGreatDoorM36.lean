/- Texts of the proof: Y4. -/
import Derived.Test.YtpaohkkhejpgjaaGreatDoorM34
import Derived.Test.YtpaohkkhejpgjaaGreatDoorM20
import Derived.Test.YtpaohkkhejpgjaaGreatDoorM29
import Derived.Test.YtpaohkkhejpgjaaGreatDoorM35
set_option linter.all false
set_option maxRecDepth 100000
set_option maxHeartbeats 8000000
namespace Go.Proofs.YtpaohkkhejpgjaaGreatDoor
open Go Go.RowKit
theorem ji3:zSto.toArray=Tryz.zeroCells42:=by kernel_rfl
theorem zSto_one:∀u∈zSto,u.oneCell'=true:=by
 have h:zSto.all (fun u=>u.oneCell')=true:=by kernel_rfl
 intro u hu;exact List.all_eq_true.1 h u hu
theorem zSto_len:zSto.length=113:=rfl
theorem noSto_v(w:World):StoV w (.agg zSto.toArray) noSto:=
 ⟨_,_,_,rfl,⟨_,_,rfl,Sl.nil _,Sl.nil _,by unfold u32Ok;decide,by unfold jho;decide⟩,⟨_,rfl,Sl.nil _,by unfold u32Ok;decide⟩,jcb,jcb,jg6⟩
theorem ji4{w W:World}(h:Below w.heap.size w W)(g:Nat)(hg:w.heap.size≤g)(cs z:Array Value)(t:TypeId)(hrb:W.heap[g]? =some (.cells z t (0,0))):
 (W.setRow g cs).heap[g]? =some (.cells cs t (0,0))∧Below w.heap.size w (W.setRow g cs):=
 ⟨jad _ _ _ _ _ hrb,⟨h.os,h.tape,h.output,by simpa[World.setRow]using h.size,fun k hk=>(jac _ _ _ _ (by omega)).trans (h.block k hk)⟩⟩
theorem jaq(w:World)(g:Nat)(cs:Array Value):w.grownBy (w.setRow g cs) (some g):=
 ⟨rfl,rfl,rfl,by simp[World.setRow],fun k _ hne=>jac _ _ _ _ (fun e=>hne (by rw[e]))⟩
theorem jb1{B g:Nat}{w w':World}{v:Value}{d:Dv}{cs:Array Value}{t:TypeId}{fr:Nat×Nat}(h:DevO B w v d)(hg:w.grownBy w' (some g))(hb:w.heap[g]? =some (.cells cs t fr))(ht:t≠160):DevO B w' v d:=by
 obtain⟨bv,wv,e,h1,h2,h3⟩:=h;exact⟨bv,wv,e,jat h1 hg hb ht,jat h2 hg hb ht,h3⟩
theorem jcy{B:Nat}{w w':World}{v:Value}{d:Dv}(h:DevO B w v d)(hb:Below w.heap.size w w'):DevO B w' v d:=by
 obtain⟨bv,wv,e,h1,h2,h3⟩:=h;exact⟨bv,wv,e,jc4 h1 hb,jc4 h2 hb,h3⟩
theorem zrest_one:∀u∈zSup ++ (zSup ++ (zV ++ zKid)),u.oneCell'=true:=by
 have h:(zSup ++ (zSup ++ (zV ++ zKid))).all (fun u=>u.oneCell')=true:=by kernel_rfl
 intro u hu;exact List.all_eq_true.1 h u hu
theorem stoDH_one{x:Int}{bv wv:Value}{dn:Bool}{f:Int}(h1:bv.oneCell'=true)(h2:wv.oneCell'=true)(y:Int):∀u∈stoL [.int .u32 x,bv,wv, .bool dn, .int .i64 f] [.int .u32 y, .slice none 0 0] zSup zSup zV zKid,u.oneCell'=true:=by
 intro u hu;unfold stoL at hu;rcases List.mem_append.1 hu with hu|hu
 ·simp at hu;rcases hu with rfl|rfl|rfl|rfl|rfl <;>first|rfl|exact h1|exact h2
 ·rcases List.mem_append.1 hu with hu|hu
  ·simp at hu;rcases hu with rfl|rfl <;>rfl
  ·exact zrest_one u hu
theorem stoD_one{x:Int}{bv wv:Value}{dn:Bool}{f:Int}(h1:bv.oneCell'=true)(h2:wv.oneCell'=true):∀u∈stoL [.int .u32 x,bv,wv, .bool dn, .int .i64 f] zHp zSup zSup zV zKid,u.oneCell'=true:=stoDH_one h1 h2 0
structure MtAt(w wr:World)(b1 b9 B4:Nat)(d:Dv)(bv wv:Value)(m:Mt)(cv:Value):Prop where
 dev:wr.heap[w.heap.size]? =some (.cells (devL d bv wv).toArray 25 (0,0))
 res:wr.heap[b1]? =some (.cells zSto.toArray 42 (0,0))
 sto:wr.heap[b9]? =some (.cells (stoL (devL d bv wv) [.int .u32 d.size,cv] (supA m.s0).toList (supA m.s1).toList [.bool m.v0, .bool m.v1] (kidE.enc m.table)).toArray 42 (0,0))
 own:wr.ownsRow w.heap.size 91 3 cv m.cs.length ((m.cs.map celOf).flatMap celE.enc)
 devo:DevO B4 wr (jck d bv wv) d
 low:Below w.heap.size w wr
 k0:supWf m.s0
 k1:supWf m.s1
 kt:kidE.wf m.table
theorem MtAt.below{w wr wz:World}{b1 b9 B4:Nat}{d:Dv}{bv wv:Value}{m:Mt}{cv:Value}(h:MtAt w wr b1 b9 B4 d bv wv m cv)(hb:Below wr.heap.size wr wz):MtAt w wz b1 b9 B4 d bv wv m cv:=
 ⟨(hb.block _ (lt_of_block h.dev)).trans h.dev,(hb.block _ (lt_of_block h.res)).trans h.res,(hb.block _ (lt_of_block h.sto)).trans h.sto,jc4 h.own hb,jcy h.devo hb,h.low.trans (hb.mono h.low.size),h.k0,h.k1,h.kt⟩
theorem jbd{w w':World}{r:Option Nat}(h:Below w.heap.size w w'):w.grownBy w' r:=⟨h.os,h.tape,h.output,h.size,fun k hk _=>h.block k hk⟩
theorem MtAt.put{w w1 w2:World}{b1 b9 B4 B':Nat}{d:Dv}{bv wv:Value}{m m':Mt}{cv cv':Value}(h:MtAt w w1 b1 b9 B4 d bv wv m cv)(hG:w1.grownBy w2 (some b9))(h1:w.heap.size + 1=b1∧b1 < b9)
 (ho:w1.ownsRow B' 91 3 cv' m'.cs.length ((m'.cs.map celOf).flatMap celE.enc)) (hB:w.heap.size≤B')
 (hst:w2.heap[b9]? =some (.cells (stoL (devL d bv wv) [.int .u32 d.size,cv'] (supA m'.s0).toList (supA m'.s1).toList [.bool m'.v0, .bool m'.v1] (kidE.enc m'.table)).toArray 42 (0,0)))
 (k0:supWf m'.s0) (k1:supWf m'.s1) (kt:kidE.wf m'.table):MtAt w w2 b1 b9 B4 d bv wv m' cv':=by
 obtain⟨e1,e2⟩:=h1;refine⟨(hG.block _ (lt_of_block h.dev) (fun e=>by injection e with e;omega)).trans h.dev,(hG.block _ (lt_of_block h.res) (fun e=>by injection e with e;omega)).trans h.res,hst,jd4 (jat ho hG h.sto (by decide)) hB,jb1 h.devo hG h.sto (by decide),h.low.grown hG h.low.size (fun k hk=>by injection hk with hk;omega),k0,k1,kt⟩
theorem mtStep_put{d:Dv}{m:Mt}{x:Sup}{cs:List CC}(hs:x.size=d.size)(hr:(loadS d 65537 true (tabOf x) m.cs).1=true)(hc:(loadS d 65537 true (tabOf x) m.cs).2=cs):
 jc5 d m x=⟨cs,if slotS x=0 then x else m.s0,if slotS x=0 then m.s1 else x,m.v0||decide (slotS x=0),m.v1|| !decide (slotS x=0),if m.table.num=0 then tabOf x else m.table⟩:=by
 unfold jc5;rw[if_neg (by rintro(h|h);exact h hs;rw[hr]at h;cases h),hc]
def MtPre(d:Dv)(m:Mt):Prop:=∃b:Int,CsOk d m.cs b 65537
def mtTo(d:Dv)(l:List Sup)(j:Nat):Mt:=(l.take j).foldl (jc5 d) mt0
theorem mtTo_succ(d:Dv)(l:List Sup)(j:Nat)(h:j < l.length):mtTo d l (j + 1)=jc5 d (mtTo d l j) l[j]:=by
 unfold mtTo;rw[List.take_succ_eq_append_getElem h,List.foldl_append];rfl
def jkk(w wr:World)(b1 b9 B4:Nat)(d:Dv)(bv wv ov:Value)(l:List Sup)(j:Nat):Prop:=∃cv,MtAt w wr b1 b9 B4 d bv wv (mtTo d l j) cv∧Sl supE wr ov l
theorem mt_wf{d:Dv}{m:Mt}(h:MtOk d m)(hd:DevOk d):(∀x∈m.cs.map celOf,celE.wf x)∧(∀c∈m.cs,c.refs≤16777216)∧m.cs.length≤65534:=by
 have hlen:=jki h.ok hd.hi hd.lo;have hal:=jg3 m.cs (fun c hc=>by rw[(h.ok.dec c hc).2.1];exact jev (h.ok.dec c hc).1);have hone:∀p a t,0≤oneIf p a t∧oneIf p a t≤1:=by intro p a t;unfold oneIf;split <;>omega
 have hr:∀c∈m.cs,c.refs≤16777216:=by
  intro c hc;have h1:=h.refs c.num;rw[jem h.ok.ris hc]at h1;have h3:=countL_leW (jaz m.cs) c.num;have h4:=hone m.v0 m.s0.table c.num;have h5:=hone m.v1 m.s1.table c.num;omega
 refine⟨fun x hx=>?_,hr,hlen⟩;obtain⟨c,hc,rfl⟩:=List.mem_map.1 hx;have h1:=h.ok.dec c hc;have h2:=hr c hc;have h3:=h.ok.pos c hc;have h8:=hd.hi;have h6:c.data.size≤512:=by
  have h5:=h1.1;unfold decB at h5;simp only[Bool.and_eq_true,decide_eq_true_eq]at h5;exact h5.1
 exact⟨⟨by show 0≤c.num;omega,by show c.num≤4294967295;omega⟩,Nat.le_trans h6 (by decide),⟨by show -9223372036854775808≤c.refs;omega,by show c.refs≤9223372036854775807;omega⟩⟩
theorem mt_up_wf{cs:List CC}{t:Int}(h:∀x∈cs.map celOf,celE.wf x)(hr:∀c∈cs,c.refs≤16777216):∀x∈(cs.map (rUp t)).map celOf,celE.wf x:=by
 intro x hx;obtain⟨c,hc,rfl⟩:=List.mem_map.1 hx;obtain⟨e,he,rfl⟩:=List.mem_map.1 hc;obtain⟨h1,h2,h3,h4⟩:=h (celOf e) (List.mem_map.2 ⟨e,he,rfl⟩);have h5:=hr e he;have h3': -9223372036854775808≤e.refs:=h3;refine⟨by show u32Ok (rUp t e).num;rw[jgi];exact h1,by show strOk (rUp t e).data;rw[rUp_data];exact h2,?_,?_⟩
 ·show -9223372036854775808≤(rUp t e).refs
  unfold rUp;split
  ·show -9223372036854775808≤e.refs + 1
   omega
  ·exact h3'
 ·show(rUp t e).refs≤9223372036854775807
  unfold rUp;split
  ·show e.refs + 1≤9223372036854775807
   omega
  ·omega
theorem order_len(a b:ByteArray):(jcm a b).length≤2:=by
 rw[order_eq,jl6,List.length_append];have:=jiv 0 a;have:=jiv 1 b;omega
theorem spliceY{α:Type}(p m q vs:List α)(n:Nat)(hp:p.length=n)(hm:m.length=vs.length):(p ++ (m ++ q)).take n ++ vs ++ (p ++ (m ++ q)).drop (n + vs.length)=p ++ (vs ++ q):=by
 subst hp;rw[List.take_left,←hm,List.drop_append,List.drop_of_length_le (by omega),List.drop_append,List.drop_of_length_le (by omega)];simp
section
variable {dv hp a b v k:List Value}
theorem sto_cvS(h:dv.length=5)(x cv cv':Value):(stoL dv [x,cv] a b v k).toArray.setIfInBounds 6 cv'=(stoL dv [x,cv'] a b v k).toArray:=by
 unfold stoL;rw[List.setIfInBounds_toArray,List.set_append_right _ _ (by omega),h];rfl
theorem sto_aS(h:StoLen dv hp a b v k)(vs:List Value)(hv:vs.length=35):((stoL dv hp a b v k).take 7 ++ vs ++ (stoL dv hp a b v k).drop (7 + vs.length))=stoL dv hp vs b v k:=by
 have e:∀z,stoL dv hp z b v k=(dv ++ hp) ++ (z ++ (b ++ (v ++ k))):=fun z=>by unfold stoL;rw[List.append_assoc]
 rw[e,e];exact spliceY _ _ _ _ _ (by rw[List.length_append,h.dv,h.hp]) (by rw[h.a,hv])
theorem sto_bS(h:StoLen dv hp a b v k)(vs:List Value)(hv:vs.length=35):((stoL dv hp a b v k).take 42 ++ vs ++ (stoL dv hp a b v k).drop (42 + vs.length))=stoL dv hp a vs v k:=by
 have e:∀z,stoL dv hp a z v k=(dv ++ (hp ++ a)) ++ (z ++ (v ++ k)):=fun z=>by unfold stoL;simp only[List.append_assoc]
 rw[e,e];exact spliceY _ _ _ _ _ (by simp only[List.length_append,h.dv,h.hp,h.a]) (by rw[h.b,hv])
theorem sto_kS(h:StoLen dv hp a b v k)(us:List Value)(hu:us.length=34):((stoL dv hp a b v k).take 79 ++ us ++ (stoL dv hp a b v k).drop (79 + us.length))=stoL dv hp a b v us:=by
 have e:∀z,stoL dv hp a b v z=(dv ++ (hp ++ (a ++ (b ++ v)))) ++ (z ++ []):=fun z=>by unfold stoL;simp only[List.append_assoc,List.append_nil]
 rw[e,e];exact spliceY _ _ _ _ _ (by simp only[List.length_append,h.dv,h.hp,h.a,h.b,h.v]) (by rw[h.k,hu])
theorem sto_vS(h:StoLen dv hp a b v k)(i:Nat)(hi:i < 2)(u:Value):(stoL dv hp a b v k).toArray.setIfInBounds (77 + i) u=(stoL dv hp a b (v.set i u) k).toArray:=by
 have e:∀z,stoL dv hp a b z k=(dv ++ (hp ++ (a ++ b))) ++ (z ++ k):=fun z=>by unfold stoL;simp only[List.append_assoc]
 have hl:(dv ++ (hp ++ (a ++ b))).length=77:=by simp only[List.length_append,h.dv,h.hp,h.a,h.b]
 rw[e,e,List.setIfInBounds_toArray,List.set_append_right _ _ (by omega),hl,List.set_append_left _ _ (by rw[h.v];omega),show 77 + i - 77=i by omega]
end
theorem sort2_mem{l:List Sup}{x:Sup}(h:x∈jl4 l):x∈l:=by
 unfold jl4 at h;split at h
 ·split at h
  ·simp at h ⊢;rcases h with h|h <;>simp[h]
  ·exact h
 ·exact h
theorem pick_sup{i:Int}{a:ByteArray}{x:Sup}(h:x∈pickS i a):supB x=true:=by
 rcases jf0 i a with⟨_,e⟩|⟨_,_,e⟩|⟨hd,_,e⟩ <;>rw[e]at h
 ·simp at h
 ·simp at h
 ·rw[List.mem_singleton.1 h];unfold decEr at hd;unfold decV;cases hs:jcj a with
  |none=>rw[hs]at hd;simp at hd
  |some y=>exact(jl3 hs).1
theorem order_sup{a b:ByteArray}{x:Sup}(h:x∈jcm a b):supB x=true:=by
 rw[order_eq]at h;rcases List.mem_append.1 (sort2_mem h)with h|h
 ·exact pick_sup h
 ·exact pick_sup h
theorem mt_pre(d:Dv)(a b:ByteArray)(hd:DevOk d):∀j,j < (jcm a b).length→MtPre d (mtTo d (jcm a b) j):=by
 intro j hj;have hl:=order_len a b;have hsup:=fun x (h:x∈jcm a b)=>order_sup h
 generalize jcm a b=l at *;rcases(show j=0∨j=1 by omega)with rfl|rfl
 ·exact⟨1,(mtOk0 d).ok,Int.le_refl _,fun c hc=>by simp[mtTo,mt0]at hc,by simp[mtTo,mt0],by simp[mtTo,mt0]⟩
 ·rw[mtTo_succ d l 0 (by omega)];have hx:=hsup _ (List.getElem_mem (show 0 < l.length by omega));have hx2:slotS l[0]=0∨slotS l[0]=1:=by
   unfold slotS;unfold supB at hx;simp only[Bool.and_eq_true,decide_eq_true_eq]at hx;omega
  have hm:MtOk d (jc5 d (mtTo d l 0) l[0]):=jfc (mtOk0 d) hx (by
   rcases hx2 with h|h
   ·exact Or.inl ⟨h,rfl⟩
   ·exact Or.inr ⟨h,rfl⟩)
  have hw:=mt_wf hm hd;exact⟨16777216,hm.ok,by decide,hw.2.1,by omega,by omega⟩
theorem jg7(w:World)(v:Value)(d:Dv)(hv:DevV w v d)(hbl:d.blocks.length≤1073741824)(hwl:d.waits.length≤1073741824):
 Calls Tryz.prog 13 #[v] w fun e w'=>∃r,e= .returned (.tuple #[r, .int .i64 (jcz d).2])∧StoV w' r (jcz d).1∧Below w.heap.size w w':=by
 have HV:=Lib.hid hv;obtain⟨bv,wv,rfl,hbs,hws,hsz,hfu⟩:=hv;have HSL:=Lib.hid (And.intro hbs (And.intro hws (And.intro hsz hfu)));have hbs1:bv.oneCell'=true∧wv.oneCell'=true:=by
  obtain⟨_,_,e1,_⟩:=hbs;obtain⟨_,_,e2,_⟩:=hws;rw[e1,e2];exact⟨rfl,rfl⟩
 have HONE:=Lib.hid hbs1;clear hbs hws hsz hfu hbs1;go_enter Tryz.func13,Tryz.ntmps13;go_upto_region 1 with(fail);have hd0:=heap_alloc_new w (.cells #[.int .u32 d.size,bv,wv, .bool d.down, .int .i64 d.fuse] 25);have hB0:=(Below.refl w.heap.size w).alloc (Nat.le_refl _) (.cells #[.int .u32 d.size,bv,wv, .bool d.down, .int .i64 d.fuse] 25);have hsz1:(w.alloc (.cells #[.int .u32 d.size,bv,wv, .bool d.down, .int .i64 d.fuse] 25)).heap.size=w.heap.size + 1:=by simp
 generalize w.alloc (.cells #[.int .u32 d.size,bv,wv, .bool d.down, .int .i64 d.fuse] 25)=w1 at *;rw[←ji3];have hr0:=heap_alloc_new w1 (.cells zSto.toArray 42);rw[hsz1]at hr0;have hB1:=hB0.alloc hB0.size (.cells zSto.toArray 42);have hd1:=(Lib.alloc_old w1 (.cells zSto.toArray 42) _ (lt_of_block hd0)).trans hd0;generalize w1.alloc (.cells zSto.toArray 42)=w2 at *;clear hd0 hB0 hsz1;have HDV:=Lib.hid (HV.out.below hB1 (Nat.le_refl _));have H2:=Lib.hid (And.intro hd1 (And.intro hr0 hB1));have x0:w2.cell? ⟨w.heap.size,0,none⟩=some (.int .u32 d.size):=by rw[cell_of_row _ _ _ _ _ _ hd1];rfl
 have x1:w2.cell? ⟨w.heap.size,1,none⟩=some bv:=by rw[cell_of_row _ _ _ _ _ _ hd1];rfl
 have x2:w2.cell? ⟨w.heap.size,2,none⟩=some wv:=by rw[cell_of_row _ _ _ _ _ _ hd1];rfl
 have x3:w2.cell? ⟨w.heap.size,3,none⟩=some (.bool d.down):=by rw[cell_of_row _ _ _ _ _ _ hd1];rfl
 have x4:w2.cell? ⟨w.heap.size,4,none⟩=some (.int .i64 d.fuse):=by rw[cell_of_row _ _ _ _ _ _ hd1];rfl
 clear hd1 hr0 hB1;go_wp2_with (fail);refine(jdu w2 _ d HDV.out hbl hwl).mono ?_;rintro e w3 ⟨rfl,hb3⟩;have hd3:=(hb3.block _ (lt_of_block H2.out.1)).trans H2.out.1;have hr3:=(hb3.block _ (lt_of_block H2.out.2.1)).trans H2.out.2.1;have hB3:=H2.out.2.2.trans (hb3.mono H2.out.2.2.size);have H3:=Lib.hid (And.intro hd3 (And.intro hr3 hB3));clear x0 x1 x2 x3 x4 hd3 hr3 hB3 hb3 H2;have hne:w.heap.size≠w.heap.size + 1:=by omega
 generalize hb1E:w.heap.size + 1=b1 at *;have HB1:=Lib.hid hb1E;clear hb1E;cases hdb:devB d with
 |false=>
  have he:jb0 d=7:=by unfold jb0;rw[hdb];rfl
  have HM:=Lib.hid (show jcz d=(noSto,7) by unfold jcz;rw[if_pos hdb]);rw[he];clear he hdb;go_wp2_with (first
   |((with_reducible refine jar 42 ?_);go_loud (refine jah rfl 42 _ rfl [] rfl zSto.toArray jjz ?_))
   |((with_reducible refine jam 42 ?_);refine ja9 rfl 42 _ _ rfl b1 rfl zSto rfl 42 zSto.toArray H3.out.2.1 rfl zSto_one ja6 ?_))
  have hfd:=ji4 H3.out.2.2 b1 (by have:=HB1.out;omega) zSto.toArray _ _ H3.out.2.1;refine bodyPost_ret (jb7 rfl _ b1 zSto zSto_len (0,0) _ rfl hfd.1) rfl ⟨.agg zSto.toArray,?_,?_,hfd.2⟩
  ·rw[HM.out];rfl
  ·rw[HM.out];exact noSto_v _
 |true=>
  have he:jb0 d=0:=by unfold jb0;rw[hdb];rfl
  have hdok:=(jcq d).1 hdb;have HDB:=Lib.hid hdb;rw[he];clear he hdb;have x0:w3.cell? ⟨w.heap.size,0,none⟩=some (.int .u32 d.size):=by rw[cell_of_row _ _ _ _ _ _ H3.out.1];rfl
  have x1:w3.cell? ⟨w.heap.size,1,none⟩=some bv:=by rw[cell_of_row _ _ _ _ _ _ H3.out.1];rfl
  have x2:w3.cell? ⟨w.heap.size,2,none⟩=some wv:=by rw[cell_of_row _ _ _ _ _ _ H3.out.1];rfl
  have x3:w3.cell? ⟨w.heap.size,3,none⟩=some (.bool d.down):=by rw[cell_of_row _ _ _ _ _ _ H3.out.1];rfl
  have x4:w3.cell? ⟨w.heap.size,4,none⟩=some (.int .i64 d.fuse):=by rw[cell_of_row _ _ _ _ _ _ H3.out.1];rfl
  have HD3:=Lib.hid (HV.out.below H3.out.2.2 (Nat.le_refl _));go_wp2_with (fail);refine(jhg w3 _ d HD3.out hbl hwl).mono ?_;rintro e w4 ⟨r,rfl,hdo,hb4⟩;have HDO:=Lib.hid hdo;obtain⟨bv2,wv2,rfl,ho1,ho2,_,_,_,_,_⟩:=hdo;have hone2:bv2.oneCell'=true∧wv2.oneCell'=true:=by
   obtain⟨_,_,_,e1⟩:=jan ho1;obtain⟨_,_,_,e2⟩:=jan ho2;rw[e1,e2];exact⟨rfl,rfl⟩
  have HONE2:=Lib.hid hone2;have HSH:=Lib.hid (And.intro (jan ho1) (jan ho2));have hd4:=(hb4.block _ (lt_of_block H3.out.1)).trans H3.out.1;have hr4:=(hb4.block _ (lt_of_block H3.out.2.1)).trans H3.out.2.1;have hB4:=H3.out.2.2.trans (hb4.mono H3.out.2.2.size);have hd5:(w4.setRow w.heap.size [Value.int .u32 d.size,bv2,wv2, .bool d.down, .int .i64 d.fuse].toArray).heap[w.heap.size]? =some (.cells #[Value.int .u32 d.size,bv2,wv2, .bool d.down, .int .i64 d.fuse] 25 (0,0)):=jad _ _ _ _ _ hd4;have hr5:(w4.setRow w.heap.size [Value.int .u32 d.size,bv2,wv2, .bool d.down, .int .i64 d.fuse].toArray).heap[b1]? =some (.cells zSto.toArray 42 (0,0)):=(jac _ _ _ _ (fun e=>hne e.symm)).trans hr4;have hB5:=(ji4 hB4 w.heap.size (Nat.le_refl _) [Value.int .u32 d.size,bv2,wv2, .bool d.down, .int .i64 d.fuse].toArray _ _ hd4).2;have hgs5:w4.grownBy (w4.setRow w.heap.size [Value.int .u32 d.size,bv2,wv2, .bool d.down, .int .i64 d.fuse].toArray) (some w.heap.size):=jaq w4 w.heap.size _;have hdo5:=jb1 HDO.out hgs5 hd4 (by decide);have H4:=Lib.hid hd4;have H5:=Lib.hid (And.intro hd5 (And.intro hr5 (And.intro hB5 hdo5)));have h3sz:=H3.out.2.2.size;clear x0 x1 x2 x3 x4 ho1 ho2 hone2 hd4 hr4 hB4 hb4 hd5 hr5 hB5 hgs5 hdo5 HDO;go_upto_region 5 with((with_reducible refine jab ?_);refine ja9 rfl 25 _ _ rfl w.heap.size rfl [_,_,_,_,_] rfl 25 _ H4.out rfl (by intro v hv;simp at hv;rcases hv with rfl|rfl|rfl|rfl|rfl <;>first|rfl|exact HONE2.out.1|exact HONE2.out.2) jbz ?_)
  generalize w4.setRow w.heap.size _=w5 at *;clear H4;have x0:w5.cell? ⟨w.heap.size,0,none⟩=some (.int .u32 d.size):=by rw[cell_of_row _ _ _ _ _ _ H5.out.1];rfl
  have x1:w5.cell? ⟨w.heap.size,1,none⟩=some bv2:=by rw[cell_of_row _ _ _ _ _ _ H5.out.1];rfl
  have x2:w5.cell? ⟨w.heap.size,2,none⟩=some wv2:=by rw[cell_of_row _ _ _ _ _ _ H5.out.1];rfl
  have x3:w5.cell? ⟨w.heap.size,3,none⟩=some (.bool d.down):=by rw[cell_of_row _ _ _ _ _ _ H5.out.1];rfl
  have x4:w5.cell? ⟨w.heap.size,4,none⟩=some (.int .i64 d.fuse):=by rw[cell_of_row _ _ _ _ _ _ H5.out.1];rfl
  cases hdn:d.down with
  |true=>
   have HM:=Lib.hid (show jcz d=({noSto with dev:=d},17) by unfold jcz;rw[if_neg (by rw[HDB.out];simp),if_pos hdn]);have hld:=H5.out.2.2.2.dev;have HL:=Lib.hid hld;have HDN:=Lib.hid hdn;clear hld;rw[hdn]at x3;go_wp2_with (first
    |((with_reducible refine jar 42 ?_);go_loud (refine jah rfl 42 _ rfl [(0, .agg #[.int .u32 d.size,bv2,wv2, .bool true, .int .i64 d.fuse])] rfl _ (jj0 _ _ _ _ _) ?_))
    |((with_reducible refine jam 42 ?_);refine ja9 rfl 42 _ _ rfl b1 rfl (stoL [.int .u32 d.size,bv2,wv2, .bool true, .int .i64 d.fuse] zHp zSup zSup zV zKid) rfl 42 zSto.toArray H5.out.2.1 rfl (stoD_one HONE2.out.1 HONE2.out.2) ja6 ?_))
   have hfd:=ji4 H5.out.2.2.1 b1 (by have:=HB1.out;omega) (stoL [.int .u32 d.size,bv2,wv2, .bool true, .int .i64 d.fuse] zHp zSup zSup zV zKid).toArray _ _ H5.out.2.1;refine bodyPost_ret (jb7 rfl _ b1 (stoL [.int .u32 d.size,bv2,wv2, .bool true, .int .i64 d.fuse] zHp zSup zSup zV zKid) rfl (0,0) _ rfl hfd.1) rfl ⟨.agg (stoL [.int .u32 d.size,bv2,wv2, .bool true, .int .i64 d.fuse] zHp zSup zSup zV zKid).toArray,?_,?_,hfd.2⟩
   ·rw[HM.out];rfl
   ·rw[HM.out];have hdv:=(jb1 H5.out.2.2.2 (jaq w5 b1 (stoL [.int .u32 d.size,bv2,wv2, .bool true, .int .i64 d.fuse] zHp zSup zSup zV zKid).toArray) H5.out.2.1 (by decide)).dev;refine⟨bv2,wv2, .slice none 0 0,?_,hdv,⟨_,rfl,Sl.nil _,show u32Ok 0 by unfold u32Ok;decide⟩,jcb,jcb,jg6⟩;show _=Value.agg (stoL (devL d bv2 wv2) _ _ _ _ _).toArray
    unfold devL;rw[HDN.out];rfl
  |false=>
   have hld:=H5.out.2.2.2.dev;rw[hdn]at hld x3;have HL:=Lib.hid hld;have HDN:=Lib.hid hdn;clear hld;go_wp2_with (fail);refine(jef w5 _ d 0 HL.out hbl hwl).mono ?_;rintro e w6 ⟨rfl,hb6⟩;have hd6:=(hb6.block _ (lt_of_block H5.out.1)).trans H5.out.1;have hr6:=(hb6.block _ (lt_of_block H5.out.2.1)).trans H5.out.2.1;have hB6:=H5.out.2.2.1.trans (hb6.mono H5.out.2.2.1.size);have ho6:=jcy H5.out.2.2.2 hb6;have hld6:=ho6.dev;rw[hdn]at hld6 hd6;have H6:=Lib.hid (And.intro hd6 (And.intro hr6 (And.intro hB6 (And.intro ho6 hld6))));clear x0 x1 x2 x3 x4 hr6 hB6 ho6 hld6 hb6 H5 HL;have x0:w6.cell? ⟨w.heap.size,0,none⟩=some (.int .u32 d.size):=by rw[cell_of_row _ _ _ _ _ _ hd6];rfl
   have x1:w6.cell? ⟨w.heap.size,1,none⟩=some bv2:=by rw[cell_of_row _ _ _ _ _ _ hd6];rfl
   have x2:w6.cell? ⟨w.heap.size,2,none⟩=some wv2:=by rw[cell_of_row _ _ _ _ _ _ hd6];rfl
   have x3:w6.cell? ⟨w.heap.size,3,none⟩=some (.bool false):=by rw[cell_of_row _ _ _ _ _ _ hd6];rfl
   have x4:w6.cell? ⟨w.heap.size,4,none⟩=some (.int .i64 d.fuse):=by rw[cell_of_row _ _ _ _ _ _ hd6];rfl
   clear hd6;obtain⟨da,hda⟩:∃x,(readD d 0).1=x:=⟨_,rfl⟩
   obtain⟨ea,hea⟩:∃x,(readD d 0).2=x:=⟨_,rfl⟩
   have hsa:=jmm HV.out 0;rw[hda]at hsa;have HDA:=Lib.hid hda;rw[hda,hea];clear hda hea;go_wp2_with (fail);refine(jef w6 _ d 1 H6.out.2.2.2.2 hbl hwl).mono ?_;rintro e w7 ⟨rfl,hb7⟩;have hd7:=(hb7.block _ (lt_of_block H6.out.1)).trans H6.out.1;have hr7:=(hb7.block _ (lt_of_block H6.out.2.1)).trans H6.out.2.1;have hB7:=H6.out.2.2.1.trans (hb7.mono H6.out.2.2.1.size);have ho7:=jcy H6.out.2.2.2.1 hb7;have H7:=Lib.hid (And.intro hd7 (And.intro hr7 (And.intro hB7 ho7)));clear x0 x1 x2 x3 x4 hr7 hB7 ho7 hb7 H6;have x0:w7.cell? ⟨w.heap.size,0,none⟩=some (.int .u32 d.size):=by rw[cell_of_row _ _ _ _ _ _ hd7];rfl
   have x1:w7.cell? ⟨w.heap.size,1,none⟩=some bv2:=by rw[cell_of_row _ _ _ _ _ _ hd7];rfl
   have x2:w7.cell? ⟨w.heap.size,2,none⟩=some wv2:=by rw[cell_of_row _ _ _ _ _ _ hd7];rfl
   have x3:w7.cell? ⟨w.heap.size,3,none⟩=some (.bool false):=by rw[cell_of_row _ _ _ _ _ _ hd7];rfl
   have x4:w7.cell? ⟨w.heap.size,4,none⟩=some (.int .i64 d.fuse):=by rw[cell_of_row _ _ _ _ _ _ hd7];rfl
   obtain⟨db,hdb⟩:∃x,(readD d 1).1=x:=⟨_,rfl⟩
   obtain⟨eb,heb⟩:∃x,(readD d 1).2=x:=⟨_,rfl⟩
   have hsb:=jmm HV.out 1;rw[hdb]at hsb;have HDBB:=Lib.hid hdb;rw[hdb,heb];clear hdb heb hd7;go_upto_region 10 with(first
    |((with_reducible refine jar 42 ?_);go_loud (refine jah rfl 42 _ rfl [(0, .agg #[.int .u32 d.size,bv2,wv2, .bool false, .int .i64 d.fuse]),(1, .agg #[.int .u32 d.size, .slice none 0 0])] rfl _ (built_stoDH _ _ _ _ _ _ _) ?_))
    |((with_reducible refine jam 42 ?_);refine jaa rfl 42 (.tmp 9) (.tmp 41) rfl 42 _ rfl (stoL [.int .u32 d.size,bv2,wv2, .bool false, .int .i64 d.fuse] [.int .u32 d.size, .slice none 0 0] zSup zSup zV zKid) rfl rfl (stoDH_one HONE2.out.1 HONE2.out.2 _) ja6 ?_))
   have hb9:=heap_alloc_new w7 (.cells (stoL [.int .u32 d.size,bv2,wv2, .bool false, .int .i64 d.fuse] [.int .u32 d.size, .slice none 0 0] zSup zSup zV zKid).toArray 42);have hMT:MtAt w (w7.alloc (.cells (stoL [.int .u32 d.size,bv2,wv2, .bool false, .int .i64 d.fuse] [.int .u32 d.size, .slice none 0 0] zSup zSup zV zKid).toArray 42)) b1 w7.heap.size w3.heap.size d bv2 wv2 mt0 (.slice none 0 0):=by
    have hdl:devL d bv2 wv2=[.int .u32 d.size,bv2,wv2, .bool false, .int .i64 d.fuse]:=by unfold devL;rw[HDN.out]
    have hbb:=(Below.refl w7.heap.size w7).alloc (Nat.le_refl _) (.cells (stoL [.int .u32 d.size,bv2,wv2, .bool false, .int .i64 d.fuse] [.int .u32 d.size, .slice none 0 0] zSup zSup zV zKid).toArray 42);refine⟨?_,(hbb.block _ (lt_of_block H7.out.2.1)).trans H7.out.2.1,by rw[hdl];exact hb9,⟨rfl,Or.inl ⟨rfl,rfl⟩⟩,jcy H7.out.2.2.2 hbb,H7.out.2.2.1.trans (hbb.mono H7.out.2.2.1.size),jcb,jcb,jg6⟩;rw[hdl];exact(hbb.block _ (lt_of_block H7.out.1)).trans H7.out.1
   have HMT:=Lib.hid hMT;have hs8:w7.heap.size < (w7.alloc (.cells (stoL [.int .u32 d.size,bv2,wv2, .bool false, .int .i64 d.fuse] [.int .u32 d.size, .slice none 0 0] zSup zSup zV zKid).toArray 42)).heap.size:=by simp
   have h79:b1 < w7.heap.size:=lt_of_block H7.out.2.1;have H79:=Lib.hid (show w.heap.size + 1=b1∧b1 < w7.heap.size from⟨HB1.out,h79⟩);clear hb9 hMT x0 x1 x2 x3 x4 H7;generalize w7.alloc _=w8 at *;generalize w7.heap.size=b9 at *;generalize w3.heap.size=B4 at *;go_wp2_with (fail);refine(order_any w8 da db hsa hsb).mono ?_;rintro e w9 ⟨ov,rfl,⟨hsl,hfr⟩,hb9⟩;have hHM:=HMT.out.below hb9;have hap:∀g,ov.ownBlock=some g→b9 < g:=fun g hg=>Nat.lt_of_lt_of_le hs8 (hfr g hg)
   have HAP:=Lib.hid hap;have HML:=Lib.hid (show jkk w w9 b1 b9 B4 d bv2 wv2 ov (jcm da db) 0 from⟨_,hHM,hsl⟩);obtain⟨A,n,c,rfl⟩:=jax hsl;have hn:n=(jcm da db).length:=by obtain⟨_,_,e,_⟩:=hsl;injection e
   subst hn;have HMS:=Lib.hid (show jcz d=mtEnd d (mtTo d (jcm da db) (jcm da db).length) by
    unfold jcz mtTo;rw[if_neg (by rw[HDB.out];simp),if_neg (by rw[HDN.out];simp),HDA.out,HDBB.out,List.take_of_length_le (Nat.le_refl _)])
   have HPRE:=Lib.hid (mt_pre d da db hdok);have hll:=order_len da db;have HMO:=Lib.hid (show MtOk d (mtTo d (jcm da db) (jcm da db).length) by unfold mtTo;rw[List.take_of_length_le (Nat.le_refl _)];exact mt_all d da db);clear hHM hsl hfr hap hb9 HMT;generalize jcm da db=l at *;go_wp2_with (fail);go_loopw [11,12,46,47,48,49,50,51,52,53,54,55,56,57,58,59,60,61,62,63,64,65,66,67,68,69,70,71,72,73,74,75,76,77,78,79,80,81,82,83,84,85,86,87,88,89,90,91] (fun _ _ i _ _ _ _ _ _ _ _ _ _ _ _ _ _ _ _ _ _ _ _ _ _ _ _ _ _ _ _ _ _ _ _ _ _ _ _ _ _ _ _ _ _ _ _ _ wr=>∃j:Nat,j≤l.length∧i= .int .i64 j∧jkk w wr b1 b9 B4 d bv2 wv2 (.slice A l.length c) l j) (fun _ _ i _ _ _ _ _ _ _ _ _ _ _ _ _ _ _ _ _ _ _ _ _ _ _ _ _ _ _ _ _ _ _ _ _ _ _ _ _ _ _ _ _ _ _ _ _ _=>l.length - (intOf i).toNat)
   case atStart=>exact⟨0,Nat.zero_le _,rfl,HML.out⟩
   case round=>
    obtain⟨j,hj,rfl,cv,hmt,hsl⟩:=hrel;have HMJ:=Lib.hid hmt;have HSJ:=Lib.hid hsl;by_cases hlt:j < l.length
    ·obtain⟨bb,oo,rfl,hatr,hxw⟩:=jgk hsl j hlt;have hbbr:bb < wr.heap.size:=block_lt_of_cell (hatr.cell 0 (.int .u32 l[j].size) rfl);have HBB:=Lib.hid (And.intro hbbr (HAP.out bb rfl));have hsuc:=mtTo_succ d l j hlt;have HSU:=Lib.hid hsuc;have HPJ:=Lib.hid (HPRE.out j hlt);clear hsl hsuc;generalize l[j]=x at *;have hx1:=supE.one _ hxw;have hx2:=jbx hxw;have hx3:=supE.len _ hxw;have HXW:=Lib.hid hxw;have hnx:=heap_alloc_new wr (.cells (supE.enc x).toArray 36);have hBx:=(Below.refl wr.heap.size wr).alloc (Nat.le_refl _) (.cells (supE.enc x).toArray 36);have hmx:=hmt.below hBx;have hsx:=HSJ.out.below hBx (Nat.le_refl _);have HX:=Lib.hid (And.intro hnx (And.intro hmx (And.intro hsx hBx)));clear hnx hBx hmx hsx hmt;obtain⟨vs,hvs⟩:∃vs,supE.enc x=vs:=⟨_,rfl⟩
     have HVS:=Lib.hid hvs;have hx2':(Tryz.prog.info? 36).map (·.size)=some vs.length:=by rw[←hvs];exact hx2
     rw[hvs]at hx1 hx3 HX hatr;clear hvs hx2;go_upto_region 13 with(first
      |((with_reducible refine jao ?_);refine jai rfl 36 (.tmp 48) rfl bb (oo + j * 35) rfl vs _ hatr Tryz.underlying36 rfl hx2' ?_)
      |((with_reducible refine jab ?_);refine jaa rfl 36 (.tmp 11) (.tmp 49) rfl 36 _ rfl vs rfl (by rw[hx3];rfl) hx1 hx2' ?_))
     clear hatr;generalize wr.alloc (.cells vs.toArray 36)=wa at *;have hda:=HX.out.2.1.dev;rw[show devL d bv2 wv2=[.int .u32 d.size,bv2,wv2, .bool false, .int .i64 d.fuse] by unfold devL;rw[HDN.out]]at hda;have x0:wa.cell? ⟨w.heap.size,0,none⟩=some (.int .u32 d.size):=by rw[cell_of_row _ _ _ _ _ _ hda];rfl
     have x1:wa.cell? ⟨w.heap.size,1,none⟩=some bv2:=by rw[cell_of_row _ _ _ _ _ _ hda];rfl
     have x2:wa.cell? ⟨w.heap.size,2,none⟩=some wv2:=by rw[cell_of_row _ _ _ _ _ _ hda];rfl
     have x3:wa.cell? ⟨w.heap.size,3,none⟩=some (.bool false):=by rw[cell_of_row _ _ _ _ _ _ hda];rfl
     have x4:wa.cell? ⟨w.heap.size,4,none⟩=some (.int .i64 d.fuse):=by rw[cell_of_row _ _ _ _ _ _ hda];rfl
     have x6:wa.cell? ⟨b9,6,none⟩=some cv:=(jcr HX.out.2.1.sto (ja4 HX.out.2.1.k0 HX.out.2.1.k1 HX.out.2.1.kt)).2.1.cell 1 cv rfl;have hl0:=lt_of_block hda;have hl9:=lt_of_block HX.out.2.1.sto;obtain⟨pb,hpb⟩:=HPJ.out;have HPB:=Lib.hid hpb;have hwfc:=Lib.hid (cs_wf hpb hdok);have hclen:=jki hpb.ok hdok.hi hdok.lo;have hslc:=jct (E:=celE) HX.out.2.1.own (by rw[List.length_map]) hwfc.out;have HCL:=Lib.hid (jix wa.drew cv _ (hslc.below ((Below.refl _ wa).drew) (Nat.le_refl _)) (by rw[List.length_map];omega));clear hpb hslc hda;obtain⟨⟨a1,n1,c1,e1⟩,a2,n2,c2,e2⟩:=HSH.out;subst e1;subst e2;go_region_held3 (fun x=>x.cell? ⟨w.heap.size,0,none⟩=some (.int .u32 d.size)∧x.cell? ⟨w.heap.size,1,none⟩=some (.slice a1 n1 c1)∧x.cell? ⟨w.heap.size,2,none⟩=some (.slice a2 n2 c2)∧x.cell? ⟨w.heap.size,3,none⟩=some (.bool false)∧x.cell? ⟨w.heap.size,4,none⟩=some (.int .i64 d.fuse)∧x.cell? ⟨b9,6,none⟩=some cv) (go_keep) (first
      |(go_at_call 44;refine HCL.out.mono ?_;rintro e wc ⟨rc,rfl,hoc,hbc⟩;obtain⟨ra,rn,rcc,rfl⟩:=jan hoc;have k0:=(hbc.cell (p:=⟨w.heap.size,0,none⟩) hl0).trans x0;have k1:=(hbc.cell (p:=⟨w.heap.size,1,none⟩) hl0).trans x1;have k2:=(hbc.cell (p:=⟨w.heap.size,2,none⟩) hl0).trans x2;have k3:=(hbc.cell (p:=⟨w.heap.size,3,none⟩) hl0).trans x3;have k4:=(hbc.cell (p:=⟨w.heap.size,4,none⟩) hl0).trans x4;have k6:=(hbc.cell (p:=⟨b9,6,none⟩) hl9).trans x6))
     have hbw:Below wa.heap.size wa (wc.alloc (.cells #[.int .u32 d.size, .slice a1 n1 c1, .slice a2 n2 c2, .bool false, .int .i64 d.fuse, .slice ra rn rcc] 93)):=(show Below wa.heap.size wa wc from(Below.refl _ wa).drew.trans hbc).alloc hbc.size _;have hla:LdAt wa (wc.alloc (.cells #[.int .u32 d.size, .slice a1 n1 c1, .slice a2 n2 c2, .bool false, .int .i64 d.fuse, .slice ra rn rcc] 93)) wc.heap.size d (.slice a1 n1 c1) (.slice a2 n2 c2) (.slice ra rn rcc) (mtTo d l j).cs:=by
      refine⟨?_,hbc.size,?_,hbw⟩
      ·unfold ldrRow;rw[HDN.out];exact heap_alloc_new wc _
      ·have:=hoc.alloc (.cells #[.int .u32 d.size, .slice a1 n1 c1, .slice a2 n2 c2, .bool false, .int .i64 d.fuse, .slice ra rn rcc] 93);rw[List.length_map]at this;exact this
     have HLA:=Lib.hid (And.intro hla (And.intro (HX.out.2.1.below hbw) (And.intro (HX.out.2.2.1.below hbw (Nat.le_refl _)) (And.intro ((hbw.block _ (lt_of_block HX.out.1)).trans HX.out.1) hbw))));have HLV:=Lib.hid (load_any wa wc.heap.size d (.slice a1 n1 c1) (.slice a2 n2 c2) HX.out.2.1.devo.dev hdok hbl hwl 65537);clear k0 k1 k2 k3 k4 k6 hoc hbc hbw hla x0 x1 x2 x3 x4 x6 hl0 hl9 HCL;generalize wc.alloc (.cells #[.int .u32 d.size, .slice a1 n1 c1, .slice a2 n2 c2, .bool false, .int .i64 d.fuse, .slice ra rn rcc] 93)=wl at *;generalize wc.heap.size=pl at *;clear wc;have y0:wl.cell? ⟨wr.heap.size,0,none⟩=some (.int .u32 x.size):=by
      rw[cell_of_row _ _ _ _ _ _ HLA.out.2.2.2.1,←HVS.out];rfl
     have yd:wl.cell? ⟨w.heap.size,0,none⟩=some (.int .u32 d.size):=by rw[cell_of_row _ _ _ _ _ _ HLA.out.2.1.dev];rfl
     have hatx:At wl wr.heap.size 0 vs:=fun i hi=>by
      rw[cell_of_row _ _ _ _ _ _ HLA.out.2.2.2.1,Nat.zero_add];simp[hi]
     have hvx:vs.toArray=supA x:=by rw[←HVS.out];rfl
     have HTB:=Lib.hid (fun wz=>jmn wz x hxw);by_cases hxs:x.size=d.size
     ·have hxb:(x.size !=d.size)=false:=by simp[hxs]
      have HXS:=Lib.hid hxs;rw[hxs]at y0;clear hxs;have hdd:(d.size !=d.size)=false:=by simp
      go_wp2_with (first
       |(refine jau rfl 36 (.tmp 11) rfl wr.heap.size 0 rfl vs _ hatx Tryz.underlying36 rfl hx2' ?_)
       |(go_at_call 46;refine(HTB.out _).mono ?_;rintro e wt ⟨rfl,hbt⟩))
      refine(HLV.out wt _ _ (tabOf x) true pb (HLA.out.1.below hbt) (jkj hxw) HPB.out).mono ?_;rintro e w10 ⟨rfl,cv10,hl10,hf10,hg10⟩;obtain⟨a3,n3,c3,rfl⟩:=jan hl10.2.2.1;have hb10:Below wa.heap.size wa w10:=hl10.2.2.2;have hm10:=HX.out.2.1.below hb10;have hs10:=HX.out.2.2.1.below hb10 (Nat.le_refl _);have hx10:=(hb10.block _ (lt_of_block HX.out.1)).trans HX.out.1;have H10:=Lib.hid (And.intro hl10 (And.intro hm10 (And.intro hs10 (And.intro hx10 hb10))));clear hl10 hf10 hg10 hm10 hs10 hx10 hb10 y0 yd hatx;cases hr:(loadS d 65537 true (tabOf x) (mtTo d l j).cs).1 with
      |false=>
       have HN:=Lib.hid (show jkk w w10 b1 b9 B4 d (.slice a1 n1 c1) (.slice a2 n2 c2) (.slice (some ⟨bb,oo,none⟩) l.length c) l (j + 1)from by
        refine⟨cv,?_,H10.out.2.2.1⟩;rw[HSU.out];unfold jc5;rw[if_pos (Or.inr hr)];exact H10.out.2.1)
       clear hr;go_wp2_with (fail);exact⟨⟨j + 1,by omega,by go_num,HN.out⟩,by simp[intOf];omega⟩
      |true=>
       have HRT:=Lib.hid hr;clear hr;obtain⟨cs10,hcs10⟩:∃z,(loadS d 65537 true (tabOf x) (mtTo d l j).cs).2=z:=⟨_,rfl⟩
       rw[hcs10]at H10;have HCS:=Lib.hid hcs10;clear hcs10;have hsl10:=ja4 (d:=d) (bv:= .slice a1 n1 c1) (wv:= .slice a2 n2 c2) (x:= .int .u32 d.size) (cv:=cv) (p:=(mtTo d l j).v0) (q:=(mtTo d l j).v1) H10.out.2.1.k0 H10.out.2.1.k1 H10.out.2.1.kt;have hsl11:=ja4 (d:=d) (bv:= .slice a1 n1 c1) (wv:= .slice a2 n2 c2) (x:= .int .u32 d.size) (cv:= .slice a3 n3 c3) (p:=(mtTo d l j).v0) (q:=(mtTo d l j).v1) H10.out.2.1.k0 H10.out.2.1.k1 H10.out.2.1.kt;have y5:w10.cell? ⟨pl,5,none⟩=some (.slice a3 n3 c3):=by rw[cell_of_row _ _ _ _ _ _ H10.out.1.1];rfl
       have y6:w10.cell? ⟨b9,6,none⟩=some cv:=(jcr H10.out.2.1.sto hsl10).2.1.cell 1 cv rfl;have y7:w10.frozen? ⟨b9,6,none⟩=false:=jbi H10.out.2.1.sto _;have hset:=ja2 H10.out.2.1.sto 6 (.slice a3 n3 c3);rw[sto_cvS rfl]at hset;have hgs:=jap (World.grownBy.refl w10 (some b9)) 6 (.slice a3 n3 c3);have HS11:=Lib.hid (And.intro hset hgs);clear hset hgs;go_upto_region 16 with(fail);have hm11:(w10.setCell ⟨b9,6,none⟩ (.slice a3 n3 c3)).heap[b9]? =some (.cells (stoL (devL d (.slice a1 n1 c1) (.slice a2 n2 c2)) [.int .u32 d.size, .slice a3 n3 c3] (supA (mtTo d l j).s0).toList (supA (mtTo d l j).s1).toList [.bool (mtTo d l j).v0, .bool (mtTo d l j).v1] (kidE.enc (mtTo d l j).table)).toArray 42 (0,0)):=HS11.out.1;have hbx9:wr.heap.size≠b9:=fun e=>by
        have h8:=H10.out.2.2.2.1;have h9:=H10.out.2.1.sto;rw[e,h9]at h8;injection h8 with h8;injection h8 with _ h8 _;exact absurd h8 (by decide)
       have hx11:=(HS11.out.2.block wr.heap.size (lt_of_block H10.out.2.2.2.1) (fun e=>hbx9 (by injection e))).trans H10.out.2.2.2.1;have HM11:=Lib.hid (And.intro hm11 (And.intro hx11 HS11.out.2));have hra:(w10.setCell ⟨b9,6,none⟩ (.slice a3 n3 c3)).rangeAt wr.heap.size 0 vs:=fun i u hi=>by
        rw[cell_of_row _ _ _ _ _ _ hx11,Nat.zero_add];simpa using hi
       clear hm11 hx11 y5 y6 y7 HS11;generalize w10.setCell ⟨b9,6,none⟩ (.slice a3 n3 c3)=w11 at *;have HHX:=Lib.hid hvx;clear hvx;have hslot:=fun wz=>jbo wz x hxw.2.1.1 hxw.2.1.2
       rw[←HHX.out]at hslot;have HSLOT:=Lib.hid hslot;clear hslot;have HSS:=Lib.hid (And.intro hsl11 trivial);have hrk:∀(z z':World),z.rangeAt wr.heap.size 0 vs→Below z.heap.size z z'→z'.rangeAt wr.heap.size 0 vs:=fun z z' h hb i u hi=>(hb.cell (p:=⟨wr.heap.size,0 + i,none⟩) (World.block_lt_of_cell? z _ (h i u hi))).trans (h i u hi)
       have HRK:=Lib.hid hrk;clear hrk;refine wp_region_held_drew (S:=fun z=>z.rangeAt wr.heap.size 0 vs) (by kernel_rfl) hra (fun hHeld=>?_);refine wpAnyH_take (i:=0) (v:= .agg vs.toArray) rfl (by kernel_rfl) (by kernel_rfl) (by kernel_rfl) (fun _ _ _ h=>h) (yieldsIf_load_mid (by rfl) 36 (.tmp 11) rfl wr.heap.size 0 rfl vs _ (fun z hz=>hz) Tryz.underlying36 rfl hx2') hHeld ?_;try simp only[Act.put,jy1,jy2,jy3]
       refine wpAnyH_take (i:=2) (v:= .agg vs.toArray) rfl (by kernel_rfl) (by kernel_rfl) (by kernel_rfl) (fun _ _ _ h=>h) (yieldsIf_load_mid (by rfl) 36 (.tmp 11) rfl wr.heap.size 0 rfl vs _ (fun z hz=>hz) Tryz.underlying36 rfl hx2') hHeld ?_;try simp only[Act.put,jy1,jy2,jy3]
       refine wpAnyH_take (i:=4) (v:= .agg vs.toArray) rfl (by kernel_rfl) (by kernel_rfl) (by kernel_rfl) (fun _ _ _ h=>h) (yieldsIf_load_mid (by rfl) 36 (.tmp 11) rfl wr.heap.size 0 rfl vs _ (fun z hz=>hz) Tryz.underlying36 rfl hx2') hHeld ?_;try simp only[Act.put,jy1,jy2,jy3]
       refine wpAnyH_take (i:=5) (v:= .pointer (some ⟨b9,7,none⟩)) rfl (by kernel_rfl) (by kernel_rfl) (by kernel_rfl) (fun _ _ _ h=>h) (Or.inl ⟨by rfl,fun z hz=>by go_simp⟩) hHeld ?_;try simp only[Act.put,jy1,jy2,jy3]
       refine wpAnyH_take (i:=8) (v:= .pointer (some ⟨b9,77,none⟩)) rfl (by kernel_rfl) (by kernel_rfl) (by kernel_rfl) (fun _ _ _ h=>h) (Or.inl ⟨by rfl,fun z hz=>by go_simp⟩) hHeld ?_;try simp only[Act.put,jy1,jy2,jy3]
       refine wpAnyH_ready (rs:=[1]) (by kernel_rfl) (by simp) ?_;refine AllReadyH.cons rfl (fun K hK=>?_) AllReadyH.nil;rcases(show x.gen % 2=0∨x.gen % 2=1 by omega)with hsv|hsv
       ·have HSV:=Lib.hid hsv;rw[hsv]at HSLOT;clear hsv;go_simp;refine(HSLOT.out _).mono ?_;rintro e ws1 ⟨rfl,hbs1⟩;refine hK.out _ _ (HRK.out _ _ hHeld hbs1) (fun hHeld=>?_);clear hK K;try simp only[Act.put,jy1,jy2,jy3]
        refine wpAnyH_take (i:=6) (v:= .pointer (some ⟨b9,7,none⟩)) rfl (by kernel_rfl) (by kernel_rfl) (by kernel_rfl) (fun _ _ _ h=>h) (Or.inl ⟨by rfl,fun z hz=>by go_simp⟩) hHeld ?_;try simp only[Act.put,jy1,jy2,jy3]
        refine wpAnyH_ready (rs:=[3]) (by kernel_rfl) (by simp) ?_;refine AllReadyH.cons rfl (fun K hK=>?_) AllReadyH.nil;go_simp;refine(HSLOT.out _).mono ?_;rintro e ws2 ⟨rfl,hbs2⟩;refine hK.out _ _ (HRK.out _ _ hHeld hbs2) (fun hHeld=>?_);clear hK K;try simp only[Act.put,jy1,jy2,jy3]
        have hbs:Below w11.heap.size w11 ws2:=(show Below w11.heap.size w11 ws1 from(Below.refl _ w11).drew.trans hbs1).trans (hbs2.mono hbs1.size);have hst2:=(hbs.block _ (lt_of_block HM11.out.1)).trans HM11.out.1;have hxx2:=(hbs.block _ (lt_of_block HM11.out.2.1)).trans HM11.out.2.1;have HWS:=Lib.hid (And.intro hst2 (And.intro hxx2 hbs));have hst3:=jad ws2 b9 (stoL (devL d (.slice a1 n1 c1) (.slice a2 n2 c2)) [.int .u32 d.size, .slice a3 n3 c3] vs (supA (mtTo d l j).s1).toList [.bool (mtTo d l j).v0, .bool (mtTo d l j).v1] (kidE.enc (mtTo d l j).table)).toArray _ _ hst2;have hg3:=jaq ws2 b9 (stoL (devL d (.slice a1 n1 c1) (.slice a2 n2 c2)) [.int .u32 d.size, .slice a3 n3 c3] vs (supA (mtTo d l j).s1).toList [.bool (mtTo d l j).v0, .bool (mtTo d l j).v1] (kidE.enc (mtTo d l j).table)).toArray;have hgs4:=jap (World.grownBy.refl (ws2.setRow b9 (stoL (devL d (.slice a1 n1 c1) (.slice a2 n2 c2)) [.int .u32 d.size, .slice a3 n3 c3] vs (supA (mtTo d l j).s1).toList [.bool (mtTo d l j).v0, .bool (mtTo d l j).v1] (kidE.enc (mtTo d l j).table)).toArray) (some b9)) 77 (.bool true);have hst4:=ja2 hst3 77 (.bool true);have hl4:StoLen (devL d (.slice a1 n1 c1) (.slice a2 n2 c2)) [.int .u32 d.size, .slice a3 n3 c3] vs (supA (mtTo d l j).s1).toList [.bool (mtTo d l j).v0, .bool (mtTo d l j).v1] (kidE.enc (mtTo d l j).table):=⟨rfl,rfl,hx3,HSS.out.1.b,rfl,HSS.out.1.k⟩
        rw[sto_vS hl4 0 (by decide)]at hst4;have HW4:=Lib.hid (And.intro hst3 (And.intro hg3 (And.intro hst4 hgs4)));have hc3:=(jcr hst3 hl4).2.2.2.2.1.cell 0 (.bool (mtTo d l j).v0) rfl;have hf3:=jbi hst3 77;clear hbs1 hbs2 hbs hst2 hxx2 hst3 hg3 hgs4 hst4;refine wpAnyH_ready (rs:=[7]) (by kernel_rfl) (by simp) ?_;refine AllReadyH.cons rfl (fun K hK=>?_) AllReadyH.nil;rw[if_pos (by rfl)];refine jdg 36 (.tmp 81) (.tmp 79) rfl b9 7 rfl vs rfl 42 _ HWS.out.1 (by rw[List.size_toArray,jb4 HSS.out.1,hx3];decide) hx1 hx2' ?_;have hcells:((stoL (devL d (.slice a1 n1 c1) (.slice a2 n2 c2)) [.int .u32 d.size, .slice a3 n3 c3] (supA (mtTo d l j).s0).toList (supA (mtTo d l j).s1).toList [.bool (mtTo d l j).v0, .bool (mtTo d l j).v1] (kidE.enc (mtTo d l j).table)).toArray.toList.take 7 ++ vs ++ (stoL (devL d (.slice a1 n1 c1) (.slice a2 n2 c2)) [.int .u32 d.size, .slice a3 n3 c3] (supA (mtTo d l j).s0).toList (supA (mtTo d l j).s1).toList [.bool (mtTo d l j).v0, .bool (mtTo d l j).v1] (kidE.enc (mtTo d l j).table)).toArray.toList.drop (7 + vs.length)).toArray=(stoL (devL d (.slice a1 n1 c1) (.slice a2 n2 c2)) [.int .u32 d.size, .slice a3 n3 c3] vs (supA (mtTo d l j).s1).toList [.bool (mtTo d l j).v0, .bool (mtTo d l j).v1] (kidE.enc (mtTo d l j).table)).toArray:=by
         rw[List.toList_toArray,sto_aS HSS.out.1 vs hx3]
        rw[hcells];clear hcells;have hra3:(ws2.setRow b9 (stoL (devL d (.slice a1 n1 c1) (.slice a2 n2 c2)) [.int .u32 d.size, .slice a3 n3 c3] vs (supA (mtTo d l j).s1).toList [.bool (mtTo d l j).v0, .bool (mtTo d l j).v1] (kidE.enc (mtTo d l j).table)).toArray).rangeAt wr.heap.size 0 vs:=fun i u hi=>(World.cell?_of_block (HW4.out.2.1.block wr.heap.size (lt_of_block HWS.out.2.1) (fun e=>hbx9 (by injection e)))).trans (hHeld i u hi)
        refine hK.out _ _ hra3 (fun hHeld=>?_);clear hK K;try simp only[Act.put,jy1,jy2,jy3]
        generalize ws2.setRow b9 (stoL (devL d (.slice a1 n1 c1) (.slice a2 n2 c2)) [.int .u32 d.size, .slice a3 n3 c3] vs (supA (mtTo d l j).s1).toList [.bool (mtTo d l j).v0, .bool (mtTo d l j).v1] (kidE.enc (mtTo d l j).table)).toArray=ws3 at *;refine wpAnyH_take (i:=9) (v:= .pointer (some ⟨b9,77,none⟩)) rfl (by kernel_rfl) (by kernel_rfl) (by kernel_rfl) (fun _ _ _ h=>h) (Or.inl ⟨by rfl,fun z hz=>by go_simp⟩) hHeld ?_;try simp only[Act.put,jy1,jy2,jy3]
        refine wpAnyH_ready (rs:=[10]) (by kernel_rfl) (by simp) ?_;refine AllReadyH.cons rfl (fun K hK=>?_) AllReadyH.nil;go_simp;refine hK.out _ _ (jfp hHeld hbx9) (fun hHeld=>?_);clear hK K;try simp only[Act.put,jy1,jy2,jy3]
        refine wpAnyH_done (by kernel_rfl) ?_ _;have hG:w10.grownBy (ws3.setCell ⟨b9,77,none⟩ (.bool true)) (some b9):=jag (jag (jag HM11.out.2.2 (jbd HWS.out.2.2)) HW4.out.2.1) HW4.out.2.2.2;have hxx4:=(hG.block wr.heap.size (lt_of_block H10.out.2.2.2.1) (fun e=>hbx9 (by injection e))).trans H10.out.2.2.2.1;have hvs:(supA x).toList=vs:=HVS.out;have hst4:=HW4.out.2.2.1;rw[←hvs]at hst4;clear hvs;have hmp:=fun(k:Kid) (w2:World) (hG2:w10.grownBy w2 (some b9)) hst hk=>MtAt.put (m':=⟨cs10,x,(mtTo d l j).s1,true,(mtTo d l j).v1,k⟩) (cv':= .slice a3 n3 c3) H10.out.2.1 hG2 H79.out H10.out.1.2.2.1 (Nat.le_trans HMJ.out.low.size (HX.out.2.2.2.size)) hst hxw H10.out.2.1.k1 hk
        have HMP:=Lib.hid hmp;have hmm:=hmp (mtTo d l j).table _ hG hst4 H10.out.2.1.kt;have hrow:=fun(w2:World) (hG2:w10.grownBy w2 (some b9))=>sl_keepO H10.out.2.2.1 (fun g hg hlt=>hG2.block g hlt (fun e=>by
         have h1:bb=g:=by injection hg
         have h2:g=b9:=by injection e
         have:=HBB.out.2;omega))
        have HROW:=Lib.hid hrow;have HFF:=Lib.hid (And.intro hmm (And.intro hG hxx4));have hstep:=mtStep_put (m:=mtTo d l j) HXS.out HRT.out HCS.out;rw[show slotS x=0 from HSV.out]at hstep;have HSTEP:=Lib.hid hstep;clear hmp hrow hG hxx4 hst4 hmm hstep hf3 hc3;generalize ws3.setCell ⟨b9,77,none⟩ (.bool true)=w14 at *;have yt:w14.cell? ⟨b9,80,none⟩=some (.int .u32 (mtTo d l j).table.num):=(jcr HFF.out.1.sto (ja4 HFF.out.1.k0 HFF.out.1.k1 HFF.out.1.kt)).2.2.2.2.2.cell 1 _ rfl;by_cases ht0:(mtTo d l j).table.num=0
        ·rw[ht0]at yt;have HT0:=Lib.hid ht0;clear ht0;have hatx:At w14 wr.heap.size 0 vs:=fun i hi=>by
          rw[cell_of_row _ _ _ _ _ _ HFF.out.2.2,Nat.zero_add];simp[hi]
         have HTW:=Lib.hid (jkj hxw);have hku:=kidE.len _ HTW.out;have hk1:=kidE.one _ HTW.out;have hki:=jc7 _ HTW.out;go_wp2_with (refine jai rfl 36 (.tmp 11) rfl wr.heap.size 0 rfl vs _ hatx Tryz.underlying36 rfl hx2' ?_);rw[HHX.out];refine(HTB.out _).mono ?_;rintro e wt ⟨rfl,hbt⟩;have hstt:=(hbt.block _ (lt_of_block HFF.out.1.sto)).trans HFF.out.1.sto;have hl14:=ja4 (d:=d) (bv:= .slice a1 n1 c1) (wv:= .slice a2 n2 c2) (x:= .int .u32 d.size) (cv:= .slice a3 n3 c3) (p:=true) (q:=(mtTo d l j).v1) HFF.out.1.k0 HFF.out.1.k1 HFF.out.1.kt;have hsk:=sto_kS hl14 (kidE.enc (tabOf x)) hku;have HST:=Lib.hid hstt;have hfin:=jad wt b9 (stoL (devL d (.slice a1 n1 c1) (.slice a2 n2 c2)) [.int .u32 d.size, .slice a3 n3 c3] (supA x).toList (supA (mtTo d l j).s1).toList [.bool true, .bool (mtTo d l j).v1] (kidE.enc (tabOf x))).toArray _ _ hstt;have hGf:w10.grownBy (wt.setRow b9 (stoL (devL d (.slice a1 n1 c1) (.slice a2 n2 c2)) [.int .u32 d.size, .slice a3 n3 c3] (supA x).toList (supA (mtTo d l j).s1).toList [.bool true, .bool (mtTo d l j).v1] (kidE.enc (tabOf x))).toArray) (some b9):=jag (jag HFF.out.2.1 (jbd hbt)) (jaq wt b9 _);have HN:=Lib.hid (show jkk w (wt.setRow b9 (stoL (devL d (.slice a1 n1 c1) (.slice a2 n2 c2)) [.int .u32 d.size, .slice a3 n3 c3] (supA x).toList (supA (mtTo d l j).s1).toList [.bool true, .bool (mtTo d l j).v1] (kidE.enc (tabOf x))).toArray) b1 b9 B4 d (.slice a1 n1 c1) (.slice a2 n2 c2) (.slice (some ⟨bb,oo,none⟩) l.length c) l (j + 1)from by
          refine⟨.slice a3 n3 c3,?_,HROW.out _ hGf⟩;rw[HSU.out,HSTEP.out,if_pos HT0.out];have:=HMP.out (tabOf x) _ hGf hfin HTW.out;simpa using this)
         have HKU:=Lib.hid (show 79 + (kidE.enc (tabOf x)).length≤(stoL (devL d (.slice a1 n1 c1) (.slice a2 n2 c2)) [.int .u32 d.size, .slice a3 n3 c3] (supA x).toList (supA (mtTo d l j).s1).toList [.bool true, .bool (mtTo d l j).v1] (kidE.enc (mtTo d l j).table)).toArray.size by rw[List.size_toArray,jb4 hl14,hku];decide);clear hfin hGf hbt hatx hstt;generalize hus:kidE.enc (tabOf x)=us at *;go_wp2_with ((with_reducible refine jab ?_);refine jaf rfl 40 (.tmp 90) (.tmp 89) rfl b9 79 rfl us rfl 42 _ HST.out HKU.out hk1 hki ?_;rw[List.toList_toArray,hsk]);exact⟨⟨j + 1,by omega,by go_num,HN.out⟩,by simp[intOf];omega⟩
        ·have htb:((mtTo d l j).table.num==0)=false:=by simp[ht0]
         have HN:=Lib.hid (show jkk w w14 b1 b9 B4 d (.slice a1 n1 c1) (.slice a2 n2 c2) (.slice (some ⟨bb,oo,none⟩) l.length c) l (j + 1)from by
          refine⟨.slice a3 n3 c3,?_,HROW.out _ HFF.out.2.1⟩;rw[HSU.out,HSTEP.out,if_neg ht0];have:=HFF.out.1;simpa using this)
         clear ht0;go_wp2_with (fail);exact⟨⟨j + 1,by omega,by go_num,HN.out⟩,by simp[intOf];omega⟩
       ·have HSV:=Lib.hid hsv;rw[hsv]at HSLOT;clear hsv;go_simp;refine(HSLOT.out _).mono ?_;rintro e ws1 ⟨rfl,hbs1⟩;refine hK.out _ _ (HRK.out _ _ hHeld hbs1) (fun hHeld=>?_);clear hK K;try simp only[Act.put,jy1,jy2,jy3]
        refine wpAnyH_take (i:=6) (v:= .pointer (some ⟨b9,42,none⟩)) rfl (by kernel_rfl) (by kernel_rfl) (by kernel_rfl) (fun _ _ _ h=>h) (Or.inl ⟨by rfl,fun z hz=>by go_simp⟩) hHeld ?_;try simp only[Act.put,jy1,jy2,jy3]
        refine wpAnyH_ready (rs:=[3]) (by kernel_rfl) (by simp) ?_;refine AllReadyH.cons rfl (fun K hK=>?_) AllReadyH.nil;go_simp;refine(HSLOT.out _).mono ?_;rintro e ws2 ⟨rfl,hbs2⟩;refine hK.out _ _ (HRK.out _ _ hHeld hbs2) (fun hHeld=>?_);clear hK K;try simp only[Act.put,jy1,jy2,jy3]
        have hbs:Below w11.heap.size w11 ws2:=(show Below w11.heap.size w11 ws1 from(Below.refl _ w11).drew.trans hbs1).trans (hbs2.mono hbs1.size);have hst2:=(hbs.block _ (lt_of_block HM11.out.1)).trans HM11.out.1;have hxx2:=(hbs.block _ (lt_of_block HM11.out.2.1)).trans HM11.out.2.1;have HWS:=Lib.hid (And.intro hst2 (And.intro hxx2 hbs));have hst3:=jad ws2 b9 (stoL (devL d (.slice a1 n1 c1) (.slice a2 n2 c2)) [.int .u32 d.size, .slice a3 n3 c3] (supA (mtTo d l j).s0).toList vs [.bool (mtTo d l j).v0, .bool (mtTo d l j).v1] (kidE.enc (mtTo d l j).table)).toArray _ _ hst2;have hg3:=jaq ws2 b9 (stoL (devL d (.slice a1 n1 c1) (.slice a2 n2 c2)) [.int .u32 d.size, .slice a3 n3 c3] (supA (mtTo d l j).s0).toList vs [.bool (mtTo d l j).v0, .bool (mtTo d l j).v1] (kidE.enc (mtTo d l j).table)).toArray;have hgs4:=jap (World.grownBy.refl (ws2.setRow b9 (stoL (devL d (.slice a1 n1 c1) (.slice a2 n2 c2)) [.int .u32 d.size, .slice a3 n3 c3] (supA (mtTo d l j).s0).toList vs [.bool (mtTo d l j).v0, .bool (mtTo d l j).v1] (kidE.enc (mtTo d l j).table)).toArray) (some b9)) 78 (.bool true);have hst4:=ja2 hst3 78 (.bool true);have hl4:StoLen (devL d (.slice a1 n1 c1) (.slice a2 n2 c2)) [.int .u32 d.size, .slice a3 n3 c3] (supA (mtTo d l j).s0).toList vs [.bool (mtTo d l j).v0, .bool (mtTo d l j).v1] (kidE.enc (mtTo d l j).table):=⟨rfl,rfl,HSS.out.1.a,hx3,rfl,HSS.out.1.k⟩
        rw[sto_vS hl4 1 (by decide)]at hst4;have HW4:=Lib.hid (And.intro hst3 (And.intro hg3 (And.intro hst4 hgs4)));have hc3:=(jcr hst3 hl4).2.2.2.2.1.cell 1 (.bool (mtTo d l j).v1) rfl;have hf3:=jbi hst3 78;clear hbs1 hbs2 hbs hst2 hxx2 hst3 hg3 hgs4 hst4;refine wpAnyH_ready (rs:=[7]) (by kernel_rfl) (by simp) ?_;refine AllReadyH.cons rfl (fun K hK=>?_) AllReadyH.nil;rw[if_pos (by rfl)];refine jdg 36 (.tmp 81) (.tmp 79) rfl b9 42 rfl vs rfl 42 _ HWS.out.1 (by rw[List.size_toArray,jb4 HSS.out.1,hx3];decide) hx1 hx2' ?_;have hcells:((stoL (devL d (.slice a1 n1 c1) (.slice a2 n2 c2)) [.int .u32 d.size, .slice a3 n3 c3] (supA (mtTo d l j).s0).toList (supA (mtTo d l j).s1).toList [.bool (mtTo d l j).v0, .bool (mtTo d l j).v1] (kidE.enc (mtTo d l j).table)).toArray.toList.take 42 ++ vs ++ (stoL (devL d (.slice a1 n1 c1) (.slice a2 n2 c2)) [.int .u32 d.size, .slice a3 n3 c3] (supA (mtTo d l j).s0).toList (supA (mtTo d l j).s1).toList [.bool (mtTo d l j).v0, .bool (mtTo d l j).v1] (kidE.enc (mtTo d l j).table)).toArray.toList.drop (42 + vs.length)).toArray=(stoL (devL d (.slice a1 n1 c1) (.slice a2 n2 c2)) [.int .u32 d.size, .slice a3 n3 c3] (supA (mtTo d l j).s0).toList vs [.bool (mtTo d l j).v0, .bool (mtTo d l j).v1] (kidE.enc (mtTo d l j).table)).toArray:=by
         rw[List.toList_toArray,sto_bS HSS.out.1 vs hx3]
        rw[hcells];clear hcells;have hra3:(ws2.setRow b9 (stoL (devL d (.slice a1 n1 c1) (.slice a2 n2 c2)) [.int .u32 d.size, .slice a3 n3 c3] (supA (mtTo d l j).s0).toList vs [.bool (mtTo d l j).v0, .bool (mtTo d l j).v1] (kidE.enc (mtTo d l j).table)).toArray).rangeAt wr.heap.size 0 vs:=fun i u hi=>(World.cell?_of_block (HW4.out.2.1.block wr.heap.size (lt_of_block HWS.out.2.1) (fun e=>hbx9 (by injection e)))).trans (hHeld i u hi)
        refine hK.out _ _ hra3 (fun hHeld=>?_);clear hK K;try simp only[Act.put,jy1,jy2,jy3]
        generalize ws2.setRow b9 (stoL (devL d (.slice a1 n1 c1) (.slice a2 n2 c2)) [.int .u32 d.size, .slice a3 n3 c3] (supA (mtTo d l j).s0).toList vs [.bool (mtTo d l j).v0, .bool (mtTo d l j).v1] (kidE.enc (mtTo d l j).table)).toArray=ws3 at *;refine wpAnyH_take (i:=9) (v:= .pointer (some ⟨b9,78,none⟩)) rfl (by kernel_rfl) (by kernel_rfl) (by kernel_rfl) (fun _ _ _ h=>h) (Or.inl ⟨by rfl,fun z hz=>by go_simp⟩) hHeld ?_;try simp only[Act.put,jy1,jy2,jy3]
        refine wpAnyH_ready (rs:=[10]) (by kernel_rfl) (by simp) ?_;refine AllReadyH.cons rfl (fun K hK=>?_) AllReadyH.nil;go_simp;refine hK.out _ _ (jfp hHeld hbx9) (fun hHeld=>?_);clear hK K;try simp only[Act.put,jy1,jy2,jy3]
        refine wpAnyH_done (by kernel_rfl) ?_ _;have hG:w10.grownBy (ws3.setCell ⟨b9,78,none⟩ (.bool true)) (some b9):=jag (jag (jag HM11.out.2.2 (jbd HWS.out.2.2)) HW4.out.2.1) HW4.out.2.2.2;have hxx4:=(hG.block wr.heap.size (lt_of_block H10.out.2.2.2.1) (fun e=>hbx9 (by injection e))).trans H10.out.2.2.2.1;have hvs:(supA x).toList=vs:=HVS.out;have hst4:=HW4.out.2.2.1;rw[←hvs]at hst4;clear hvs;have hmp:=fun(k:Kid) (w2:World) (hG2:w10.grownBy w2 (some b9)) hst hk=>MtAt.put (m':=⟨cs10,(mtTo d l j).s0,x,(mtTo d l j).v0,true,k⟩) (cv':= .slice a3 n3 c3) H10.out.2.1 hG2 H79.out H10.out.1.2.2.1 (Nat.le_trans HMJ.out.low.size (HX.out.2.2.2.size)) hst H10.out.2.1.k0 hxw hk
        have HMP:=Lib.hid hmp;have hmm:=hmp (mtTo d l j).table _ hG hst4 H10.out.2.1.kt;have hrow:=fun(w2:World) (hG2:w10.grownBy w2 (some b9))=>sl_keepO H10.out.2.2.1 (fun g hg hlt=>hG2.block g hlt (fun e=>by
         have h1:bb=g:=by injection hg
         have h2:g=b9:=by injection e
         have:=HBB.out.2;omega))
        have HROW:=Lib.hid hrow;have HFF:=Lib.hid (And.intro hmm (And.intro hG hxx4));have hstep:=mtStep_put (m:=mtTo d l j) HXS.out HRT.out HCS.out;rw[show slotS x=1 from HSV.out]at hstep;have HSTEP:=Lib.hid hstep;clear hmp hrow hG hxx4 hst4 hmm hstep hf3 hc3;generalize ws3.setCell ⟨b9,78,none⟩ (.bool true)=w14 at *;have yt:w14.cell? ⟨b9,80,none⟩=some (.int .u32 (mtTo d l j).table.num):=(jcr HFF.out.1.sto (ja4 HFF.out.1.k0 HFF.out.1.k1 HFF.out.1.kt)).2.2.2.2.2.cell 1 _ rfl;by_cases ht0:(mtTo d l j).table.num=0
        ·rw[ht0]at yt;have HT0:=Lib.hid ht0;clear ht0;have hatx:At w14 wr.heap.size 0 vs:=fun i hi=>by
          rw[cell_of_row _ _ _ _ _ _ HFF.out.2.2,Nat.zero_add];simp[hi]
         have HTW:=Lib.hid (jkj hxw);have hku:=kidE.len _ HTW.out;have hk1:=kidE.one _ HTW.out;have hki:=jc7 _ HTW.out;go_wp2_with (refine jai rfl 36 (.tmp 11) rfl wr.heap.size 0 rfl vs _ hatx Tryz.underlying36 rfl hx2' ?_);rw[HHX.out];refine(HTB.out _).mono ?_;rintro e wt ⟨rfl,hbt⟩;have hstt:=(hbt.block _ (lt_of_block HFF.out.1.sto)).trans HFF.out.1.sto;have hl14:=ja4 (d:=d) (bv:= .slice a1 n1 c1) (wv:= .slice a2 n2 c2) (x:= .int .u32 d.size) (cv:= .slice a3 n3 c3) (p:=(mtTo d l j).v0) (q:=true) HFF.out.1.k0 HFF.out.1.k1 HFF.out.1.kt;have hsk:=sto_kS hl14 (kidE.enc (tabOf x)) hku;have HST:=Lib.hid hstt;have hfin:=jad wt b9 (stoL (devL d (.slice a1 n1 c1) (.slice a2 n2 c2)) [.int .u32 d.size, .slice a3 n3 c3] (supA (mtTo d l j).s0).toList (supA x).toList [.bool (mtTo d l j).v0, .bool true] (kidE.enc (tabOf x))).toArray _ _ hstt;have hGf:w10.grownBy (wt.setRow b9 (stoL (devL d (.slice a1 n1 c1) (.slice a2 n2 c2)) [.int .u32 d.size, .slice a3 n3 c3] (supA (mtTo d l j).s0).toList (supA x).toList [.bool (mtTo d l j).v0, .bool true] (kidE.enc (tabOf x))).toArray) (some b9):=jag (jag HFF.out.2.1 (jbd hbt)) (jaq wt b9 _);have HN:=Lib.hid (show jkk w (wt.setRow b9 (stoL (devL d (.slice a1 n1 c1) (.slice a2 n2 c2)) [.int .u32 d.size, .slice a3 n3 c3] (supA (mtTo d l j).s0).toList (supA x).toList [.bool (mtTo d l j).v0, .bool true] (kidE.enc (tabOf x))).toArray) b1 b9 B4 d (.slice a1 n1 c1) (.slice a2 n2 c2) (.slice (some ⟨bb,oo,none⟩) l.length c) l (j + 1)from by
          refine⟨.slice a3 n3 c3,?_,HROW.out _ hGf⟩;rw[HSU.out,HSTEP.out,if_pos HT0.out];have:=HMP.out (tabOf x) _ hGf hfin HTW.out;simpa using this)
         have HKU:=Lib.hid (show 79 + (kidE.enc (tabOf x)).length≤(stoL (devL d (.slice a1 n1 c1) (.slice a2 n2 c2)) [.int .u32 d.size, .slice a3 n3 c3] (supA (mtTo d l j).s0).toList (supA x).toList [.bool (mtTo d l j).v0, .bool true] (kidE.enc (mtTo d l j).table)).toArray.size by rw[List.size_toArray,jb4 hl14,hku];decide);clear hfin hGf hbt hatx hstt;generalize hus:kidE.enc (tabOf x)=us at *;go_wp2_with ((with_reducible refine jab ?_);refine jaf rfl 40 (.tmp 90) (.tmp 89) rfl b9 79 rfl us rfl 42 _ HST.out HKU.out hk1 hki ?_;rw[List.toList_toArray,hsk]);exact⟨⟨j + 1,by omega,by go_num,HN.out⟩,by simp[intOf];omega⟩
        ·have htb:((mtTo d l j).table.num==0)=false:=by simp[ht0]
         have HN:=Lib.hid (show jkk w w14 b1 b9 B4 d (.slice a1 n1 c1) (.slice a2 n2 c2) (.slice (some ⟨bb,oo,none⟩) l.length c) l (j + 1)from by
          refine⟨.slice a3 n3 c3,?_,HROW.out _ HFF.out.2.1⟩;rw[HSU.out,HSTEP.out,if_neg ht0];have:=HFF.out.1;simpa using this)
         clear ht0;go_wp2_with (fail);exact⟨⟨j + 1,by omega,by go_num,HN.out⟩,by simp[intOf];omega⟩
     ·have hxb:(x.size !=d.size)=true:=by simp[hxs]
      have HN:=Lib.hid (show jkk w wl b1 b9 B4 d (.slice a1 n1 c1) (.slice a2 n2 c2) (.slice (some ⟨bb,oo,none⟩) l.length c) l (j + 1)from by
       refine⟨cv,?_,HLA.out.2.2.1⟩;rw[HSU.out];unfold jc5;rw[if_pos (Or.inl hxs)];exact HLA.out.2.1)
      clear hxs;go_wp2_with (fail);exact⟨⟨j + 1,by omega,by go_num,HN.out⟩,by simp[intOf];omega⟩
    ·obtain rfl:j=l.length:=by omega
     obtain⟨a3,n3,c3,e3⟩:=jan hmt.own;subst e3;have HMS2:=HMS;generalize mtTo d l l.length=m at *;have hlm:=ja4 (d:=d) (bv:=bv2) (wv:=wv2) (x:= .int .u32 d.size) (cv:= .slice a3 n3 c3) (p:=m.v0) (q:=m.v1) hmt.k0 hmt.k1 hmt.kt;have y6:wr.cell? ⟨b9,6,none⟩=some (.slice a3 n3 c3):=(jcr hmt.sto hlm).2.1.cell 1 _ rfl;have yt:wr.cell? ⟨b9,80,none⟩=some (.int .u32 m.table.num):=(jcr hmt.sto hlm).2.2.2.2.2.cell 1 _ rfl;have hmw:=mt_wf HMO.out hdok;have hslc:=jct (E:=celE) hmt.own (by rw[List.length_map]) hmw.1;have hnum:(m.cs.map celOf).map (·.num)=jaj m.cs:=by rw[List.map_map];rfl
     have hpl:=jhe wr _ (m.cs.map celOf) m.table.num hslc (by rw[hnum];exact jc3 HMO.out.ok.ris) (by rw[List.length_map];omega);rw[hnum]at hpl;have HPL:=Lib.hid hpl;have HMW:=Lib.hid hmw;clear hmt hsl hslc hpl hnum hmw;go_wp2_with (fail);refine HPL.out.mono ?_;rintro e wp ⟨rfl,hbp⟩;have hmp:=HMJ.out.below hbp;have HMP:=Lib.hid hmp;obtain⟨i,hi⟩:∃i,ja5 (jaj m.cs) m.table.num=i:=⟨_,rfl⟩
     have HI:=Lib.hid hi;rw[hi];clear hi hbp hmp y6 yt;cases hh:jba (jaj m.cs) m.table.num with
     |false=>
      have HM:=Lib.hid (show jcz d=({noSto with dev:=d},9) by rw[HMS.out];unfold mtEnd;rw[if_pos hh]);have hda:=HMP.out.dev;rw[show devL d bv2 wv2=[.int .u32 d.size,bv2,wv2, .bool false, .int .i64 d.fuse] by unfold devL;rw[HDN.out]]at hda;have x0:wp.cell? ⟨w.heap.size,0,none⟩=some (.int .u32 d.size):=by rw[cell_of_row _ _ _ _ _ _ hda];rfl
      have x1:wp.cell? ⟨w.heap.size,1,none⟩=some bv2:=by rw[cell_of_row _ _ _ _ _ _ hda];rfl
      have x2:wp.cell? ⟨w.heap.size,2,none⟩=some wv2:=by rw[cell_of_row _ _ _ _ _ _ hda];rfl
      have x3:wp.cell? ⟨w.heap.size,3,none⟩=some (.bool false):=by rw[cell_of_row _ _ _ _ _ _ hda];rfl
      have x4:wp.cell? ⟨w.heap.size,4,none⟩=some (.int .i64 d.fuse):=by rw[cell_of_row _ _ _ _ _ _ hda];rfl
      clear hda hh;go_wp2_with (first
       |((with_reducible refine jar 42 ?_);go_loud (refine jah rfl 42 _ rfl [(0, .agg #[.int .u32 d.size,bv2,wv2, .bool false, .int .i64 d.fuse])] rfl _ (jj0 _ _ _ _ _) ?_))
       |((with_reducible refine jam 42 ?_);refine ja9 rfl 42 _ _ rfl b1 rfl (stoL [.int .u32 d.size,bv2,wv2, .bool false, .int .i64 d.fuse] zHp zSup zSup zV zKid) rfl 42 zSto.toArray HMP.out.res rfl (stoD_one HONE2.out.1 HONE2.out.2) ja6 ?_))
      have hfd:=ji4 HMP.out.low b1 (by have:=HB1.out;omega) (stoL [.int .u32 d.size,bv2,wv2, .bool false, .int .i64 d.fuse] zHp zSup zSup zV zKid).toArray _ _ HMP.out.res;refine bodyPost_ret (jb7 rfl _ b1 (stoL [.int .u32 d.size,bv2,wv2, .bool false, .int .i64 d.fuse] zHp zSup zSup zV zKid) rfl (0,0) _ rfl hfd.1) rfl ⟨.agg (stoL [.int .u32 d.size,bv2,wv2, .bool false, .int .i64 d.fuse] zHp zSup zSup zV zKid).toArray,?_,?_,hfd.2⟩
      ·rw[HM.out];rfl
      ·rw[HM.out];have hdv:=(jb1 HMP.out.devo (jaq wp b1 (stoL [.int .u32 d.size,bv2,wv2, .bool false, .int .i64 d.fuse] zHp zSup zSup zV zKid).toArray) HMP.out.res (by decide)).dev;refine⟨bv2,wv2, .slice none 0 0,?_,hdv,⟨_,rfl,Sl.nil _,show u32Ok 0 by unfold u32Ok;decide⟩,jcb,jcb,jg6⟩;show _=Value.agg (stoL (devL d bv2 wv2) _ _ _ _ _).toArray
       unfold devL;rw[HDN.out];rfl
     |true=>
      have HM:=Lib.hid (show jcz d=(⟨d,⟨d.size,(m.cs.map (rUp m.table.num)).map celOf⟩,m.s0,m.s1,m.v0,m.v1,m.table⟩,0) by rw[HMS.out];unfold mtEnd;rw[if_neg (by rw[hh];simp)]);obtain⟨c9,hcm,hil,hgc,hset⟩:=refs_row HMO.out.ok.ris hh;rw[HI.out]at hil hgc hset;have hrc:=HMW.out.2.1 c9 hcm;have hrp:=HMO.out.ok.pos c9 hcm;obtain⟨ho1,ho2⟩:=HMP.out.own;rcases ho2 with⟨_,h0⟩|⟨g,cap,cur,e3,hgB,hgb,hnc,hcm2,hcsz,htk⟩
      ·omega
      ·injection e3 with e4 e5 e6;subst e4;subst e5;subst e6;have hlm:=ja4 (d:=d) (bv:=bv2) (wv:=wv2) (x:= .int .u32 d.size) (cv:= .slice (some ⟨g,0,none⟩) m.cs.length c3) (p:=m.v0) (q:=m.v1) HMP.out.k0 HMP.out.k1 HMP.out.kt;have y6:wp.cell? ⟨b9,6,none⟩=some (.slice (some ⟨g,0,none⟩) m.cs.length c3):=(jcr HMP.out.sto hlm).2.1.cell 1 _ rfl;have c6:wp.cell? ⟨g,i * 3 + 2,none⟩=some (.int .i64 c9.refs):=by
        rw[cell_of_row _ _ _ _ _ _ hgb,←hgc,←htk,List.getElem?_take,if_pos (by omega),Array.getElem?_toList]
       have c7:wp.frozen? ⟨g,i * 3 + 2,none⟩=false:=jbi hgb _;have hwr:IntKind.i64.wrap (c9.refs + 1)=c9.refs + 1:=by rw[IntKind.wrap_i64];omega
       have hst:=HMP.out.own.stored (i * 3 + 2) (.int .i64 (c9.refs + 1));rw[hset]at hst;have hg9:g≠b9:=fun e=>by
        have h9:=HMP.out.sto;rw[←e,hgb]at h9;injection h9 with h9;injection h9 with _ h9 _;exact absurd h9 (by decide)
       have hgb1:g≠b1:=fun e=>by
        have h9:=HMP.out.res;rw[←e,hgb]at h9;injection h9 with h9;injection h9 with _ h9 _;exact absurd h9 (by decide)
       have hi2:(i:Int) < m.cs.length:=by omega
       have hi1:(0:Int)≤i:=by omega
       have hstz:=(hst.2.block b9 (lt_of_block HMP.out.sto) (fun e=>hg9 (by injection e with e;exact e.symm))).trans HMP.out.sto;have hrez:=(hst.2.block b1 (lt_of_block HMP.out.res) (fun e=>hgb1 (by injection e with e;exact e.symm))).trans HMP.out.res;have hdvz:=jb1 HMP.out.devo hst.2 hgb (by decide);have hBz:=HMP.out.low.grown hst.2 HMP.out.low.size (fun k hk=>by injection hk with hk;omega);have HZ:=Lib.hid (And.intro hst (And.intro hstz (And.intro hrez (And.intro hdvz (And.intro hBz hwr)))));have h1s:=hlm;have hone:∀u∈stoL (devL d bv2 wv2) [.int .u32 d.size, .slice (some ⟨g,0,none⟩) m.cs.length c3] (supA m.s0).toList (supA m.s1).toList [.bool m.v0, .bool m.v1] (kidE.enc m.table),u.oneCell'=true:=by
        intro u hu;unfold stoL devL at hu;rcases List.mem_append.1 hu with hu|hu
        ·simp at hu;rcases hu with rfl|rfl|rfl|rfl|rfl <;>first|rfl|exact HONE2.out.1|exact HONE2.out.2
        ·rcases List.mem_append.1 hu with hu|hu
         ·simp at hu;rcases hu with rfl|rfl <;>rfl
         ·rcases List.mem_append.1 hu with hu|hu
          ·exact jbt _ u hu
          ·rcases List.mem_append.1 hu with hu|hu
           ·exact jbt _ u hu
           ·rcases List.mem_append.1 hu with hu|hu
            ·simp at hu;rcases hu with rfl|rfl <;>rfl
            ·exact kidE.one _ HMP.out.kt u hu
       have hlen:=jb4 hlm;clear hcm hgc hset ho1 hgb hnc hcm2 hcsz htk hrp hst hg9 hgb1 hstz hrez hdvz hBz h1s hh;generalize c9.refs=rf at *;generalize hST:stoL (devL d bv2 wv2) [.int .u32 d.size, .slice (some ⟨g,0,none⟩) m.cs.length c3] (supA m.s0).toList (supA m.s1).toList [.bool m.v0, .bool m.v1] (kidE.enc m.table)=st at *;have HST:=Lib.hid hST;clear hST;have hinfo:(Tryz.prog.info? 42).map (·.size)=some st.toArray.size:=by rw[List.size_toArray,hlen];exact ja6
       have hinfo2:(Tryz.prog.info? 42).map (·.size)=some st.length:=by rw[hlen];exact ja6
       go_wp2_with (first
        |(refine wpList_load_row rfl 42 _ rfl b9 rfl 42 _ (0,0) _ HZ.out.2.1 Tryz.underlying42 rfl hinfo ?_)
        |((with_reducible refine jam 42 ?_);refine ja9 rfl 42 _ _ rfl b1 rfl st rfl 42 zSto.toArray HZ.out.2.2.1 (by rw[List.size_toArray,hlen];rfl) hone hinfo2 ?_))
       have hfd:=ji4 HZ.out.2.2.2.2.1 b1 (by have:=HB1.out;omega) st.toArray _ _ HZ.out.2.2.1;refine bodyPost_ret (jb7 rfl _ b1 st hlen (0,0) _ rfl hfd.1) rfl ⟨.agg st.toArray,?_,?_,hfd.2⟩
       ·rw[HM.out];rfl
       ·rw[HM.out];have hgz:=jaq (wp.setCell ⟨g,i * 3 + 2,none⟩ (.int .i64 (rf + 1))) b1 st.toArray;have hdv:=(jb1 HZ.out.2.2.2.1 hgz HZ.out.2.2.1 (by decide)).dev;have hsl2:=jct (E:=celE) (jat HZ.out.1.1 hgz HZ.out.2.2.1 (by decide)) (by rw[List.length_map,List.length_map]) (mt_up_wf HMW.out.1 HMW.out.2.1);refine⟨bv2,wv2, .slice (some ⟨g,0,none⟩) m.cs.length c3,by rw[←HST.out],hdv,⟨_,rfl,hsl2,?_⟩,HMP.out.k0,HMP.out.k1,HMP.out.kt⟩;exact⟨by show 0≤d.size;have:=hdok.lo;omega,by show d.size≤4294967295;have:=hdok.hi;omega⟩
end Go.Proofs.YtpaohkkhejpgjaaGreatDoor
