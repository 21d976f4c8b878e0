/- Texts of the proof: Num Tk Tk2 Tk3 Tk5 V0. -/
import Derived.Test.YtpaohkkhejpgjaaGreatDoorM3
import Derived.Test.YtpaohkkhejpgjaaGreatDoorM5
import Derived.Lib.BufferWrite
import Derived.Deep.RegionHeld3
import Derived.Deep.AppendLies
import Derived.Test.YtpaohkkhejpgjaaGreatDoorM1
set_option linter.all false
set_option maxRecDepth 100000
set_option maxHeartbeats 8000000
namespace Go.Proofs.YtpaohkkhejpgjaaGreatDoor
open Go Go.RowKit
theorem jln(n b:Int)(h0:0≤n)(h1:n < 72057594037927936)(b0:0≤b)(b1:b < 256):jku n b=n * 256 + b:=by
 unfold jku bits;have e1:IntKind.u64.wrap (n * 256)=n * 256:=by rw[IntKind.wrap_u64];omega
 have e2:IntKind.u64.wrap b=b:=by rw[IntKind.wrap_u64];omega
 rw[e1,e2];obtain⟨m,rfl⟩:=Int.eq_ofNat_of_zero_le h0;obtain⟨c,rfl⟩:=Int.eq_ofNat_of_zero_le b0;have k:(BitVec.ofInt 64 ((m:Int) * 256)|||BitVec.ofInt 64 (c:Int)).toNat=m * 256 + c:=by
  rw[BitVec.toNat_or];have t1:(BitVec.ofInt 64 ((m:Int) * 256)).toNat=m * 256:=by
   rw[BitVec.toNat_ofInt];omega
  have t2:(BitVec.ofInt 64 (c:Int)).toNat=c:=by
   rw[BitVec.toNat_ofInt];omega
  rw[t1,t2];have:=Nat.shiftLeft_add_eq_or_of_lt (i:=8) (b:=c) (by omega) m;rw[Nat.shiftLeft_eq,show(2:Nat) ^ 8=256 from rfl]at this;omega
 show IntKind.u64.wrap ((BitVec.ofInt 64 ((m:Int) * 256)|||BitVec.ofInt 64 (c:Int)).toNat:Int)=_
 rw[k,IntKind.wrap_u64];have e:((m * 256 + c:Nat):Int)=(m:Int) * 256 + c:=by rw[Int.natCast_add,Int.natCast_mul];rfl
 rw[e];omega
theorem pow256:∀k:Nat,k≤7→(256:Int) ^ k≤72057594037927936
 |0,_=>by decide
 |1,_=>by decide
 |2,_=>by decide
 |3,_=>by decide
 |4,_=>by decide
 |5,_=>by decide
 |6,_=>by decide
 |7,_=>by decide
 |k + 8,h=>by omega
theorem jfm:∀(k:Nat) (l:List UInt8),l.length=k→k≤8→0≤jeq l∧jeq l < 256 ^ k
 |0,l,h,_=>by
  have:l=[]:=List.length_eq_zero_iff.1 h;subst this;exact⟨by decide,by decide⟩
 |k + 1,l,h,hk=>by
  rcases List.eq_nil_or_concat l with rfl|⟨r,b,rfl⟩
  ·simp at h
  ·rw[List.concat_eq_append]at h ⊢;have hr:r.length=k:=by simpa using h
   obtain⟨i0,i1⟩:=jfm k r hr (by omega);have hb:(b.toNat:Int) < 256:=by have:=b.toNat_lt;omega
   have hp:=pow256 k (by omega);rw[jhy,jln _ _ i0 (by omega) (by omega) hb];have hs:(256:Int) ^ (k + 1)=256 ^ k * 256:=Int.pow_succ ..;constructor <;>omega
theorem takeOf_num(k:Nat)(l:List UInt8)(b:UInt8)(h:l.length < 8):jeq (l ++ [b])=jeq l * 256 + b.toNat:=by
 obtain⟨i0,i1⟩:=jfm l.length l rfl (by omega);have hb:(b.toNat:Int) < 256:=by have:=b.toNat_lt;omega
 have hp:=pow256 l.length (by omega);rw[jhy,jln _ _ i0 (by omega) (by omega) hb]
structure Tk where
 left:ByteArray
 bad:Bool
def TkAt(w:World)(g:Nat)(t:Tk):Prop:=w.heap[g]? =some (.cells #[.string t.left, .bool t.bad] 262 (0,0))
def someF(t:Tk)(n:Nat):ByteArray×Tk:=
 if t.bad||decide (t.left.size < n)then(ByteArray.empty,⟨t.left,true⟩)else(t.left.extract 0 n,⟨t.left.extract n t.left.size,false⟩)
theorem jiq(w:World)(g:Nat)(t:Tk)(n:Nat)(hg:TkAt w g t)(hs:t.left.size≤9223372036854775807):
 Calls Tryz.prog 217 #[.pointer (some ⟨g,0,none⟩), .int .i64 n] w fun e w'=>e= .returned (.string (someF t n).1)∧w.grownBy w' (some g)∧TkAt w' g (someF t n).2:=by
 obtain⟨s,bad⟩:=t;unfold TkAt at hg;have c0:w.cell? ⟨g,0,none⟩=some (.string s):=by rw[cell_of_row w g 0 _ _ _ hg];rfl
 have c1:w.cell? ⟨g,1,none⟩=some (.bool bad):=by rw[cell_of_row w g 1 _ _ _ hg];rfl
 have f0:w.frozen? ⟨g,0,none⟩=false:=frozen_of_row w g 0 _ _ hg;have f1:w.frozen? ⟨g,1,none⟩=false:=frozen_of_row w g 1 _ _ hg;have HG:=Lib.hid hg;clear hg;cases bad with
 |true=>
  go_enter Tryz.func217,Tryz.ntmps217;go_wp2;go_ret;exact⟨rfl,jap (World.grownBy.refl w (some g)) 1 _,ja2 HG.out 1 _⟩
 |false=>
  by_cases hlt:s.size < n
  ·have HD:=Lib.hid (show decide (s.size < n)=true from decide_eq_true hlt);have hd:decide ((s.size:Int) < (n:Int))=true:=decide_eq_true (by omega);go_enter Tryz.func217,Tryz.ntmps217;go_wp2;go_ret;refine⟨?_,jap (World.grownBy.refl w (some g)) 1 _,?_⟩
   ·unfold someF;rw[HD.out];rfl
   ·unfold someF TkAt;rw[HD.out];exact ja2 HG.out 1 _
  ·have HD:=Lib.hid (show decide (s.size < n)=false from decide_eq_false hlt);have hd:decide ((s.size:Int) < (n:Int))=false:=decide_eq_false (by omega);go_enter Tryz.func217,Tryz.ntmps217;go_wp2;go_ret;refine⟨?_,jap (jap (World.grownBy.refl w (some g)) 1 _) 0 _,?_⟩
   ·unfold someF;rw[HD.out];rfl
   ·unfold someF TkAt;rw[HD.out];exact ja2 (ja2 HG.out 1 _) 0 _
theorem jir(t:Tk)(n:Nat):(someF t n).2.left.size≤t.left.size:=by
 unfold someF;split <;>simp
def numT(t:Tk)(k:Nat):Int×Tk:=(if(someF t k).1.size < k then 0 else jeq ((someF t k).1.data.toList.take k),(someF t k).2)
theorem jch(w:World)(g:Nat)(t:Tk)(k:Nat)(hk:1≤k)(hk8:k≤8)(hg:TkAt w g t)(hs:t.left.size≤9223372036854775807):
 Calls Tryz.prog 216 #[.pointer (some ⟨g,0,none⟩), .int .i64 k] w fun e w'=>e= .returned (.int .u64 (numT t k).1)∧w.grownBy w' (some g)∧TkAt w' g (numT t k).2:=by
 have hsz:(someF t k).1.size≤9223372036854775807:=by
  unfold someF;split
  ·simp
  ·simp;omega
 by_cases hlt:(someF t k).1.size < k
 ·have HN:=Lib.hid (show(numT t k).1=0 by simp[numT,hlt]);go_enter Tryz.func216,Tryz.ntmps216;go_wp2_with (fail);go_at_call 217;refine(jiq w g t k hg hs).mono ?_;rintro e w1 ⟨rfl,hg1,ht1⟩;go_wp2_with (fail);go_at_call 251;refine(jkp w1 _ k hk hk8 hlt).mono ?_;rintro e _ ⟨rfl,rfl⟩;go_wp2;go_ret;exact⟨by rw[HN.out];rfl,hg1,ht1⟩
 ·have HN:=Lib.hid (show(numT t k).1=jeq ((someF t k).1.data.toList.take k) by simp[numT,hlt]);go_enter Tryz.func216,Tryz.ntmps216;go_wp2_with (fail);go_at_call 217;refine(jiq w g t k hg hs).mono ?_;rintro e w1 ⟨rfl,hg1,ht1⟩;go_wp2_with (fail);go_at_call 251;refine(jhn w1 _ k hsz hk hk8 (by omega)).mono ?_;rintro e _ ⟨rfl,q,rfl⟩;go_wp2;go_ret;refine⟨by rw[HN.out];rfl,⟨hg1.os,hg1.tape,hg1.output,hg1.size,hg1.block⟩,ht1⟩
def textT(t:Tk):ByteArray×Tk:=someF (numT t 1).2 (numT t 1).1.toNat
theorem takeOf_one(b:List UInt8):0≤jeq (b.take 1)∧jeq (b.take 1)≤255:=by
 by_cases h:b.length=0
 ·have:b=[]:=List.length_eq_zero_iff.1 h;subst this;exact⟨by decide,by decide⟩
 ·obtain⟨i0,i1⟩:=jfm 1 (b.take 1) (by simp;omega) (by omega);exact⟨i0,by omega⟩
theorem jkv(t:Tk):0≤(numT t 1).1∧(numT t 1).1≤255:=by
 unfold numT;split
 ·exact⟨by omega,by omega⟩
 ·exact takeOf_one _
theorem jfw(w:World)(g:Nat)(t:Tk)(hg:TkAt w g t)(hs:t.left.size≤9223372036854775807):
 Calls Tryz.prog 221 #[.pointer (some ⟨g,0,none⟩)] w fun e w'=>e= .returned (.string (textT t).1)∧w.grownBy w' (some g)∧TkAt w' g (textT t).2:=by
 obtain⟨h0,h1⟩:=jkv t;have hle:(numT t 1).2.left.size≤9223372036854775807:=Nat.le_trans (jir t 1) hs;obtain⟨m,hm⟩:∃m:Nat,(numT t 1).1=(m:Int):=⟨(numT t 1).1.toNat,by omega⟩
 have HM:=Lib.hid hm;have hm255:m≤255:=by omega
 clear h0 h1;go_enter Tryz.func221,Tryz.ntmps221;go_wp2_with (fail);go_at_call 216;refine(jch w g t 1 (by omega) (by omega) hg hs).mono ?_;rintro e w1 ⟨rfl,hg1,ht1⟩;rw[hm];clear hm;go_wp2_with (fail);go_at_call 217;refine(jiq w1 g (numT t 1).2 m ht1 hle).mono ?_;rintro e w2 ⟨rfl,hg2,ht2⟩;go_wp2;go_ret;have e1:textT t=someF (numT t 1).2 m:=by unfold textT;rw[HM.out];rfl
 exact⟨by rw[e1];rfl,jag hg1 hg2,by rw[e1];exact ht2⟩
def jfx(s:ByteArray):List Int:=s.data.toList.map (fun b=>(b.toNat:Int))
def hashT(t:Tk):List Int×Tk:=(if(someF t 32).1.size=32 then jfx (someF t 32).1 else jbm,(someF t 32).2)
theorem jkd(s:ByteArray):Lib.byteCells s.data.toList=hashV (jfx s):=by
 unfold Lib.byteCells hashV jfx;rw[List.map_map];rfl
theorem someF_size(t:Tk)(n:Nat):(someF t n).1.size=n∨(someF t n).1.size=0:=by
 unfold someF;split
 ·right;rfl
 ·rename_i h;simp only[Bool.or_eq_true,decide_eq_true_eq,not_or]at h;left;simp;omega
theorem size1u8:(Tryz.prog.info? 5).map (·.size)=some 1:=by kernel_rfl
theorem copy_hash{w:World}(g:Nat)(s:ByteArray)(t:TypeId)(hg:w.heap[g]? =some (.cells (hashV jbm).toArray t (0,0)))(hs:s.size=32∨s.size=0):
 (Builtin.copy_ #[167,9] 3 #[.slice (some ⟨g,0,none⟩) 32 32, .string s]).run Tryz.prog w= .ok (goInt s.size) (w.setRow g (hashV (if s.size=32 then jfx s else jbm)).toArray):=by
 have hrun:=Lib.run_copy_row_string w 167 9 3 5 g 0 32 32 s _ t Tryz.underlying167 size1u8 hg (by omega) (by simp[hashV,jbm];omega);have e:((hashV jbm).toArray.toList.take 0 ++ Lib.byteCells s.data.toList ++ (hashV jbm).toArray.toList.drop (0 + s.size)).toArray=(hashV (if s.size=32 then jfx s else jbm)).toArray:=by
  rcases hs with h|h
  ·rw[if_pos h,h,jkd];simp[hashV,jbm]
  ·have h32:¬s.size=32:=by omega
   have hnil:s.data.toList=[]:=List.length_eq_zero_iff.1 (by simpa using h);rw[if_neg h32,h,hnil];simp[Lib.byteCells]
 rw[e]at hrun;exact hrun
theorem jad(w:World)(g:Nat)(cs cur:Array Value)(t:TypeId)(h:w.heap[g]? =some (.cells cur t (0,0))):(w.setRow g cs).heap[g]? =some (.cells cs t (0,0)):=by
 unfold World.setRow;simp[Array.getElem?_modify,h]
theorem jac(w:World)(g k:Nat)(cs:Array Value)(h:k≠g):(w.setRow g cs).heap[k]? =w.heap[k]? :=by
 unfold World.setRow;simp only[Array.getElem?_modify];rw[if_neg (fun e=>h e.symm)]
theorem hash32(l:List Int)(h:l.length=32):(Tryz.prog.info? 34).map (·.size)=some (hashV l).toArray.size:=by
 rw[jje];simp[hashV,h]
theorem jlz(t:Tk):(hashT t).1.length=32:=by
 unfold hashT;split
 ·rename_i h;simpa[jfx]using h
 ·rfl
theorem tkHash_any(w:World)(g:Nat)(t:Tk)(hg:TkAt w g t)(hs:t.left.size≤9223372036854775807):
 Calls Tryz.prog 222 #[.pointer (some ⟨g,0,none⟩)] w fun e w'=>e= .returned (.agg (hashV (hashT t).1).toArray)∧w.grownBy w' (some g)∧TkAt w' g (hashT t).2:=by
 have hlt:=lt_of_block hg;have hA:TkAt (w.alloc (.cells (hashV jbm).toArray 34)) g t:=(Lib.alloc_old w _ g hlt).trans hg;have HN:(w.alloc (.cells (hashV jbm).toArray 34)).heap[w.heap.size]? =some (.cells (hashV jbm).toArray 34 (0,0)):=heap_alloc_new _ _;have hgr:w.grownBy (w.alloc (.cells (hashV jbm).toArray 34)) (some g):=⟨rfl,rfl,rfl,by simp,fun k hk _=>Lib.alloc_old w _ k hk⟩
 have hsz:=someF_size t 32;have HT:=Lib.hid (And.intro hg (And.intro hA (And.intro HN (And.intro hgr hsz))));clear hg hA HN hgr hsz;have hzv:(hashV jbm).toArray= #[.int .u8 0, .int .u8 0, .int .u8 0, .int .u8 0, .int .u8 0, .int .u8 0, .int .u8 0, .int .u8 0, .int .u8 0, .int .u8 0, .int .u8 0, .int .u8 0, .int .u8 0, .int .u8 0, .int .u8 0, .int .u8 0, .int .u8 0, .int .u8 0, .int .u8 0, .int .u8 0, .int .u8 0, .int .u8 0, .int .u8 0, .int .u8 0, .int .u8 0, .int .u8 0, .int .u8 0, .int .u8 0, .int .u8 0, .int .u8 0, .int .u8 0, .int .u8 0]:=rfl;obtain⟨wz,hwz⟩:∃wz,wz=w.alloc (.cells (hashV jbm).toArray 34):=⟨_,rfl⟩
 go_enter Tryz.func222,Tryz.ntmps222;go_wp2;rw[←hzv,←hwz];rw[←hwz]at HT;have HWZ:=Lib.hid hwz;have HZV:=Lib.hid hzv;clear hwz hzv;go_region_held3 (fun _=>True) (first|trivial) (first|(go_at_call 217;refine(jiq _ g t 32 (show TkAt wz.drew g t from HT.out.2.1) hs).mono ?_;rintro e w1 ⟨rfl,hg1,ht1⟩;have hcp:=copy_hash w.heap.size (someF t 32).1 34 ((hg1.block _ (lt_of_block HT.out.2.2.1) (by have:=lt_of_block HT.out.1;simp;omega)).trans HT.out.2.2.1) HT.out.2.2.2.2));have e1:(if(someF t 32).1.size=32 then jfx (someF t 32).1 else jbm)=(hashT t).1:=rfl;rw[e1];have hl:=jlz t;have hnew:(w1.setRow w.heap.size (hashV (hashT t).1).toArray).heap[w.heap.size]? =some (.cells (hashV (hashT t).1).toArray 34 (0,0)):=
  jad _ _ _ _ _ ((hg1.block _ (lt_of_block HT.out.2.2.1) (by have:=lt_of_block HT.out.1;simp;omega)).trans HT.out.2.2.1)
 have h32:=hash32 (hashT t).1 hl;have HNEW:=Lib.hid hnew;clear hnew hcp e1;obtain⟨w2,hw2⟩:∃w2,w2=w1.setRow w.heap.size (hashV (hashT t).1).toArray:=⟨_,rfl⟩
 rw[←hw2]at HNEW ⊢;have HW2:=Lib.hid hw2;clear hw2;go_wp2_with (first|(refine wpList_load_row rfl 34 _ rfl w.heap.size rfl 34 _ (0,0) _ HNEW.out Tryz.underlying34 rfl h32 ?_)|(refine jd9 rfl 34 _ _ rfl w.heap.size rfl _ rfl 34 HNEW.out (by simpa using je2 _) h32 ?_));refine bodyPost_ret (results_cell_row rfl _ _ w.heap.size 34 _ (0,0) _ rfl HNEW.out Tryz.underlying34 rfl h32) rfl ⟨rfl,?_,?_⟩
 ·rw[HW2.out];refine⟨hg1.os.trans HT.out.2.2.2.1.os,hg1.tape.trans HT.out.2.2.2.1.tape,hg1.output.trans HT.out.2.2.2.1.output,?_,?_⟩
  ·have h1:=hg1.size;have h2:=HT.out.2.2.2.1.size;simp only[World.setRow,Array.size_modify];exact Nat.le_trans h2 h1
  ·intro k hk hne;rw[jac _ _ _ _ (by omega),hg1.block k (Nat.lt_of_lt_of_le hk HT.out.2.2.2.1.size) hne];exact HT.out.2.2.2.1.block k hk hne
 ·rw[HW2.out];unfold TkAt;rw[jac _ _ _ _ (by omega)];exact ht1
def itemT(t:Tk):Item×Tk:=(⟨(textT t).1,(textT (textT t).2).1⟩,(textT (textT t).2).2)
def kidT(t:Tk):Kid×Tk:=
 let a:=textT t;let b:=numT a.2 4;let c:=hashT b.2
 (⟨a.1,b.1,c.1⟩,c.2)
def volT(t:Tk):Vol×Tk:=
 let a:=textT t;let b:=textT a.2;let c:=numT b.2 1;let d:=numT c.2 8;let e:=numT d.2 4;let f:=hashT e.2
 (⟨a.1,c.1,b.1,d.1,e.1,f.1⟩,f.2)
def stepT(n:Node)(t:Tk):Node×Tk:=
 if n.kind=1 then({n with items:=n.items ++ [(itemT t).1]},(itemT t).2)
 else if n.kind=2 then({n with kids:=n.kids ++ [(kidT t).1]},(kidT t).2)
 else if n.kind=3 then({n with vols:=n.vols ++ [(volT t).1]},(volT t).2)
 else(n,⟨t.left,true⟩)
def jb9:Nat→Node→Tk→Node×Tk
 |0,n,t=>(n,t)
 |c + 1,n,t=>if(stepT n t).2.bad then stepT n t else jb9 c (stepT n t).1 (stepT n t).2
def takeT(t:Tk):Node×Tk:=jb9 (numT (numT t 1).2 1).1.toNat ⟨(numT t 1).1,[],[],[]⟩ (numT (numT t 1).2 1).2
theorem jb8{w:World}{B:Nat}{e T:TypeId}{s:Nat}{v:Value}{n:Nat}{xs:List Value}{b:Nat}{cs:Array Value}{fr:Nat×Nat}(hown:w.ownsRow B e s v n xs)(hb:w.heap[b]? =some (.cells cs T fr))(hTe:T≠e):v.ownBlock≠some b:=by
 intro he;rcases hown.2 with⟨rfl,_⟩|⟨g,cap,cur,rfl,_,hg,_⟩
 ·simp[Value.ownBlock]at he
 ·have hgb:g=b:=by simpa[Value.ownBlock]using he
  subst hgb;rw[hg]at hb;injection hb with hb;injection hb with _ h2 _;exact hTe h2.symm
theorem jat{w w':World}{B:Nat}{e T:TypeId}{s:Nat}{v:Value}{n:Nat}{xs:List Value}{b:Nat}{cs:Array Value}{fr:Nat×Nat}(hown:w.ownsRow B e s v n xs)(hg:w.grownBy w' (some b))(hb:w.heap[b]? =some (.cells cs T fr))(hTe:T≠e):w'.ownsRow B e s v n xs:=
 hown.kept hg (Or.inr (jb8 hown hb hTe))
theorem jfy{w w':World}{B e s n e2 s2 n2:Nat}{v u:Value}{xs ys:List Value}(hown:w.ownsRow B e s v n xs)(hu:w.ownsRow B e2 s2 u n2 ys)(hg:w.grownBy w' u.ownBlock)(hee:e2≠e):w'.ownsRow B e s v n xs:=by
 refine hown.kept hg ?_;rcases hu.2 with⟨rfl,_⟩|⟨g,cap,cur,rfl,_,hg2,_⟩
 ·cases hv:v.ownBlock with
  |none=>exact Or.inl rfl
  |some k=>right;simp[Value.ownBlock]
 ·exact Or.inr (by simpa[Value.ownBlock]using jb8 hown hg2 hee)
structure NodeOwn(B nb:Nat)(n:Node)(w:World)(vi vk vv:Value):Prop where
 blk:w.heap[nb]? =some (.cells #[.int .u8 n.kind,vi,vk,vv] 59 (0,0))
 oi:w.ownsRow B 165 2 vi n.items.length (n.items.flatMap itemE.enc)
 ok:w.ownsRow B 40 34 vk n.kids.length (n.kids.flatMap kidE.enc)
 ov:w.ownsRow B 155 37 vv n.vols.length (n.vols.flatMap volE.enc)
theorem NodeOwn.keep{B nb g:Nat}{n:Node}{w w':World}{vi vk vv:Value}{t:Tk}(h:NodeOwn B nb n w vi vk vv)(hg:w.grownBy w' (some g))(ht:TkAt w g t):NodeOwn B nb n w' vi vk vv:=by
 have hne:nb≠g:=by
  intro e;have:=h.blk;rw[e,ht]at this;injection this with this;injection this with _ h2 _;exact absurd h2 (by decide)
 exact⟨(hg.block nb (lt_of_block h.blk) (by simpa using hne)).trans h.blk,jat h.oi hg ht (by decide),jat h.ok hg ht (by decide),jat h.ov hg ht (by decide)⟩
def jfn(n:Node):Prop:=(∀x∈n.items,itemE.wf x)∧(∀x∈n.kids,kidE.wf x)∧(∀x∈n.vols,volE.wf x)
theorem jeg(t:Tk)(m:Nat)(h:t.left.size≤m):(textT t).1.size≤m∧(textT t).2.left.size≤m:=by
 unfold textT;have h1:(numT t 1).2.left.size≤m:=Nat.le_trans (jir t 1) h;refine⟨?_,Nat.le_trans (jir _ _) h1⟩;unfold someF;split
 ·simp
 ·simp;omega
theorem jed(t:Tk)(k m:Nat)(h:t.left.size≤m):(numT t k).2.left.size≤m:=Nat.le_trans (jir t k) h
theorem jkw(t:Tk)(m:Nat)(h:t.left.size≤m):(hashT t).2.left.size≤m:=Nat.le_trans (jir t 32) h
theorem jce(t:Tk)(k:Nat)(hk:k≤8):0≤(numT t k).1∧(numT t k).1 < 256 ^ k:=by
 unfold numT;have hp:(0:Int) < 256 ^ k:=Int.pow_pos (by decide);split
 ·exact⟨Int.le_refl _,hp⟩
 ·rename_i h;exact jfm k _ (by simp;omega) hk
theorem hashT_ok(t:Tk):jd7 (hashT t).1:=by
 refine⟨jlz t,?_⟩;unfold hashT;intro x hx;split at hx
 ·simp only[jfx,List.mem_map]at hx;obtain⟨b,_,rfl⟩:=hx;have:=b.toNat_lt;omega
 ·simp only[jbm,List.mem_replicate]at hx;omega
theorem itemT_ok(t:Tk)(h:t.left.size≤4096):itemE.wf (itemT t).1∧(itemT t).2.left.size≤4096:=by
 have h1:=jeg t 4096 h;have h2:=jeg (textT t).2 4096 h1.2;refine⟨⟨?_,?_⟩,h2.2⟩
 ·show(textT t).1.size≤140737488355328;omega
 ·show(textT (textT t).2).1.size≤140737488355328;omega
theorem kidT_ok(t:Tk)(h:t.left.size≤4096):kidE.wf (kidT t).1∧(kidT t).2.left.size≤4096:=by
 have h1:=jeg t 4096 h;have h2:=jed (textT t).2 4 4096 h1.2;have h3:=jkw (numT (textT t).2 4).2 4096 h2;have r:=jce (textT t).2 4 (by omega);refine⟨⟨?_,⟨r.1,?_⟩,hashT_ok _⟩,h3⟩
 ·show(textT t).1.size≤140737488355328;omega
 ·have:=r.2;show(numT (textT t).2 4).1≤4294967295;omega
theorem volT_ok(t:Tk)(h:t.left.size≤4096):volE.wf (volT t).1∧(volT t).2.left.size≤4096:=by
 have h1:=jeg t 4096 h;have h2:=jeg (textT t).2 4096 h1.2;have h3:=jed (textT (textT t).2).2 1 4096 h2.2;have h4:=jed _ 8 4096 h3;have h5:=jed _ 4 4096 h4;have h6:=jkw _ 4096 h5;have r1:=jce (textT (textT t).2).2 1 (by omega);have r2:=jce (numT (textT (textT t).2).2 1).2 8 (by omega);have r3:=jce (numT (numT (textT (textT t).2).2 1).2 8).2 4 (by omega);refine⟨⟨?_,⟨r1.1,?_⟩,?_,⟨r2.1,?_⟩,⟨r3.1,?_⟩,hashT_ok _⟩,h6⟩
 ·show(textT t).1.size≤140737488355328;omega
 ·have:=r1.2;show(numT (textT (textT t).2).2 1).1≤255;omega
 ·show(textT (textT t).2).1.size≤140737488355328;omega
 ·have:=r2.2;show(numT (numT (textT (textT t).2).2 1).2 8).1≤18446744073709551615;omega
 ·have:=r3.2;show(numT (numT (numT (textT (textT t).2).2 1).2 8).2 4).1≤4294967295;omega
theorem item_info:(Tryz.prog.info? 165).map (fun i=>(i.zero.map (fun z=>z.cells.size),i.size,i.bytes))=some (some 2,2,32):=by kernel_rfl
theorem kid_info:(Tryz.prog.info? 40).map (fun i=>(i.zero.map (fun z=>z.cells.size),i.size,i.bytes))=some (some 34,34,56):=by kernel_rfl
theorem vol_info:(Tryz.prog.info? 155).map (fun i=>(i.zero.map (fun z=>z.cells.size),i.size,i.bytes))=some (some 37,37,88):=by kernel_rfl
theorem jbw{e:TypeId}{s b:Nat}(h:(Tryz.prog.info? e).map (fun i=>(i.zero.map (fun z=>z.cells.size),i.size,i.bytes))=some (some s,s,b)):
 ∃i z,Tryz.prog.info? e=some i∧i.zero=some z∧i.size=s∧i.bytes=b∧z.cells.size=s:=by
 cases hi:Tryz.prog.info? e with
 |none=>simp[hi]at h
 |some i=>
  simp only[hi,Option.map_some,Option.some.injEq,Prod.mk.injEq]at h;obtain⟨h1,h2,h3⟩:=h;cases hz:i.zero with
  |none=>simp[hz]at h1
  |some z=>exact⟨i,z,rfl,hz,h2,h3,by simpa[hz]using h1⟩
theorem flat_one'{α:Type}(E:Enc α)(xs:List α)(x:α):(xs ++ [x]).flatMap E.enc=xs.flatMap E.enc ++ E.enc x:=by simp
def je9(b:Nat)(T:TypeId)(w w':World):Prop:=
 ∀(g:Nat) (cs:Array Value) (t:TypeId) (fr:Nat×Nat),g≠b→w.heap[g]? =some (.cells cs t fr)→t≠T→w'.heap[g]? =some (.cells cs t fr)
theorem item_append{B nb:Nat}{n:Node}{wb:World}{vi vk vv:Value}(h:NodeOwn B nb n wb vi vk vv)(x:Item)(hx:itemE.wf x)(hB:B≤wb.heap.size)(hBn:B≤nb)(hlen:n.items.length≤100000):
 ∃g' cap wc,(Builtin.append_ #[55,55] 55 #[vi, .slice (some ⟨wb.heap.size,0,none⟩) 1 1]).run Tryz.prog (wb.alloc (.cells (itemE.enc x).toArray 165))= .ok (.slice (some ⟨g',0,none⟩) (n.items.length + 1) cap) wc∧
  wc.cell? ⟨nb,1,none⟩=some vi∧wc.frozen? ⟨nb,1,none⟩=false∧
  NodeOwn B nb {n with items:=n.items ++ [x]} (wc.setCell ⟨nb,1,none⟩ (.slice (some ⟨g',0,none⟩) (n.items.length + 1) cap)) (.slice (some ⟨g',0,none⟩) (n.items.length + 1) cap) vk vv∧
  Below B wb (wc.setCell ⟨nb,1,none⟩ (.slice (some ⟨g',0,none⟩) (n.items.length + 1) cap))∧je9 nb 165 wb (wc.setCell ⟨nb,1,none⟩ (.slice (some ⟨g',0,none⟩) (n.items.length + 1) cap)):=by
 obtain⟨i0,z,hi,hz,hsz,hby,hzs⟩:=jbw item_info;have hl:=itemE.len x hx;have hlt:=lt_of_block h.blk;have ha:∀k,k < wb.heap.size→(wb.alloc (.cells (itemE.enc x).toArray 165)).heap[k]? =wb.heap[k]? :=fun k hk=>Lib.alloc_old wb _ k hk
 obtain⟨g',cap,wc,hr,ho,hgc,hlie,hltg⟩:=run_append_lies (P:=Tryz.prog) (wb.alloc (.cells (itemE.enc x).toArray 165)) 55 55 B 165 i0 z 2 32 Tryz.underlying55 hi hz hsz hby hzs (by omega) vi n.items.length _ (h.oi.alloc _) ⟨wb.heap.size,0,none⟩ 1 1 (itemE.enc x) (by rw[hl];rfl) (fun j u hj=>by rw[jcl,Nat.zero_add];exact jay j u hj) (itemE.one x hx) (by omega) (by unfold maxLen;omega) (by omega) (by simp;omega) _ rfl;have hnb:wc.heap[nb]? =some (.cells #[.int .u8 n.kind,vi,vk,vv] 59 (0,0)):=by
  rw[hgc.block nb (by simp;omega) (fun e=>jb8 h.oi h.blk (by decide) e.symm),ha nb hlt];exact h.blk
 have hset:(wc.setCell ⟨nb,1,none⟩ (.slice (some ⟨g',0,none⟩) (n.items.length + 1) cap)).heap[nb]? =some (.cells #[.int .u8 n.kind, .slice (some ⟨g',0,none⟩) (n.items.length + 1) cap,vk,vv] 59 (0,0)):=ja2 hnb 1 _;have hgs:wc.grownBy (wc.setCell ⟨nb,1,none⟩ (.slice (some ⟨g',0,none⟩) (n.items.length + 1) cap)) (some nb):=jap (World.grownBy.refl wc (some nb)) 1 _;refine⟨g',cap,wc,hr,?_,frozen_of_row wc nb 1 _ _ hnb,⟨hset,by have:=jat ho hgs hnb (by decide);rw[flat_one',List.length_append];exact this,jat (jfy (h.ok.alloc _) (h.oi.alloc _) hgc (by decide)) hgs hnb (by decide),jat (jfy (h.ov.alloc _) (h.oi.alloc _) hgc (by decide)) hgs hnb (by decide)⟩,?_,?_⟩
 ·rw[cell_of_row wc nb 1 _ _ _ hnb];rfl
 ·exact(((Below.refl B wb).alloc hB _).grown hgc (by simp;omega) (fun k hk=>(h.oi.lt k hk).1)).setCell (p:=⟨nb,1,none⟩) hBn _
 ·intro g cs t fr hg hh ht;have hgl:=lt_of_block hh;rw[hgs.block g (by have:=hgc.size;simp at this;omega) (by simpa using hg),hgc.block g (by simp;omega) (fun e=>jb8 h.oi hh ht e.symm),ha g hgl];exact hh
theorem jkq{ops:Array Oper}{o:Oper}{a:Act}{K:Act→World→Prop}{Q:Exit→Act→World→Prop}{E:Prop}{B nb:Nat}{n:Node}{wb:World}{vi vk vv:Value}(hgd:o.guard=none)(s y:Operand)
 (ho:o.op= .call {callee:= .builtin .append,args:= #[s,y],argTypes:= #[55,55]}) (hty:o.type=55) (h:NodeOwn B nb n wb vi vk vv) (x:Item) (hx:itemE.wf x) (hB:B≤wb.heap.size) (hBn:B≤nb) (hlen:n.items.length≤100000)
 (hs:a.eval s=vi) (hy:a.eval y= .slice (some ⟨wb.heap.size,0,none⟩) 1 1)
 (hK:∀g' cap wc,wc.cell? ⟨nb,1,none⟩=some vi→wc.frozen? ⟨nb,1,none⟩=false→
  NodeOwn B nb {n with items:=n.items ++ [x]} (wc.setCell ⟨nb,1,none⟩ (.slice (some ⟨g',0,none⟩) (n.items.length + 1) cap)) (.slice (some ⟨g',0,none⟩) (n.items.length + 1) cap) vk vv→
  Below B wb (wc.setCell ⟨nb,1,none⟩ (.slice (some ⟨g',0,none⟩) (n.items.length + 1) cap))→je9 nb 165 wb (wc.setCell ⟨nb,1,none⟩ (.slice (some ⟨g',0,none⟩) (n.items.length + 1) cap))→K (a.put o.dst (.slice (some ⟨g',0,none⟩) (n.items.length + 1) cap)) wc):
 if Region.wanted o (yielded ops a.tmps)=true then Oper.wp Tryz.prog o a (wb.alloc (.cells (itemE.enc x).toArray 165)) K Q else E:=by
 have hw:Region.wanted o (yielded ops a.tmps)=true:=by simp[Region.wanted,hgd]
 rw[if_pos hw];obtain⟨g',cap,wc,hr,h1,h2,h3,h4,h5⟩:=item_append h x hx hB hBn hlen;unfold Oper.wp execOp;simp only[ho,hty,resolve,invoke,builtin,Sem.run_bind,Sem.run_pure,Result.andThen_ok,List.map_toArray,List.map_cons,List.map_nil,hs,hy,hr];exact hK g' cap wc h1 h2 h3 h4 h5
theorem kid_append{B nb:Nat}{n:Node}{wb:World}{vi vk vv:Value}(h:NodeOwn B nb n wb vi vk vv)(x:Kid)(hx:kidE.wf x)(hB:B≤wb.heap.size)(hBn:B≤nb)(hlen:n.kids.length≤100000):
 ∃g' cap wc,(Builtin.append_ #[56,56] 56 #[vk, .slice (some ⟨wb.heap.size,0,none⟩) 1 1]).run Tryz.prog (wb.alloc (.cells (kidE.enc x).toArray 40))= .ok (.slice (some ⟨g',0,none⟩) (n.kids.length + 1) cap) wc∧
  wc.cell? ⟨nb,2,none⟩=some vk∧wc.frozen? ⟨nb,2,none⟩=false∧
  NodeOwn B nb {n with kids:=n.kids ++ [x]} (wc.setCell ⟨nb,2,none⟩ (.slice (some ⟨g',0,none⟩) (n.kids.length + 1) cap)) vi (.slice (some ⟨g',0,none⟩) (n.kids.length + 1) cap) vv∧
  Below B wb (wc.setCell ⟨nb,2,none⟩ (.slice (some ⟨g',0,none⟩) (n.kids.length + 1) cap))∧je9 nb 40 wb (wc.setCell ⟨nb,2,none⟩ (.slice (some ⟨g',0,none⟩) (n.kids.length + 1) cap)):=by
 obtain⟨i0,z,hi,hz,hsz,hby,hzs⟩:=jbw kid_info;have hl:=kidE.len x hx;have hlt:=lt_of_block h.blk;have ha:∀k,k < wb.heap.size→(wb.alloc (.cells (kidE.enc x).toArray 40)).heap[k]? =wb.heap[k]? :=fun k hk=>Lib.alloc_old wb _ k hk
 obtain⟨g',cap,wc,hr,ho,hgc,hlie,hltg⟩:=run_append_lies (P:=Tryz.prog) (wb.alloc (.cells (kidE.enc x).toArray 40)) 56 56 B 40 i0 z 34 56 Tryz.underlying56 hi hz hsz hby hzs (by omega) vk n.kids.length _ (h.ok.alloc _) ⟨wb.heap.size,0,none⟩ 1 1 (kidE.enc x) (by rw[hl];rfl) (fun j u hj=>by rw[jcl,Nat.zero_add];exact jay j u hj) (kidE.one x hx) (by omega) (by unfold maxLen;omega) (by omega) (by simp;omega) _ rfl;have hnb:wc.heap[nb]? =some (.cells #[.int .u8 n.kind,vi,vk,vv] 59 (0,0)):=by
  rw[hgc.block nb (by simp;omega) (fun e=>jb8 h.ok h.blk (by decide) e.symm),ha nb hlt];exact h.blk
 have hset:(wc.setCell ⟨nb,2,none⟩ (.slice (some ⟨g',0,none⟩) (n.kids.length + 1) cap)).heap[nb]? =some (.cells #[.int .u8 n.kind,vi, .slice (some ⟨g',0,none⟩) (n.kids.length + 1) cap,vv] 59 (0,0)):=ja2 hnb 2 _;have hgs:wc.grownBy (wc.setCell ⟨nb,2,none⟩ (.slice (some ⟨g',0,none⟩) (n.kids.length + 1) cap)) (some nb):=jap (World.grownBy.refl wc (some nb)) 2 _;refine⟨g',cap,wc,hr,?_,frozen_of_row wc nb 2 _ _ hnb,⟨hset,jat (jfy (h.oi.alloc _) (h.ok.alloc _) hgc (by decide)) hgs hnb (by decide),by have:=jat ho hgs hnb (by decide);rw[flat_one',List.length_append];exact this,jat (jfy (h.ov.alloc _) (h.ok.alloc _) hgc (by decide)) hgs hnb (by decide)⟩,?_,?_⟩
 ·rw[cell_of_row wc nb 2 _ _ _ hnb];rfl
 ·exact(((Below.refl B wb).alloc hB _).grown hgc (by simp;omega) (fun k hk=>(h.ok.lt k hk).1)).setCell (p:=⟨nb,2,none⟩) hBn _
 ·intro g cs t fr hg hh ht;have hgl:=lt_of_block hh;rw[hgs.block g (by have:=hgc.size;simp at this;omega) (by simpa using hg),hgc.block g (by simp;omega) (fun e=>jb8 h.ok hh ht e.symm),ha g hgl];exact hh
theorem jl1{ops:Array Oper}{o:Oper}{a:Act}{K:Act→World→Prop}{Q:Exit→Act→World→Prop}{E:Prop}{B nb:Nat}{n:Node}{wb:World}{vi vk vv:Value}(hgd:o.guard=none)(s y:Operand)
 (ho:o.op= .call {callee:= .builtin .append,args:= #[s,y],argTypes:= #[56,56]}) (hty:o.type=56) (h:NodeOwn B nb n wb vi vk vv) (x:Kid) (hx:kidE.wf x) (hB:B≤wb.heap.size) (hBn:B≤nb) (hlen:n.kids.length≤100000)
 (hs:a.eval s=vk) (hy:a.eval y= .slice (some ⟨wb.heap.size,0,none⟩) 1 1)
 (hK:∀g' cap wc,wc.cell? ⟨nb,2,none⟩=some vk→wc.frozen? ⟨nb,2,none⟩=false→
  NodeOwn B nb {n with kids:=n.kids ++ [x]} (wc.setCell ⟨nb,2,none⟩ (.slice (some ⟨g',0,none⟩) (n.kids.length + 1) cap)) vi (.slice (some ⟨g',0,none⟩) (n.kids.length + 1) cap) vv→
  Below B wb (wc.setCell ⟨nb,2,none⟩ (.slice (some ⟨g',0,none⟩) (n.kids.length + 1) cap))→je9 nb 40 wb (wc.setCell ⟨nb,2,none⟩ (.slice (some ⟨g',0,none⟩) (n.kids.length + 1) cap))→K (a.put o.dst (.slice (some ⟨g',0,none⟩) (n.kids.length + 1) cap)) wc):
 if Region.wanted o (yielded ops a.tmps)=true then Oper.wp Tryz.prog o a (wb.alloc (.cells (kidE.enc x).toArray 40)) K Q else E:=by
 have hw:Region.wanted o (yielded ops a.tmps)=true:=by simp[Region.wanted,hgd]
 rw[if_pos hw];obtain⟨g',cap,wc,hr,h1,h2,h3,h4,h5⟩:=kid_append h x hx hB hBn hlen;unfold Oper.wp execOp;simp only[ho,hty,resolve,invoke,builtin,Sem.run_bind,Sem.run_pure,Result.andThen_ok,List.map_toArray,List.map_cons,List.map_nil,hs,hy,hr];exact hK g' cap wc h1 h2 h3 h4 h5
theorem vol_append{B nb:Nat}{n:Node}{wb:World}{vi vk vv:Value}(h:NodeOwn B nb n wb vi vk vv)(x:Vol)(hx:volE.wf x)(hB:B≤wb.heap.size)(hBn:B≤nb)(hlen:n.vols.length≤100000):
 ∃g' cap wc,(Builtin.append_ #[57,57] 57 #[vv, .slice (some ⟨wb.heap.size,0,none⟩) 1 1]).run Tryz.prog (wb.alloc (.cells (volE.enc x).toArray 155))= .ok (.slice (some ⟨g',0,none⟩) (n.vols.length + 1) cap) wc∧
  wc.cell? ⟨nb,3,none⟩=some vv∧wc.frozen? ⟨nb,3,none⟩=false∧
  NodeOwn B nb {n with vols:=n.vols ++ [x]} (wc.setCell ⟨nb,3,none⟩ (.slice (some ⟨g',0,none⟩) (n.vols.length + 1) cap)) vi vk (.slice (some ⟨g',0,none⟩) (n.vols.length + 1) cap)∧
  Below B wb (wc.setCell ⟨nb,3,none⟩ (.slice (some ⟨g',0,none⟩) (n.vols.length + 1) cap))∧je9 nb 155 wb (wc.setCell ⟨nb,3,none⟩ (.slice (some ⟨g',0,none⟩) (n.vols.length + 1) cap)):=by
 obtain⟨i0,z,hi,hz,hsz,hby,hzs⟩:=jbw vol_info;have hl:=volE.len x hx;have hlt:=lt_of_block h.blk;have ha:∀k,k < wb.heap.size→(wb.alloc (.cells (volE.enc x).toArray 155)).heap[k]? =wb.heap[k]? :=fun k hk=>Lib.alloc_old wb _ k hk
 obtain⟨g',cap,wc,hr,ho,hgc,hlie,hltg⟩:=run_append_lies (P:=Tryz.prog) (wb.alloc (.cells (volE.enc x).toArray 155)) 57 57 B 155 i0 z 37 88 Tryz.underlying57 hi hz hsz hby hzs (by omega) vv n.vols.length _ (h.ov.alloc _) ⟨wb.heap.size,0,none⟩ 1 1 (volE.enc x) (by rw[hl];rfl) (fun j u hj=>by rw[jcl,Nat.zero_add];exact jay j u hj) (volE.one x hx) (by omega) (by unfold maxLen;omega) (by omega) (by simp;omega) _ rfl;have hnb:wc.heap[nb]? =some (.cells #[.int .u8 n.kind,vi,vk,vv] 59 (0,0)):=by
  rw[hgc.block nb (by simp;omega) (fun e=>jb8 h.ov h.blk (by decide) e.symm),ha nb hlt];exact h.blk
 have hset:(wc.setCell ⟨nb,3,none⟩ (.slice (some ⟨g',0,none⟩) (n.vols.length + 1) cap)).heap[nb]? =some (.cells #[.int .u8 n.kind,vi,vk, .slice (some ⟨g',0,none⟩) (n.vols.length + 1) cap] 59 (0,0)):=ja2 hnb 3 _;have hgs:wc.grownBy (wc.setCell ⟨nb,3,none⟩ (.slice (some ⟨g',0,none⟩) (n.vols.length + 1) cap)) (some nb):=jap (World.grownBy.refl wc (some nb)) 3 _;refine⟨g',cap,wc,hr,?_,frozen_of_row wc nb 3 _ _ hnb,⟨hset,jat (jfy (h.oi.alloc _) (h.ov.alloc _) hgc (by decide)) hgs hnb (by decide),jat (jfy (h.ok.alloc _) (h.ov.alloc _) hgc (by decide)) hgs hnb (by decide),by have:=jat ho hgs hnb (by decide);rw[flat_one',List.length_append];exact this⟩,?_,?_⟩
 ·rw[cell_of_row wc nb 3 _ _ _ hnb];rfl
 ·exact(((Below.refl B wb).alloc hB _).grown hgc (by simp;omega) (fun k hk=>(h.ov.lt k hk).1)).setCell (p:=⟨nb,3,none⟩) hBn _
 ·intro g cs t fr hg hh ht;have hgl:=lt_of_block hh;rw[hgs.block g (by have:=hgc.size;simp at this;omega) (by simpa using hg),hgc.block g (by simp;omega) (fun e=>jb8 h.ov hh ht e.symm),ha g hgl];exact hh
theorem jl2{ops:Array Oper}{o:Oper}{a:Act}{K:Act→World→Prop}{Q:Exit→Act→World→Prop}{E:Prop}{B nb:Nat}{n:Node}{wb:World}{vi vk vv:Value}(hgd:o.guard=none)(s y:Operand)
 (ho:o.op= .call {callee:= .builtin .append,args:= #[s,y],argTypes:= #[57,57]}) (hty:o.type=57) (h:NodeOwn B nb n wb vi vk vv) (x:Vol) (hx:volE.wf x) (hB:B≤wb.heap.size) (hBn:B≤nb) (hlen:n.vols.length≤100000)
 (hs:a.eval s=vv) (hy:a.eval y= .slice (some ⟨wb.heap.size,0,none⟩) 1 1)
 (hK:∀g' cap wc,wc.cell? ⟨nb,3,none⟩=some vv→wc.frozen? ⟨nb,3,none⟩=false→
  NodeOwn B nb {n with vols:=n.vols ++ [x]} (wc.setCell ⟨nb,3,none⟩ (.slice (some ⟨g',0,none⟩) (n.vols.length + 1) cap)) vi vk (.slice (some ⟨g',0,none⟩) (n.vols.length + 1) cap)→
  Below B wb (wc.setCell ⟨nb,3,none⟩ (.slice (some ⟨g',0,none⟩) (n.vols.length + 1) cap))→je9 nb 155 wb (wc.setCell ⟨nb,3,none⟩ (.slice (some ⟨g',0,none⟩) (n.vols.length + 1) cap))→K (a.put o.dst (.slice (some ⟨g',0,none⟩) (n.vols.length + 1) cap)) wc):
 if Region.wanted o (yielded ops a.tmps)=true then Oper.wp Tryz.prog o a (wb.alloc (.cells (volE.enc x).toArray 155)) K Q else E:=by
 have hw:Region.wanted o (yielded ops a.tmps)=true:=by simp[Region.wanted,hgd]
 rw[if_pos hw];obtain⟨g',cap,wc,hr,h1,h2,h3,h4,h5⟩:=vol_append h x hx hB hBn hlen;unfold Oper.wp execOp;simp only[ho,hty,resolve,invoke,builtin,Sem.run_bind,Sem.run_pure,Result.andThen_ok,List.map_toArray,List.map_cons,List.map_nil,hs,hy,hr];exact hK g' cap wc h1 h2 h3 h4 h5
structure Blk where
 num:Int
 data:ByteArray
structure Dv where
 size:Int
 blocks:List Blk
 waits:List Blk
 down:Bool
 fuse:Int
def blkE:Enc Blk where
 sz:=2
 enc x:=[.int .u32 x.num, .string x.data]
 wf x:=u32Ok x.num∧strOk x.data
 len _ _:=rfl
 one x _ u hu:=by simp at hu;rcases hu with rfl|rfl <;>rfl
 pos:=by decide
def jho(n:Int):Prop:= -9223372036854775808≤n∧n≤9223372036854775807
def DevV(w:World)(v:Value)(d:Dv):Prop:=∃bv wv,v= .agg #[.int .u32 d.size,bv,wv, .bool d.down, .int .i64 d.fuse]∧Sl blkE w bv d.blocks∧Sl blkE w wv d.waits∧u32Ok d.size∧jho d.fuse
theorem DevV.below{w w':World}{v:Value}{d:Dv}(h:DevV w v d){B:Nat}(hb:Below B w w')(hB:w.heap.size≤B):DevV w' v d:=by
 obtain⟨bv,wv,e,h1,h2,h3,h4⟩:=h;exact⟨bv,wv,e,h1.below hb hB,h2.below hb hB,h3,h4⟩
def cutB(s:ByteArray):ByteArray:=⟨(Lib.trimRightB s.data.toList 0).toArray⟩
def ja3(b:Blk)(size:Int):Bool:=decide (b.num < size) && (decide (b.data.size≤512) && beqB (cutB b.data) b.data)
def jdj:List Blk→Bool
 |[]=>true
 |[_]=>true
 |a::b::r=>decide (a.num < b.num) && jdj (b::r)
def devB(d:Dv):Bool:=(decide (16≤d.size) && (decide (d.size≤65536) && decide (d.waits.length≤16384))) && (d.blocks.all (fun b=>ja3 b d.size && !b.data.toList.isEmpty) && (jdj d.blocks && d.waits.all (fun b=>ja3 b d.size)))
def jbr(bs:List Blk)(num:Int):Nat:=posOf (fun b=>decide (b.num < num)) bs
def jer(bs:List Blk)(num:Int):Bool:=hasAt (fun b=>b.num==num) bs (jbr bs num)
def putB(bs:List Blk)(b:Blk):List Blk:=
 if jer bs b.num then(if b.data.toList.isEmpty then bs.eraseIdx (jbr bs b.num)else bs.set (jbr bs b.num) b)else(if b.data.toList.isEmpty then bs else bs.insertIdx (jbr bs b.num) b)
def jek(bs:List Blk)(num:Int):Option Blk:=(bs.reverse).find? (fun b=>b.num==num)
def readB(d:Dv)(num:Int):ByteArray:=match jek d.waits num with
 |some b=>b.data
 |none=>if jer d.blocks num then((d.blocks[jbr d.blocks num]?).map (·.data)).getD ByteArray.empty else ByteArray.empty
def readD(d:Dv)(num:Int):ByteArray×Int:=if devB d=false then(ByteArray.empty,7)else if d.down then(ByteArray.empty,17)else if d.size≤num then(ByteArray.empty,1)else(readB d num,0)
def burnD(d:Dv):Dv:={d with down:=d.down||decide (d.fuse=0),fuse:=if 0 < d.fuse then d.fuse - 1 else d.fuse}
def noDev:Dv:=⟨0,[],[],false,0⟩
def jes(d:Dv)(num:Int)(data:ByteArray):Int:=if d.down then 17 else if d.size≤num then 1 else if 512 < data.size then 2 else if 16384≤d.waits.length then 8 else 0
def jbg(d:Dv)(num:Int)(data:ByteArray):Dv×Int:=
 if devB d=false then(noDev,7)else if jes d num data≠0 then(d,jes d num data)
 else(burnD {d with waits:=d.waits ++ [⟨num,cutB data⟩]},if(burnD d).down then 17 else 0)
def jbs(d:Dv):Dv×Int:=
 if devB d=false then(noDev,7)else if d.down then(d,17)else if(burnD d).down then(burnD d,17)
 else({burnD d with blocks:=d.waits.foldl putB d.blocks,waits:=[]},0)
end Go.Proofs.YtpaohkkhejpgjaaGreatDoor
