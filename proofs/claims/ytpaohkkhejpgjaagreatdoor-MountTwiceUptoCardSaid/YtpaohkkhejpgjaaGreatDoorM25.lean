/- Texts of the proof: Vd Ve U0. -/
import Derived.Test.YtpaohkkhejpgjaaGreatDoorM17
import Derived.Test.YtpaohkkhejpgjaaGreatDoorM23
import Derived.Deep.RegionLaw
import Derived.Lib.SliceRun
import Derived.Test.YtpaohkkhejpgjaaGreatDoorM21
import Derived.Test.YtpaohkkhejpgjaaGreatDoorM24
import Derived.Test.YtpaohkkhejpgjaaGreatDoorM15
set_option linter.all false
set_option maxRecDepth 100000
set_option maxHeartbeats 8000000
namespace Go.Proofs.YtpaohkkhejpgjaaGreatDoor
open Go Go.RowKit Go.Lib
theorem zero_blk(w:World):(zeroValue 160).run Tryz.prog w= .ok (.agg #[.int .u32 0, .string ⟨#[]⟩]) w:=by kernel_rfl
theorem run_clear_blk(w:World)(ty:TypeId)(b o c:Nat)(hc:∀j,j < 2→(w.cell? ⟨b,o + j,none⟩).isSome=true)(hf:∀j,j < 2→w.frozen? ⟨b,o + j,none⟩=false):
 (Builtin.clear_ #[23] ty #[.slice (some ⟨b,o,none⟩) 1 c]).run Tryz.prog w= .ok (.tuple #[]) (w.setCells b o [.int .u32 0, .string ⟨#[]⟩]):=by
 have hst:=run_storeCells_cells (P:=Tryz.prog) b o [.int .u32 0, .string ⟨#[]⟩] 0 w (by simpa using hc) (by simpa using hf) (by intro v hv';simp at hv';rcases hv' with rfl|rfl <;>rfl);simp only[Nat.add_zero]at hst;have hzc:(Builtin.zeroCells (Value.agg #[.int .u32 0, .string ⟨#[]⟩]).cells 1).toList=[.int .u32 0, .string ⟨#[]⟩]:=by kernel_rfl
 simp[Builtin.clear_,run_underlying Tryz.underlying23,zero_blk,hzc,hst]
theorem del_rowB{w:World}{base g cap i n:Nat}{l:List Blk}(hn:l.length=n)(ho:w.ownsRow base 160 2 (.slice (some ⟨g,0,none⟩) n cap) n (l.flatMap blkE.enc))(hwf:∀x∈l,blkE.wf x)(hi:i < n)(z:List Value):
 ((w.setCells g (i * 2) ((l.drop (i + 1)).flatMap blkE.enc)).setCells g ((n - 1) * 2) z).ownsRow base 160 2 (.slice (some ⟨g,0,none⟩) (n - 1) cap) (n - 1) ((l.eraseIdx i).flatMap blkE.enc)∧w.grownBy ((w.setCells g (i * 2) ((l.drop (i + 1)).flatMap blkE.enc)).setCells g ((n - 1) * 2) z) (some g):=by
 obtain⟨hl0,h2⟩:=ho;rcases h2 with⟨h0,_⟩|⟨g',cap',cur,h0,hb,hg,hr,hc,hcur,ht⟩
 ·cases h0
 ·simp only[Value.slice.injEq,Option.some.injEq,Addr.mk.injEq,and_true,true_and]at h0;obtain⟨rfl,rfl⟩:=h0;have hwd:∀x∈l.drop (i + 1),blkE.wf x:=fun x hx=>hwf x ((List.drop_sublist _ _).subset hx)
  have hnl:((l.drop (i + 1)).flatMap blkE.enc).length=(n - (i + 1)) * 2:=by rw[jbb blkE _ hwd,List.length_drop,hn];rfl
  have her:l.eraseIdx i=l.take i ++ l.drop (i + 1):=List.eraseIdx_eq_take_drop_succ l i;have hwt:∀x∈l.take i,blkE.wf x:=fun x hx=>hwf x ((List.take_sublist _ _).subset hx)
  have htl:((l.take i).flatMap blkE.enc).length=i * 2:=by rw[jbb blkE _ hwt,List.length_take,hn,Nat.min_eq_left (by omega)];rfl
  obtain⟨c1,a1,a2,a3,a4⟩:=jbq g ((l.drop (i + 1)).flatMap blkE.enc) (i * 2) w cur _ hg;obtain⟨c2,b1,b2,b3,b4⟩:=jbq g z ((n - 1) * 2) _ c1 _ a1;have hel:((l.eraseIdx i).flatMap blkE.enc).length=(n - 1) * 2:=by
   rw[her,List.flatMap_append,List.length_append,htl,hnl];omega
  refine⟨⟨hel,Or.inr ⟨g,cap,c2,rfl,hb,b1,by omega,hc,by rw[b2,a2];exact hcur,?_⟩⟩,jag a4 b4⟩;apply List.ext_getElem?;intro j;by_cases hj:j < (n - 1) * 2
  ·rw[List.getElem?_take,if_pos hj,Array.getElem?_toList,b3 j,if_neg (by omega),a3 j,her,List.flatMap_append];by_cases hj1:j < i * 2
   ·rw[if_neg (by omega),List.getElem?_append_left (by omega)];have h9:cur[j]? =(l.flatMap blkE.enc)[j]? :=by rw[←ht,List.getElem?_take,if_pos (by omega),Array.getElem?_toList]
    rw[h9];have h8:l.flatMap blkE.enc=(l.take i).flatMap blkE.enc ++ (l.drop i).flatMap blkE.enc:=by rw[←List.flatMap_append,List.take_append_drop]
    rw[h8,List.getElem?_append_left (by omega)]
   ·rw[if_pos (by rw[hnl,hcur];omega),List.getElem?_append_right (by omega),htl]
  ·rw[List.getElem?_eq_none (by rw[List.length_take,Array.length_toList,b2,a2,hcur];omega),List.getElem?_eq_none (by omega)]
theorem delBlk_any(w:World)(base g cap i:Nat)(l:List Blk)(ho:w.ownsRow base 160 2 (.slice (some ⟨g,0,none⟩) l.length cap) l.length (l.flatMap blkE.enc))(hwf:∀x∈l,blkE.wf x)(hi:i < l.length)(hmax:l.length≤1073741824):
 Calls Tryz.prog 134 #[.slice (some ⟨g,0,none⟩) l.length cap, .int .i64 i, .int .i64 (i + 1)] w fun e w'=>e= .returned (.slice (some ⟨g,0,none⟩) (l.length - 1) cap)∧
  w'.ownsRow base 160 2 (.slice (some ⟨g,0,none⟩) (l.length - 1) cap) (l.length - 1) ((l.eraseIdx i).flatMap blkE.enc)∧w.grownBy w' (some g):=by
 obtain⟨i0,z0,hi0,hz0,hz1,hz2,hzs⟩:=jbw jiw;have hcap:l.length≤cap∧cap≤9223372036854775807:=by
  rcases ho.2 with⟨h0,_⟩|⟨g',cp',cur',h0,_,_,h4,h5,_⟩
  ·cases h0
  ·injection h0 with _ _ h0;subst h0;exact⟨h4,by unfold maxLen at h5;omega⟩
 obtain⟨hc1,hc2⟩:=hcap;have hcl:=ho.cells (g:=g) rfl;have hrow:∃cur,w.heap[g]? =some (.cells cur 160 (0,0))∧cur.size=cap * 2:=by
  rcases ho.2 with⟨h0,_⟩|⟨g',cp',cur',h0,_,h3,_,_,h6,_⟩
  ·cases h0
  ·simp only[Value.slice.injEq,Option.some.injEq,Addr.mk.injEq,and_true,true_and]at h0;obtain⟨rfl,rfl⟩:=h0;exact⟨cur',h3,h6⟩
 obtain⟨cur,hcur,hcs⟩:=hrow;have hwd:∀x∈l.drop (i + 1),blkE.wf x:=fun x hx=>hwf x ((List.drop_sublist _ _).subset hx)
 have hnl:((l.drop (i + 1)).flatMap blkE.enc).length=(l.length - (i + 1)) * 2:=by rw[jbb blkE _ hwd,List.length_drop];rfl
 have hng:∀j u,((l.drop (i + 1)).flatMap blkE.enc)[j]? =some u→w.cell? ⟨g,(i + 1) * 2 + j,none⟩=some u:=by
  intro j u hj;have h8:l.flatMap blkE.enc=(l.take (i + 1)).flatMap blkE.enc ++ (l.drop (i + 1)).flatMap blkE.enc:=by rw[←List.flatMap_append,List.take_append_drop]
  have hwt:∀x∈l.take (i + 1),blkE.wf x:=fun x hx=>hwf x ((List.take_sublist _ _).subset hx)
  have htl:((l.take (i + 1)).flatMap blkE.enc).length=(i + 1) * 2:=by rw[jbb blkE _ hwt,List.length_take,Nat.min_eq_left (by omega)];rfl
  have:=hcl ((i + 1) * 2 + j) u (by rw[h8,List.getElem?_append_right (by omega),htl,Nat.add_sub_cancel_left];exact hj);rw[jcl,Nat.zero_add]at this;exact this
 have hfin:=del_rowB rfl ho.drew hwf hi [.int .u32 0, .string ⟨#[]⟩];have h1c:=jh8 blkE _ hwd;obtain⟨news,hnews⟩:∃news,(l.drop (i + 1)).flatMap blkE.enc=news:=⟨_,rfl⟩
 rw[hnews]at hnl hng hfin h1c;have hspare:∀j,j < news.length→(w.drew.cell? ⟨g,0 + i * 2 + j,none⟩).isSome=true∧w.drew.frozen? ⟨g,0 + i * 2 + j,none⟩=false:=by
  intro j hj;have hg':w.drew.heap[g]? =some (.cells cur 160 (0,0)):=hcur;refine⟨?_,frozen_of_row _ _ _ _ _ hg'⟩;rw[cell_of_row _ _ _ _ _ _ hg'];simp only[Array.getElem?_eq_getElem (show 0 + i * 2 + j < cur.size by omega),Option.isSome_some]
 obtain⟨A,hA,hnA⟩:∃A:Addr,(if cap=i + 1 then some (⟨g,0,none⟩:Addr)else some ⟨g,(i + 1) * 2,none⟩)=some A∧Hid (∀j u,news[j]? =some u→w.drew.cell? (A.add j)=some u):=by
  by_cases h:cap=i + 1
  ·refine⟨⟨g,0,none⟩,by simp[h],Lib.hid fun j u hu=>?_⟩;have h0:news.length=0:=by omega
   rw[List.length_eq_zero_iff.1 h0]at hu;simp at hu
  ·refine⟨⟨g,(i + 1) * 2,none⟩,by simp[h],Lib.hid fun j u hu=>?_⟩;rw[jcl];exact hng j u hu
 have HO:=Lib.hid (And.intro hnl (And.intro hfin (And.intro hspare (And.intro h1c (And.intro hcur hcs)))));clear ho hwf hnews hwd hnl hng hfin h1c hspare hcl hcur;generalize hn:l.length=n at *;have HN:=Lib.hid hn;clear hn;have hic:i≤cap:=by omega
 have hic1:i + 1≤cap:=by omega
 have hwr:IntKind.i64.wrap ((i:Int) + 1)=(i:Int) + 1:=by rw[IntKind.wrap_i64];omega
 have hp0:(0:Int)≤(i:Int) + 1:=by omega
 have hp1:(i:Int) + 1≤(n:Int):=by omega
 have hp2:((i:Int) + 1).toNat=i + 1:=by omega
 have hq:((i:Int)==(i:Int) + 1)=false:=by simp;omega
 go_enter Tryz.func134,Tryz.ntmps134;go_wp2_with (fail);go_region_law (refine step_append_room rfl (.tmp 22) (.tmp 25) 23 rfl 160 i0 2 Tryz.underlying23 hi0 hz1 g 0 i cap (by simp[Act.eval,Act.put]) A (n - (i + 1)) (cap - (i + 1)) news (by simp[Act.eval,Act.put]) HO.out.1 hnA.out HO.out.2.2.2.1 (by omega) HO.out.2.2.1 ?_);have hsum:i + (n - (i + 1))=n - 1:=by omega
 have hsub:n - (n - 1)=1:=by omega
 have hcne:¬cap=n - 1:=by omega
 have hb1:(0:Int)≤((n - 1:Nat):Int):=by omega
 have hb2:((n - 1:Nat):Int)≤(n:Int):=by omega
 have hb3:n - 1≤n:=by omega
 have hclr:∀ty,(Builtin.clear_ #[23] ty #[.slice (some ⟨g,(n - 1) * 2,none⟩) 1 (cap - (n - 1))]).run Tryz.prog (w.drew.setCells g (i * 2) news)= .ok (.tuple #[]) ((w.drew.setCells g (i * 2) news).setCells g ((n - 1) * 2) [.int .u32 0, .string ⟨#[]⟩]):=fun ty=>by
  obtain⟨c1,a1,a2,_,_⟩:=jbq g news (i * 2) w.drew cur 160 HO.out.2.2.2.2.1;refine run_clear_blk _ ty g ((n - 1) * 2) _ (fun j hj=>?_) (fun j hj=>frozen_of_row _ _ _ _ _ a1);rw[cell_of_row _ _ _ _ _ _ a1];have:=HO.out.2.2.2.2.2;simp only[Array.getElem?_eq_getElem (show(n - 1) * 2 + j < c1.size by omega),Option.isSome_some]
 go_wp2_with (fail);go_ret;refine⟨rfl,?_⟩;have h9:=HO.out.2.1;exact⟨h9.1,h9.2.os,h9.2.tape,h9.2.output,h9.2.size,h9.2.block⟩
end Go.Proofs.YtpaohkkhejpgjaaGreatDoor
namespace Go.Proofs.YtpaohkkhejpgjaaGreatDoor
open Go Go.RowKit
theorem set_rowE{α:Type}(E:Enc α){w:World}{base g cap i:Nat}{t:TypeId}{l:List α}(ho:w.ownsRow base t E.sz (.slice (some ⟨g,0,none⟩) l.length cap) l.length (l.flatMap E.enc))(hwf:∀x∈l,E.wf x)(hi:i < l.length)(x:α)(hx:E.wf x):
 (w.setCells g (i * E.sz) (E.enc x)).ownsRow base t E.sz (.slice (some ⟨g,0,none⟩) l.length cap) l.length ((l.set i x).flatMap E.enc)∧w.grownBy (w.setCells g (i * E.sz) (E.enc x)) (some g):=by
 obtain⟨hl0,h2⟩:=ho;rcases h2 with⟨h0,_⟩|⟨g',cap',cur,h0,hb,hg,hr,hc,hcur,ht⟩
 ·cases h0
 ·simp only[Value.slice.injEq,Option.some.injEq,Addr.mk.injEq,and_true,true_and]at h0;obtain⟨rfl,rfl⟩:=h0;have hwt:∀x∈l.take i,E.wf x:=fun x hx=>hwf x ((List.take_sublist _ _).subset hx)
  have htl:((l.take i).flatMap E.enc).length=i * E.sz:=by rw[jbb E _ hwt,List.length_take,Nat.min_eq_left (by omega)]
  have hwd:∀x∈l.drop (i + 1),E.wf x:=fun x hx=>hwf x ((List.drop_sublist _ _).subset hx)
  have hel:(E.enc l[i]).length=E.sz:=E.len _ (hwf _ (List.getElem_mem hi));have hex:(E.enc x).length=E.sz:=E.len _ hx;have h8:l.flatMap E.enc=(l.take i).flatMap E.enc ++ (E.enc l[i] ++ (l.drop (i + 1)).flatMap E.enc):=by
   conv=>lhs;rw[←List.take_append_drop i l,List.drop_eq_getElem_cons hi,List.flatMap_append,List.flatMap_cons]
  have h9:(l.set i x).flatMap E.enc=(l.take i).flatMap E.enc ++ (E.enc x ++ (l.drop (i + 1)).flatMap E.enc):=by
   rw[List.set_eq_take_append_cons_drop,if_pos hi,List.flatMap_append,List.flatMap_cons]
  have hws:∀y∈l.set i x,E.wf y:=fun y hy=>by
   rcases List.mem_or_eq_of_mem_set hy with h|rfl
   ·exact hwf y h
   ·exact hx
  have hnl:((l.set i x).flatMap E.enc).length=l.length * E.sz:=by rw[jbb E _ hws,List.length_set]
  obtain⟨c1,a1,a2,a3,a4⟩:=jbq g (E.enc x) (i * E.sz) w cur _ hg;have hm:i * E.sz + E.sz≤l.length * E.sz:=by rw[←Nat.succ_mul];exact Nat.mul_le_mul_right _ hi
  have hm2:l.length * E.sz≤cap * E.sz:=Nat.mul_le_mul_right _ hr;refine⟨⟨hnl,Or.inr ⟨g,cap,c1,rfl,hb,a1,hr,hc,by rw[a2];exact hcur,?_⟩⟩,a4⟩;apply je6 c1 _ _ hnl (by rw[a2,hcur];exact hm2);intro j hj;have hcj:cur[j]? =(l.flatMap E.enc)[j]? :=by rw[←ht,List.getElem?_take,if_pos hj,Array.getElem?_toList]
  rw[a3 j,h9];by_cases h1:j < i * E.sz
  ·rw[if_neg (by omega),List.getElem?_append_left (by omega),hcj,h8,List.getElem?_append_left (by omega)]
  ·rw[List.getElem?_append_right (by omega),htl];by_cases h2:j < i * E.sz + E.sz
   ·rw[if_pos (by rw[hex,hcur];omega),List.getElem?_append_left (by omega)]
   ·rw[if_neg (by rw[hex];omega),List.getElem?_append_right (by omega),hcj,h8,List.getElem?_append_right (by omega),htl,List.getElem?_append_right (by omega),hel,hex]
structure Grown2(w w':World)(p:Nat)(r:Option Nat):Prop where
 os:w'.os=w.os
 tape:w'.tape=w.tape
 output:w'.output=w.output
 size:w.heap.size≤w'.heap.size
 block:∀k,k < w.heap.size→k≠p→r≠some k→w'.heap[k]? =w.heap[k]?
def jl8(d:Dv)(bv wv:Value)(n:Int):Array Value:= #[.int .u32 d.size,bv,wv, .bool d.down, .int .i64 d.fuse, .int .u64 n]
def PutTo(B:Nat)(w w':World)(p:Nat)(d:Dv)(bv wv:Value)(n:Int)(b:Blk):Prop:=∃bv',w'.heap[p]? =some (.cells (jl8 d bv' wv n) 114 (0,0))∧
 w'.ownsRow B 160 2 bv' (putB d.blocks b).length ((putB d.blocks b).flatMap blkE.enc)∧(∀g,bv'.ownBlock=some g→bv.ownBlock=some g∨w.heap.size≤g)∧Grown2 w w' p bv.ownBlock
theorem blkPos_lt{bs:List Blk}{t:Int}(h:jer bs t=true):jbr bs t < bs.length:=by
 unfold jer hasAt at h;cases hg:bs[jbr bs t]? with
 |none=>rw[hg]at h;cases h
 |some b=>exact(List.getElem?_eq_some_iff.1 hg).1
theorem Grown2.of_below{w w':World}{p:Nat}{r:Option Nat}(h:Below w.heap.size w w'):Grown2 w w' p r:=⟨h.os,h.tape,h.output,h.size,fun k hk _ _=>h.block k hk⟩
theorem Grown2.step{w w1 w2:World}{p q:Nat}{r:Option Nat}(h:Grown2 w w1 p r)(k:w1.grownBy w2 (some q))(hq:q=p∨r=some q∨w.heap.size≤q):Grown2 w w2 p r:=
 ⟨k.os.trans h.os,k.tape.trans h.tape,k.output.trans h.output,Nat.le_trans h.size k.size,fun i hi h1 h2=>by
  refine(k.block i (Nat.lt_of_lt_of_le hi h.size) (fun e=>?_)).trans (h.block i hi h1 h2);have e':i=q:=Option.some.inj e;subst e';rcases hq with hq|hq|hq
  ·exact h1 hq
  ·exact h2 hq
  ·omega⟩
theorem Grown2.step'{w w1 w2:World}{p:Nat}{r q:Option Nat}(h:Grown2 w w1 p r)(k:w1.grownBy w2 q)(hq:∀g,q=some g→g=p∨r=some g∨w.heap.size≤g):Grown2 w w2 p r:=
 ⟨k.os.trans h.os,k.tape.trans h.tape,k.output.trans h.output,Nat.le_trans h.size k.size,fun i hi h1 h2=>by
  refine(k.block i (Nat.lt_of_lt_of_le hi h.size) (fun e=>?_)).trans (h.block i hi h1 h2);rcases hq i e.symm with hq|hq|hq
  ·exact h1 hq
  ·exact h2 hq
  ·omega⟩
theorem Grown2.drew{w w1:World}{p:Nat}{r:Option Nat}(h:Grown2 w w1 p r):Grown2 w w1.drew p r:=⟨h.os,h.tape,h.output,h.size,h.block⟩
theorem putTo_mk{B:Nat}{w w1:World}{p:Nat}{d:Dv}{bv bv0 wv bv':Value}{n:Int}{b:Blk}(hp:w1.heap[p]? =some (.cells (jl8 d bv0 wv n) 114 (0,0)))
 (ho:w1.ownsRow B 160 2 bv' (putB d.blocks b).length ((putB d.blocks b).flatMap blkE.enc)) (hg:∀g,bv'.ownBlock=some g→bv.ownBlock=some g∨w.heap.size≤g) (h:Grown2 w w1 p bv.ownBlock):
 PutTo B w (w1.setCell ⟨p,1,none⟩ bv') p d bv wv n b:=by
 have hgr:w1.grownBy (w1.setCell ⟨p,1,none⟩ bv') (some p):=jap (World.grownBy.refl w1 (some p)) 1 _;exact⟨bv',ja2 hp 1 _,jat ho hgr hp (by decide),hg,h.step hgr (Or.inl rfl)⟩
theorem dvPut_any(B:Nat)(w:World)(p:Nat)(d:Dv)(bv wv:Value)(n:Int)(b:Blk)(hp:w.heap[p]? =some (.cells (jl8 d bv wv n) 114 (0,0)))(hB:B≤p)
 (ho:w.ownsRow B 160 2 bv d.blocks.length (d.blocks.flatMap blkE.enc)) (hwf:∀x∈d.blocks,blkE.wf x) (hb:blkE.wf b) (hr:RiseB d.blocks) (hl:d.blocks.length≤1073741823):
 Calls Tryz.prog 74 #[.pointer (some ⟨p,0,none⟩), .agg #[.int .u32 b.num, .string b.data]] w fun e w'=>e= .returned (.tuple #[])∧PutTo B w w' p d bv wv n b:=by
 obtain⟨num,data⟩:=b;have hlp:=lt_of_block hp;have hlt:∀g,bv.ownBlock=some g→g < w.heap.size:=fun g hg=>(ho.lt g hg).2
 have hbb:=jb2 w #[.int .u32 num, .string data] 160;have hx:=heap_alloc_new w (.cells #[.int .u32 num, .string data] 160);have hpa:=(hbb.block p hlp).trans hp;have hoa:=ho.alloc (.cells #[.int .u32 num, .string data] 160);go_enter Tryz.func74,Tryz.ntmps74;go_upto_region 1 with(fail);generalize w.alloc (.cells #[.int .u32 num, .string data] 160)=wa at *;have x0:wa.cell? ⟨w.heap.size,0,none⟩=some (.int .u32 num):=by rw[cell_of_row _ _ _ _ _ _ hx];rfl
 have hlx:=lt_of_block hx;have p1:wa.cell? ⟨p,1,none⟩=some bv:=by rw[cell_of_row _ _ _ _ _ _ hpa];rfl
 have H0:=Lib.hid (And.intro hx (And.intro hpa (And.intro hbb hoa)));clear hx hpa hbb hoa hp ho;go_wp2_with (fail);go_at_call 118;refine(jma wa p bv d.blocks num p1 (jct H0.out.2.2.2 rfl hwf) hr (by omega)).mono ?_;rintro e w1 ⟨rfl,hb1⟩;have hx1:=(hb1.block _ hlx).trans H0.out.1;have hp1:=(hb1.block p (lt_of_block H0.out.2.1)).trans H0.out.2.1;have ho1:=(Fr.of_below hb1).own H0.out.2.2.2 (by unfold BadT;decide);have hb2:=H0.out.2.2.1.trans (hb1.mono H0.out.2.2.1.size);have hlp1:=lt_of_block hp1;clear hb1 H0 x0 p1;have x0:w1.cell? ⟨w.heap.size,0,none⟩=some (.int .u32 num):=by rw[cell_of_row _ _ _ _ _ _ hx1];rfl
 have x1:w1.cell? ⟨w.heap.size,1,none⟩=some (.string data):=by rw[cell_of_row _ _ _ _ _ _ hx1];rfl
 have p1:w1.cell? ⟨p,1,none⟩=some bv:=by rw[cell_of_row _ _ _ _ _ _ hp1];rfl
 have z1:=frozen_of_row w1 p 1 _ _ hp1;have hne:p≠w.heap.size:=by omega
 have hne':w.heap.size≠p:=by omega
 have H1:=Lib.hid (And.intro hx1 (And.intro hp1 (And.intro ho1 hb2)));have hob:=jb8 ho1 hp1 (by decide);have HLT:=Lib.hid hlt;have HPL:=Lib.hid (fun(h:jer d.blocks num=true)=>blkPos_lt h);clear hx1 hp1 ho1 hb2 hlt hob;cases hh:jer d.blocks num with
 |true=>
  have hpl:=HPL.out hh;obtain⟨g,cap,hv,hg0,hgl⟩:=H1.out.2.2.1.form (by omega);subst hv;have hgp:g≠p:=fun e=>jb8 H1.out.2.2.1 H1.out.2.1 (by decide) (by rw[e];rfl)
  have hgx:g≠w.heap.size:=by have:=HLT.out g rfl;omega
  cases hd:data.toList.isEmpty with
  |true=>
   have hput:putB d.blocks ⟨num,data⟩=d.blocks.eraseIdx (jbr d.blocks num):=by unfold putB;simp[hh,hd]
   have hdd:data=ByteArray.mk #[]:=jky hd;subst hdd;have HPUT:=Lib.hid hput;clear hput hh hd;generalize jbr d.blocks num=ix at *;go_wp2_with (fail);go_at_call 134;refine(delBlk_any w1 B g cap ix d.blocks H1.out.2.2.1 hwf hpl (by omega)).mono ?_;rintro e w2 ⟨rfl,ho2,hg2⟩;have hp2:=(hg2.block p hlp1 (by simp;omega)).trans H1.out.2.1;have z2:=frozen_of_row w2 p 1 _ _ hp2;have p2:w2.cell? ⟨p,1,none⟩=some (.slice (some ⟨g,0,none⟩) d.blocks.length cap):=by rw[cell_of_row _ _ _ _ _ _ hp2];rfl
   have hel:(d.blocks.eraseIdx ix).length=d.blocks.length - 1:=by rw[List.length_eraseIdx,if_pos hpl]
   have HF:=Lib.hid (show PutTo B w (w2.setCell ⟨p,1,none⟩ (.slice (some ⟨g,0,none⟩) (d.blocks.length - 1) cap)) p d (.slice (some ⟨g,0,none⟩) d.blocks.length cap) wv n ⟨num,⟨#[]⟩⟩from
    putTo_mk hp2 (by rw[HPUT.out,hel];exact ho2) (fun q hq=>Or.inl hq) ((Grown2.of_below H1.out.2.2.2).step hg2 (Or.inr (Or.inl rfl))))
   clear hp2 ho2 hg2 hel;go_wp2_with (fail);go_end0;exact⟨rfl,HF.out⟩
  |false=>
   have hput:putB d.blocks ⟨num,data⟩=d.blocks.set (jbr d.blocks num) ⟨num,data⟩:=by unfold putB;simp[hh,hd]
   have HPUT:=Lib.hid hput;have hset:=set_rowE blkE (i:=jbr d.blocks num) H1.out.2.2.1 hwf hpl ⟨num,data⟩ hb;have hcl:=H1.out.2.2.1.cells (g:=g) rfl;obtain⟨cur,hcur⟩:∃cur,w1.heap[g]? =some (.cells cur 160 (0,0)):=by
    rcases H1.out.2.2.1.2 with⟨h0,_⟩|⟨g',cp',cur',h0,_,h3,_⟩
    ·cases h0
    ·simp only[Value.slice.injEq,Option.some.injEq,Addr.mk.injEq,and_true,true_and]at h0;obtain⟨rfl,rfl⟩:=h0;exact⟨cur',h3⟩
   have hfl:=jfg blkE d.blocks hwf (jbr d.blocks num) hpl;have e0:w1.cell? ⟨g,jbr d.blocks num * 2,none⟩=some (.int .u32 (d.blocks[jbr d.blocks num]).num):=by
    have:=hcl (jbr d.blocks num * 2) _ (by have:=hfl 0 (by decide);exact this);simpa[jcl]using this
   have e1:w1.cell? ⟨g,jbr d.blocks num * 2 + 1,none⟩=some (.string (d.blocks[jbr d.blocks num]).data):=by
    have:=hcl (jbr d.blocks num * 2 + 1) _ (by have:=hfl 1 (by decide);exact this);simpa[jcl]using this
   have f0:=frozen_of_row w1 g (jbr d.blocks num * 2) _ _ hcur;have f1:=frozen_of_row w1 g (jbr d.blocks num * 2 + 1) _ _ hcur;have HF:=Lib.hid (And.intro hset hput);clear hput hh hcl hcur hfl hset;generalize d.blocks[jbr d.blocks num].num=u0 at *;generalize d.blocks[jbr d.blocks num].data=u1 at *;generalize jbr d.blocks num=ix at *;go_wp2_with (fail);go_region;go_end0;have hgr:=HF.out.1.2;refine⟨rfl, .slice (some ⟨g,0,none⟩) d.blocks.length cap,?_,?_,fun g' h=>Or.inl h,?_⟩
   ·exact(hgr.block p hlp1 (by simp;omega)).trans H1.out.2.1
   ·rw[HF.out.2,List.length_set];exact HF.out.1.1.drew
   ·exact((Grown2.of_below H1.out.2.2.2).step hgr (Or.inr (Or.inl rfl))).drew
 |false=>
  cases hd:data.toList.isEmpty with
  |true=>
   have hput:putB d.blocks ⟨num,data⟩=d.blocks:=by unfold putB;simp[hh,hd]
   have hdd:data=ByteArray.mk #[]:=jky hd;subst hdd;have HPUT:=Lib.hid hput;clear hput hh hd;generalize jbr d.blocks num=ix at *;go_wp2_with (fail);go_end0;exact⟨rfl,_,H1.out.2.1,by rw[HPUT.out];exact H1.out.2.2.1,fun g hg=>Or.inl hg,Grown2.of_below H1.out.2.2.2⟩
  |false=>
   have hput:putB d.blocks ⟨num,data⟩=d.blocks.insertIdx (jbr d.blocks num) ⟨num,data⟩:=by unfold putB;simp[hh,hd]
   have HPUT:=Lib.hid hput;have hpos:jbr d.blocks num≤d.blocks.length:=posOf_le _ _;obtain⟨A,m,c,rfl⟩:=jan H1.out.2.2.1;have hm:=(jct (E:=blkE) H1.out.2.2.1 rfl hwf).len_eq.1;subst hm;clear hput hh;generalize jbr d.blocks num=ix at *;have hnew:=heap_alloc_new w1 (.cells #[.int .u32 num, .string data] 160);have hon:=H1.out.2.2.1.alloc (.cells #[.int .u32 num, .string data] 160);have hw1s:w.heap.size≤w1.heap.size:=H1.out.2.2.2.size;have HNB:=Lib.hid (show(Value.slice A d.blocks.length c).ownBlock≠some w1.heap.size from fun e=>by have:=HLT.out _ e;omega);have HN:=Lib.hid (And.intro hnew hon);clear hnew hon;have hp9:(w1.alloc (.cells #[.int .u32 num, .string data] 160)).heap[p]? =some (.cells (jl8 d (.slice A d.blocks.length c) wv n) 114 (0,0)):=(Lib.alloc_old w1 _ p hlp1).trans H1.out.2.1;have HC:=Lib.hid ((insBlk_any B (w1.alloc (.cells #[.int .u32 num, .string data] 160)).drew (.slice A d.blocks.length c) d.blocks.length ix w1.heap.size ⟨num,data⟩ d.blocks rfl HN.out.2.drew hwf hpos HN.out.1 HNB.out (by omega) (by simp;omega)).mono
    (R':=fun e w2=>∃g' cap',e= .returned (.slice (some ⟨g',0,none⟩) (d.blocks.length + 1) cap')∧w2.heap[p]? =some (.cells (jl8 d (.slice A d.blocks.length c) wv n) 114 (0,0))∧
     w2.ownsRow B 160 2 (.slice (some ⟨g',0,none⟩) (d.blocks.length + 1) cap') (d.blocks.length + 1) ((d.blocks.insertIdx ix ⟨num,data⟩).flatMap blkE.enc)∧(w1.alloc (.cells #[.int .u32 num, .string data] 160)).drew.grownBy w2 (Value.slice A d.blocks.length c).ownBlock∧((Value.slice A d.blocks.length c).ownBlock=some g'∨w.heap.size≤g')) (by
     rintro e w2 ⟨g',cap',rfl,ho2,hg2,hq2⟩;refine⟨g',cap',rfl,(hg2.block p (by simp;omega) (fun e=>jb8 HN.out.2 hp9 (by decide) e.symm)).trans hp9,ho2,hg2,hq2.imp id (fun h=>by simp at h;omega)⟩))
   clear hp9;go_wp2_with (fail);go_region_with (go_at_call 135;refine HC.out.mono ?_;rintro e w2 ⟨g',cap',rfl,hp2,ho2,hg2,hq2⟩;have p2:w2.cell? ⟨p,1,none⟩=some (.slice A d.blocks.length c):=(by rw[cell_of_row _ _ _ _ _ _ hp2];rfl);have z2:=frozen_of_row w2 p 1 _ _ hp2;have HG:=Lib.hid (And.intro hp2 (And.intro ho2 (And.intro hg2 hq2)));clear hp2 ho2 hg2 hq2);all_goals(
    go_end0;have hlen:(d.blocks.insertIdx ix ⟨num,data⟩).length=d.blocks.length + 1:=List.length_insertIdx_of_le_length hpos _;have hput:=putTo_mk (w:=w) (n:=n) (bv:= .slice A d.blocks.length c) HG.out.1 (by rw[HPUT.out,hlen];exact HG.out.2.1) (fun q hq=>?_) ((((Grown2.of_below H1.out.2.2.2).step' (World.grownBy_alloc w1 (.cells #[.int .u32 num, .string data] 160) none) (fun q hq=>by cases hq)).drew).step' HG.out.2.2.1 (fun q hq=>Or.inr (Or.inl hq)))
    ·exact⟨rfl,hput⟩
    ·have hq':g'=q:=by simpa[Value.ownBlock]using hq
     rw[←hq'];exact HG.out.2.2.2)
#print axioms dvPut_any
structure Sup where
 size:Int
 gen:Int
 table:Int
 hash:List Int
def noSup:Sup:=⟨0,0,0,jbm⟩
def supB(s:Sup):Bool:=(decide (16≤s.size) && decide (s.size≤65536)) && ((decide (1≤s.gen) && decide (s.gen≤4611686018427387904)) && (jd1 s.table && decide (s.table < s.size)))
def supL(s:Sup):List UInt8:=[67,66] ++ (numU s.size 4 ++ (numU s.gen 8 ++ (numU s.table 4 ++ hashU s.hash)))
def jbl(s:Sup):ByteArray:=⟨(jcw (supL s)).toArray⟩
def supTk(data:ByteArray):Tk:=⟨(fillB data).extract 6 512,false⟩
def supOf(data:ByteArray):Sup:=
 ⟨(numT (supTk data) 4).1,(numT (numT (supTk data) 4).2 8).1,(numT (numT (numT (supTk data) 4).2 8).2 4).1,(hashT (numT (numT (numT (supTk data) 4).2 8).2 4).2).1⟩
def jcj(data:ByteArray):Option Sup:=if 512 < data.size then none else if supB (supOf data)=true∧beqB (jbl (supOf data)) data=true then some (supOf data)else none
theorem supL_length(s:Sup)(hh:jd7 s.hash):(supL s).length=50:=by
 unfold supL;simp only[List.length_append,jaw,hashU,List.length_map,hh.1];rfl
theorem sup_enc(s:Sup)(hb:supB s=true)(hh:jd7 s.hash):(jbl s).size≤512∧supOf (jbl s)=s:=by
 have hsl:=supL_length s hh;have hpl:(padTo 508 (supL s)).length=508:=by unfold padTo;simp;omega
 have hn4:(numB (crcOf (padTo 508 (supL s))) 4).data.toList.length=4:=jaw _ 4;have hfl:fillB (jbl s)=⟨((numB (crcOf (padTo 508 (supL s))) 4).data.toList ++ padTo 508 (supL s)).toArray⟩:=by
  unfold fillB jbl jcw;apply jgq;show padTo 512 (Lib.trimRightB _ 0)=_
  rw[trim_pad _ 512 (by rw[List.length_append,hn4,hpl])]
 have htk:supTk (jbl s)=tkL (numU s.size 4 ++ (numU s.gen 8 ++ (numU s.table 4 ++ (hashU s.hash ++ List.replicate 458 0)))):=by
  unfold supTk tkL;rw[hfl];refine tk_ext (jgq ?_);rw[Lib.extract_data];show List.take (512 - 6) (List.drop 6 ((numB (crcOf (padTo 508 (supL s))) 4).data.toList ++ padTo 508 (supL s)))=_
  have h1:List.drop 6 ((numB (crcOf (padTo 508 (supL s))) 4).data.toList ++ padTo 508 (supL s))=List.drop 2 (padTo 508 (supL s)):=by
   rw[List.drop_append,hn4,List.drop_eq_nil_of_le (by omega)];rfl
  rw[h1,List.take_of_length_le (by rw[List.length_drop];omega)];unfold padTo;rw[hsl];unfold supL;generalize hashU s.hash=hu;generalize numU s.size 4=n1;generalize numU s.gen 8=n2;generalize numU s.table 4=n3;have h9:508 - 50=458:=rfl;rw[h9];generalize List.replicate 458 (0:UInt8)=zz;show List.drop 2 (67::66::(n1 ++ (n2 ++ (n3 ++ hu)) ++ zz))=_
  simp only[List.drop_succ_cons,List.drop_zero,List.append_assoc]
 have hws:(jbl s).size≤512:=by
  show(jcw (supL s)).toArray.size≤512
  unfold jcw Lib.trimRightB;have:=(List.dropWhile_sublist (fun b:UInt8=>b==0) (l:=((numB (crcOf (padTo 508 (supL s))) 4).data.toList ++ padTo 508 (supL s)).reverse)).length_le;simp only[List.length_reverse,List.length_append,hn4,hpl]at this;simpa using this
 refine⟨hws,?_⟩;unfold supB jd1 at hb;simp only[Bool.and_eq_true,decide_eq_true_eq]at hb;obtain⟨⟨b1,b2⟩,⟨b3,b4⟩,⟨b5,b6⟩,b7⟩:=hb;unfold supOf;rw[htk,jd3 s.size 4 _ (by omega) (by omega) (by omega)];simp only;rw[jd3 s.gen 8 _ (by omega) (by omega) (by omega)];simp only;rw[jd3 s.table 4 _ (by omega) (by omega) (by omega)];simp only;rw[jlt s.hash _ hh]
theorem dec_sup(s:Sup)(hb:supB s=true)(hh:jd7 s.hash):jcj (jbl s)=some s:=by
 obtain⟨h1,h2⟩:=sup_enc s hb hh;unfold jcj;rw[if_neg (by omega),h2,if_pos ⟨hb,(jga _ _).2 rfl⟩]
theorem jl3{data:ByteArray}{s:Sup}(h:jcj data=some s):supB s=true∧s=supOf data:=by
 unfold jcj at h;generalize supOf data=s0 at *;by_cases h1:512 < data.size
 ·rw[if_pos h1]at h;cases h
 ·rw[if_neg h1]at h;by_cases h2:supB s0=true∧beqB (jbl s0) data=true
  ·rw[if_pos h2]at h;injection h with h;subst h;exact⟨h2.1,rfl⟩
  ·rw[if_neg h2]at h;cases h
def slotS(s:Sup):Int:=s.gen % 2
def jcm(a b:ByteArray):List Sup:=
 match (jcj a).bind (fun s=>if slotS s=0 then some s else none),(jcj b).bind (fun s=>if slotS s=1 then some s else none)with
 |some s,some t=>if t.gen < s.gen then[s,t]else[t,s]
 |some s,none=>[s]
 |none,some t=>[t]
 |none,none=>[]
end Go.Proofs.YtpaohkkhejpgjaaGreatDoor
