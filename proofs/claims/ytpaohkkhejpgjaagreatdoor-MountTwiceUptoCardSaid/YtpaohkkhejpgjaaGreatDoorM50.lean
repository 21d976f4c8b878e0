/- Texts of the proof: De Dg Dh. -/
import Derived.Test.YtpaohkkhejpgjaaGreatDoorM12
import Derived.Test.YtpaohkkhejpgjaaGreatDoorM23
import Derived.Deep.RegionLaw
import Derived.Lib.SliceRun
import Derived.Test.YtpaohkkhejpgjaaGreatDoorM42
import Derived.Test.YtpaohkkhejpgjaaGreatDoorM34
set_option linter.all false
set_option maxRecDepth 100000
set_option maxHeartbeats 8000000
namespace Go.Proofs.YtpaohkkhejpgjaaGreatDoor
open Go Go.RowKit Go.Lib
theorem ptr_infoY:(Tryz.prog.info? 142).map (fun i=>(i.zero.map (fun z=>z.cells.size),i.size,i.bytes))=some (some 1,1,8):=by kernel_rfl
theorem zero_ptrY(w:World):(zeroValue 142).run Tryz.prog w= .ok (.pointer none) w:=by kernel_rfl
theorem run_clear_ptr(w:World)(ty:TypeId)(b o c:Nat)(hc:∀j,j < 1→(w.cell? ⟨b,o + j,none⟩).isSome=true)(hf:∀j,j < 1→w.frozen? ⟨b,o + j,none⟩=false):
 (Builtin.clear_ #[146] ty #[.slice (some ⟨b,o,none⟩) 1 c]).run Tryz.prog w= .ok (.tuple #[]) (w.setCells b o [.pointer none]):=by
 have hst:=run_storeCells_cells (P:=Tryz.prog) b o [.pointer none] 0 w (by simpa using hc) (by simpa using hf) (by intro v hv';simp at hv';rw[hv'];rfl);simp only[Nat.add_zero]at hst;have hzc:(Builtin.zeroCells (Value.pointer none).cells 1).toList=[.pointer none]:=by kernel_rfl
 simp[Builtin.clear_,run_underlying Tryz.underlying146,zero_ptrY,hzc,hst]
theorem del_rowP{w:World}{base g cap i n:Nat}{l:List Nat}(hn:l.length=n)(ho:w.ownsRow base 142 1 (.slice (some ⟨g,0,none⟩) n cap) n (l.flatMap ptrE.enc))(hwf:∀x∈l,ptrE.wf x)(hi:i < n)(z:List Value)(hz:∀x∈z,∀s,x≠ .string s)(hns:NoStr w (.slice (some ⟨g,0,none⟩) n cap)):
 ((w.setCells g (i) ((l.drop (i + 1)).flatMap ptrE.enc)).setCells g ((n - 1)) z).ownsRow base 142 1 (.slice (some ⟨g,0,none⟩) (n - 1) cap) (n - 1) ((l.eraseIdx i).flatMap ptrE.enc)∧w.grownBy ((w.setCells g (i) ((l.drop (i + 1)).flatMap ptrE.enc)).setCells g ((n - 1)) z) (some g)∧NoStr ((w.setCells g (i) ((l.drop (i + 1)).flatMap ptrE.enc)).setCells g ((n - 1)) z) (.slice (some ⟨g,0,none⟩) (n - 1) cap):=by
 obtain⟨hl0,h2⟩:=ho;rcases h2 with⟨h0,_⟩|⟨g',cap',cur,h0,hb,hg,hr,hc,hcur,ht⟩
 ·cases h0
 ·simp only[Value.slice.injEq,Option.some.injEq,Addr.mk.injEq,and_true,true_and]at h0;obtain⟨rfl,rfl⟩:=h0;have hwd:∀x∈l.drop (i + 1),ptrE.wf x:=fun x hx=>hwf x ((List.drop_sublist _ _).subset hx)
  have hnl:((l.drop (i + 1)).flatMap ptrE.enc).length=(n - (i + 1)):=by rw[jbb ptrE _ hwd,List.length_drop,hn];exact Nat.mul_one _
  have her:l.eraseIdx i=l.take i ++ l.drop (i + 1):=List.eraseIdx_eq_take_drop_succ l i;have hwt:∀x∈l.take i,ptrE.wf x:=fun x hx=>hwf x ((List.take_sublist _ _).subset hx)
  have htl:((l.take i).flatMap ptrE.enc).length=i:=by rw[jbb ptrE _ hwt,List.length_take,hn,Nat.min_eq_left (by omega)];exact Nat.mul_one _
  obtain⟨c1,a1,a2,a3,a4⟩:=jbq g ((l.drop (i + 1)).flatMap ptrE.enc) (i) w cur _ hg;obtain⟨c2,b1,b2,b3,b4⟩:=jbq g z ((n - 1)) _ c1 _ a1;have hel:((l.eraseIdx i).flatMap ptrE.enc).length=(n - 1):=by
   rw[her,List.flatMap_append,List.length_append,htl,hnl];omega
  refine⟨⟨hel.trans (Nat.mul_one _).symm,Or.inr ⟨g,cap,c2,rfl,hb,b1,by omega,hc,by rw[b2,a2];exact hcur,?_⟩⟩,jag a4 b4,?_⟩
  rotate_left
  ·intro g' cs' t' fr' ho' hg' x hx s;have e:g=g':=by simpa[Value.ownBlock]using ho'
   subst e;rw[b1]at hg';injection hg' with hg';injection hg' with hg' _ _;subst hg';obtain⟨j,hj,rfl⟩:=List.getElem_of_mem hx;have hj':c2[j]? =some c2.toList[j]:=by rw[Array.getElem?_eq_getElem (by simpa using hj)];simp
   rw[b3 j]at hj';split at hj'
   ·exact hz _ (List.mem_of_getElem? hj') s
   ·rw[a3 j]at hj';split at hj'
    ·obtain⟨y,_,hy⟩:=List.mem_flatMap.1 (List.mem_of_getElem? hj');have hy:c2.toList[j]= .pointer (some ⟨y,0,none⟩):=by simpa[ptrE]using hy
     rw[hy];simp
    ·exact hns g _ _ _ rfl hg _ (by rw[Array.mem_toList_iff];exact Array.mem_of_getElem? hj') s
  rw[Nat.mul_one];apply List.ext_getElem?;intro j;by_cases hj:j < (n - 1)
  ·rw[List.getElem?_take,if_pos hj,Array.getElem?_toList,b3 j,if_neg (by omega),a3 j,her,List.flatMap_append];by_cases hj1:j < i
   ·rw[if_neg (by omega),List.getElem?_append_left (by omega)];have h9:cur[j]? =(l.flatMap ptrE.enc)[j]? :=by rw[←ht,List.getElem?_take,if_pos (by omega),Array.getElem?_toList]
    rw[h9];have h8:l.flatMap ptrE.enc=(l.take i).flatMap ptrE.enc ++ (l.drop i).flatMap ptrE.enc:=by rw[←List.flatMap_append,List.take_append_drop]
    rw[h8,List.getElem?_append_left (by omega)]
   ·rw[if_pos (by rw[hnl,hcur];omega),List.getElem?_append_right (by omega),htl]
  ·rw[List.getElem?_eq_none (by rw[List.length_take,Array.length_toList,b2,a2,hcur];omega),List.getElem?_eq_none (by omega)]
theorem delPtr_any(w:World)(base g cap i:Nat)(l:List Nat)(ho:w.ownsRow base 142 1 (.slice (some ⟨g,0,none⟩) l.length cap) l.length (l.flatMap ptrE.enc))(hwf:∀x∈l,ptrE.wf x)(hi:i < l.length)(hmax:l.length≤1073741824)(hns:NoStr w (.slice (some ⟨g,0,none⟩) l.length cap)):
 Calls Tryz.prog 193 #[.slice (some ⟨g,0,none⟩) l.length cap, .int .i64 i, .int .i64 (i + 1)] w fun e w'=>e= .returned (.slice (some ⟨g,0,none⟩) (l.length - 1) cap)∧
  w'.ownsRow base 142 1 (.slice (some ⟨g,0,none⟩) (l.length - 1) cap) (l.length - 1) ((l.eraseIdx i).flatMap ptrE.enc)∧w.grownBy w' (some g)∧NoStr w' (.slice (some ⟨g,0,none⟩) (l.length - 1) cap):=by
 obtain⟨i0,z0,hi0,hz0,hz1,hz2,hzs⟩:=jbw ptr_infoY;have hcap:l.length≤cap∧cap≤9223372036854775807:=by
  rcases ho.2 with⟨h0,_⟩|⟨g',cp',cur',h0,_,_,h4,h5,_⟩
  ·cases h0
  ·injection h0 with _ _ h0;subst h0;exact⟨h4,by unfold maxLen at h5;omega⟩
 obtain⟨hc1,hc2⟩:=hcap;have hcl:=ho.cells (g:=g) rfl;have hrow:∃cur,w.heap[g]? =some (.cells cur 142 (0,0))∧cur.size=cap * 1:=by
  rcases ho.2 with⟨h0,_⟩|⟨g',cp',cur',h0,_,h3,_,_,h6,_⟩
  ·cases h0
  ·simp only[Value.slice.injEq,Option.some.injEq,Addr.mk.injEq,and_true,true_and]at h0;obtain⟨rfl,rfl⟩:=h0;exact⟨cur',h3,h6⟩
 obtain⟨cur,hcur,hcs⟩:=hrow;have hwd:∀x∈l.drop (i + 1),ptrE.wf x:=fun x hx=>hwf x ((List.drop_sublist _ _).subset hx)
 have hnl:((l.drop (i + 1)).flatMap ptrE.enc).length=(l.length - (i + 1)):=by rw[jbb ptrE _ hwd,List.length_drop];exact Nat.mul_one _
 have hng:∀j u,((l.drop (i + 1)).flatMap ptrE.enc)[j]? =some u→w.cell? ⟨g,(i + 1) + j,none⟩=some u:=by
  intro j u hj;have h8:l.flatMap ptrE.enc=(l.take (i + 1)).flatMap ptrE.enc ++ (l.drop (i + 1)).flatMap ptrE.enc:=by rw[←List.flatMap_append,List.take_append_drop]
  have hwt:∀x∈l.take (i + 1),ptrE.wf x:=fun x hx=>hwf x ((List.take_sublist _ _).subset hx)
  have htl:((l.take (i + 1)).flatMap ptrE.enc).length=(i + 1):=by rw[jbb ptrE _ hwt,List.length_take,Nat.min_eq_left (by omega)];exact Nat.mul_one _
  have:=hcl ((i + 1) + j) u (by rw[h8,List.getElem?_append_right (by omega),htl,Nat.add_sub_cancel_left];exact hj);rw[jcl,Nat.zero_add]at this;exact this
 have hfin:=del_rowP rfl ho.drew hwf hi [.pointer none] (by intro x hx s;simp at hx;subst hx;simp) hns;have h1c:=jh8 ptrE _ hwd;obtain⟨news,hnews⟩:∃news,(l.drop (i + 1)).flatMap ptrE.enc=news:=⟨_,rfl⟩
 rw[hnews]at hnl hng hfin h1c;have hspare:∀j,j < news.length→(w.drew.cell? ⟨g,0 + i + j,none⟩).isSome=true∧w.drew.frozen? ⟨g,0 + i + j,none⟩=false:=by
  intro j hj;have hg':w.drew.heap[g]? =some (.cells cur 142 (0,0)):=hcur;refine⟨?_,frozen_of_row _ _ _ _ _ hg'⟩;rw[cell_of_row _ _ _ _ _ _ hg'];simp only[Array.getElem?_eq_getElem (show 0 + i + j < cur.size by omega),Option.isSome_some]
 obtain⟨A,hA,hnA⟩:∃A:Addr,(if cap=i + 1 then some (⟨g,0,none⟩:Addr)else some ⟨g,(i + 1),none⟩)=some A∧Hid (∀j u,news[j]? =some u→w.drew.cell? (A.add j)=some u):=by
  by_cases h:cap=i + 1
  ·refine⟨⟨g,0,none⟩,by simp[h],Lib.hid fun j u hu=>?_⟩;have h0:news.length=0:=by omega
   rw[List.length_eq_zero_iff.1 h0]at hu;simp at hu
  ·refine⟨⟨g,(i + 1),none⟩,by simp[h],Lib.hid fun j u hu=>?_⟩;rw[jcl];exact hng j u hu
 have HO:=Lib.hid (And.intro hnl (And.intro hfin (And.intro hspare (And.intro h1c (And.intro hcur hcs)))));clear ho hwf hns hnews hwd hnl hng hfin h1c hspare hcl hcur;generalize hn:l.length=n at *;have HN:=Lib.hid hn;clear hn;have hic:i≤cap:=by omega
 have hic1:i + 1≤cap:=by omega
 have hwr:IntKind.i64.wrap ((i:Int) + 1)=(i:Int) + 1:=by rw[IntKind.wrap_i64];omega
 have hp0:(0:Int)≤(i:Int) + 1:=by omega
 have hp1:(i:Int) + 1≤(n:Int):=by omega
 have hp2:((i:Int) + 1).toNat=i + 1:=by omega
 have hq:((i:Int)==(i:Int) + 1)=false:=by simp;omega
 go_enter Tryz.func193,Tryz.ntmps193;go_wp2_with (fail);go_region_law (refine step_append_room rfl (.tmp 22) (.tmp 25) 146 rfl 142 i0 1 Tryz.underlying146 hi0 hz1 g 0 i cap (by simp[Act.eval,Act.put]) A (n - (i + 1)) (cap - (i + 1)) news (by simp[Act.eval,Act.put]) (HO.out.1.trans (Nat.mul_one _).symm) hnA.out HO.out.2.2.2.1 (by omega) (fun j hj=>by rw[Nat.mul_one];exact HO.out.2.2.1 j hj) ?_);have hsum:i + (n - (i + 1))=n - 1:=by omega
 have hsub:n - (n - 1)=1:=by omega
 have hcne:¬cap=n - 1:=by omega
 have hb1:(0:Int)≤((n - 1:Nat):Int):=by omega
 have hb2:((n - 1:Nat):Int)≤(n:Int):=by omega
 have hb3:n - 1≤n:=by omega
 have hclr:∀ty,(Builtin.clear_ #[146] ty #[.slice (some ⟨g,(n - 1),none⟩) 1 (cap - (n - 1))]).run Tryz.prog (w.drew.setCells g (i) news)= .ok (.tuple #[]) ((w.drew.setCells g (i) news).setCells g ((n - 1)) [.pointer none]):=fun ty=>by
  obtain⟨c1,a1,a2,_,_⟩:=jbq g news (i) w.drew cur 142 HO.out.2.2.2.2.1;refine run_clear_ptr _ ty g ((n - 1)) _ (fun j hj=>?_) (fun j hj=>frozen_of_row _ _ _ _ _ a1);rw[cell_of_row _ _ _ _ _ _ a1];have:=HO.out.2.2.2.2.2;simp only[Array.getElem?_eq_getElem (show(n - 1) + j < c1.size by omega),Option.isSome_some]
 go_wp2_with (fail);go_ret;refine⟨rfl,?_⟩;have h9:=HO.out.2.1;exact⟨h9.1,⟨h9.2.1.os,h9.2.1.tape,h9.2.1.output,h9.2.1.size,h9.2.1.block⟩,h9.2.2⟩
end Go.Proofs.YtpaohkkhejpgjaaGreatDoor
namespace Go.Proofs.YtpaohkkhejpgjaaGreatDoor
open Go Go.RowKit
theorem cell_nodeY{w:World}{q:Nat}{c:CC}(h:CellAt w q c)(hk:ccWf c):∃A1 n1 c1 A2 n2 c2 A3 n3 c3,w.cell? ⟨q,3,none⟩=some (.int .u8 c.node.kind)∧w.cell? ⟨q,4,none⟩=some (.slice A1 n1 c1)∧w.cell? ⟨q,5,none⟩=some (.slice A2 n2 c2)∧w.cell? ⟨q,6,none⟩=some (.slice A3 n3 c3)∧
 NodeV w (.agg #[.int .u8 c.node.kind, .slice A1 n1 c1, .slice A2 n2 c2, .slice A3 n3 c3]) c.node:=by
 obtain⟨vi,vk,vv,hb,h1,h2,h3⟩:=h;obtain⟨A1,n1,c1,rfl⟩:=jax h1;obtain⟨A2,n2,c2,rfl⟩:=jax h2;obtain⟨A3,n3,c3,rfl⟩:=jax h3;refine⟨A1,n1,c1,A2,n2,c2,A3,n3,c3,?_,?_,?_,?_,⟨_,_,_,rfl,h1,h2,h3,hk.kd.1,hk.kd.2⟩⟩ <;>(rw[cell_of_row _ _ _ _ _ _ hb];rfl)
theorem map_eraseY{α β:Type}(f:α→β):∀(l:List α) (i:Nat),(l.map f).eraseIdx i=(l.eraseIdx i).map f
 |[],_=>rfl
 |_::_,0=>rfl
 |a::l,i + 1=>by
  show f a::(l.map f).eraseIdx i=f a::(l.eraseIdx i).map f
  rw[map_eraseY f l i]
theorem ids_erase(pcs:List (Nat×CC))(i:Nat):((pcs.map (·.1)).eraseIdx i).flatMap ptrE.enc=ptrsV (pcs.eraseIdx i):=by
 rw[map_eraseY,ptr_flat];rfl
theorem St.erased{B:Nat}{w wd:World}{p:Nat}{sz:Int}{pcs:List (Nat×CC)}(h:St B w p sz pcs)(i:Nat){g n cap:Nat}(hv:w.cell? ⟨p,1,none⟩=some (.slice (some ⟨g,0,none⟩) n cap)){v':Value}
 (ho:wd.ownsRow B 142 1 v' (pcs.eraseIdx i).length (ptrsV (pcs.eraseIdx i))) (hns:NoStr wd v') (hgr:w.grownBy wd (some g)):
 St B (wd.setCell ⟨p,1,none⟩ v') p sz (pcs.eraseIdx i)∧Fr w (wd.setCell ⟨p,1,none⟩ v')∧Below B w (wd.setCell ⟨p,1,none⟩ v')∧(∀x∈pcs,CellAt (wd.setCell ⟨p,1,none⟩ v') x.1 x.2)∧wd.cell? ⟨p,1,none⟩=some (.slice (some ⟨g,0,none⟩) n cap)∧wd.frozen? ⟨p,1,none⟩=false:=by
 obtain⟨v0,a0,hp,hold⟩:=h.row;have hv0:v0= .slice (some ⟨g,0,none⟩) n cap:=by
  rw[cell_of_row _ _ _ _ _ _ hp]at hv;simpa using hv
 subst hv0;have hnw:=h.noStr hv;have hfr:=append_fr hold hnw (w':=wd) hgr;have hplt:=lt_of_block hp;have hpd:wd.heap[p]? =some (.cells #[.int .u32 sz, .slice (some ⟨g,0,none⟩) n cap, .int .i64 a0] 150 (0,0)):=by
  rw[hgr.block p hplt (fun e=>jb8 hold hp (by decide) e.symm)];exact hp
 have hcs:∀x∈pcs,CellAt wd x.1 x.2:=by
  intro x hx;have hc:=(h.cells x hx).1;obtain⟨_,_,_,hb,_⟩:=id hc;exact hc.keep hfr.soft (hgr.block x.1 (lt_of_block hb) (fun e=>jb8 hold hb (by decide) e.symm))
 have hsub:∀x∈pcs.eraseIdx i,x∈pcs:=fun x hx=>(List.eraseIdx_sublist pcs i).subset hx
 have hr:=St.newRow (pcs:=pcs.eraseIdx i) h.low hpd (jlx hold) ho hns (fun x hx=>⟨hcs x (hsub x hx),(h.cells x (hsub x hx)).2⟩) (h.nodup.sublist ((List.eraseIdx_sublist pcs i).map _)) (fun x hx=>h.wf x (hsub x hx));have hbl:Below B w wd:=(Below.refl B w).grown hgr (Nat.le_of_lt (Nat.lt_of_le_of_lt h.low hplt)) (fun k hk=>by cases hk;exact(hold.lt g rfl).1);refine⟨hr.1,hfr.trans hr.2.1,hbl.trans hr.2.2,fun x hx=>?_,by rw[cell_of_row _ _ _ _ _ _ hpd];rfl,frozen_of_row _ _ _ _ _ hpd⟩;have hc:=hcs x hx;have hne:=jly hc hpd (by decide);exact hc.keep hr.2.1.soft (Below.heap_setCell _ _ _ _ hne)
theorem Lt.gone{cs:List CC}{pend:List Int}{c:CC}(h:Lt cs pend)(hc:c∈cs)(hcl:c.led≤c.refs - 1)(h0:c.refs - 1=0):
 Lt ((cs.map (rDn c.num)).eraseIdx (ja5 (jaj cs) c.num)) (jbk c.node ++ pend):=by
 have hun:=fun{x:CC} (hx:x∈cs) (hn:x.num=c.num)=>uniqW h.ris hx hc hn
 have hcnt:=h.cnt c hc;obtain⟨P,R,hcs,hpos,hP,hR⟩:=split_atW h.ris hc;have he:(cs.map (rDn c.num)).eraseIdx (ja5 (jaj cs) c.num)=P ++ R:=by
  have e1:P.map (rDn c.num)=P:=by
   conv=>rhs;rw[←List.map_id P]
   exact List.map_congr_left fun x hx=>by have:=hP x hx;unfold rDn;rw[if_neg (by omega)];rfl
  have e2:R.map (rDn c.num)=R:=by
   conv=>rhs;rw[←List.map_id R]
   exact List.map_congr_left fun x hx=>by have:=hR x hx;unfold rDn;rw[if_neg (by omega)];rfl
  rw[hpos]
  conv=>lhs;rw[hcs]
  rw[List.map_append,List.map_cons,e1,e2,List.eraseIdx_append_of_length_le (Nat.le_refl _)];simp
 rw[he];have hmem:∀x,x∈P ++ R ↔ x∈cs∧x.num≠c.num:=by
  intro x;constructor
  ·intro hx;rcases List.mem_append.1 hx with hx|hx
   ·have:=hP x hx;exact⟨by rw[hcs];simp[hx],by omega⟩
   ·have:=hR x hx;exact⟨by rw[hcs];simp[hx],by omega⟩
  ·rintro⟨hx,hn⟩;rw[hcs]at hx;rcases List.mem_append.1 hx with hx|hx
   ·exact List.mem_append_left _ hx
   ·rcases List.mem_cons.1 hx with rfl|hx
    ·exact absurd rfl hn
    ·exact List.mem_append_right _ hx
 have hak:∀n,(jbp (jaz cs) n:Int)=jbp (jbk c.node) n + jbp (jaz (P ++ R)) n:=by
  intro n;have e:jaz cs=jaz P ++ (jbk c.node ++ jaz R):=by rw[hcs];unfold jaz;simp
  have e':jaz (P ++ R)=jaz P ++ jaz R:=by unfold jaz;simp
  rw[e,e',countL_app,countL_app,countL_app];omega
 have hz:jbp (jaz cs) c.num=0∧jbp pend c.num=0:=by omega
 have hno:∀x∈cs,∀t∈jbk x.node,t≠c.num:=fun x hx t ht e=>by
  have:=countL_mem (kids_in hx ht);rw[e]at this;omega
 have hin:∀n∈jaj cs,n≠c.num→n∈jaj (P ++ R):=by
  intro n hn hne;obtain⟨x,hx,rfl⟩:=List.mem_map.1 hn;exact List.mem_map.2 ⟨x,(hmem x).2 ⟨hx,hne⟩,rfl⟩
 have hris:(jaj (P ++ R)).Pairwise (· < ·):=by
  have:=h.ris;rw[hcs]at this;unfold jaj at this ⊢;refine this.sublist ?_;rw[List.map_append,List.map_append];exact List.Sublist.append (List.Sublist.refl _) (List.sublist_cons_self _ _)
 refine⟨fun x hx=>h.dec x ((hmem x).1 hx).1,hris,fun x hx k hk=>?_,fun x hx=>?_,fun t ht=>?_⟩
 ·have hx':=((hmem x).1 hx).1;obtain⟨y,hy,y1,y2⟩:=h.lds x hx' k hk;refine⟨y,(hmem y).2 ⟨hy,?_⟩,y1,y2⟩;rw[y1];have hd:=h.dec x hx';have hsh:=(jh4 hd.1).1;rw[←hd.2]at hsh;exact hno x hx' k.num (by rw[←jjv hsh];exact List.mem_map.2 ⟨k,hk,rfl⟩)
 ·obtain⟨hx',hne⟩:=(hmem x).1 hx;have h1:=h.cnt x hx';have h2:=hak x.num;rw[countL_app];refine⟨by omega,h1.2⟩
 ·rcases List.mem_append.1 ht with ht|ht
  ·have hne:=hno c hc t ht;have hd:=h.dec c hc;have hsh:=(jh4 hd.1).1;rw[←hd.2]at hsh;rw[←jjv hsh]at ht;obtain⟨k,hk,rfl⟩:=List.mem_map.1 ht;obtain⟨y,hy,y1,_⟩:=h.lds c hc k hk;exact hin _ (by rw[←y1];exact List.mem_map.2 ⟨y,hy,rfl⟩) hne
  ·have hne:t≠c.num:=fun e=>by
    have:=countL_mem ht;rw[e]at this;omega
   exact hin t (h.pnd t ht) hne
def goneF(f:Nat)(cs:List CC)(k:Int):List CC:=if jba (jaj cs) k then letS f k (cs.map (lDn k))else cs
theorem letS_succ(f:Nat)(t:Int)(cs:List CC):letS (f + 1) t cs=if je3 cs t - 1=0 then(kidsOf cs t).foldl (goneF f) ((cs.map (rDn t)).eraseIdx (ja5 (jaj cs) t))else cs.map (rDn t):=rfl
def LetPost(B:Nat)(w:World)(p:Nat)(sz:Int)(res:List CC)(e:Ending)(w':World):Prop:=
 e= .returned (.tuple #[])∧∃qcs,St B w' p sz qcs∧qcs.map (·.2)=res∧Fr w w'∧Below B w w'
def LetAt(f:Nat):Prop:=∀(B:Nat) (w:World) (p:Nat) (sz:Int) (pcs:List (Nat×CC)) (t:Int) (pend:List Int),St B w p sz pcs→B≤w.heap.size→Lt (pcs.map (·.2)) pend→pcs.length < f→pcs.length≤1073741824→(∃c∈pcs.map (·.2),c.num=t∧c.led≤c.refs - 1)→
 Calls Tryz.prog 123 #[.pointer (some ⟨p,0,none⟩), .int .u32 t] w (LetPost B w p sz (letS f t (pcs.map (·.2))))
theorem dn_map{pcs:List (Nat×CC)}(hnd:(pcs.map (·.1)).Nodup)(hso:jdk (nums pcs)){x:Nat×CC}(hx:x∈pcs){t:Int}(ht:x.2.num=t){d:CC}{q:CC→CC}(hd:q x.2=d)(ho:∀c:CC,c.num≠t→q c=c):
 (pcs.map fun y=>if y.1=x.1 then(y.1,d)else y).map (·.2)=(pcs.map (·.2)).map q:=by
 rw[map_one hnd hx d (fun y=>(y.1,q y.2)) (by rw[hd]) (fun y hy hne=>by
  have:¬y.2.num=t:=fun e=>hne (jhu hso hy hx (by rw[e,ht]))
  rw[ho _ this])]
 rw[List.map_map,List.map_map];rfl
theorem Lt.rises{pcs:List (Nat×CC)}{pend:List Int}(h:Lt (pcs.map (·.2)) pend):jdk (nums pcs):=by
 rw[nums_cc];exact jc3 h.ris
theorem lt_cell{pcs:List (Nat×CC)}{pend:List Int}(h:Lt (pcs.map (·.2)) pend){t:Int}(ht:t∈jaj (pcs.map (·.2))):∃x,je8 pcs t=some x∧x∈pcs∧x.2.num=t∧pcs[ja5 (nums pcs) t]? =some x:=by
 have hh:jba (nums pcs) t=true:=by rw[nums_cc];exact(jez h.ris t).2 ht
 cases hc:je8 pcs t with
 |none=>
  exfalso;have h9:=jht h.rises hc;unfold jc6 at h9;rw[List.find?_eq_none]at h9;obtain⟨c,hm,hn⟩:=List.mem_map.1 ht;exact absurd hn (by simpa using h9 c hm)
 |some x=>
  obtain⟨h1,h2⟩:=jjk hc;refine⟨x,rfl,h1,h2,?_⟩;unfold je8 at hc;rw[if_pos hh]at hc;exact hc
theorem rem_any(f:Nat)(hlet:LetAt f)(B:Nat)(w:World)(p:Nat)(sz:Int)(pcs:List (Nat×CC))(i:Nat)(x:Nat×CC)(pend:List Int)(h:St B w p sz pcs)(hB:B≤w.heap.size)(hi:pcs[i]? =some x)(hlt:Lt ((pcs.eraseIdx i).map (·.2)) (jbk x.2.node ++ pend))(hf:pcs.length≤f)(hmax:pcs.length≤1073741824):
 Calls Tryz.prog 133 #[.pointer (some ⟨p,0,none⟩), .int .i64 i] w (LetPost B w p sz ((jbk x.2.node).foldl (goneF f) ((pcs.eraseIdx i).map (·.2)))):=by
 obtain⟨v,hv,hown⟩:=h.field;obtain⟨hil,hix⟩:=List.getElem?_eq_some_iff.1 hi;have hxm:x∈pcs:=by rw[←hix];exact List.getElem_mem hil
 obtain⟨g,cap,rfl,hcp⟩:∃g cap,v= .slice (some ⟨g,0,none⟩) pcs.length cap∧pcs.length≤cap:=by
  rcases hown.2 with⟨_,h0⟩|⟨g,cap,cur,rfl,_,_,h4,_⟩
  ·omega
  ·exact⟨g,cap,rfl,h4⟩
 have hcl:=hown.cells (g:=g) rfl i (.pointer (some ⟨x.1,0,none⟩)) (by unfold ptrsV;rw[List.getElem?_map,hi];rfl);rw[show(⟨g,0,none⟩:Addr).add i=⟨g,i,none⟩ by rw[jcl,Nat.zero_add]]at hcl;have hel:(pcs.eraseIdx i).length=pcs.length - 1:=by rw[List.length_eraseIdx,if_pos hil]
 have HDEL:=Lib.hid (show Calls Tryz.prog 193 #[.slice (some ⟨g,0,none⟩) pcs.length cap, .int .i64 i, .int .i64 (i + 1)] w _ from by
  have h9:=delPtr_any w B g cap i (pcs.map (·.1)) (by rw[ptr_flat,List.length_map];exact hown) (fun _ _=>trivial) (by rw[List.length_map];exact hil) (by rw[List.length_map];exact hmax) (by rw[List.length_map];exact h.noStr hv);rw[List.length_map,ids_erase,←hel]at h9;exact h9)
 have hsm:=(h.wf x hxm).small;have hwx:=h.wf x hxm;have hgl:g < w.heap.size:=(hown.lt g rfl).2;have hpl:=h.plt;have HS:=Lib.hid (And.intro h (And.intro hv (And.intro hxm (And.intro hlt (And.intro hwx hB)))));have hi0:(0:Int)≤i:=by omega
 have hi1:(i:Int) < pcs.length:=by omega
 have hi2:i < pcs.length:=hil;have hwr:IntKind.i64.wrap ((i:Int) + 1)=(i:Int) + 1:=by rw[IntKind.wrap_i64];omega
 clear h hown hi hix hxm hlt hwx;go_enter Tryz.func133,Tryz.ntmps133;go_wp2_with (fail);go_at_call 193;refine HDEL.out.mono ?_;rintro e wd ⟨rfl,ho,hgr,hns⟩;have he:=St.erased HS.out.1 i HS.out.2.1 ho hns hgr;have hd1:=he.2.2.2.2.1;have hd2:=he.2.2.2.2.2;have HE:=Lib.hid (And.intro he.1 (And.intro he.2.1 (And.intro he.2.2.1 (he.2.2.2.1 x HS.out.2.2.1))));have HEL:=Lib.hid hel;clear he ho hgr hns hv hcl;rw[hel];generalize hecs:(pcs.eraseIdx i)=ecs at *;have HECS:=Lib.hid hecs;clear hecs;rw[hel]at HE;clear hel;go_upto_region 2 with(fail);generalize wd.setCell ⟨p,1,none⟩ (.slice (some ⟨g,0,none⟩) (pcs.length - 1) cap)=w2 at *;obtain⟨A1,n1,c1,A2,n2,c2,A3,n3,c3,z0,z1,z2,z3,hnv⟩:=cell_nodeY HE.out.2.2.2 HS.out.2.2.2.2.1;have HNV:=Lib.hid hnv;have hql:x.1 < w2.heap.size:=block_lt_of_cell z0;clear hnv hd1 hd2;go_wp2_with (fail);go_at_call 125;refine(jj8 w2 _ x.2.node HNV.out ⟨by omega,by omega⟩).mono ?_;rintro e wk ⟨r,rfl,⟨hsl,hrow⟩,hbk⟩;have HW:=Lib.hid hsl.wf;have HK:=Lib.hid (And.intro (HE.out.1.below hbk) (And.intro (HE.out.2.2.1.trans (hbk.mono (Nat.le_trans HS.out.2.2.2.2.2 HE.out.2.2.1.size))) (HE.out.2.1.trans (Fr.of_below hbk))));obtain⟨ra,rc,rfl,hrc1,hrc2,_⟩:=hsl;have HR:=Lib.hid hrow;have HLT:=Lib.hid HS.out.2.2.2.1;clear hrow hbk z0 z1 z2 z3;have hef:ecs.length < f:=by have:=HEL.out;omega
 have hem:ecs.length≤1073741824:=by have:=HEL.out;omega
 generalize htts:jbk x.2.node=ts at *;have HTTS:=Lib.hid htts;clear htts;go_wp2_with (fail);go_loopw [6,7,32,33,34,35,36,37,38,39,40,41,42,43,44,45,46,47,48,49,50,51] (fun _ _ j _ _ _ _ _ _ _ _ _ _ _ _ _ _ _ _ _ _ _ wr=>∃(k:Nat) (rcs:List (Nat×CC)),k≤ts.length∧j= .int .i64 k∧St B wr p sz rcs∧Below B w wr∧Fr w wr∧Fr wk wr∧rcs.map (·.2)=(ts.take k).foldl (goneF f) (ecs.map (·.2))∧Lt (rcs.map (·.2)) (ts.drop k ++ pend)∧rcs.length≤ecs.length) (fun _ _ j _ _ _ _ _ _ _ _ _ _ _ _ _ _ _ _ _ _ _ _=>ts.length - (intOf j).toNat)
 case atStart=>exact⟨0,ecs,Nat.zero_le _,rfl,HK.out.1,HK.out.2.1,HK.out.2.2,Fr.refl _,rfl,HLT.out,Nat.le_refl _⟩
 case round=>
  obtain⟨k,rcs,hk,rfl,hst,hbl,hfr,hfk,hm,hl,hle⟩:=hrel;by_cases hkt:k < ts.length
  ·have hrow:=(u32_sl (hfk.own HR.out (by unfold BadT;decide)) rfl HW.out).len_eq.2.2.2;obtain⟨b2,o2,rfl,hat2,hw2⟩:=hrow k hkt;have e0:wr.cell? ⟨b2,o2 + k,none⟩=some (.int .u32 ts[k]):=by have:=hat2.cell 0 _ rfl;simpa[u32E]using this
   have hbr2:b2 < wr.heap.size:=block_lt_of_cell e0;have hdr:ts.drop k=ts[k]::ts.drop (k + 1):=List.drop_eq_getElem_cons hkt;have htk:(ts.take (k + 1)).foldl (goneF f) (ecs.map (·.2))=goneF f (rcs.map (·.2)) ts[k]:=by
    rw[hm,List.take_succ_eq_append_getElem hkt,List.foldl_append];rfl
   rw[hdr]at hl;have htm:ts[k]∈jaj (rcs.map (·.2)):=hl.pnd _ (List.mem_append_left _ List.mem_cons_self);obtain⟨y,hy1,hy2,hy3,_⟩:=lt_cell hl htm;have hyc:=hl.cnt y.2 (List.mem_map.2 ⟨y,hy2,rfl⟩);have hyl:1≤y.2.led∧y.2.led≤16777216:=by
    have h1:=countL_cons1 ts[k] (ts.drop (k + 1) ++ pend) y.2.num;rw[List.cons_append]at hyc;have:unit1 ts[k] y.2.num=1:=by unfold unit1;rw[if_pos hy3]
    omega
   have hgo:goneF f (rcs.map (·.2)) ts[k]=letS f ts[k] ((rcs.map (·.2)).map (lDn ts[k])):=by unfold goneF;rw[if_pos ((jez hl.ris _).2 htm)]
   have hris:=hl.rises;have hl2:=Lt.led (k:=ts[k]) (pend:=ts.drop (k + 1) ++ pend) hl;have hrl:rcs.length≤1073741824:=by omega
   have hex:∃c∈(rcs.map (·.2)).map (lDn ts[k]),c.num=ts[k]∧c.led≤c.refs - 1:=⟨lDn ts[k] y.2,List.mem_map.2 ⟨y.2,List.mem_map.2 ⟨y,hy2,rfl⟩,rfl⟩,by rw[lDn_num];exact hy3,by
    rw[lDn_led,lDn_refs];have:unit1 ts[k] y.2.num=1:=by unfold unit1;rw[if_pos hy3]
    omega⟩
   have hlaw:=let_law f ts[k] _ _ hl2 (by rw[List.length_map,List.length_map];omega) hex;rw[←hgo,←htk]at hlaw;have HJ:=Lib.hid (And.intro hst (And.intro hbl (And.intro hfr (And.intro hfk (And.intro hris (And.intro hy1 (And.intro hy2 (And.intro hy3 (And.intro hl2 (And.intro hlaw (And.intro hex (htk.trans hgo))))))))))));have hpl4:=hst.plt;clear hst hbl hfr hfk hm hl hat2 hrow hw2 hdr htk htm hy1 hy2 hy3 hyc hgo hris hl2 hex hlaw;generalize htt:ts[k]=t at *;go_wp2_with (fail);go_at_call 69;refine(at_any B wr p sz rcs t HJ.out.1 HJ.out.2.2.2.2.1 hrl).mono ?_;rintro e _ ⟨rfl,a,rfl⟩;rw[HJ.out.2.2.2.2.2.1];have hask:=HJ.out.1.asked a;have hfa:=Fr.asked HJ.out.1 a;have HA:=Lib.hid (And.intro hask.1 (And.intro (HJ.out.2.1.trans hask.2.2) (And.intro (HJ.out.2.2.1.trans hfa) (HJ.out.2.2.2.1.trans hfa))));clear hask hfa e0;generalize wr.setCell ⟨p,2,none⟩ (.int .i64 a)=wa at *;have r2:=HA.out.1.led_cell HJ.out.2.2.2.2.2.2.1;have f2:=HA.out.1.froz HJ.out.2.2.2.2.2.2.1 39;have l1:=HA.out.1.blt HJ.out.2.2.2.2.2.2.1;have hs1:=HA.out.1.setLed HJ.out.2.2.2.2.2.2.1 (y.2.led - 1);have hmp:=dn_map (d:={y.2 with led:=y.2.led - 1}) (q:=lDn t) HA.out.1.nodup HJ.out.2.2.2.2.1 HJ.out.2.2.2.2.2.2.1 HJ.out.2.2.2.2.2.2.2.1 (by unfold lDn;rw[if_pos HJ.out.2.2.2.2.2.2.2.1]) (fun c hc=>by unfold lDn;rw[if_neg hc]);have hln:(rcs.map fun z=>if z.1=y.1 then(z.1,{y.2 with led:=y.2.led - 1})else z).length=rcs.length:=List.length_map _
   have HB1:=Lib.hid (And.intro hs1.1 (And.intro (HA.out.2.1.trans hs1.2.2) (And.intro (HA.out.2.2.1.trans hs1.2.1) (And.intro (HA.out.2.2.2.trans hs1.2.1) hmp))));clear hs1 hmp;obtain⟨hyl1,hyl2⟩:=hyl;generalize hqc:(rcs.map fun z=>if z.1=y.1 then(z.1,{y.2 with led:=y.2.led - 1})else z)=qcs at *;clear hqc;generalize y.2.led=yl at *;go_upto_region 8 with(fail);generalize wa.setCell ⟨y.1,39,none⟩ (.int .i64 (yl - 1))=wb at *;have HC:=Lib.hid (hlet B wb p sz qcs t _ HB1.out.1 (Nat.le_trans HS.out.2.2.2.2.2 HB1.out.2.1.size) (by rw[HB1.out.2.2.2.2];exact HJ.out.2.2.2.2.2.2.2.2.1) (by omega) (by omega) (by rw[HB1.out.2.2.2.2];exact HJ.out.2.2.2.2.2.2.2.2.2.2.1));clear r2 f2;go_wp2_with (fail);go_at_call 123;refine HC.out.mono ?_;rintro e wc ⟨rfl,scs,hs,hm,hf3,hb3⟩;rw[HB1.out.2.2.2.2]at hm;have hm2:=hm.trans HJ.out.2.2.2.2.2.2.2.2.2.2.2.symm;have HD:=Lib.hid (show St B wc p sz scs∧Below B w wc∧Fr w wc∧Fr wk wc∧scs.map (·.2)=(ts.take (k + 1)).foldl (goneF f) (ecs.map (·.2))∧Lt (scs.map (·.2)) (ts.drop (k + 1) ++ pend)∧scs.length≤ecs.length from
    ⟨hs,HB1.out.2.1.trans hb3,HB1.out.2.2.1.trans hf3,HB1.out.2.2.2.1.trans hf3,hm2,by rw[hm2];exact HJ.out.2.2.2.2.2.2.2.2.2.1.1,by
     have h9:=HJ.out.2.2.2.2.2.2.2.2.2.1.2.2;rw[←hm2,List.length_map,List.length_map,List.length_map]at h9;omega⟩)
   clear hs hm hf3 hb3 hm2;go_wp2_with (fail);exact⟨⟨k + 1,scs,by omega,by go_num,HD.out⟩,by simp[intOf];omega⟩
  ·obtain rfl:k=ts.length:=by omega
   rw[List.take_length]at hm;have HF:=Lib.hid (And.intro hst (And.intro hm (And.intro hfr hbl)));clear hst hbl hfr hfk hm hl;go_wp2_with (fail)
   (first|go_end0|(simp only[Exit.inBlock,Exit.then];refine bodyPost_ret (results_none rfl _ _ _) rfl ?_)|refine bodyPost_ret (results_none rfl _ _ _) rfl ?_)
   exact⟨rfl,rcs,by rw[HECS.out,HTTS.out];exact HF.out⟩
theorem let_any:∀f,LetAt f
 |0=>fun B w p sz pcs t pend h hB hl hf=>absurd hf (Nat.not_lt_zero _)
 |f + 1=>by
  intro B w p sz pcs t pend h hB hl hf hmax hex;have hlet:=let_any f;have hris:=hl.rises;obtain⟨c0,hc0,hcn0,hcl0⟩:=hex;have htm:t∈jaj (pcs.map (·.2)):=List.mem_map.2 ⟨c0,hc0,hcn0⟩;obtain⟨x,hx1,hx2,hx3,hx4⟩:=lt_cell hl htm;have hcx:c0=x.2:=uniqW hl.ris hc0 (List.mem_map.2 ⟨x,hx2,rfl⟩) (by rw[hcn0,hx3]);subst hcx;have hcnt:=hl.cnt x.2 hc0;have hrb:1≤x.2.refs∧x.2.refs≤16777216:=by omega
  have hil:ja5 (nums pcs) t < pcs.length:=(List.getElem?_eq_some_iff.1 hx4).1;have hgone:=fun h0=>Lt.gone hl hc0 hcl0 h0
  rw[hx3]at hgone;have hrf:je3 (pcs.map (·.2)) t=x.2.refs:=by rw[←hx3];exact jem hl.ris hc0
  have hko:kidsOf (pcs.map (·.2)) t=jbk x.2.node:=by unfold kidsOf;rw[jlh hris hx1];rfl
  have hls:=letS_succ f t (pcs.map (·.2));rw[hrf,hko,←nums_cc]at hls;rw[←nums_cc]at hgone;have HH:=Lib.hid (And.intro h (And.intro hris (And.intro hx2 (And.intro hx3 (And.intro hx4 (And.intro hgone (And.intro hls hB)))))));have hpl:=h.plt;clear h hris hx2 hx3 hx4 hgone hls hl hc0 hcn0 htm hx1 hcnt hrf hko;go_enter Tryz.func123,Tryz.ntmps123;go_wp2_with (fail);go_at_call 126;refine(find_any B w p sz pcs t HH.out.1 HH.out.2.1 hmax).mono ?_;rintro e _ ⟨rfl,a,rfl⟩;have hask:=HH.out.1.asked a;have hfa:=Fr.asked HH.out.1 a;have HA:=Lib.hid (And.intro hask.1 (And.intro hask.2.2 hfa));clear hask hfa;generalize w.setCell ⟨p,2,none⟩ (.int .i64 a)=wa at *;generalize ja5 (nums pcs) t=i at *;generalize jba (nums pcs) t=hb at *;obtain⟨v,hv,hown⟩:=HA.out.1.field;obtain⟨g,cap,rfl,hcp⟩:∃g cap,v= .slice (some ⟨g,0,none⟩) pcs.length cap∧pcs.length≤cap:=by
   rcases hown.2 with⟨_,h0⟩|⟨g,cap,cur,rfl,_,_,h4,_⟩
   ·omega
   ·exact⟨g,cap,rfl,h4⟩
  have hcl:=hown.cells (g:=g) rfl i (.pointer (some ⟨x.1,0,none⟩)) (by unfold ptrsV;rw[List.getElem?_map,HH.out.2.2.2.2.1];rfl);rw[show(⟨g,0,none⟩:Addr).add i=⟨g,i,none⟩ by rw[jcl,Nat.zero_add]]at hcl;have hgl:g < wa.heap.size:=(hown.lt g rfl).2;have hpl2:=HA.out.1.plt;have r1:=HA.out.1.refs_cell HH.out.2.2.1;have f1:=HA.out.1.froz HH.out.2.2.1 2;have l1:=HA.out.1.blt HH.out.2.2.1;have hs1:=HA.out.1.setRefs HH.out.2.2.1 (x.2.refs - 1) (by omega);have hmp:=dn_map (d:={x.2 with refs:=x.2.refs - 1}) (q:=rDn t) HA.out.1.nodup HH.out.2.1 HH.out.2.2.1 HH.out.2.2.2.1 (by unfold rDn;rw[if_pos HH.out.2.2.2.1]) (fun c hc=>by unfold rDn;rw[if_neg hc]);have hqi:(pcs.map fun z=>if z.1=x.1 then(z.1,{x.2 with refs:=x.2.refs - 1})else z)[i]? =some (x.1,{x.2 with refs:=x.2.refs - 1}):=by
   rw[List.getElem?_map,HH.out.2.2.2.2.1];simp
  have hln:(pcs.map fun z=>if z.1=x.1 then(z.1,{x.2 with refs:=x.2.refs - 1})else z).length=pcs.length:=List.length_map _;have HB1:=Lib.hid (And.intro hs1.1 (And.intro (HA.out.2.1.trans hs1.2.2) (And.intro (HA.out.2.2.trans hs1.2.1) (And.intro hmp hqi))));have hi0:(0:Int)≤i:=by omega
  have hi1:(i:Int) < pcs.length:=by omega
  clear hs1 hmp hqi hown;generalize hqc:(pcs.map fun z=>if z.1=x.1 then(z.1,{x.2 with refs:=x.2.refs - 1})else z)=qcs at *;clear hqc;obtain⟨hrb1,hrb2⟩:=hrb;have HND:=Lib.hid (show({x.2 with refs:=x.2.refs - 1}:CC).node=x.2.node from rfl);generalize hxc:({x.2 with refs:=x.2.refs - 1}:CC)=xc at *;have HXR:=Lib.hid (show xc.refs=x.2.refs - 1 by rw[←hxc]);clear hxc;have hwr:IntKind.i64.wrap (x.2.refs - 1)=x.2.refs - 1:=by rw[IntKind.wrap_i64];omega
  obtain⟨xr,hxr⟩:∃xr,x.2.refs=xr:=⟨_,rfl⟩
  have HXR2:=Lib.hid hxr;rw[hxr]at r1 hwr hrb1 hrb2 hcl0;rw[hxr]at HB1 HH;clear hxr;go_upto_region 2 with(fail);generalize wa.setCell ⟨x.1,2,none⟩ (.int .i64 (xr - 1))=wb at *;have hxm2:(x.1,xc)∈qcs:=List.mem_of_getElem? HB1.out.2.2.2.2;obtain⟨v3,hv3,hown3⟩:=HB1.out.1.field;obtain⟨g3,cap3,rfl,hcp3⟩:∃g cap,v3= .slice (some ⟨g,0,none⟩) qcs.length cap∧qcs.length≤cap:=by
   rcases hown3.2 with⟨_,h0⟩|⟨g,cap,cur,rfl,_,_,h4,_⟩
   ·omega
   ·exact⟨g,cap,rfl,h4⟩
  have hcl3:=hown3.cells (g:=g3) rfl i (.pointer (some ⟨x.1,0,none⟩)) (by unfold ptrsV;rw[List.getElem?_map,HB1.out.2.2.2.2];rfl);rw[show(⟨g3,0,none⟩:Addr).add i=⟨g3,i,none⟩ by rw[jcl,Nat.zero_add]]at hcl3;have hgl3:g3 < wb.heap.size:=(hown3.lt g3 rfl).2;have r3:=HB1.out.1.refs_cell hxm2;have l3:=HB1.out.1.blt hxm2;rw[show(x.1,xc).2.refs=xr - 1 by rw[←HXR2.out];exact HXR.out]at r3;have hi3:(i:Int) < qcs.length:=by omega
  clear hown3 r1 f1 hv hcl hxm2;by_cases h0:xr - 1=0
  ·have h0b:(xr - 1==0)=true:=by simp[h0]
   have HC:=Lib.hid (rem_any f hlet B wb p sz qcs i (x.1,xc) pend HB1.out.1 (Nat.le_trans HH.out.2.2.2.2.2.2.2 HB1.out.2.1.size) HB1.out.2.2.2.2 (by
    rw[←map_eraseY,HB1.out.2.2.2.1];have h9:=HH.out.2.2.2.2.2.1 h0;rw[←HND.out]at h9;exact h9) (by omega) (by omega))
   have HR:=Lib.hid (show letS (f + 1) t (pcs.map (·.2))=(jbk xc.node).foldl (goneF f) ((qcs.eraseIdx i).map (·.2)) by
    rw[HH.out.2.2.2.2.2.2.1,if_pos h0,←map_eraseY,HB1.out.2.2.2.1,HND.out])
   clear h0;go_wp2_with (fail);go_at_call 133;refine HC.out.mono ?_;rintro e wc ⟨rfl,scs,hs,hm,hf3,hb3⟩;have HF:=Lib.hid (And.intro hs (And.intro (hm.trans HR.out.symm) (And.intro (HB1.out.2.2.1.trans hf3) (HB1.out.2.1.trans hb3))));clear hs hm hf3 hb3;go_wp2_with (fail)
   (first|go_end0|(simp only[Exit.inBlock,Exit.then];refine bodyPost_ret (results_none rfl _ _ _) rfl ?_)|refine bodyPost_ret (results_none rfl _ _ _) rfl ?_)
   exact⟨rfl,scs,HF.out⟩
  ·have h0b:(xr - 1==0)=false:=by simp[h0]
   have HR:=Lib.hid (show letS (f + 1) t (pcs.map (·.2))=qcs.map (·.2) by
    rw[HH.out.2.2.2.2.2.2.1,if_neg h0,HB1.out.2.2.2.1])
   clear h0;go_wp2_with (fail)
   (first|go_end0|(simp only[Exit.inBlock,Exit.then];refine bodyPost_ret (results_none rfl _ _ _) rfl ?_)|refine bodyPost_ret (results_none rfl _ _ _) rfl ?_)
   exact⟨rfl,qcs,HB1.out.1,HR.out.symm,HB1.out.2.2.1,HB1.out.2.1⟩
theorem Good.lt{sz:Int}{cs:List CC}(h:Good sz cs):Lt cs []:=
 ⟨fun c hc=>⟨(h.dec c hc).1,(h.dec c hc).2.1⟩,h.ris,h.lds,fun c hc=>⟨by rw[(h.cnt c hc).1];show _=_ + ((jbp [] c.num:Nat):Int);unfold jbp;simp,(h.cnt c hc).2⟩,fun _ ht=>by cases ht⟩
theorem drop_any(w:World)(v:Value)(h:Hp)(num:Int)(hv:HeapV w v h)(hmax:h.cells.length≤1073741824):
 Calls Tryz.prog 67 #[v, .int .u32 num] w fun e w'=>∃r,e= .returned (.tuple #[r, .int .i64 (dropS h num).2])∧HeapV w' r (dropS h num).1∧Below w.heap.size w w':=by
 obtain⟨cv,rfl,hsl,hsz⟩:=hv;have HSL:=Lib.hid (And.intro hsl hsz);obtain⟨C,n,cc,rfl⟩:=jax hsl;have hn1:((w.alloc (.cells #[.int .u32 h.size, .slice C n cc] 32)).alloc (.cells #[.int .u32 0, .slice none 0 0] 32)).heap[w.heap.size]? =some (.cells #[.int .u32 h.size, .slice C n cc] 32 (0,0)):=(Lib.alloc_old _ _ _ (by simp)).trans (heap_alloc_new _ _);have hn2:((w.alloc (.cells #[.int .u32 h.size, .slice C n cc] 32)).alloc (.cells #[.int .u32 0, .slice none 0 0] 32)).heap[w.heap.size + 1]? =some (.cells #[.int .u32 0, .slice none 0 0] 32 (0,0)):=by
  have:=heap_alloc_new (w.alloc (.cells #[.int .u32 h.size, .slice C n cc] 32)) (.cells #[.int .u32 0, .slice none 0 0] 32);rw[show(w.alloc (.cells #[.int .u32 h.size, .slice C n cc] 32)).heap.size=w.heap.size + 1 by simp]at this;exact this
 have hnb:Below w.heap.size w ((w.alloc (.cells #[.int .u32 h.size, .slice C n cc] 32)).alloc (.cells #[.int .u32 0, .slice none 0 0] 32)):=((Below.refl _ w).alloc (Nat.le_refl _) _).alloc (by simp) _;clear hsl;go_enter Tryz.func67,Tryz.ntmps67;go_upto_region 1 with(fail);generalize(w.alloc (.cells #[.int .u32 h.size, .slice C n cc] 32)).alloc (.cells #[.int .u32 0, .slice none 0 0] 32)=wa at *;have x0:wa.cell? ⟨w.heap.size,0,none⟩=some (.int .u32 h.size):=by rw[cell_of_row _ _ _ _ _ _ hn1];rfl
 have x1:wa.cell? ⟨w.heap.size,1,none⟩=some (.slice C n cc):=by rw[cell_of_row _ _ _ _ _ _ hn1];rfl
 have H0:=Lib.hid (And.intro hnb hn2);have HV:=Lib.hid (show HeapV wa (.agg #[.int .u32 h.size, .slice C n cc]) h from⟨_,rfl,HSL.out.1.below hnb (Nat.le_refl _),HSL.out.2⟩);clear hn1 hn2 hnb;go_wp2_with (fail);refine(open_any wa _ h HV.out hmax).mono ?_;rintro e w1 ⟨hb,h1⟩;have H1:=Lib.hid (And.intro (H0.out.1.trans (hb.mono H0.out.1.size)) ((hb.block _ (lt_of_block H0.out.2)).trans H0.out.2));clear hb x0 x1;rcases h1 with⟨ho,p,pcs,rfl,hst,hop⟩|⟨ho,rfl⟩
 ·have hpl:pcs.length=h.cells.length:=by have:=congrArg List.length hop;rw[jb5]at this;simpa using this
  have hpm:pcs.length≤1073741824:=by omega
  have hgood:=je4 h ho;have hris:jdk (nums pcs):=by
   have:=hgood.ris;rw[←hop]at this;unfold jaj at this;rw[List.map_map]at this;exact jc3 this
  have HOP:=Lib.hid (And.intro hop (And.intro ho hgood));have HLB:=Lib.hid (lt_of_block H0.out.2);have hst2:=hst.lower (B':=w.heap.size) H0.out.1.size;have HB1:=Lib.hid (show w.heap.size + 1 < p from Nat.lt_of_lt_of_le (lt_of_block H0.out.2) hst.low);clear hst hpl hgood hop ho;go_wp2_with (fail);refine(at_any w.heap.size w1 p h.size pcs num hst2 hris hpm).mono ?_;rintro e _ ⟨rfl,a,rfl⟩;obtain⟨hs3,_,hb3⟩:=hst2.asked a;have hres:(w1.setCell ⟨p,2,none⟩ (.int .i64 a)).heap[w.heap.size + 1]? =some (.cells #[.int .u32 0, .slice none 0 0] 32 (0,0)):=(Below.heap_setCell _ _ _ _ (by have:=HB1.out;simp;omega)).trans H1.out.2;have HB3:=Lib.hid (H1.out.1.trans hb3);clear hst2 hb3;generalize w1.setCell ⟨p,2,none⟩ (.int .i64 a)=w3 at *;cases hc:je8 pcs num with
  |none=>
   have hcf:=jht hris hc;rw[HOP.out.1]at hcf;have HR:=Lib.hid (show dropS h num=(jfi h.size (jav h),5) by
    have hE:dropE (jav h) num=5:=by unfold dropE;rw[hcf]
    unfold dropS;rw[if_neg (by rw[HOP.out.2.1];simp),if_pos (by rw[hE];decide),hE])
   have HHS:=Lib.hid (jlc w.heap.size w3 p h.size pcs hs3 hpm HSL.out.2);have HRS:=Lib.hid hres;clear hc hcf hs3 hris hres;go_wp2_with (fail);refine HHS.out.mono ?_;rintro e w4 ⟨v4,rfl,hv4,hb4⟩;rw[HOP.out.1]at hv4;obtain⟨A4,n4,c4,rfl⟩:=jg8 hv4;have hr4:=(hb4.block _ (lt_of_block HRS.out)).trans HRS.out;have HO:=Lib.hid (jk6 hv4 hr4 (HB3.out.trans (hb4.mono HB3.out.size)) (by omega) rfl);clear hv4 hb4;go_wp2_with ((with_reducible refine jab ?_);refine jaf rfl 32 _ _ rfl (w.heap.size + 1) 0 rfl [_,_] rfl 32 _ hr4 (by simp) (by intro v hv;simp at hv;rcases hv with rfl|rfl <;>rfl) jcu ?_);refine bodyPost_ret (jex rfl _ (w.heap.size + 1) _ rfl (0,0) _ rfl HO.out.1) rfl ⟨.agg #[.int .u32 (jfi h.size (jav h)).size, .slice A4 n4 c4],?_,?_,HO.out.2.2⟩
   ·rw[HR.out];rfl
   ·rw[HR.out];exact HO.out.2.1
  |some x=>
   have hcf:=jlh hris hc;rw[HOP.out.1]at hcf;have hxm:x∈pcs∧x.2.num=num:=by
    have h9:=(jc2 HOP.out.2.2.ris).1 hcf;rw[←HOP.out.1]at h9;obtain⟨y,hy,hyx⟩:=List.mem_map.1 h9.1;refine⟨?_,h9.2⟩;unfold je8 at hc;split at hc
    ·exact List.mem_of_getElem? hc
    ·cases hc
   have hrb:0≤x.2.refs∧x.2.refs≤16777216:=by
    obtain⟨g1,g2,g3⟩:=HOP.out.2.2.cnt x.2 (by rw[←HOP.out.1];exact List.mem_map.2 ⟨x,hxm.1,rfl⟩);omega
   have r1:=hs3.refs_cell hxm.1;have r2:=hs3.led_cell hxm.1;have lx:=hs3.blt hxm.1;by_cases hq:x.2.refs=x.2.led
   ·have hqb:(x.2.refs==x.2.led)=true:=by simp[hq]
    have HR:=Lib.hid (show dropS h num=(jfi h.size (jav h),7) by
     have hE:dropE (jav h) num=7:=by unfold dropE;rw[hcf];simp[hq]
     unfold dropS;rw[if_neg (by rw[HOP.out.2.1];simp),if_pos (by rw[hE];decide),hE])
    have hb5:Below w.heap.size w w3.drew:=HB3.out.drew;have HHS:=Lib.hid (jlc w.heap.size w3.drew p h.size pcs (hs3.below (Below.refl _ w3).drew) hpm HSL.out.2);have HRS:=Lib.hid (show w3.drew.heap[w.heap.size + 1]? =some (.cells #[.int .u32 0, .slice none 0 0] 32 (0,0))from hres);have HB5:=Lib.hid hb5;clear hc hcf hs3 hris hres hxm hq hrb hb5;generalize x.2.refs=xr at *;generalize x.2.led=xl at *;go_upto_region 8 with(fail);go_region;go_wp2_with (fail);refine HHS.out.mono ?_;rintro e w4 ⟨v4,rfl,hv4,hb4⟩;rw[HOP.out.1]at hv4;obtain⟨A4,n4,c4,rfl⟩:=jg8 hv4;have hr4:=(hb4.block _ (lt_of_block HRS.out)).trans HRS.out;have HO:=Lib.hid (jk6 hv4 hr4 (HB5.out.trans (hb4.mono HB5.out.size)) (by omega) rfl);clear hv4 hb4;go_wp2_with ((with_reducible refine jab ?_);refine jaf rfl 32 _ _ rfl (w.heap.size + 1) 0 rfl [_,_] rfl 32 _ hr4 (by simp) (by intro v hv;simp at hv;rcases hv with rfl|rfl <;>rfl) jcu ?_);refine bodyPost_ret (jex rfl _ (w.heap.size + 1) _ rfl (0,0) _ rfl HO.out.1) rfl ⟨.agg #[.int .u32 (jfi h.size (jav h)).size, .slice A4 n4 c4],?_,?_,HO.out.2.2⟩
    ·rw[HR.out];rfl
    ·rw[HR.out];exact HO.out.2.1
   ·have hqb:(x.2.refs==x.2.led)=false:=by simp[hq]
    have HR:=Lib.hid (show dropS h num=(jfi h.size (letS (h.cells.length + 1) num (jav h)),0) by
     have hE:dropE (jav h) num=0:=by unfold dropE;rw[hcf];simp[hq]
     unfold dropS;rw[if_neg (by rw[HOP.out.2.1];simp),if_neg (by rw[hE];decide)])
    have hled:x.2.led≤x.2.refs - 1:=by
     obtain⟨g1,g2,g3⟩:=HOP.out.2.2.cnt x.2 (by rw[←HOP.out.1];exact List.mem_map.2 ⟨x,hxm.1,rfl⟩);omega
    have HC:=Lib.hid (let_any (h.cells.length + 1) w.heap.size w3.drew p h.size pcs num [] (hs3.below (Below.refl _ w3).drew) HB3.out.drew.size (by rw[HOP.out.1];exact HOP.out.2.2.lt) (by have:=congrArg List.length HOP.out.1;rw[jb5]at this;simp at this;omega) hpm ⟨x.2,List.mem_map.2 ⟨x,hxm.1,rfl⟩,hxm.2,hled⟩);have HRS:=Lib.hid (show w3.drew.heap[w.heap.size + 1]? =some (.cells #[.int .u32 0, .slice none 0 0] 32 (0,0))from hres);have HB5:=Lib.hid (show Below w.heap.size w w3.drew from HB3.out.drew);have hlaw:=let_law (h.cells.length + 1) num (jav h) [] HOP.out.2.2.lt (by rw[jb5];simp) ⟨x.2,by rw[←HOP.out.1];exact List.mem_map.2 ⟨x,hxm.1,rfl⟩,hxm.2,hled⟩;have HLEN:=Lib.hid (show(letS (h.cells.length + 1) num (jav h)).length≤1073741824 by
     refine Nat.le_trans hlaw.2.2 (Nat.le_trans (Nat.le_of_eq ?_) hmax);rw[jb5,List.length_map,List.length_map])
    clear hc hcf hs3 hris hres hxm hq hrb hled hlaw;generalize x.2.refs=xr at *;generalize x.2.led=xl at *;go_upto_region 8 with(fail);go_region;go_wp2_with (fail);go_at_call 123;refine HC.out.mono ?_;rintro e w5 ⟨rfl,qcs,hs5,hm5,hf5,hb5⟩;rw[HOP.out.1]at hm5;have hr5:=hf5.keep HRS.out (by unfold BadT;decide);have hql:qcs.length≤1073741824:=by
     have h9:=HLEN.out;rw[←hm5,List.length_map]at h9;exact h9
    have HHS:=Lib.hid (jlc w.heap.size w5 p h.size qcs hs5 hql HSL.out.2);have HB6:=Lib.hid (HB5.out.trans hb5);have HR5:=Lib.hid hr5;have HM5:=Lib.hid hm5;clear hs5 hm5 hf5 hb5 hr5 hql;go_wp2_with (fail);refine HHS.out.mono ?_;rintro e w4 ⟨v4,rfl,hv4,hb4⟩;rw[HM5.out]at hv4;obtain⟨A4,n4,c4,rfl⟩:=jg8 hv4;have hr4:=(hb4.block _ (lt_of_block HR5.out)).trans HR5.out;have HO:=Lib.hid (jk6 hv4 hr4 (HB6.out.trans (hb4.mono HB6.out.size)) (by omega) rfl);clear hv4 hb4;go_wp2_with ((with_reducible refine jab ?_);refine jaf rfl 32 _ _ rfl (w.heap.size + 1) 0 rfl [_,_] rfl 32 _ hr4 (by simp) (by intro v hv;simp at hv;rcases hv with rfl|rfl <;>rfl) jcu ?_);refine bodyPost_ret (jex rfl _ (w.heap.size + 1) _ rfl (0,0) _ rfl HO.out.1) rfl ⟨.agg #[.int .u32 (jfi h.size (letS (h.cells.length + 1) num (jav h))).size, .slice A4 n4 c4],?_,?_,HO.out.2.2⟩
    ·rw[HR.out];rfl
    ·rw[HR.out];exact HO.out.2.1
 ·have HR:=Lib.hid (show dropS h num=(noHp,7) by unfold dropS;rw[if_pos ho]);have hr4:=H1.out.2;have HO:=Lib.hid (jk6 (v:= .agg #[.int .u32 0, .slice none 0 0]) (h:=noHp) ⟨.slice none 0 0,rfl,⟨none,0,rfl,by decide,by decide,fun k hk=>by cases hk⟩,by unfold noHp u32Ok;decide⟩ hr4 H1.out.1 (by omega) rfl);clear ho;go_wp2_with (first
   |((with_reducible refine jar 32 ?_);refine jah rfl 32 _ rfl [] rfl _ built_heapY ?_)
   |((with_reducible refine jab ?_);refine jaf rfl 32 _ _ rfl (w.heap.size + 1) 0 rfl [_,_] rfl 32 _ hr4 (by simp) (by intro v hv;simp at hv;rcases hv with rfl|rfl <;>rfl) jcu ?_))
  refine bodyPost_ret (jex rfl _ (w.heap.size + 1) _ rfl (0,0) _ rfl HO.out.1) rfl ⟨.agg #[.int .u32 0, .slice none 0 0],?_,?_,HO.out.2.2⟩
  ·rw[HR.out];rfl
  ·rw[HR.out];exact HO.out.2.1
end Go.Proofs.YtpaohkkhejpgjaaGreatDoor
