/- Texts of the proof: Zh. -/
import Derived.Test.YtpaohkkhejpgjaaGreatDoorM43
set_option linter.all false
set_option maxRecDepth 100000
set_option maxHeartbeats 8000000
namespace Go.Proofs.YtpaohkkhejpgjaaGreatDoor
open Go Go.RowKit
structure SwW(w:World)(sn zs:List Value)(s:Sto)(u:World):Prop where
 below:Below w.heap.size w u
 b0:u.heap[w.heap.size]? =some (.cells sn.toArray 42 (0,0))
 b3:u.heap[w.heap.size + 3]? =some (.cells zs.toArray 42 (0,0))
 sto:StoV u (.agg sn.toArray) s
theorem SwW.pure{w u u':World}{sn zs:List Value}{s:Sto}(h:SwW w sn zs s u)(hb:Below u.heap.size u u'):SwW w sn zs s u':=
 ⟨h.below.trans (hb.mono h.below.size),(hb.block _ (lt_of_block h.b0)).trans h.b0,(hb.block _ (lt_of_block h.b3)).trans h.b3,h.sto.below hb (Nat.le_refl _)⟩
theorem SwW.put{w u:World}{sn zs:List Value}{s:Sto}(h:SwW w sn zs s u){g:Nat}{cs cur:Array Value}{t:TypeId}{fr:Nat×Nat}(hg:u.heap[g]? =some (.cells cur t fr))(hn:NoCel cur)(h3:w.heap.size + 3 < g):SwW w sn zs s (u.setRow g cs):=
 ⟨ja8 h.below (by omega),(jac _ _ _ _ (by omega)).trans h.b0,(jac _ _ _ _ (by omega)).trans h.b3,h.sto.keepN hg hn jdd⟩
structure SwX(w:World)(sn zs:List Value)(s s2:Sto)(b9:Nat)(u:World):Prop extends SwW w sn zs s u where
 new:∃xn:List Value,u.heap[b9]? =some (.cells xn.toArray 42 (0,0))∧StoV u (.agg xn.toArray) s2
theorem swap_store{w w8:World}{sn zs:List Value}{s:Sto}{h:Hp}{k:Kid}{cv2:Value}{b9:Nat}(hw:SwW w sn zs s w8)(h9:w.heap.size + 3 < b9)(hb9:w8.heap[b9]? =some (.cells sn.toArray 42 (0,0)))(hh:HeapO w.heap.size w8 cv2 h)(hk:kidE.wf k)
 {hpa ka:Array Value} (hhpa:([.int .u32 h.size,cv2]:List Value).toArray=hpa) (hka:(kidE.enc k).toArray=ka):
 ∃wy wz,(storeVar 32 ⟨b9,5,none⟩ (.agg hpa)).run Tryz.prog w8= .ok () wy∧(storeVar 40 ⟨b9,79,none⟩ (.agg ka)).run Tryz.prog wy= .ok () wz∧(∀b,b≠b9→wy.heap[b]? =w8.heap[b]?)∧(∀b,b≠b9→wz.heap[b]? =w8.heap[b]?)∧SwX w sn zs s {s with heap:=h,table:=k} b9 wz:=by
 have hst:=hw.sto;have hsc:=jcf hst;obtain⟨st,e0,_,_,hnc⟩:=hsc;have e0:sn=st:=by
  injection e0 with e0;have:=congrArg Array.toList e0;simpa using this
 subst e0;obtain⟨bv,wv,cv,e1,hd,hhv,g1,g2,g3⟩:=hst;have hsn:sn=stoL (devL s.dev bv wv) [.int .u32 s.heap.size,cv] (supA s.s0).toList (supA s.s1).toList [.bool s.v0, .bool s.v1] (kidE.enc s.table):=by
  injection e1 with e1;have:=congrArg Array.toList e1;simpa using this
 have hl:=ja4 (d:=s.dev) (bv:=bv) (wv:=wv) (x:= .int .u32 s.heap.size) (cv:=cv) (p:=s.v0) (q:=s.v1) g1 g2 g3;have hl2:=ja4 (d:=s.dev) (bv:=bv) (wv:=wv) (x:= .int .u32 h.size) (cv:=cv2) (p:=s.v0) (q:=s.v1) g1 g2 g3;have hone2:∀u∈([.int .u32 h.size,cv2]:List Value),u.oneCell'=true:=by
  obtain⟨_,_,_,e1⟩:=jan hh.1;intro u hu;simp at hu;rcases hu with rfl|rfl
  ·rfl
  ·rw[e1];rfl
 have hkl:=kidE.len k hk;subst hhpa;subst hka;have hnb:=hb9;rw[hsn]at hnb;have s1:=jdw (P:=Tryz.prog) w8 b9 5 32 42 [.int .u32 h.size,cv2] _ hnb (by rw[List.size_toArray,jb4 hl];show 5 + 2≤113;decide) hone2 jcu;rw[sto_put5 rfl rfl rfl]at s1;have r1:=jad w8 b9 (stoL (devL s.dev bv wv) [.int .u32 h.size,cv2] (supA s.s0).toList (supA s.s1).toList [.bool s.v0, .bool s.v1] (kidE.enc s.table)).toArray _ _ hnb;have s2:=jdw (P:=Tryz.prog) (w8.setRow b9 (stoL (devL s.dev bv wv) [.int .u32 h.size,cv2] (supA s.s0).toList (supA s.s1).toList [.bool s.v0, .bool s.v1] (kidE.enc s.table)).toArray) b9 79 40 42 (kidE.enc k) _ r1 (by rw[List.size_toArray,jb4 hl2,hkl];decide) (kidE.one k hk) (jc7 k hk);have e79:((stoL (devL s.dev bv wv) [.int .u32 h.size,cv2] (supA s.s0).toList (supA s.s1).toList [.bool s.v0, .bool s.v1] (kidE.enc s.table)).toArray.toList.take 79 ++ kidE.enc k ++ (stoL (devL s.dev bv wv) [.int .u32 h.size,cv2] (supA s.s0).toList (supA s.s1).toList [.bool s.v0, .bool s.v1] (kidE.enc s.table)).toArray.toList.drop (79 + (kidE.enc k).length)).toArray=
  (stoL (devL s.dev bv wv) [.int .u32 h.size,cv2] (supA s.s0).toList (supA s.s1).toList [.bool s.v0, .bool s.v1] (kidE.enc k)).toArray:=by
  rw[List.toList_toArray,List.drop_of_length_le (by rw[jb4 hl2,hkl];decide),List.append_nil];have h79:(devL s.dev bv wv ++ ([Value.int .u32 h.size,cv2] ++ ((supA s.s0).toList ++ ((supA s.s1).toList ++ [Value.bool s.v0, .bool s.v1])))).length=79:=by
   simp only[List.length_append,hl2.1,hl2.2,hl2.3,hl2.4,hl2.5]
  have e5:∀z:List Value,stoL (devL s.dev bv wv) [.int .u32 h.size,cv2] (supA s.s0).toList (supA s.s1).toList [.bool s.v0, .bool s.v1] z=(devL s.dev bv wv ++ ([Value.int .u32 h.size,cv2] ++ ((supA s.s0).toList ++ ((supA s.s1).toList ++ [Value.bool s.v0, .bool s.v1])))) ++ z:=by
   intro z;unfold stoL;simp only[List.append_assoc]
  rw[e5,e5,←h79,List.take_left]
 rw[e79]at s2;obtain⟨b',w',eD,⟨_,_,eb,_⟩,⟨_,_,ew,_⟩,_⟩:=id hd;unfold jck at eD;simp only[Value.agg.injEq,Array.mk.injEq,List.cons.injEq,and_true,true_and]at eD;obtain⟨rfl,rfl⟩:=eD;obtain⟨_,_,_,ec⟩:=jan hh.1;have n2:NoCel (stoL (devL s.dev bv wv) [.int .u32 h.size,cv2] (supA s.s0).toList (supA s.s1).toList [.bool s.v0, .bool s.v1] (kidE.enc s.table)).toArray:=jg9 (by rw[eb];exact jbe) (by rw[ew];exact jbe) (by rw[ec];exact jbe) jf7;have hx1:=hw.put (cs:=(stoL (devL s.dev bv wv) [.int .u32 h.size,cv2] (supA s.s0).toList (supA s.s1).toList [.bool s.v0, .bool s.v1] (kidE.enc s.table)).toArray) hb9 hnc h9;have hx2:=hx1.put (cs:=(stoL (devL s.dev bv wv) [.int .u32 h.size,cv2] (supA s.s0).toList (supA s.s1).toList [.bool s.v0, .bool s.v1] (kidE.enc k)).toArray) r1 n2 h9;refine⟨_,_,s1,s2,fun b hb=>jac _ _ _ _ hb,fun b hb=>(jac _ _ _ _ hb).trans (jac _ _ _ _ hb),⟨hx2,_,jad _ _ _ _ _ r1,bv,wv,cv2,rfl,?_,?_,g1,g2,hk⟩⟩
 ·exact(hd.keepN hb9 hnc jdd).keepN r1 n2 jdd
 ·exact((hh.keep (jaq _ _ _) hnb (by decide)).keep (jaq _ _ _) r1 (by decide)).v
theorem jkn{P:Program}{op:Oper}{a:Act}{w:World}{K:Act→World→Prop}{Q:Exit→Act→World→Prop}(ty:TypeId)(x v:Operand)(ho:op.op= .store ty x v)(ad:Addr)(hx:a.eval x= .pointer (some ad))(val:Value)(hv:a.eval v=val)(w':World)
 (he:(storeVar ty ad val).run P w= .ok () w') (h:K (a.put op.dst undef) w'):op.wp P a w K Q:=by
 unfold Oper.wp execOp;simp only[ho,hx,hv,Instr.storeAt,Instr.sureAddr,Sem.run_bind,Sem.run_pure,Result.andThen_ok,he];exact h
theorem swap_any(w:World)(v vh:Value)(s:Sto)(h:Hp)(k:Kid)(hv:StoV w v s)(hh:HeapV w vh h)(hk:kidE.wf k)(hbl:s.dev.blocks.length≤1073741824)(hwl:s.dev.waits.length≤1073741824)(hmax:s.heap.cells.length≤1073741824)(hmax2:h.cells.length≤1073741824):
 Calls Tryz.prog 54 #[v,vh, .agg (kidE.enc k).toArray] w fun e w'=>∃r,e= .returned (.tuple #[r, .int .i64 (swapS s h k).2])∧StoV w' r (swapS s h k).1∧Below w.heap.size w w':=by
 obtain⟨st,rfl,hlen,hone,hnc⟩:=jcf hv;have HVV:=Lib.hid hv;obtain⟨A,n,c,rfl⟩:=jg8 hh;have HHV:=Lib.hid hh;have HCS:=Lib.hid (And.intro hlen (And.intro hone hnc));have hkl:=kidE.len k hk;obtain⟨ka,hka⟩:∃ka,(kidE.enc k).toArray=ka:=⟨_,rfl⟩
 have HKA:=Lib.hid hka;rw[hka];have hsi:(Tryz.prog.info? 42).map (·.size)=some st.length:=by rw[hlen];exact ja6
 clear hv hh hone hnc hka;go_enter Tryz.func54,Tryz.ntmps54;go_upto_region 1 with(fail);have hd0:=heap_alloc_new w (.cells st.toArray 42);have hB0:=(Below.refl w.heap.size w).alloc (Nat.le_refl _) (.cells st.toArray 42);have hsz0:(w.alloc (.cells st.toArray 42)).heap.size=w.heap.size + 1:=by simp
 generalize w.alloc (.cells st.toArray 42)=w1 at *;have hd1:=heap_alloc_new w1 (.cells #[.int .u32 h.size, .slice A n c] 32);rw[hsz0]at hd1;have hB1:=hB0.alloc hB0.size (.cells #[.int .u32 h.size, .slice A n c] 32);have hd10:=(Lib.alloc_old w1 (.cells #[.int .u32 h.size, .slice A n c] 32) _ (lt_of_block hd0)).trans hd0;have hsz1:(w1.alloc (.cells #[.int .u32 h.size, .slice A n c] 32)).heap.size=w.heap.size + 2:=by simp[hsz0]
 generalize w1.alloc (.cells #[.int .u32 h.size, .slice A n c] 32)=w2 at *;have hd2:=heap_alloc_new w2 (.cells ka 40);rw[hsz1]at hd2;have hB2:=hB1.alloc hB1.size (.cells ka 40);have hd20:=(Lib.alloc_old w2 (.cells ka 40) _ (lt_of_block hd10)).trans hd10;have hd21:=(Lib.alloc_old w2 (.cells ka 40) _ (lt_of_block hd1)).trans hd1;have hsz2:(w2.alloc (.cells ka 40)).heap.size=w.heap.size + 3:=by simp[hsz1]
 generalize w2.alloc (.cells ka 40)=w3 at *;rw[←ji3];have hd3:=heap_alloc_new w3 (.cells zSto.toArray 42);rw[hsz2]at hd3;have hB3:=hB2.alloc hB2.size (.cells zSto.toArray 42);have hd30:=(Lib.alloc_old w3 (.cells zSto.toArray 42) _ (lt_of_block hd20)).trans hd20;have hd31:=(Lib.alloc_old w3 (.cells zSto.toArray 42) _ (lt_of_block hd21)).trans hd21;have hd32:=(Lib.alloc_old w3 (.cells zSto.toArray 42) _ (lt_of_block hd2)).trans hd2;generalize w3.alloc (.cells zSto.toArray 42)=wa at *;have H0:=Lib.hid (show SwW w st zSto s wa from⟨hB3,hd30,hd3,HVV.out.below hB3 (Nat.le_refl _)⟩);have HBX:=Lib.hid (And.intro hd31 hd32);have HHA:=Lib.hid (HHV.out.below hB3 (Nat.le_refl _));clear hd0 hB0 hsz0 hd1 hB1 hd10 hsz1 hd2 hB2 hd20 hd21 hsz2 hd3 hB3 hd30 hd31 hd32;have hats:At wa w.heap.size 0 st:=fun j hj=>by
  rw[cell_of_row _ _ _ _ _ _ H0.out.b0,Nat.zero_add];simp[hj]
 obtain⟨sta,hsta⟩:∃sta,st.toArray=sta:=⟨_,rfl⟩
 have HCH:=Lib.hid (chk_any wa _ s H0.out.sto hbl hwl hmax);rw[hsta]at HCH;have HSTA:=Lib.hid hsta;clear hsta;go_wp2_with (refine jae rfl 42 (.tmp 3) rfl w.heap.size 0 rfl st _ hats Tryz.underlying42 rfl hsi sta HSTA.out ?_);refine HCH.out.mono ?_;rintro e wb ⟨rfl,hbb⟩;have H1:=Lib.hid (H0.out.pure hbb);have HX1:=Lib.hid (And.intro ((hbb.block _ (lt_of_block HBX.out.1)).trans HBX.out.1) ((hbb.block _ (lt_of_block HBX.out.2)).trans HBX.out.2));have HH1:=Lib.hid (HHA.out.below hbb (Nat.le_refl _));clear hats hbb HCH H0 HBX HHA;cases hc:jdm s with
 |false=>
  have hse:stoE s=7:=by unfold stoE;rw[hc];rfl
  have HR:=Lib.hid (show swapS s h k=(noSto,7) by unfold swapS;rw[if_pos hc]);rw[hse];have hb3:=H1.out.b3;clear hc hse;go_wp2_with (first
   |((with_reducible refine jar 42 ?_);refine jah rfl 42 _ rfl [] rfl _ jjz ?_)
   |((with_reducible refine jab ?_);refine jaf rfl 42 _ _ rfl (w.heap.size + 3) 0 rfl zSto rfl 42 _ hb3 (by rw[List.size_toArray];exact Nat.le_of_eq (Nat.zero_add _)) zSto_one ja6 ?_))
  refine bodyPost_ret (jb7 rfl _ (w.heap.size + 3) zSto zSto_len (0,0) _ rfl (jad _ _ _ _ _ hb3)) rfl ⟨.agg zSto.toArray,?_,?_,ja8 H1.out.below (by omega)⟩
  ·rw[HR.out];rfl
  ·rw[HR.out];exact noSto_v _
 |true=>
  have hse:stoE s=0:=by unfold stoE;rw[hc];rfl
  have HC:=Lib.hid hc;rw[hse];have hats:At wb w.heap.size 0 st:=fun j hj=>by
   rw[cell_of_row _ _ _ _ _ _ H1.out.b0,Nat.zero_add];simp[hj]
  have HOW:=Lib.hid (mown_any wb _ s H1.out.sto hbl hwl hmax);rw[HSTA.out]at HOW;clear hc hse;go_wp2_with (refine jae rfl 42 (.tmp 3) rfl w.heap.size 0 rfl st _ hats Tryz.underlying42 rfl hsi sta HSTA.out ?_);refine HOW.out.mono ?_;rintro e wc ⟨r,rfl,hsv,hbc⟩;obtain⟨sn,rfl,hln,hon,hncn⟩:=jcf hsv;have HC2:=Lib.hid (And.intro hln (And.intro hon hncn));have hk0:=(hbc.block _ (lt_of_block H1.out.b0)).trans H1.out.b0;have hk3:=(hbc.block _ (lt_of_block H1.out.b3)).trans H1.out.b3;have hk1:=(hbc.block _ (lt_of_block HX1.out.1)).trans HX1.out.1;have hk2:=(hbc.block _ (lt_of_block HX1.out.2)).trans HX1.out.2;have hkh:=HH1.out.below hbc (Nat.le_refl _);have hwc:=H1.out.below.trans (hbc.mono H1.out.below.size);have hsn2:(Tryz.prog.info? 42).map (·.size)=some sn.length:=by rw[hln];exact ja6
  have H2:=Lib.hid (show SwW w sn zSto s (wc.setRow w.heap.size sn.toArray)from⟨ja8 hwc (Nat.le_refl _),jad _ _ _ _ _ hk0,(jac _ _ _ _ (by omega)).trans hk3,hsv.keepN hk0 HCS.out.2.2 jdd⟩);have HX2:=Lib.hid (And.intro ((jac wc w.heap.size (w.heap.size + 1) sn.toArray (by omega)).trans hk1) ((jac wc w.heap.size (w.heap.size + 2) sn.toArray (by omega)).trans hk2));have HH2:=Lib.hid (HeapV.keepN (w':=wc.setRow w.heap.size sn.toArray) hk0 HCS.out.2.2 jdd hkh);obtain⟨sna,hsna⟩:∃sna,sn.toArray=sna:=⟨_,rfl⟩
  have HSNA:=Lib.hid hsna;rw[hsna];have HK0:=Lib.hid hk0;have HLS:=Lib.hid (show 0 + sn.length≤st.toArray.size by rw[hln,List.size_toArray,hlen];decide);have HLE:=Lib.hid (hlen.trans hln.symm);clear hats hk0 hk3 hk1 hk2 hkh hwc hsv hbc HOW hsna;go_upto_region 5 with((with_reducible refine jab ?_);refine jaf rfl 42 _ _ rfl w.heap.size 0 rfl sn (by rw[HSNA.out];rfl) 42 _ HK0.out HLS.out hon hsn2 ?_);rw[jms HLE.out];clear HK0 HLS HLE HX1 HH1 H1;generalize wc.setRow w.heap.size sn.toArray=wd at *;have hats:At wd w.heap.size 0 sn:=fun j hj=>by
   rw[cell_of_row _ _ _ _ _ _ H2.out.b0,Nat.zero_add];simp[hj]
  have hnew:=heap_alloc_new wd (.cells sn.toArray 42);have hbn:=(Below.refl wd.heap.size wd).alloc (Nat.le_refl _) (.cells sn.toArray 42);have H3:=Lib.hid (H2.out.pure hbn);have HX3:=Lib.hid (And.intro ((hbn.block _ (lt_of_block HX2.out.1)).trans HX2.out.1) ((hbn.block _ (lt_of_block HX2.out.2)).trans HX2.out.2));have HH3:=Lib.hid (HH2.out.below hbn (Nat.le_refl _));have HNW:=Lib.hid (And.intro hnew (lt_of_block H2.out.b3));clear hnew hbn HX2 HH2;go_upto_region 6 with(first
   |(refine jae rfl 42 (.tmp 3) rfl w.heap.size 0 rfl sn _ hats Tryz.underlying42 rfl hsn2 sna HSNA.out ?_)
   |((with_reducible refine jab ?_);refine jaa rfl 42 (.tmp 9) (.tmp 18) rfl 42 _ rfl sn (by rw[HSNA.out];rfl) (by rw[hln];rfl) hon hsn2 ?_))
  generalize hb9:wd.heap.size=b9 at *;generalize wd.alloc (.cells sn.toArray 42)=we at *;clear hats hb9 H2;simp only[Act.put];go_cut [19,20,21,22,23] (fun _ _ _ _ _ wx=>SwX w sn zSto s {s with heap:=h,table:=k} b9 wx)
  case first=>
   have h1r:we.drew.rangeAt (w.heap.size + 1) 0 [.int .u32 h.size, .slice A n c]:=fun j u hj=>(cell_of_row we _ _ _ _ _ HX3.out.1).trans (by rw[Nat.zero_add];show([_,_]:List Value).toArray[j]? =_;rw[List.getElem?_toArray];exact hj)
   have h2r:we.drew.rangeAt (w.heap.size + 2) 0 (kidE.enc k):=fun j u hj=>(cell_of_row we _ _ _ _ _ HX3.out.2).trans (by rw[Nat.zero_add,←HKA.out,List.getElem?_toArray];exact hj)
   have hkl9:(Tryz.prog.info? 40).map (·.size)=some (kidE.enc k).length:=jc7 _ hk;have HRK:=Lib.hid (show ∀(z z':World),(∀b,b < z.heap.size→b≠b9→z'.heap[b]? =z.heap[b]?)→(z.rangeAt (w.heap.size + 1) 0 [.int .u32 h.size, .slice A n c]∧z.rangeAt (w.heap.size + 2) 0 (kidE.enc k))→(z'.rangeAt (w.heap.size + 1) 0 [.int .u32 h.size, .slice A n c]∧z'.rangeAt (w.heap.size + 2) 0 (kidE.enc k))from fun z z' hz h=>
    ⟨fun j u hj=>(World.cell?_of_block (hz _ (World.block_lt_of_cell? z _ (h.1 j u hj)) (by show w.heap.size + 1≠b9;have:=HNW.out.2;omega))).trans (h.1 j u hj),fun j u hj=>(World.cell?_of_block (hz _ (World.block_lt_of_cell? z _ (h.2 j u hj)) (by show w.heap.size + 2≠b9;have:=HNW.out.2;omega))).trans (h.2 j u hj)⟩)
   refine wp_region_held_drew (S:=fun z=>z.rangeAt (w.heap.size + 1) 0 [.int .u32 h.size, .slice A n c]∧z.rangeAt (w.heap.size + 2) 0 (kidE.enc k)) (by kernel_rfl) ⟨h1r,h2r⟩ (fun hHeld=>?_);refine wpAnyH_take (i:=0) (v:= .agg #[.int .u32 h.size, .slice A n c]) rfl (by kernel_rfl) (by kernel_rfl) (by kernel_rfl) (fun _ _ _ h=>h) (yieldsIf_load_mid (by rfl) 32 (.tmp 4) rfl (w.heap.size + 1) 0 rfl [.int .u32 h.size, .slice A n c] _ (fun z hz=>hz.1) Tryz.underlying32 rfl jcu) hHeld ?_;try simp only[Act.put,jy1,jy2,jy3,List.getElem_toArray,List.getElem_cons_zero,List.getElem_cons_succ]
   refine wpAnyH_take (i:=2) (v:= .agg (kidE.enc k).toArray) rfl (by kernel_rfl) (by kernel_rfl) (by kernel_rfl) (fun _ _ _ h=>h) (yieldsIf_load_mid (by rfl) 40 (.tmp 5) rfl (w.heap.size + 2) 0 rfl (kidE.enc k) _ (fun z hz=>hz.2) Tryz.underlying40 rfl hkl9) hHeld ?_;rw[HKA.out];try simp only[Act.put,jy1,jy2,jy3,List.getElem_toArray,List.getElem_cons_zero,List.getElem_cons_succ]
   refine wpAnyH_ready (rs:=[1]) (by kernel_rfl) (by simp) ?_;refine AllReadyH.cons rfl (fun K hK=>?_) AllReadyH.nil;go_simp;refine(jkm we.drew _ h (HH3.out.below ((Below.refl we.heap.size we).drew) (Nat.le_refl _)) hmax2).mono ?_;rintro e w8 ⟨cv2,rfl,hho,hb8⟩;obtain⟨hpa,hhpa⟩:∃hpa,([.int .u32 h.size,cv2]:List Value).toArray=hpa:=⟨_,rfl⟩
   rw[show(#[Value.int .u32 h.size,cv2]:Array Value)=hpa from hhpa];have hbe8:Below we.heap.size we w8:=((Below.refl we.heap.size we).drew).trans hb8;obtain⟨wy,wz,hs1,hs2,hk1,hk2,hfin⟩:=swap_store (H3.out.pure hbe8) HNW.out.2 ((hbe8.block _ (lt_of_block HNW.out.1)).trans HNW.out.1) (hho.up H3.out.below.size) hk hhpa HKA.out;refine hK.out _ _ (HRK.out _ _ (fun b hb _=>hb8.block b hb) hHeld) (fun hHeld=>?_);clear hK K;try simp only[Act.put,jy1,jy2,jy3,List.getElem_toArray,List.getElem_cons_zero,List.getElem_cons_succ]
   refine wpAnyH_take (i:=3) (v:= .pointer (some ⟨b9,5,none⟩)) rfl (by kernel_rfl) (by kernel_rfl) (by kernel_rfl) (fun _ _ _ h=>h) (Or.inl ⟨by rfl,fun z hz=>by go_simp⟩) hHeld ?_;try simp only[Act.put,jy1,jy2,jy3,List.getElem_toArray,List.getElem_cons_zero,List.getElem_cons_succ]
   refine wpAnyH_ready (rs:=[4]) (by kernel_rfl) (by simp) ?_;refine AllReadyH.cons rfl (fun K hK=>?_) AllReadyH.nil;rw[if_pos (by rfl)];refine jkn 32 (.tmp 22) (.tmp 20) rfl ⟨b9,5,none⟩ rfl (.agg hpa) rfl wy hs1 ?_;refine hK.out _ _ (HRK.out _ _ (fun b _ hne=>hk1 b hne) hHeld) (fun hHeld=>?_);clear hK K;try simp only[Act.put,jy1,jy2,jy3,List.getElem_toArray,List.getElem_cons_zero,List.getElem_cons_succ]
   refine wpAnyH_take (i:=5) (v:= .pointer (some ⟨b9,79,none⟩)) rfl (by kernel_rfl) (by kernel_rfl) (by kernel_rfl) (fun _ _ _ h=>h) (Or.inl ⟨by rfl,fun z hz=>by go_simp⟩) hHeld ?_;try simp only[Act.put,jy1,jy2,jy3,List.getElem_toArray,List.getElem_cons_zero,List.getElem_cons_succ]
   refine wpAnyH_ready (rs:=[6]) (by kernel_rfl) (by simp) ?_;refine AllReadyH.cons rfl (fun K hK=>?_) AllReadyH.nil;rw[if_pos (by rfl)];refine jkn 40 (.tmp 23) (.tmp 21) rfl ⟨b9,79,none⟩ rfl (.agg ka) rfl wz hs2 ?_;have hHeld2:=HRK.out _ _ (fun b _ hne=>(hk2 b hne).trans (hk1 b hne).symm) hHeld;refine hK.out _ _ hHeld2 (fun hHeld=>?_);clear hK K;try simp only[Act.put,jy1,jy2,jy3,List.getElem_toArray,List.getElem_cons_zero,List.getElem_cons_succ]
   refine wpAnyH_done (by kernel_rfl) ?_ _;have HFI:=Lib.hid hfin;clear hfin hs1 hs2 hk1 hk2 hHeld hHeld2 h1r h2r;go_wp2_with (fail);go_meet;exact HFI.out
  case rest=>
   have HCU:=Lib.hid hcut;obtain⟨⟨hcb,hc0,hc3,hcs⟩,xn,hx1,hx2⟩:=hcut;obtain⟨xn',e9,hxl,hxo,hxc⟩:=jcf hx2;have e9:xn=xn':=by
    injection e9 with e9;have:=congrArg Array.toList e9;simpa using this
   subst e9;have hatx:At wc b9 0 xn:=fun j hj=>by
    rw[cell_of_row _ _ _ _ _ _ hx1,Nat.zero_add];simp[hj]
   have HXC:=Lib.hid (And.intro hxl (And.intro hxo hxc));have hsix:(Tryz.prog.info? 42).map (·.size)=some xn.length:=by rw[hxl];exact ja6
   obtain⟨xa,hxa⟩:∃xa,xn.toArray=xa:=⟨_,rfl⟩
   have HCX:=Lib.hid (chk_any wc _ {s with heap:=h,table:=k} hx2 hbl hwl hmax2);rw[hxa]at HCX;have HXA:=Lib.hid hxa;have HX:=Lib.hid (And.intro hx1 hx2);have HSN2:=Lib.hid (show sn.length=113 from HC2.out.1);clear hx1 hx2 hcb hc0 hc3 hcs hxc hxa;go_wp2_with (refine jae rfl 42 (.tmp 9) rfl b9 0 rfl xn _ hatx Tryz.underlying42 rfl hsix xa HXA.out ?_);refine HCX.out.mono ?_;rintro e wg ⟨rfl,hbg⟩;have HG:=Lib.hid (HCU.out.toSwW.pure hbg);have hg3:=HG.out.b3;have HGX:=Lib.hid (And.intro ((hbg.block _ (lt_of_block HX.out.1)).trans HX.out.1) (HX.out.2.below hbg (Nat.le_refl _)));clear hatx hbg HCX;cases hc2:jdm {s with heap:=h,table:=k}with
   |false=>
    have hse:stoE {s with heap:=h,table:=k}=7:=by unfold stoE;rw[hc2];rfl
    have HR:=Lib.hid (show swapS s h k=(s,4) by unfold swapS;rw[if_neg (by rw[HC.out];simp),if_pos hc2]);rw[hse];have hats:At wg w.heap.size 0 sn:=fun j hj=>by
     rw[cell_of_row _ _ _ _ _ _ HG.out.b0,Nat.zero_add];simp[hj]
    clear hc2 hse;go_wp2_with (first
     |(refine jae rfl 42 (.tmp 3) rfl w.heap.size 0 rfl sn _ hats Tryz.underlying42 rfl hsn2 sna HSNA.out ?_)
     |((with_reducible refine jab ?_);refine jaf rfl 42 _ _ rfl (w.heap.size + 3) 0 rfl sn (by rw[HSNA.out];rfl) 42 _ hg3 (by rw[HSN2.out];exact Nat.le_refl 113) hon hsn2 ?_))
    rw[show List.drop 113 zSto=[]from rfl,List.append_nil];refine bodyPost_ret (jb7 rfl _ (w.heap.size + 3) sn HSN2.out (0,0) _ rfl (jad _ _ _ _ _ hg3)) rfl ⟨.agg sn.toArray,?_,?_,ja8 HG.out.below (by omega)⟩
    ·rw[HR.out];rfl
    ·rw[HR.out];exact HG.out.sto.keepN hg3 jhk jdd
   |true=>
    have hse:stoE {s with heap:=h,table:=k}=0:=by unfold stoE;rw[hc2];rfl
    have HR:=Lib.hid (show swapS s h k=({s with heap:=h,table:=k},0) by unfold swapS;rw[if_neg (by rw[HC.out];simp),if_neg (by rw[hc2];simp)]);rw[hse];have hats:At wg b9 0 xn:=fun j hj=>by
     rw[cell_of_row _ _ _ _ _ _ HGX.out.1,Nat.zero_add];simp[hj]
    clear hc2 hse;go_wp2_with (first
     |(refine jae rfl 42 (.tmp 9) rfl b9 0 rfl xn _ hats Tryz.underlying42 rfl hsix xa HXA.out ?_)
     |((with_reducible refine jab ?_);refine jaf rfl 42 _ _ rfl (w.heap.size + 3) 0 rfl xn (by rw[HXA.out];rfl) 42 _ hg3 (by rw[HXC.out.1];exact Nat.le_refl 113) hxo hsix ?_))
    rw[show List.drop 113 zSto=[]from rfl,List.append_nil];refine bodyPost_ret (jb7 rfl _ (w.heap.size + 3) xn HXC.out.1 (0,0) _ rfl (jad _ _ _ _ _ hg3)) rfl ⟨.agg xn.toArray,?_,?_,ja8 HG.out.below (by omega)⟩
    ·rw[HR.out];rfl
    ·rw[HR.out];exact HGX.out.2.keepN hg3 jhk jdd
end Go.Proofs.YtpaohkkhejpgjaaGreatDoor
