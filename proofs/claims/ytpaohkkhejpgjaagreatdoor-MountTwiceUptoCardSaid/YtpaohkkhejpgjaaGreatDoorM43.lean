/- Texts of the proof: Za Zb Zg. -/
import Derived.Test.YtpaohkkhejpgjaaGreatDoorM39
import Derived.Test.YtpaohkkhejpgjaaGreatDoorM36
import Derived.Test.YtpaohkkhejpgjaaGreatDoorM20
import Derived.Test.YtpaohkkhejpgjaaGreatDoorM41
import Derived.Test.YtpaohkkhejpgjaaGreatDoorM42
set_option linter.all false
set_option maxRecDepth 100000
set_option maxHeartbeats 8000000
namespace Go.Proofs.YtpaohkkhejpgjaaGreatDoor
open Go Go.RowKit
def HeapO(B:Nat)(w:World)(cv:Value)(h:Hp):Prop:=w.ownsRow B 91 3 cv h.cells.length (h.cells.flatMap celE.enc)∧(∀x∈h.cells,celE.wf x)∧u32Ok h.size
theorem HeapO.v{B:Nat}{w:World}{cv:Value}{h:Hp}(ho:HeapO B w cv h):HeapV w (.agg #[.int .u32 h.size,cv]) h:=⟨cv,rfl,jct (E:=celE) ho.1 rfl ho.2.1,ho.2.2⟩
theorem HeapO.keep{B g:Nat}{w w':World}{cv:Value}{h:Hp}{cs:Array Value}{t:TypeId}{fr:Nat×Nat}(ho:HeapO B w cv h)(hg:w.grownBy w' (some g))(hb:w.heap[g]? =some (.cells cs t fr))(ht:t≠91):HeapO B w' cv h:=
 ⟨jat ho.1 hg hb ht,ho.2⟩
theorem HeapO.below{B:Nat}{w w':World}{cv:Value}{h:Hp}(ho:HeapO B w cv h)(hb:Below w.heap.size w w'):HeapO B w' cv h:=⟨jc4 ho.1 hb,ho.2⟩
theorem HeapO.up{B B':Nat}{w:World}{cv:Value}{h:Hp}(ho:HeapO B w cv h)(hb:B'≤B):HeapO B' w cv h:=⟨jd4 ho.1 hb,ho.2⟩
theorem jkm(w:World)(v:Value)(h:Hp)(hv:HeapV w v h)(hmax:h.cells.length≤1073741824):
 Calls Tryz.prog 115 #[v] w fun e w'=>∃cv,e= .returned (.agg #[.int .u32 h.size,cv])∧HeapO w.heap.size w' cv h∧Below w.heap.size w w':=by
 obtain⟨cv,rfl,hsl,hsz⟩:=hv;have HWF:=Lib.hid (sl_wfY hsl);have HSL:=Lib.hid hsl;obtain⟨C,n,cc,rfl⟩:=jax hsl;have hb0:(w.alloc (.cells #[.int .u32 h.size, .slice C n cc] 32)).heap[w.heap.size]? =some (.cells #[.int .u32 h.size, .slice C n cc] 32 (0,0)):=heap_alloc_new _ _;clear hsl;go_enter Tryz.func115,Tryz.ntmps115;go_wp2_with (fail);go_at_call 44;have hbb:=(jfs w (.cells #[.int .u32 h.size, .slice C n cc] 32)).alloc (by simp) (.cells #[.int .u32 0, .slice none 0 0] 32);have hb1:((w.alloc (.cells #[.int .u32 h.size, .slice C n cc] 32)).alloc (.cells #[.int .u32 0, .slice none 0 0] 32)).heap[w.heap.size + 1]? =some (.cells #[.int .u32 0, .slice none 0 0] 32 (0,0)):=by
  have:=heap_alloc_new (w.alloc (.cells #[.int .u32 h.size, .slice C n cc] 32)) (.cells #[.int .u32 0, .slice none 0 0] 32);simpa using this
 have hb2:((w.alloc (.cells #[.int .u32 h.size, .slice C n cc] 32)).alloc (.cells #[.int .u32 0, .slice none 0 0] 32)).heap[w.heap.size]? =some (.cells #[.int .u32 h.size, .slice C n cc] 32 (0,0)):=by
  rw[Lib.alloc_old _ _ _ (by simp)];exact hb0
 refine(jix _ _ h.cells (HSL.out.below hbb (Nat.le_refl _)) hmax).mono ?_;rintro e w1 ⟨r,rfl,hsl,hb⟩;obtain⟨A1,n1,c1,rfl⟩:=jan hsl;have hB1:Below w.heap.size w w1:=hbb.trans (hb.mono (by simp;omega));have hr1:=(hb.block (w.heap.size + 1) (by simp)).trans hb1;have hr2:=(hb.block w.heap.size (by simp;omega)).trans hb2;have f1:=frozen_of_row w1 w.heap.size 1 _ _ hr2;have hset:=ja2 hr2 1 (.slice A1 n1 c1);have hgs:=jap (World.grownBy.refl w1 (some w.heap.size)) 1 (.slice A1 n1 c1);have hr3:=(hgs.block (w.heap.size + 1) (lt_of_block hr1) (by simp)).trans hr1;have hB2:Below w.heap.size w (w1.setCell ⟨w.heap.size,1,none⟩ (.slice A1 n1 c1)):=hB1.setCell (p:=⟨w.heap.size,1,none⟩) (Nat.le_refl _) _;have c10:w1.cell? ⟨w.heap.size,0,none⟩=some (.int .u32 h.size):=by rw[cell_of_row _ _ _ _ _ _ hr2];rfl
 have c11:w1.cell? ⟨w.heap.size,1,none⟩=some (.slice C n cc):=by rw[cell_of_row _ _ _ _ _ _ hr2];rfl
 have hs2:=jat (jd4 (B':=w.heap.size) hsl (by simp;omega)) hgs hr2 (by decide);have hlt1:=lt_of_block hr2;have HF:=Lib.hid (And.intro hset (And.intro hr3 (And.intro hB2 hs2)));clear hset hgs hr3 hB2 hs2 hb hbb hb1 hb2 hB1 hr1 hr2 hsl hb0;go_wp2_with (refine jaf rfl 32 _ _ rfl (w.heap.size + 1) 0 rfl [_,_] rfl 32 _ HF.out.2.1 (by simp) (by intro v hv;simp at hv;rcases hv with rfl|rfl <;>rfl) jcu ?_);have hfin:=jad _ (w.heap.size + 1) ((#[.int .u32 0, .slice none 0 0]:Array Value).toList.take 0 ++ [Value.int .u32 h.size,Value.slice A1 n1 c1] ++ (#[.int .u32 0, .slice none 0 0]:Array Value).toList.drop (0 + [Value.int .u32 h.size,Value.slice A1 n1 c1].length)).toArray _ _ HF.out.2.1;refine bodyPost_ret (results_cell_row rfl _ _ (w.heap.size + 1) 32 _ (0,0) _ rfl hfin Tryz.underlying32 rfl jcu) rfl ⟨_,rfl,⟨jat HF.out.2.2.2 (jaq _ _ _) HF.out.2.1 (by decide),HWF.out,hsz⟩,HF.out.2.2.1.trans ⟨rfl,rfl,rfl,by simp[World.setRow],fun k hk=>jac _ _ _ _ (by omega)⟩⟩
structure OwnD(w:World)(d:Dv)(h:Hp)(A B V K:List Value)(bv2 wv2 cv2:Value)(u:World):Prop where
 below:Below w.heap.size w u
 row:u.heap[w.heap.size]? =some (.cells (stoL (devL d bv2 wv2) [.int .u32 h.size,cv2] A B V K).toArray 42 (0,0))
 res:u.heap[w.heap.size + 1]? =some (.cells zSto.toArray 42 (0,0))
 dev:DevO w.heap.size u (jck d bv2 wv2) d
 heap:HeapO w.heap.size u cv2 h
theorem ja8{B g:Nat}{w u:World}{cs:Array Value}(h:Below B w u)(hB:B≤g):Below B w (u.setRow g cs):=
 h.trans ⟨rfl,rfl,rfl,by simp[World.setRow],fun k hk=>jac _ _ _ _ (by omega)⟩
theorem sto_put0{dv dv2 hp A B V K:List Value}(h5:dv.length=5)(h52:dv2.length=5):((stoL dv hp A B V K).toArray.toList.take 0 ++ dv2 ++ (stoL dv hp A B V K).toArray.toList.drop dv2.length).toArray=(stoL dv2 hp A B V K).toArray:=by
 rw[List.toList_toArray,List.take_zero,List.nil_append];unfold stoL;rw[List.drop_append_of_le_length (by omega),List.drop_of_length_le (by omega),List.nil_append]
theorem sto_put5{dv hp hp2 A B V K:List Value}(h5:dv.length=5)(h2:hp.length=2)(h22:hp2.length=2):((stoL dv hp A B V K).toArray.toList.take 5 ++ hp2 ++ (stoL dv hp A B V K).toArray.toList.drop (5 + hp2.length)).toArray=(stoL dv hp2 A B V K).toArray:=by
 rw[List.toList_toArray];unfold stoL;have e1:(dv ++ (hp ++ (A ++ (B ++ (V ++ K))))).take 5=dv:=by rw[←h5,List.take_left]
 have e2:(dv ++ (hp ++ (A ++ (B ++ (V ++ K))))).drop (5 + hp2.length)=A ++ (B ++ (V ++ K)):=by
  rw[←List.append_assoc];rw[show 5 + hp2.length=(dv ++ hp).length by rw[List.length_append];omega,List.drop_left]
 rw[e1,e2,List.append_assoc]
theorem own_store{w w8:World}{d:Dv}{h:Hp}{bv wv cv bv2 wv2 cv2:Value}{A B V K:List Value}(hl:StoLen (devL d bv wv) [.int .u32 h.size,cv] A B V K)(hB:Below w.heap.size w w8)
 (h1:w8.heap[w.heap.size]? =some (.cells (stoL (devL d bv wv) [.int .u32 h.size,cv] A B V K).toArray 42 (0,0))) (h2:w8.heap[w.heap.size + 1]? =some (.cells zSto.toArray 42 (0,0)))
 (hd:DevO w.heap.size w8 (jck d bv2 wv2) d) (hh:HeapO w.heap.size w8 cv2 h) {dva hpa:Array Value} (hdva:(devL d bv2 wv2).toArray=dva) (hhpa:([.int .u32 h.size,cv2]:List Value).toArray=hpa):
 ∃wy wz,(storeCells ⟨w.heap.size,0,none⟩ dva.toList).run Tryz.prog w8= .ok () wy∧(storeCells ⟨w.heap.size,5,none⟩ hpa.toList).run Tryz.prog wy= .ok () wz∧OwnD w d h A B V K bv2 wv2 cv2 wz:=by
 have hone:∀u∈devL d bv2 wv2,u.oneCell'=true:=by
  obtain⟨b',w',e,e1,e2,_⟩:=hd;unfold jck at e;simp only[Value.agg.injEq,Array.mk.injEq,List.cons.injEq,and_true,true_and]at e;obtain⟨rfl,rfl⟩:=e;obtain⟨_,_,_,e1⟩:=jan e1;obtain⟨_,_,_,e2⟩:=jan e2;intro u hu;unfold devL at hu;simp at hu;rcases hu with rfl|rfl|rfl|rfl|rfl <;>first|rfl|(rw[e1];rfl)|(rw[e2];rfl)
 have hone2:∀u∈([.int .u32 h.size,cv2]:List Value),u.oneCell'=true:=by
  obtain⟨_,_,_,e1⟩:=jan hh.1;intro u hu;simp at hu;rcases hu with rfl|rfl
  ·rfl
  ·rw[e1];rfl
 have hsz:=jb4 hl;have s1:=run_storeCells_at (P:=Tryz.prog) w.heap.size 0 42 (devL d bv2 wv2) 0 _ w8 h1 (by rw[List.size_toArray,hsz];show 0 + 0 + 5≤113;decide) hone;simp only[Nat.add_zero,Nat.zero_add]at s1;rw[sto_put0 rfl rfl]at s1;have r1:=jad w8 w.heap.size (stoL (devL d bv2 wv2) [.int .u32 h.size,cv] A B V K).toArray _ _ h1;have s2:=run_storeCells_at (P:=Tryz.prog) w.heap.size 5 42 [.int .u32 h.size,cv2] 0 _ (w8.setRow w.heap.size (stoL (devL d bv2 wv2) [.int .u32 h.size,cv] A B V K).toArray) r1 (by rw[List.size_toArray,jb4 ⟨rfl,rfl,hl.3,hl.4,hl.5,hl.6⟩];show 5 + 0 + 2≤113;decide) hone2;simp only[Nat.add_zero]at s2;rw[sto_put5 rfl rfl rfl]at s2;subst hdva;subst hhpa;refine⟨_,_,s1,s2,⟨?_,jad _ _ _ _ _ r1,?_,?_,?_⟩⟩
 ·exact ja8 (ja8 hB (Nat.le_refl _)) (Nat.le_refl _)
 ·exact(jac _ _ _ _ (by omega)).trans ((jac _ _ _ _ (by omega)).trans h2)
 ·exact jb1 (jb1 hd (jaq _ _ _) h1 (by decide)) (jaq _ _ _) r1 (by decide)
 ·exact(hh.keep (jaq _ _ _) h1 (by decide)).keep (jaq _ _ _) r1 (by decide)
def StoO(B:Nat)(w:World)(v:Value)(s:Sto):Prop:=∃bv wv cv,v= .agg (stoL (devL s.dev bv wv) [.int .u32 s.heap.size,cv] (supA s.s0).toList (supA s.s1).toList [.bool s.v0, .bool s.v1] (kidE.enc s.table)).toArray∧
 DevO B w (jck s.dev bv wv) s.dev∧HeapO B w cv s.heap∧supWf s.s0∧supWf s.s1∧kidE.wf s.table
theorem StoO.v{B:Nat}{w:World}{v:Value}{s:Sto}(h:StoO B w v s):StoV w v s:=by
 obtain⟨bv,wv,cv,e,h1,h2,h3⟩:=h;exact⟨bv,wv,cv,e,h1.dev,h2.v,h3⟩
theorem StoO.keep{B g:Nat}{w w':World}{v:Value}{s:Sto}{cs:Array Value}{t:TypeId}{fr:Nat×Nat}(h:StoO B w v s)(hg:w.grownBy w' (some g))(hb:w.heap[g]? =some (.cells cs t fr))(ht:t≠160)(ht2:t≠91):StoO B w' v s:=by
 obtain⟨bv,wv,cv,e,h1,h2,h3⟩:=h;exact⟨bv,wv,cv,e,jb1 h1 hg hb ht,h2.keep hg hb ht2,h3⟩
theorem StoO.below{B:Nat}{w w':World}{v:Value}{s:Sto}(h:StoO B w v s)(hb:Below w.heap.size w w'):StoO B w' v s:=by
 obtain⟨bv,wv,cv,e,h1,h2,h3⟩:=h;exact⟨bv,wv,cv,e,jcy h1 hb,h2.below hb,h3⟩
theorem StoO.up{B B':Nat}{w:World}{v:Value}{s:Sto}(h:StoO B w v s)(hb:B'≤B):StoO B' w v s:=by
 obtain⟨bv,wv,cv,e,h1,h2,h3⟩:=h;exact⟨bv,wv,cv,e,devO_up h1 hb,h2.up hb,h3⟩
theorem mownO_any(w:World)(v:Value)(s:Sto)(hv:StoV w v s)(hbl:s.dev.blocks.length≤1073741824)(hwl:s.dev.waits.length≤1073741824)(hmax:s.heap.cells.length≤1073741824):
 Calls Tryz.prog 63 #[v] w fun e w'=>∃r,e= .returned r∧StoO w.heap.size w' r s∧Below w.heap.size w w':=by
 obtain⟨bv,wv,cv,rfl,hdv,hhv,hw0,hw1,hkw⟩:=hv;have HDV:=Lib.hid hdv;have HHV:=Lib.hid hhv;have HSL:=Lib.hid (ja4 (d:=s.dev) (bv:=bv) (wv:=wv) (x:= .int .u32 s.heap.size) (cv:=cv) (p:=s.v0) (q:=s.v1) hw0 hw1 hkw);have HWF:=Lib.hid (And.intro hw0 (And.intro hw1 hkw));clear hdv hhv hw0 hw1 hkw;have HLN:=Lib.hid (jb4 HSL.out);obtain⟨st,hst⟩:∃st,stoL (devL s.dev bv wv) [.int .u32 s.heap.size,cv] (supA s.s0).toList (supA s.s1).toList [.bool s.v0, .bool s.v1] (kidE.enc s.table)=st:=⟨_,rfl⟩
 rw[hst]at HLN ⊢;have HST:=Lib.hid hst;clear hst;obtain⟨zs,hzs⟩:∃zs,zSto.toArray=zs:=⟨_,rfl⟩
 have HZS:=Lib.hid hzs;have hn1:((w.alloc (.cells st.toArray 42)).alloc (.cells zs 42)).heap[w.heap.size]? =some (.cells st.toArray 42 (0,0)):=ji6;have hn2:((w.alloc (.cells st.toArray 42)).alloc (.cells zs 42)).heap[w.heap.size + 1]? =some (.cells zs 42 (0,0)):=ji5;have hnb:Below w.heap.size w ((w.alloc (.cells st.toArray 42)).alloc (.cells zs 42)):=jf5;go_enter Tryz.func63,Tryz.ntmps63;go_upto_region 1 with(fail);rw[←ji3,hzs];generalize(w.alloc (.cells st.toArray 42)).alloc (.cells zs 42)=wa at *;have H0:=Lib.hid (And.intro hnb (And.intro hn1 hn2));have hsa:=jcr (by rw[HST.out];exact hn1) HSL.out;have x0:wa.cell? ⟨w.heap.size,0,none⟩=some (.int .u32 s.dev.size):=hsa.1.cell 0 _ rfl;have x1:wa.cell? ⟨w.heap.size,1,none⟩=some bv:=hsa.1.cell 1 _ rfl;have x2:wa.cell? ⟨w.heap.size,2,none⟩=some wv:=hsa.1.cell 2 _ rfl;have x3:wa.cell? ⟨w.heap.size,3,none⟩=some (.bool s.dev.down):=hsa.1.cell 3 _ rfl;have x4:wa.cell? ⟨w.heap.size,4,none⟩=some (.int .i64 s.dev.fuse):=hsa.1.cell 4 _ rfl;have x5:wa.cell? ⟨w.heap.size,5,none⟩=some (.int .u32 s.heap.size):=hsa.2.1.cell 0 _ rfl;have x6:wa.cell? ⟨w.heap.size,6,none⟩=some cv:=hsa.2.1.cell 1 _ rfl;go_cut [3,4,5,6,7,8,9,10] (fun _ _ _ _ _ _ _ _ wx=>∃bv2 wv2 cv2,OwnD w s.dev s.heap (supA s.s0).toList (supA s.s1).toList [.bool s.v0, .bool s.v1] (kidE.enc s.table) bv2 wv2 cv2 wx)
 case first=>
  go_region_with (first
   |(go_at_call 34;refine(jhg wa.drew _ s.dev (HDV.out.below (H0.out.1.drew) (Nat.le_refl _)) hbl hwl).mono ?_;rintro e w5 ⟨r,rfl,hdo,hb5⟩;have y5:w5.cell? ⟨w.heap.size,5,none⟩=some (.int .u32 s.heap.size):=(hb5.cell (block_lt_of_cell x5)).trans x5;have y6:w5.cell? ⟨w.heap.size,6,none⟩=some cv:=(hb5.cell (block_lt_of_cell x6)).trans x6;have HD5:=Lib.hid (And.intro hdo hb5);obtain⟨bv2,wv2,rfl⟩:=jj1 hdo;obtain⟨dva,hdva⟩:∃dva,(devL s.dev bv2 wv2).toArray=dva:=⟨_,rfl⟩;rw[show jck s.dev bv2 wv2= .agg (devL s.dev bv2 wv2).toArray from rfl,hdva];have hdz:dva.size=5:=(by rw[←hdva];rfl);have HDA:=Lib.hid hdva;clear hdo hb5 hdva)
   |(go_at_call 115;refine(jkm w5 _ s.heap (HHV.out.below (H0.out.1.drew.trans (HD5.out.2.mono H0.out.1.size)) (Nat.le_refl _)) hmax).mono ?_;rintro e w8 ⟨cv2,rfl,hho,hb8⟩;obtain⟨hpa,hhpa⟩:∃hpa,([.int .u32 s.heap.size,cv2]:List Value).toArray=hpa:=⟨_,rfl⟩;rw[show(#[Value.int .u32 s.heap.size,cv2]:Array Value)=hpa from hhpa];obtain⟨wy,wz,hs1,hs2,hfin⟩:=own_store HSL.out ((H0.out.1.drew.trans (HD5.out.2.mono H0.out.1.size)).trans (hb8.mono (Nat.le_trans H0.out.1.size HD5.out.2.size))) (by rw[HST.out];exact((hb8.block _ (Nat.lt_of_lt_of_le (lt_of_block H0.out.2.1) HD5.out.2.size)).trans ((HD5.out.2.block _ (lt_of_block H0.out.2.1)).trans H0.out.2.1))) (by rw[HZS.out];exact((hb8.block _ (Nat.lt_of_lt_of_le (lt_of_block H0.out.2.2) HD5.out.2.size)).trans ((HD5.out.2.block _ (lt_of_block H0.out.2.2)).trans H0.out.2.2))) (jcy (devO_up HD5.out.1 H0.out.1.size) hb8) (hho.up (Nat.le_trans H0.out.1.size HD5.out.2.size)) HDA.out hhpa;have hpz:hpa.size=2:=(by rw[←hhpa];rfl);have HFI:=Lib.hid hfin;clear hfin hho hb8 hhpa))
  all_goals(go_wp2_with (fail);go_meet;exact⟨_,_,_,HFI.out⟩)
 case rest=>
  obtain⟨bv2,wv2,cv2,hd⟩:=hcut;have hlen2:=jb4 (show StoLen (devL s.dev bv2 wv2) [.int .u32 s.heap.size,cv2] (supA s.s0).toList (supA s.s1).toList [.bool s.v0, .bool s.v1] (kidE.enc s.table)from ja4 HWF.out.1 HWF.out.2.1 HWF.out.2.2);have hone:∀u∈stoL (devL s.dev bv2 wv2) [.int .u32 s.heap.size,cv2] (supA s.s0).toList (supA s.s1).toList [.bool s.v0, .bool s.v1] (kidE.enc s.table),u.oneCell'=true:=by
   obtain⟨b',w',e,e1,e2,_⟩:=hd.dev;unfold jck at e;simp only[Value.agg.injEq,Array.mk.injEq,List.cons.injEq,and_true,true_and]at e;obtain⟨rfl,rfl⟩:=e;obtain⟨_,_,_,e1⟩:=jan e1;obtain⟨_,_,_,e2⟩:=jan e2;obtain⟨_,_,_,e3⟩:=jan hd.heap.1;intro u hu;unfold stoL at hu;simp only[List.mem_append]at hu;rcases hu with hu|hu|hu|hu|hu|hu
   ·unfold devL at hu;simp at hu;rcases hu with rfl|rfl|rfl|rfl|rfl <;>first|rfl|(rw[e1];rfl)|(rw[e2];rfl)
   ·simp at hu;rcases hu with rfl|rfl
    ·rfl
    ·rw[e3];rfl
   ·exact jbt _ u hu
   ·exact jbt _ u hu
   ·simp at hu;rcases hu with rfl|rfl <;>rfl
   ·exact kidE.one _ HWF.out.2.2 u hu
  have HD:=Lib.hid hd;have hat:At wc w.heap.size 0 (stoL (devL s.dev bv2 wv2) [.int .u32 s.heap.size,cv2] (supA s.s0).toList (supA s.s1).toList [.bool s.v0, .bool s.v1] (kidE.enc s.table)):=fun k hk=>by
   rw[cell_of_row _ _ _ _ _ _ hd.row,Nat.zero_add,List.getElem?_toArray];exact List.getElem?_eq_getElem hk
  have hres:=hd.res;have HOUT:=Lib.hid (show ∀wf,wc.grownBy wf (some (w.heap.size + 1))→StoO w.heap.size wf (.agg (stoL (devL s.dev bv2 wv2) [.int .u32 s.heap.size,cv2] (supA s.s0).toList (supA s.s1).toList [.bool s.v0, .bool s.v1] (kidE.enc s.table)).toArray) s from fun wf hg=>
   ⟨bv2,wv2,cv2,rfl,jb1 HD.out.dev hg HD.out.res (by decide),HD.out.heap.keep hg HD.out.res (by decide),HWF.out.1,HWF.out.2.1,HWF.out.2.2⟩)
  obtain⟨sn,hsn⟩:∃sn,stoL (devL s.dev bv2 wv2) [.int .u32 s.heap.size,cv2] (supA s.s0).toList (supA s.s1).toList [.bool s.v0, .bool s.v1] (kidE.enc s.table)=sn:=⟨_,rfl⟩
  rw[hsn]at hat hlen2 hone HOUT;have hsi:(Tryz.prog.info? 42).map (·.size)=some sn.length:=by rw[hlen2];exact ja6
  obtain⟨sa,hsa2⟩:∃sa,sn.toArray=sa:=⟨_,rfl⟩
  have HSA:=Lib.hid hsa2;clear hd hsn hsa2 x0 x1 x2 x3 x4 x5 x6 hsa;go_wp2_with (first
   |(refine jae rfl 42 (.tmp 1) rfl w.heap.size 0 rfl sn _ hat Tryz.underlying42 rfl hsi sa HSA.out ?_)
   |((with_reducible refine jab ?_);refine jaf rfl 42 _ _ rfl (w.heap.size + 1) 0 rfl sn (by rw[HSA.out];rfl) 42 _ hres (by rw[hlen2];exact Nat.le_refl 113) hone hsi ?_))
  have e9:(zSto.toArray.toList.take 0 ++ sn ++ zSto.toArray.toList.drop (0 + sn.length)).toArray=sn.toArray:=by
   rw[List.drop_of_length_le (by rw[hlen2];decide)];simp
  rw[e9];have hfin:=jad _ (w.heap.size + 1) sn.toArray _ _ hres;refine bodyPost_ret (results_cell_row rfl _ _ (w.heap.size + 1) 42 _ (0,0) _ rfl hfin Tryz.underlying42 rfl hsi) rfl ⟨_,rfl,HOUT.out _ (jaq _ _ _),HD.out.below.trans ⟨rfl,rfl,rfl,by simp[World.setRow],fun k hk=>jac _ _ _ _ (by omega)⟩⟩
theorem mown_any(w:World)(v:Value)(s:Sto)(hv:StoV w v s)(hbl:s.dev.blocks.length≤1073741824)(hwl:s.dev.waits.length≤1073741824)(hmax:s.heap.cells.length≤1073741824):
 Calls Tryz.prog 63 #[v] w fun e w'=>∃r,e= .returned r∧StoV w' r s∧Below w.heap.size w w':=
 (mownO_any w v s hv hbl hwl hmax).mono fun e w' ⟨r,h1,h2,h3⟩=>⟨r,h1,h2.v,h3⟩
def NoCel(cs:Array Value):Prop:=∀(i:Nat) (s:ByteArray) (x:Int),cs[i + 1]? =some (.string s)→cs[i]? ≠some (.int .u32 x)
theorem noCel_mid{front back:List Value}{k:ByteArray}{b:Bool}(hf:∀x∈front,∀s,x≠ .string s)(hb:∀x∈back,∀s,x≠ .string s):NoCel (front ++ .bool b:: .string k::back).toArray:=fun i s x h1 h0=>by
 rw[List.getElem?_toArray]at h1 h0;rcases Nat.lt_or_ge (i + 1) front.length with h|h
 ·rw[List.getElem?_append_left h]at h1;exact hf _ (List.mem_of_getElem? h1) s rfl
 ·rw[List.getElem?_append_right h]at h1;rcases(show i + 1 - front.length=0∨i + 1 - front.length=1∨2≤i + 1 - front.length by omega)with e|e|e
  ·rw[e]at h1;simp at h1
  ·rw[List.getElem?_append_right (by omega),show i - front.length=0 by omega]at h0;simp at h0
  ·obtain⟨j,hj⟩:∃j,i + 1 - front.length=j + 2:=⟨_,(Nat.sub_add_cancel e).symm⟩
   rw[hj]at h1;simp only[List.getElem?_cons_succ]at h1;exact hb _ (List.mem_of_getElem? h1) s rfl
theorem hash_noStr(l:List Int):∀x∈hashV l,∀s,x≠ .string s:=fun x hx s e=>by
 subst e;unfold hashV at hx;obtain⟨_,_,h⟩:=List.mem_map.1 hx;cases h
theorem sup_noStr(a:Sup):∀x∈(supA a).toList,∀s,x≠ .string s:=fun x hx s e=>by
 subst e;have h:Value.string s∈[Value.int .u32 a.size, .int .u64 a.gen, .int .u32 a.table] ++ hashV a.hash:=hx;rw[List.mem_append]at h;rcases h with h|h
 ·simp at h
 ·exact hash_noStr _ _ h s rfl
def NotStr(v:Value):Prop:=∀s,v≠ .string s
theorem jg9{d:Dv}{bv wv x cv:Value}{a b:Sup}{p q:Bool}{k:Kid}(h1:NotStr bv)(h2:NotStr wv)(h3:NotStr cv)(h4:NotStr x):NoCel (stoL (devL d bv wv) [x,cv] (supA a).toList (supA b).toList [.bool p, .bool q] (kidE.enc k)).toArray:=by
 have e:stoL (devL d bv wv) [x,cv] (supA a).toList (supA b).toList [.bool p, .bool q] (kidE.enc k)=(devL d bv wv ++ ([x,cv] ++ ((supA a).toList ++ ((supA b).toList ++ [.bool p])))) ++ .bool q:: .string k.key::([.int .u32 k.num] ++ hashV k.hash):=by
  unfold stoL;rw[show kidE.enc k=[Value.string k.key, .int .u32 k.num] ++ hashV k.hash from rfl];simp
 rw[e];refine noCel_mid ?_ ?_
 ·intro y hy s;simp only[List.mem_append]at hy;rcases hy with hy|hy|hy|hy|hy
  ·unfold devL at hy;simp at hy;rcases hy with rfl|rfl|rfl|rfl|rfl <;>first|exact h1 s|exact h2 s|(intro e;cases e)
  ·simp at hy;rcases hy with rfl|rfl
   ·exact h4 s
   ·exact h3 s
  ·exact sup_noStr _ _ hy s
  ·exact sup_noStr _ _ hy s
  ·simp at hy;subst hy;intro e;cases e
 ·intro y hy s;rw[List.mem_append]at hy;rcases hy with hy|hy
  ·simp at hy;subst hy;intro e;cases e
  ·exact hash_noStr _ _ hy s
theorem jbe{a:Option Addr}{n c:Nat}:NotStr (.slice a n c):=fun _ e=>by cases e
theorem jf7{k:IntKind}{n:Int}:NotStr (.int k n):=fun _ e=>by cases e
theorem jhk:NoCel zSto.toArray:=by
 have h:=jg9 (d:=noDev) (bv:= .slice none 0 0) (wv:= .slice none 0 0) (x:= .int .u32 0) (cv:= .slice none 0 0) (a:=noSup) (b:=noSup) (p:=false) (q:=false) (k:=noKid) jbe jbe jbe jf7;exact h
theorem jha{α:Type}{E:Enc α}{f:α→Int}{g':α→ByteArray}(h0:∀x,(E.enc x)[0]? =some (.int .u32 (f x)))(h1:∀x,(E.enc x)[1]? =some (.string (g' x))){w w':World}{g:Nat}{cs:Array Value}{t:TypeId}{fr:Nat×Nat}(hg:w.heap[g]? =some (.cells cs t fr))(hn:NoCel cs)(hk:∀b,b < w.heap.size→b≠g→w'.heap[b]? =w.heap[b]?)
 {v:Value} {xs:List α} (hs:Sl E w v xs):Sl E w' v xs:=by
 obtain⟨A,c,rfl,e1,e2,hr⟩:=hs;refine⟨A,c,rfl,e1,e2,fun k hk'=>?_⟩;obtain⟨b,o,rfl,hat,hwf⟩:=hr k hk';have c0:=hat.cell 0 _ (h0 _);have c1:=hat.cell 1 _ (h1 _);refine⟨b,o,rfl,hat.heap (hk b (block_lt_of_cell c0) fun e=>?_),hwf⟩;subst e;rw[cell_of_row _ _ _ _ _ _ hg]at c0 c1;exact hn _ _ _ c1 c0
section
variable {w w':World} {g:Nat} {cs:Array Value} {t:TypeId} {fr:Nat×Nat}
theorem DevV.keepN(hg:w.heap[g]? =some (.cells cs t fr))(hn:NoCel cs)(hk:∀b,b < w.heap.size→b≠g→w'.heap[b]? =w.heap[b]?){v:Value}{d:Dv}(h:DevV w v d):DevV w' v d:=by
 obtain⟨bv,wv,e,h1,h2,h3⟩:=h;exact⟨bv,wv,e,jha (E:=blkE) (f:=(·.num)) (g':=(·.data)) (fun _=>rfl) (fun _=>rfl) hg hn hk h1,jha (E:=blkE) (f:=(·.num)) (g':=(·.data)) (fun _=>rfl) (fun _=>rfl) hg hn hk h2,h3⟩
theorem HeapV.keepN(hg:w.heap[g]? =some (.cells cs t fr))(hn:NoCel cs)(hk:∀b,b < w.heap.size→b≠g→w'.heap[b]? =w.heap[b]?){v:Value}{h:Hp}(hv:HeapV w v h):HeapV w' v h:=by
 obtain⟨cv,e,h1,h2⟩:=hv;exact⟨cv,e,jha (E:=celE) (f:=(·.num)) (g':=(·.data)) (fun _=>rfl) (fun _=>rfl) hg hn hk h1,h2⟩
theorem StoV.keepN(hg:w.heap[g]? =some (.cells cs t fr))(hn:NoCel cs)(hk:∀b,b < w.heap.size→b≠g→w'.heap[b]? =w.heap[b]?){v:Value}{s:Sto}(h:StoV w v s):StoV w' v s:=by
 obtain⟨bv,wv,cv,e,h1,h2,h3⟩:=h;exact⟨bv,wv,cv,e,h1.keepN hg hn hk,h2.keepN hg hn hk,h3⟩
end
theorem jdd{w:World}{g:Nat}{cs:Array Value}:∀b,b < w.heap.size→b≠g→(w.setRow g cs).heap[b]? =w.heap[b]? :=fun _ _ hne=>jac _ _ _ _ hne
theorem jcf{w:World}{v:Value}{s:Sto}(h:StoV w v s):∃st:List Value,v= .agg st.toArray∧st.length=113∧(∀u∈st,u.oneCell'=true)∧NoCel st.toArray:=by
 obtain⟨bv,wv,cv,e,h1,h2,h3,h4,h5⟩:=h;obtain⟨b',w',e1,⟨_,_,eb,_⟩,⟨_,_,ew,_⟩,_⟩:=h1;unfold jck at e1;simp only[Value.agg.injEq,Array.mk.injEq,List.cons.injEq,and_true,true_and]at e1;obtain⟨rfl,rfl⟩:=e1;obtain⟨c',e2,⟨_,_,ec,_⟩,_⟩:=h2;simp only[Value.agg.injEq,Array.mk.injEq,List.cons.injEq,and_true,true_and]at e2;subst e2;refine⟨_,e,jb4 (ja4 h3 h4 h5),?_,jg9 (by rw[eb];exact jbe) (by rw[ew];exact jbe) (by rw[ec];exact jbe) jf7⟩;intro u hu;unfold stoL at hu;simp only[List.mem_append]at hu;rcases hu with hu|hu|hu|hu|hu|hu
 ·unfold devL at hu;simp at hu;rcases hu with rfl|rfl|rfl|rfl|rfl <;>first|rfl|(rw[eb];rfl)|(rw[ew];rfl)
 ·simp at hu;rcases hu with rfl|rfl
  ·rfl
  ·rw[ec];rfl
 ·exact jbt _ u hu
 ·exact jbt _ u hu
 ·simp at hu;rcases hu with rfl|rfl <;>rfl
 ·exact kidE.one _ h5 u hu
theorem jms{cur vs:List Value}(h:cur.length=vs.length):(cur.toArray.toList.take 0 ++ vs ++ cur.toArray.toList.drop (0 + vs.length)).toArray=vs.toArray:=by
 rw[List.drop_of_length_le (by simp;omega)];simp
end Go.Proofs.YtpaohkkhejpgjaaGreatDoor
