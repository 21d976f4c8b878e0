/- Texts of the proof: Z8 Zl Zm. -/
import Derived.Test.YtpaohkkhejpgjaaGreatDoorM19
import Derived.Test.YtpaohkkhejpgjaaGreatDoorM39
import Derived.Deep.LoopGhost
import Derived.Test.YtpaohkkhejpgjaaGreatDoorM41
import Derived.Test.YtpaohkkhejpgjaaGreatDoorM43
set_option linter.all false
set_option maxRecDepth 100000
set_option maxHeartbeats 8000000
namespace Go.Proofs.YtpaohkkhejpgjaaGreatDoor
open Go Go.RowKit
theorem hsameY_any(w:World)(va vb:Value)(h:Hp)(ha:HeapV w va h)(hb:HeapV w vb h)(hl:h.cells.length≤1073741824):
 Calls Tryz.prog 56 #[va,vb] w fun e w'=>e= .returned (.bool true)∧Below w.heap.size w w':=by
 obtain⟨cv,rfl,hsl,hsz⟩:=ha;obtain⟨A,c,rfl,hc1,hc2,hra⟩:=hsl;obtain⟨dv,rfl,hsl2,_⟩:=hb;obtain⟨B,d,rfl,hd1,hd2,hrb⟩:=hsl2;have HR:=Lib.hid (And.intro hra hrb);have hb1:=jfs w (.cells #[.int .u32 h.size, .slice A h.cells.length c] 32);have hb2:=hb1.alloc (by simp) (.cells #[.int .u32 h.size, .slice B h.cells.length d] 32);have hn2:=heap_alloc_new (w.alloc (.cells #[.int .u32 h.size, .slice A h.cells.length c] 32)) (.cells #[.int .u32 h.size, .slice B h.cells.length d] 32);have hn1:((w.alloc (.cells #[.int .u32 h.size, .slice A h.cells.length c] 32)).alloc (.cells #[.int .u32 h.size, .slice B h.cells.length d] 32)).heap[w.heap.size]? =some (.cells #[.int .u32 h.size, .slice A h.cells.length c] 32 (0,0)):=by
  rw[Lib.alloc_old _ _ _ (by simp)];exact heap_alloc_new _ _
 simp only[World.size_alloc]at hn2;clear hra hrb;go_enter Tryz.func56,Tryz.ntmps56;go_upto_region 1 with(fail);generalize(w.alloc (.cells #[.int .u32 h.size, .slice A h.cells.length c] 32)).alloc (.cells #[.int .u32 h.size, .slice B h.cells.length d] 32)=w2 at *;have a0:w2.cell? ⟨w.heap.size,0,none⟩=some (.int .u32 h.size):=by rw[cell_of_row _ _ _ _ _ _ hn1];rfl
 have a1:w2.cell? ⟨w.heap.size,1,none⟩=some (.slice A h.cells.length c):=by rw[cell_of_row _ _ _ _ _ _ hn1];rfl
 have b0:w2.cell? ⟨w.heap.size + 1,0,none⟩=some (.int .u32 h.size):=by rw[cell_of_row _ _ _ _ _ _ hn2];rfl
 have b1:w2.cell? ⟨w.heap.size + 1,1,none⟩=some (.slice B h.cells.length d):=by rw[cell_of_row _ _ _ _ _ _ hn2];rfl
 have hw2:=hb2.size;have HB:=Lib.hid hb2;clear hb1 hb2 hn1 hn2;go_wp2_with (fail);go_loopg [5,23] h.cells.length (fun k _ vi wr=>∃j q:Nat,j + k=h.cells.length∧vi= .int .i64 j∧wr=w2.drewN q)
 case atStart=>exact⟨0,0,by omega,rfl,rfl⟩
 case round=>
  obtain⟨j,q,hj,rfl,rfl⟩:=hrel;by_cases hlt:j < h.cells.length
  ·obtain⟨b1',o1,rfl,hat1,hwf⟩:=HR.out.1 j hlt;obtain⟨b2',o2,rfl,hat2,_⟩:=HR.out.2 j hlt;have hat1':=hat1.below HB.out (Nat.le_refl _);have hat2':=hat2.below HB.out (Nat.le_refl _);have d0:=hat1'.cell 0 _ rfl;have d1:=hat1'.cell 1 _ rfl;have d2:=hat1'.cell 2 _ rfl;have e0:=hat2'.cell 0 _ rfl;have e1:=hat2'.cell 1 _ rfl;have e2:=hat2'.cell 2 _ rfl;simp only[celE,Nat.add_zero]at d0 d1 d2 e0 e1 e2;clear hat1 hat2 hat1' hat2' hwf;generalize h.cells[j].num=kn at *;generalize h.cells[j].data=kd at *;generalize h.cells[j].refs=kr at *;have hk:(kd.toList==kd.toList)=true:=by simp
   go_wp2_with (fail);go_quiet (fail);go_wp2_with (fail);go_roundg (h.cells.length - (j + 1))
   case measure=>omega
   case rel=>exact⟨j + 1,_,by omega,by go_num,rfl⟩
  ·go_wp2_with (fail);go_ret;exact⟨rfl,Below.drewN' HB.out _⟩
theorem bsame_any(w:World)(va vb:Value)(l:List Blk)(ha:Sl blkE w va l)(hb:Sl blkE w vb l)(hl:l.length≤1073741824):
 Calls Tryz.prog 55 #[va,vb] w fun e w'=>e= .returned (.bool true)∧Below w.heap.size w w':=by
 obtain⟨A,c,rfl,hc1,hc2,hra⟩:=ha;obtain⟨B,d,rfl,hd1,hd2,hrb⟩:=hb;have HR:=Lib.hid (And.intro hra hrb);clear hra hrb;go_enter Tryz.func55,Tryz.ntmps55;go_wp2_with (fail);go_loopg [5,13] l.length (fun k _ vi wr=>∃j q:Nat,j + k=l.length∧vi= .int .i64 j∧wr=w.drewN q)
 case atStart=>exact⟨0,0,by omega,rfl,rfl⟩
 case round=>
  obtain⟨j,q,hj,rfl,rfl⟩:=hrel;by_cases hlt:j < l.length
  ·obtain⟨b1',o1,rfl,hat1,hwf⟩:=HR.out.1 j hlt;obtain⟨b2',o2,rfl,hat2,_⟩:=HR.out.2 j hlt;have d0:=hat1.cell 0 _ rfl;have d1:=hat1.cell 1 _ rfl;have e0:=hat2.cell 0 _ rfl;have e1:=hat2.cell 1 _ rfl;simp only[blkE,Nat.add_zero]at d0 d1 e0 e1;clear hat1 hat2 hwf;generalize l[j].num=kn at *;generalize l[j].data=kd at *;have hk:(kd.toList==kd.toList)=true:=by simp
   go_wp2_with (fail);go_quiet (fail);go_wp2_with (fail);go_roundg (l.length - (j + 1))
   case measure=>omega
   case rel=>exact⟨j + 1,_,by omega,by go_num,rfl⟩
  ·go_wp2_with (fail);go_ret;exact⟨rfl,Below.drewN' (Below.refl _ _) _⟩
theorem dsame_any(w:World)(va vb:Value)(d:Dv)(ha:DevV w va d)(hb:DevV w vb d)(hl:d.blocks.length≤1073741824)(hl2:d.waits.length≤1073741824):
 Calls Tryz.prog 16 #[va,vb] w fun e w'=>e= .returned (.bool true)∧Below w.heap.size w w':=by
 obtain⟨bv,wv,rfl,hb1,hw1,_⟩:=ha;obtain⟨bv2,wv2,rfl,hb2,hw2,_⟩:=hb;have HS:=Lib.hid (And.intro hb1 (And.intro hw1 (And.intro hb2 hw2)));clear hb1 hw1 hb2 hw2;have hn1:((w.alloc (.cells #[.int .u32 d.size,bv,wv, .bool d.down, .int .i64 d.fuse] 25)).alloc (.cells #[.int .u32 d.size,bv2,wv2, .bool d.down, .int .i64 d.fuse] 25)).heap[w.heap.size]? =some (.cells #[.int .u32 d.size,bv,wv, .bool d.down, .int .i64 d.fuse] 25 (0,0)):=ji6;have hn2:((w.alloc (.cells #[.int .u32 d.size,bv,wv, .bool d.down, .int .i64 d.fuse] 25)).alloc (.cells #[.int .u32 d.size,bv2,wv2, .bool d.down, .int .i64 d.fuse] 25)).heap[w.heap.size + 1]? =some (.cells #[.int .u32 d.size,bv2,wv2, .bool d.down, .int .i64 d.fuse] 25 (0,0)):=ji5;have hnb:Below w.heap.size w ((w.alloc (.cells #[.int .u32 d.size,bv,wv, .bool d.down, .int .i64 d.fuse] 25)).alloc (.cells #[.int .u32 d.size,bv2,wv2, .bool d.down, .int .i64 d.fuse] 25)):=jf5;go_enter Tryz.func16,Tryz.ntmps16;go_upto_region 1 with(fail);generalize(w.alloc (.cells #[.int .u32 d.size,bv,wv, .bool d.down, .int .i64 d.fuse] 25)).alloc (.cells #[.int .u32 d.size,bv2,wv2, .bool d.down, .int .i64 d.fuse] 25)=wa at *;have HB:=Lib.hid hnb;have x0:wa.cell? ⟨w.heap.size,0,none⟩=some (.int .u32 d.size):=by rw[cell_of_row _ _ _ _ _ _ hn1];rfl
 have x1:wa.cell? ⟨w.heap.size,1,none⟩=some (bv):=by rw[cell_of_row _ _ _ _ _ _ hn1];rfl
 have x2:wa.cell? ⟨w.heap.size,2,none⟩=some (wv):=by rw[cell_of_row _ _ _ _ _ _ hn1];rfl
 have x3:wa.cell? ⟨w.heap.size,3,none⟩=some (.bool d.down):=by rw[cell_of_row _ _ _ _ _ _ hn1];rfl
 have x4:wa.cell? ⟨w.heap.size,4,none⟩=some (.int .i64 d.fuse):=by rw[cell_of_row _ _ _ _ _ _ hn1];rfl
 have y0:wa.cell? ⟨w.heap.size + 1,0,none⟩=some (.int .u32 d.size):=by rw[cell_of_row _ _ _ _ _ _ hn2];rfl
 have y1:wa.cell? ⟨w.heap.size + 1,1,none⟩=some (bv2):=by rw[cell_of_row _ _ _ _ _ _ hn2];rfl
 have y2:wa.cell? ⟨w.heap.size + 1,2,none⟩=some (wv2):=by rw[cell_of_row _ _ _ _ _ _ hn2];rfl
 have y3:wa.cell? ⟨w.heap.size + 1,3,none⟩=some (.bool d.down):=by rw[cell_of_row _ _ _ _ _ _ hn2];rfl
 have y4:wa.cell? ⟨w.heap.size + 1,4,none⟩=some (.int .i64 d.fuse):=by rw[cell_of_row _ _ _ _ _ _ hn2];rfl
 have fx0:=fun g:Grown wa=>g.fact x0
 have fx1:=fun g:Grown wa=>g.fact x1
 have fx2:=fun g:Grown wa=>g.fact x2
 have fx3:=fun g:Grown wa=>g.fact x3
 have fx4:=fun g:Grown wa=>g.fact x4
 have fy0:=fun g:Grown wa=>g.fact y0
 have fy1:=fun g:Grown wa=>g.fact y1
 have fy2:=fun g:Grown wa=>g.fact y2
 have fy3:=fun g:Grown wa=>g.fact y3
 have fy4:=fun g:Grown wa=>g.fact y4
 have HG1:=Lib.hid (fun g:Grown wa=>bsame_any g.val bv bv2 d.blocks (HS.out.1.below (hnb.trans (g.prop.mono hnb.size)) (Nat.le_refl _)) (HS.out.2.2.1.below (hnb.trans (g.prop.mono hnb.size)) (Nat.le_refl _)) hl);have HG2:=Lib.hid (fun g:Grown wa=>bsame_any g.val wv wv2 d.waits (HS.out.2.1.below (hnb.trans (g.prop.mono hnb.size)) (Nat.le_refl _)) (HS.out.2.2.2.below (hnb.trans (g.prop.mono hnb.size)) (Nat.le_refl _)) hl2);clear x0 x1 x2 x3 x4 y0 y1 y2 y3 y4 hn1 hn2 hnb;refine jbf ?_;iterate 10 (
  with_reducible refine wpQuiet_step (fun K hK=>?_)
  go_simp;generalize hZ:(Act.mk _ _:Act)=zz;refine hK _ ?_;subst hZ;clear hK K)
 with_reducible refine wpQuiet_step (fun K hK=>?_)
 go_simp;apply Exists.intro;refine⟨fun g=>?_,hK _ ?_⟩
 ·go_at_call 55;refine(HG1.out g).mono ?_;rintro e wk ⟨rfl,hbk⟩;exact⟨rfl,⟨wk,g.prop.trans (hbk.mono g.prop.size)⟩,rfl⟩
 clear hK K;iterate 6 (
  with_reducible refine wpQuiet_step (fun K hK=>?_)
  go_simp;generalize hZ:(Act.mk _ _:Act)=zz;refine hK _ ?_;subst hZ;clear hK K)
 with_reducible refine wpQuiet_step (fun K hK=>?_)
 go_simp;apply Exists.intro;refine⟨fun g=>?_,hK _ ?_⟩
 ·go_at_call 55;refine(HG2.out g).mono ?_;rintro e wk ⟨rfl,hbk⟩;exact⟨rfl,⟨wk,g.prop.trans (hbk.mono g.prop.size)⟩,rfl⟩
 clear hK K;iterate 16 (
  with_reducible refine wpQuiet_step (fun K hK=>?_)
  go_simp;generalize hZ:(Act.mk _ _:Act)=zz;refine hK _ ?_;subst hZ;clear hK K)
 refine wpQuiet_nil ?_;intro _ hwq;obtain⟨wq,hwq⟩:=hwq;subst hwq;have hq:=wq.prop;go_wp2_with (fail);go_ret;exact⟨rfl,HB.out.trans (hq.mono HB.out.size)⟩
theorem sups_parts(s t:Sup)(hs:s.hash.length=32)(ht:t.hash.length=32)(w:World):(part 36 ((supA s).toList ++ (supA t).toList).toArray 0).run Tryz.prog w= .ok (.agg (supA s)) w∧(part 36 ((supA s).toList ++ (supA t).toList).toArray 35).run Tryz.prog w= .ok (.agg (supA t)) w:=by
 obtain⟨a,b,c,hash⟩:=s;obtain⟨a2,b2,c2,hash2⟩:=t;obtain⟨x0,x1,x2,x3,x4,x5,x6,x7,x8,x9,x10,x11,x12,x13,x14,x15,x16,x17,x18,x19,x20,x21,x22,x23,x24,x25,x26,x27,x28,x29,x30,x31,rfl⟩:=lit32a hash hs;obtain⟨y0,y1,y2,y3,y4,y5,y6,y7,y8,y9,y10,y11,y12,y13,y14,y15,y16,y17,y18,y19,y20,y21,y22,y23,y24,y25,y26,y27,y28,y29,y30,y31,rfl⟩:=lit32a hash2 ht;refine⟨by kernel_rfl,by kernel_rfl⟩
theorem cells_sup:Tryz.prog.cellsOf 36=35:=by kernel_rfl
theorem sup_infos:(Tryz.prog.info? 36).isSome=true:=by kernel_rfl
theorem supEq_refl(s:Sup):supEq s s=true:=by unfold supEq;simp
theorem sups_eq(s t:Sup)(hs:s.hash.length=32)(ht:t.hash.length=32)(w:World):(Op.equalIn 10000 37 (.agg ((supA s).toList ++ (supA t).toList).toArray) (.agg ((supA s).toList ++ (supA t).toList).toArray)).run Tryz.prog w= .ok true w:=by
 obtain⟨i,hi⟩:=Option.isSome_iff_exists.1 sup_infos;obtain⟨p0,p1⟩:=sups_parts s t hs ht w;have e0:=ji8 s s hs hs w 9996;have e1:=ji8 t t ht ht w 9996;rw[supEq_refl]at e0 e1;have h:=run_equalIn_array (P:=Tryz.prog) w 9999 ((supA s).toList ++ (supA t).toList).toArray ((supA s).toList ++ (supA t).toList).toArray Tryz.underlying37 hi;rw[cells_sup,show List.range 2=[0,1]from rfl]at h;rw[h];generalize((supA s).toList ++ (supA t).toList).toArray=xs at *;simp only[Op.eqItems,Sem.run_bind,Nat.zero_mul,Nat.one_mul,p0,p1,e0,e1,Result.andThen_ok,if_true,Sem.run_pure,Bool.not_true,Bool.false_eq_true,if_false]
theorem bools_eq(a b c d:Bool)(w:World):(Op.equalIn 10000 38 (.agg #[.bool a, .bool b]) (.agg #[.bool c, .bool d])).run Tryz.prog w= .ok ((a==c) && (b==d)) w:=by
 cases a <;>cases b <;>cases c <;>cases d <;>kernel_rfl
theorem sups_guard:Tryz.prog.eqGuardType Tryz.prog.depth 37=false:=by kernel_rfl
theorem jmu:Tryz.prog.eqGuardType Tryz.prog.depth 38=false:=by kernel_rfl
theorem kid_guard:Tryz.prog.eqGuardType Tryz.prog.depth 40=false:=by kernel_rfl
theorem sups_size:(Tryz.prog.info? 37).map (·.size)=some 70:=by kernel_rfl
theorem jj2:(Tryz.prog.info? 38).map (·.size)=some 2:=by kernel_rfl
theorem sto_sups{w:World}{g:Nat}{dv hp a b v k:List Value}{t:TypeId}{fr:Nat×Nat}(h:w.heap[g]? =some (.cells (stoL dv hp a b v k).toArray t fr))(hl:StoLen dv hp a b v k):At w g 7 (a ++ b):=fun j hj=>by
 rw[cell_of_row _ _ _ _ _ _ h,List.getElem?_toArray];have e:stoL dv hp a b v k=(dv ++ hp) ++ ((a ++ b) ++ (v ++ k)):=by unfold stoL;simp only[List.append_assoc]
 rw[e,List.getElem?_append_right (by rw[List.length_append,hl.1,hl.2];omega),List.length_append,hl.1,hl.2,show 7 + j - (5 + 2)=j by omega,List.getElem?_append_left hj];exact List.getElem?_eq_getElem hj
theorem ssame_any(w:World)(va vb:Value)(s:Sto)(ha:StoV w va s)(hb:StoV w vb s)(hl:s.dev.blocks.length≤1073741824)(hl2:s.dev.waits.length≤1073741824)(hmax:s.heap.cells.length≤1073741824):
 Calls Tryz.prog 17 #[va,vb] w fun e w'=>e= .returned (.bool true)∧Below w.heap.size w w':=by
 obtain⟨bv,wv,cv,rfl,hd1,hh1,g0,g1,g2⟩:=ha;obtain⟨bv2,wv2,cv2,rfl,hd2,hh2,_,_,_⟩:=hb;have HS:=Lib.hid (And.intro hd1 (And.intro hh1 (And.intro hd2 hh2)));have HWF:=Lib.hid (And.intro g0 (And.intro g1 g2));have HL1:=Lib.hid (ja4 (d:=s.dev) (bv:=bv) (wv:=wv) (x:= .int .u32 s.heap.size) (cv:=cv) (p:=s.v0) (q:=s.v1) g0 g1 g2);have HL2:=Lib.hid (ja4 (d:=s.dev) (bv:=bv2) (wv:=wv2) (x:= .int .u32 s.heap.size) (cv:=cv2) (p:=s.v0) (q:=s.v1) g0 g1 g2);clear hd1 hh1 hd2 hh2;obtain⟨st,hst⟩:∃st,stoL (devL s.dev bv wv) [.int .u32 s.heap.size,cv] (supA s.s0).toList (supA s.s1).toList [.bool s.v0, .bool s.v1] (kidE.enc s.table)=st:=⟨_,rfl⟩
 obtain⟨st2,hst2⟩:∃st2,stoL (devL s.dev bv2 wv2) [.int .u32 s.heap.size,cv2] (supA s.s0).toList (supA s.s1).toList [.bool s.v0, .bool s.v1] (kidE.enc s.table)=st2:=⟨_,rfl⟩
 rw[hst,hst2];have HST:=Lib.hid (And.intro hst hst2);clear hst hst2 g0 g1 g2;have hn1:((w.alloc (.cells st.toArray 42)).alloc (.cells st2.toArray 42)).heap[w.heap.size]? =some (.cells st.toArray 42 (0,0)):=ji6;have hn2:((w.alloc (.cells st.toArray 42)).alloc (.cells st2.toArray 42)).heap[w.heap.size + 1]? =some (.cells st2.toArray 42 (0,0)):=ji5;have hnb:Below w.heap.size w ((w.alloc (.cells st.toArray 42)).alloc (.cells st2.toArray 42)):=jf5;go_enter Tryz.func17,Tryz.ntmps17;go_upto_region 1 with(fail);generalize(w.alloc (.cells st.toArray 42)).alloc (.cells st2.toArray 42)=wa at *;have HB:=Lib.hid hnb;rw[←HST.out.1]at hn1;rw[←HST.out.2]at hn2;have sx:=jcr hn1 HL1.out;have sy:=jcr hn2 HL2.out;have px:=sto_sups hn1 HL1.out;have py:=sto_sups hn2 HL2.out;have h70:(Tryz.prog.info? 37).map (·.size)=some ((supA s.s0).toList ++ (supA s.s1).toList).length:=by rw[List.length_append,HL1.out.3,HL1.out.4];exact sups_size
 have x0:wa.cell? ⟨w.heap.size,0,none⟩=some (.int .u32 s.dev.size):=sx.1.cell 0 _ rfl;have x1:wa.cell? ⟨w.heap.size,1,none⟩=some (bv):=sx.1.cell 1 _ rfl;have x2:wa.cell? ⟨w.heap.size,2,none⟩=some (wv):=sx.1.cell 2 _ rfl;have x3:wa.cell? ⟨w.heap.size,3,none⟩=some (.bool s.dev.down):=sx.1.cell 3 _ rfl;have x4:wa.cell? ⟨w.heap.size,4,none⟩=some (.int .i64 s.dev.fuse):=sx.1.cell 4 _ rfl;have x5:wa.cell? ⟨w.heap.size,5,none⟩=some (.int .u32 s.heap.size):=sx.2.1.cell 0 _ rfl;have x6:wa.cell? ⟨w.heap.size,6,none⟩=some (cv):=sx.2.1.cell 1 _ rfl;have fx0:=fun g:Grown wa=>g.fact x0
 have fx1:=fun g:Grown wa=>g.fact x1
 have fx2:=fun g:Grown wa=>g.fact x2
 have fx3:=fun g:Grown wa=>g.fact x3
 have fx4:=fun g:Grown wa=>g.fact x4
 have fx5:=fun g:Grown wa=>g.fact x5
 have fx6:=fun g:Grown wa=>g.fact x6
 have lx1:=fun g:Grown wa=>jas (P:=Tryz.prog) g.val (w.heap.size) 7 37 _ _ (px.below g.prop (Nat.le_refl _)) Tryz.underlying37 rfl h70
 have lx2:=fun g:Grown wa=>jas (P:=Tryz.prog) g.val (w.heap.size) 77 38 _ _ (sx.2.2.2.2.1.below g.prop (Nat.le_refl _)) Tryz.underlying38 rfl jj2
 have lx3:=fun g:Grown wa=>jas (P:=Tryz.prog) g.val (w.heap.size) 79 40 _ _ (sx.2.2.2.2.2.below g.prop (Nat.le_refl _)) Tryz.underlying40 rfl (jc7 _ HWF.out.2.2)
 have y0:wa.cell? ⟨w.heap.size + 1,0,none⟩=some (.int .u32 s.dev.size):=sy.1.cell 0 _ rfl;have y1:wa.cell? ⟨w.heap.size + 1,1,none⟩=some (bv2):=sy.1.cell 1 _ rfl;have y2:wa.cell? ⟨w.heap.size + 1,2,none⟩=some (wv2):=sy.1.cell 2 _ rfl;have y3:wa.cell? ⟨w.heap.size + 1,3,none⟩=some (.bool s.dev.down):=sy.1.cell 3 _ rfl;have y4:wa.cell? ⟨w.heap.size + 1,4,none⟩=some (.int .i64 s.dev.fuse):=sy.1.cell 4 _ rfl;have y5:wa.cell? ⟨w.heap.size + 1,5,none⟩=some (.int .u32 s.heap.size):=sy.2.1.cell 0 _ rfl;have y6:wa.cell? ⟨w.heap.size + 1,6,none⟩=some (cv2):=sy.2.1.cell 1 _ rfl;have fy0:=fun g:Grown wa=>g.fact y0
 have fy1:=fun g:Grown wa=>g.fact y1
 have fy2:=fun g:Grown wa=>g.fact y2
 have fy3:=fun g:Grown wa=>g.fact y3
 have fy4:=fun g:Grown wa=>g.fact y4
 have fy5:=fun g:Grown wa=>g.fact y5
 have fy6:=fun g:Grown wa=>g.fact y6
 have ly1:=fun g:Grown wa=>jas (P:=Tryz.prog) g.val (w.heap.size + 1) 7 37 _ _ (py.below g.prop (Nat.le_refl _)) Tryz.underlying37 rfl h70
 have ly2:=fun g:Grown wa=>jas (P:=Tryz.prog) g.val (w.heap.size + 1) 77 38 _ _ (sy.2.2.2.2.1.below g.prop (Nat.le_refl _)) Tryz.underlying38 rfl jj2
 have ly3:=fun g:Grown wa=>jas (P:=Tryz.prog) g.val (w.heap.size + 1) 79 40 _ _ (sy.2.2.2.2.2.below g.prop (Nat.le_refl _)) Tryz.underlying40 rfl (jc7 _ HWF.out.2.2)
 have HQ1:=Lib.hid (fun g:World=>sups_eq s.s0 s.s1 HWF.out.1.2.2.2.1 HWF.out.2.1.2.2.2.1 g);have HQ2:=Lib.hid (fun g:World=>by have h9:=bools_eq s.v0 s.v1 s.v0 s.v1 g;rw[beq_self_eq_true,beq_self_eq_true]at h9;exact h9);have HQ3:=Lib.hid (fun g:World=>kid_eq_atY s.table HWF.out.2.2.2.2.1 g 9997);obtain⟨q1,hq1⟩:∃q1,((supA s.s0).toList ++ (supA s.s1).toList).toArray=q1:=⟨_,rfl⟩
 obtain⟨q2,hq2⟩:∃q2:Array Value,([.bool s.v0, .bool s.v1]:List Value).toArray=q2:=⟨_,rfl⟩
 obtain⟨q3,hq3⟩:∃q3,(kidE.enc s.table).toArray=q3:=⟨_,rfl⟩
 rw[hq1]at lx1 ly1 HQ1;rw[hq2]at lx2 ly2;rw[show(#[.bool s.v0, .bool s.v1]:Array Value)=q2 from hq2]at HQ2;rw[hq3]at lx3 ly3 HQ3;have HG1:=Lib.hid (fun g:Grown wa=>dsame_any g.val _ _ s.dev (HS.out.1.below (hnb.trans (g.prop.mono hnb.size)) (Nat.le_refl _)) (HS.out.2.2.1.below (hnb.trans (g.prop.mono hnb.size)) (Nat.le_refl _)) hl hl2);have HG2:=Lib.hid (fun g:Grown wa=>hsameY_any g.val _ _ s.heap (HS.out.2.1.below (hnb.trans (g.prop.mono hnb.size)) (Nat.le_refl _)) (HS.out.2.2.2.below (hnb.trans (g.prop.mono hnb.size)) (Nat.le_refl _)) hmax);rw[show jck s.dev bv wv= .agg #[.int .u32 s.dev.size,bv,wv, .bool s.dev.down, .int .i64 s.dev.fuse]from rfl,show jck s.dev bv2 wv2= .agg #[.int .u32 s.dev.size,bv2,wv2, .bool s.dev.down, .int .i64 s.dev.fuse]from rfl]at HG1;clear x0 x1 x2 x3 x4 x5 x6 y0 y1 y2 y3 y4 y5 y6 hn1 hn2 hnb sx sy px py hq1 hq2 hq3 h70;refine jbf ?_;iterate 4 (
  with_reducible refine wpQuiet_step (fun K hK=>?_)
  go_simp;generalize hZ:(Act.mk _ _:Act)=zz;refine hK _ ?_;subst hZ;clear hK K)
 with_reducible refine wpQuiet_step (fun K hK=>?_)
 go_simp;apply Exists.intro;refine⟨fun g=>?_,hK _ ?_⟩
 ·go_at_call 16;refine(HG1.out g).mono ?_;rintro e wk ⟨rfl,hbk⟩;exact⟨rfl,⟨wk,g.prop.trans (hbk.mono g.prop.size)⟩,rfl⟩
 clear hK K;iterate 5 (
  with_reducible refine wpQuiet_step (fun K hK=>?_)
  go_simp;generalize hZ:(Act.mk _ _:Act)=zz;refine hK _ ?_;subst hZ;clear hK K)
 with_reducible refine wpQuiet_step (fun K hK=>?_)
 go_simp;apply Exists.intro;refine⟨fun g=>?_,hK _ ?_⟩
 ·go_at_call 56;refine(HG2.out g).mono ?_;rintro e wk ⟨rfl,hbk⟩;exact⟨rfl,⟨wk,g.prop.trans (hbk.mono g.prop.size)⟩,rfl⟩
 clear hK K;iterate 3 (
  with_reducible refine wpQuiet_step (fun K hK=>?_)
  go_simp;generalize hZ:(Act.mk _ _:Act)=zz;refine hK _ ?_;subst hZ;clear hK K)
 refine wpQuiet_step (fun K hK=>?_);refine jal 37 (.tmp 18) rfl ⟨w.heap.size,7,none⟩ rfl (.agg q1) lx1 ?_;generalize hZ:(Act.put _ _ _:Act)=zz;refine hK _ ?_;subst hZ;clear hK K;iterate 1 (
  with_reducible refine wpQuiet_step (fun K hK=>?_)
  go_simp;generalize hZ:(Act.mk _ _:Act)=zz;refine hK _ ?_;subst hZ;clear hK K)
 refine wpQuiet_step (fun K hK=>?_);refine jal 37 (.tmp 20) rfl ⟨w.heap.size + 1,7,none⟩ rfl (.agg q1) ly1 ?_;generalize hZ:(Act.put _ _ _:Act)=zz;refine hK _ ?_;subst hZ;clear hK K;refine wpQuiet_step (fun K hK=>?_);refine jfq 37 37 (.tmp 19) (.tmp 21) rfl q1 q1 rfl rfl sups_guard true HQ1.out ?_;generalize hZ:(Act.put _ _ _:Act)=zz;refine hK _ ?_;subst hZ;clear hK K;iterate 3 (
  with_reducible refine wpQuiet_step (fun K hK=>?_)
  go_simp;generalize hZ:(Act.mk _ _:Act)=zz;refine hK _ ?_;subst hZ;clear hK K)
 refine wpQuiet_step (fun K hK=>?_);refine jal 38 (.tmp 25) rfl ⟨w.heap.size,77,none⟩ rfl (.agg q2) lx2 ?_;generalize hZ:(Act.put _ _ _:Act)=zz;refine hK _ ?_;subst hZ;clear hK K;iterate 1 (
  with_reducible refine wpQuiet_step (fun K hK=>?_)
  go_simp;generalize hZ:(Act.mk _ _:Act)=zz;refine hK _ ?_;subst hZ;clear hK K)
 refine wpQuiet_step (fun K hK=>?_);refine jal 38 (.tmp 27) rfl ⟨w.heap.size + 1,77,none⟩ rfl (.agg q2) ly2 ?_;generalize hZ:(Act.put _ _ _:Act)=zz;refine hK _ ?_;subst hZ;clear hK K;refine wpQuiet_step (fun K hK=>?_);refine jfq 38 38 (.tmp 26) (.tmp 28) rfl q2 q2 rfl rfl jmu true HQ2.out ?_;generalize hZ:(Act.put _ _ _:Act)=zz;refine hK _ ?_;subst hZ;clear hK K;iterate 3 (
  with_reducible refine wpQuiet_step (fun K hK=>?_)
  go_simp;generalize hZ:(Act.mk _ _:Act)=zz;refine hK _ ?_;subst hZ;clear hK K)
 refine wpQuiet_step (fun K hK=>?_);refine jal 40 (.tmp 32) rfl ⟨w.heap.size,79,none⟩ rfl (.agg q3) lx3 ?_;generalize hZ:(Act.put _ _ _:Act)=zz;refine hK _ ?_;subst hZ;clear hK K;iterate 1 (
  with_reducible refine wpQuiet_step (fun K hK=>?_)
  go_simp;generalize hZ:(Act.mk _ _:Act)=zz;refine hK _ ?_;subst hZ;clear hK K)
 refine wpQuiet_step (fun K hK=>?_);refine jal 40 (.tmp 34) rfl ⟨w.heap.size + 1,79,none⟩ rfl (.agg q3) ly3 ?_;generalize hZ:(Act.put _ _ _:Act)=zz;refine hK _ ?_;subst hZ;clear hK K;refine wpQuiet_step (fun K hK=>?_);refine jfq 40 40 (.tmp 33) (.tmp 35) rfl q3 q3 rfl rfl kid_guard true HQ3.out ?_;generalize hZ:(Act.put _ _ _:Act)=zz;refine hK _ ?_;subst hZ;clear hK K;iterate 2 (
  with_reducible refine wpQuiet_step (fun K hK=>?_)
  go_simp;generalize hZ:(Act.mk _ _:Act)=zz;refine hK _ ?_;subst hZ;clear hK K)
 refine wpQuiet_nil ?_;intro _ hwq;obtain⟨wq,hwq⟩:=hwq;subst hwq;have hq:=wq.prop;go_wp2_with (fail);go_ret;exact⟨rfl,HB.out.trans (hq.mono HB.out.size)⟩
end Go.Proofs.YtpaohkkhejpgjaaGreatDoor
