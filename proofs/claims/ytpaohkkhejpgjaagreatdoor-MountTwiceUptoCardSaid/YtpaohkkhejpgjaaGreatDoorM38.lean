/- Texts of the proof: Y6 Y7. -/
import Derived.Test.YtpaohkkhejpgjaaGreatDoorM37
set_option linter.all false
set_option maxRecDepth 100000
set_option maxHeartbeats 8000000
namespace Go.Proofs.YtpaohkkhejpgjaaGreatDoor
open Go Go.RowKit
theorem built_sup(a b c:Int)(hh:List Int)(h:hh.length=32):Tryz.prog.built 36 [(0, .int .u32 a),(1, .int .u64 b),(2, .int .u32 c),(3, .agg (u8s hh))]=some (supA ⟨a,b,c,hh⟩):=by
 obtain⟨x0,x1,x2,x3,x4,x5,x6,x7,x8,x9,x10,x11,x12,x13,x14,x15,x16,x17,x18,x19,x20,x21,x22,x23,x24,x25,x26,x27,x28,x29,x30,x31,rfl⟩:=lit32a hh h;kernel_rfl
theorem built_tab:Tryz.prog.built 59 [(0, .int .u8 3)]=some #[.int .u8 3, .slice none 0 0, .slice none 0 0, .slice none 0 0]:=by kernel_rfl
theorem built_wt(a b c e f:Value):Tryz.prog.built 84 [(0, .agg #[a,b,c,e,f])]=some ([a,b,c,e,f] ++ [Value.int .i64 0]).toArray:=by kernel_rfl
theorem tab_nodeV(w:World):NodeV w (.agg #[.int .u8 3, .slice none 0 0, .slice none 0 0, .slice none 0 0]) jdq:=⟨_,_,_,rfl,Sl.nil w,Sl.nil w,Sl.nil w,by decide,by decide⟩
theorem tab_smallN:smallN jdq:=by unfold smallN jdq;simp
def FmtPost(w:World)(x:Dv×Int)(e:Ending)(w':World):Prop:=∃r,e= .returned (.tuple #[r, .int .i64 x.2])∧DevV w' r x.1∧DevSm x.1∧Below w.heap.size w w'
theorem noneB_enc:(⟨(jcw (encL jdq)).toArray⟩:ByteArray)=noneB:=rfl
theorem jkl{P:Program}{K:Act→Prop}{o:Oper}{a:Act}{w:World}(t:TypeId)(parts:Array (Nat×Operand))(ho:o.op= .build t parts)(vs:List (Nat×Value))(hp:parts.toList.map (fun p=>(p.1,a.eval p.2))=vs)
 (cells:Array Value) (hc:P.built t vs=some cells) (h:K (a.put o.dst (.agg cells))):o.quiet P a (fun w'=>∃g:Grown w,w'=g.val) K:=by
 refine⟨.agg cells,?_,h⟩;rintro _ ⟨g,rfl⟩;have hp':(parts.map fun(i,x)=>(i,a.eval x)).toList=vs:=by rw[Array.toList_map,←hp]
 have hc':P.built t (parts.map fun(i,x)=>(i,a.eval x)).toList=some cells:=by rw[hp'];exact hc
 unfold Oper.quietAt execOp;simp only[ho,Sem.run_bind,run_build g.val t _ cells hc',Result.andThen_ok];exact⟨rfl,rfl⟩
theorem jk3{B:Nat}{w w1:World}{p:Nat}{t:Wt}(h:WtAt B w p t)(hb:Below w.heap.size w w1):WtAt B w1 p t:=by
 obtain⟨bv,wv,h1,h2,h3⟩:=h;exact⟨bv,wv,(hb.block _ (lt_of_block h1)).trans h1,jcy h2 hb,h3⟩
structure FmI(w:World)(p q:Nat)(w':World)(t:Wt):Prop where
 at_:WtAt w.heap.size w' p t
 below:Below w.heap.size w w'
 out:w'.heap[q]? =some (.cells #[.int .u32 0, .slice none 0 0, .slice none 0 0, .bool false, .int .i64 0] 25 (0,0))
theorem FmI.step{w w1 w2:World}{p q:Nat}{t t':Wt}(h:FmI w p q w1 t)(hp:w.heap.size≤p)(hpq:p≠q)(ht:WtAt w.heap.size w2 p t')(hg:w1.grownBy w2 (some p)):FmI w p q w2 t':=
 ⟨ht,h.below.grown hg h.below.size (fun r hr=>by injection hr with hr;omega),(hg.block _ (lt_of_block h.out) (fun e=>hpq (by injection e with e;exact e.symm))).trans h.out⟩
theorem format_any(w:World)(v:Value)(d:Dv)(hv:DevV w v d)(hl:d.blocks.length≤1073741824)(hl2:d.waits.length≤1073741824):
 Calls Tryz.prog 11 #[v] w fun e w'=>FmtPost w (jc1 d) e w':=by
 have HV:=Lib.hid hv;obtain⟨bv,wv,rfl,hbs,hws,hsz,hfu⟩:=hv;obtain⟨A,n,c,rfl⟩:=jax hbs;obtain⟨A2,n2,c2,rfl⟩:=jax hws;clear hbs hws;have hbb:=(jb2 w #[.int .u32 d.size, .slice A n c, .slice A2 n2 c2, .bool d.down, .int .i64 d.fuse] 25).alloc (by simp) (.cells #[.int .u32 0, .slice none 0 0, .slice none 0 0, .bool false, .int .i64 0] 25);have hb1:=two_newV w #[.int .u32 d.size, .slice A n c, .slice A2 n2 c2, .bool d.down, .int .i64 d.fuse] 25 #[.int .u32 0, .slice none 0 0, .slice none 0 0, .bool false, .int .i64 0] 25;have hb2:=two_oldV w #[.int .u32 d.size, .slice A n c, .slice A2 n2 c2, .bool d.down, .int .i64 d.fuse] 25 #[.int .u32 0, .slice none 0 0, .slice none 0 0, .bool false, .int .i64 0] 25;go_enter Tryz.func11,Tryz.ntmps11;go_upto_region 1 with(fail);generalize(w.alloc (.cells #[.int .u32 d.size, .slice A n c, .slice A2 n2 c2, .bool d.down, .int .i64 d.fuse] 25)).alloc (.cells #[.int .u32 0, .slice none 0 0, .slice none 0 0, .bool false, .int .i64 0] 25)=wa at *;have a0:wa.cell? ⟨w.heap.size,0,none⟩=some (.int .u32 d.size):=by rw[cell_of_row _ _ _ _ _ _ hb2];rfl
 have a1:wa.cell? ⟨w.heap.size,1,none⟩=some (.slice A n c):=by rw[cell_of_row _ _ _ _ _ _ hb2];rfl
 have a2:wa.cell? ⟨w.heap.size,2,none⟩=some (.slice A2 n2 c2):=by rw[cell_of_row _ _ _ _ _ _ hb2];rfl
 have a3:wa.cell? ⟨w.heap.size,3,none⟩=some (.bool d.down):=by rw[cell_of_row _ _ _ _ _ _ hb2];rfl
 have a4:wa.cell? ⟨w.heap.size,4,none⟩=some (.int .i64 d.fuse):=by rw[cell_of_row _ _ _ _ _ _ hb2];rfl
 have l2:=lt_of_block hb2;have l1:=lt_of_block hb1;have H0:=Lib.hid (And.intro hbb (And.intro hb1 hb2));clear hbb hb1 hb2;go_wp2_with (fail);go_at_call 30;refine(jdu wa _ d (HV.out.below H0.out.1 (Nat.le_refl _)) hl hl2).mono ?_;rintro e w1 ⟨rfl,hbk1⟩;have hr1:=(hbk1.block _ l1).trans H0.out.2.1;have hx1:=(hbk1.block _ l2).trans H0.out.2.2;have H1:=Lib.hid (And.intro (H0.out.1.trans (hbk1.mono H0.out.1.size)) (And.intro hr1 hx1));clear hbk1 hr1 hx1 a0 a1 a2 a3 a4 l1 l2;cases hdv:devB d with
 |false=>
  have HD:=Lib.hid (show jc1 d=(noDev,7) by unfold jc1;rw[if_pos hdv]);rw[show jb0 d=7 by unfold jb0;rw[hdv];rfl];clear hdv;have HO:=Lib.hid (jgh (d:=noDev) (A1:=none) (m1:=0) (k1:=0) (A2:=none) (m2:=0) (k2:=0) (q:=w.heap.size + 1) (by omega) H1.out.2.1 (World.ownsRow_nil _ _ _ _) (World.ownsRow_nil _ _ _ _) (fun b hb=>by simp[noDev]at hb) (fun b hb=>by simp[noDev]at hb) (by unfold u32Ok noDev;simp) (by unfold jho noDev;simp) (fun g g' h=>by simp[Value.ownBlock]at h) H1.out.1);go_wp2_with (first
   |((with_reducible refine jar 25 ?_);refine jah rfl 25 _ rfl [] rfl _ dev_zero ?_)
   |((with_reducible refine jam 25 ?_);(refine wpList_store_row rfl 25 (.tmp 2) _ rfl (w.heap.size + 1) #[.int .u32 0, .slice none 0 0, .slice none 0 0, .bool false, .int .i64 0] rfl rfl 25 _ H1.out.2.1 (by rw[jbz];rfl) rfl (jeo _ _ _ _ _ _ _ _ _) ?_)))
  refine bodyPost_ret (jb6 rfl _ (w.heap.size + 1) _ (0,0) _ rfl HO.out.1 rfl) rfl ⟨.agg (jd5 noDev none 0 0 none 0 0),?_,?_,?_,HO.out.2.2⟩
  ·rw[HD.out];rfl
  ·rw[HD.out];exact HO.out.2.1.dev
  ·rw[HD.out];exact jh6
 |true=>
  have hok:=(jcq d).1 hdv;have HF:=Lib.hid (show jc1 d=((jgj d).dev,(jgj d).why) by unfold jc1;rw[hdv,if_neg (by simp)]);have HOK:=Lib.hid hok;rw[show jb0 d=0 by unfold jb0;rw[hdv];rfl];clear hdv hok;go_wp2_with (first
   |((with_reducible refine jar 59 ?_);refine jah rfl 59 _ rfl [(0, .int .u8 3)] rfl _ built_tab ?_))
  refine(encode_any w1 _ jdq (tab_nodeV w1) tab_smallN).mono ?_;rw[if_pos jmg.1,noneB_enc];have hns:=jjx;obtain⟨nb,hnb⟩:∃nb,noneB=nb:=⟨_,rfl⟩
  have HNB:=Lib.hid hnb;rw[hnb]at hns ⊢;clear hnb;rintro e w2 ⟨rfl,hb2⟩;have hr2:=(hb2.block _ (lt_of_block H1.out.2.1)).trans H1.out.2.1;have hx2:=(hb2.block _ (lt_of_block H1.out.2.2)).trans H1.out.2.2;have hB2:=H1.out.1.trans (hb2.mono H1.out.1.size);have H2:=Lib.hid (And.intro hB2 (And.intro hr2 hx2));have c0:w2.cell? ⟨w.heap.size,0,none⟩=some (.int .u32 d.size):=by rw[cell_of_row _ _ _ _ _ _ hx2];rfl
  clear hb2 hr2 hB2 hx2;go_upto_region 5 with(fail);have f0:=fun g:Grown w2=>g.fact c0
  have hbu:=built_sup d.size 1 2 (shaOf nb.data.toList) (jgs _);have HSW:=Lib.hid (show supWf (jbj nb d.size)from⟨hsz,⟨by show(0:Int)≤1;decide,by show(1:Int)≤18446744073709551615;decide⟩,⟨by show(0:Int)≤2;decide,by show(2:Int)≤4294967295;decide⟩,jgc _⟩);have HSB:=Lib.hid (show supB (jbj nb d.size)=true from sup_ok HOK.out.lo HOK.out.hi (by decide) (by decide) _);refine jak (by kernel_rfl) (by kernel_rfl) ?_;iterate 3 (
   with_reducible refine wpQuiet_step (fun K hK=>?_)
   go_simp;generalize hZ:(Act.mk _ _:Act)=zz;refine hK _ ?_;subst hZ;clear hK K)
  with_reducible refine wpQuiet_step (fun K hK=>?_)
  go_simp;apply Exists.intro;refine⟨fun g=>?_,hK _ ?_⟩
  ·go_at_call 33;refine(jfj g.val nb (by omega)).mono ?_;rintro e wk ⟨rfl,hbk⟩;exact⟨rfl,⟨wk,g.prop.trans (hbk.mono g.prop.size)⟩,rfl⟩
  clear hK K;with_reducible refine wpQuiet_step (fun K hK=>?_)
  refine jkl 36 _ rfl [(0, .int .u32 d.size),(1, .int .u64 1),(2, .int .u32 2),(3, .agg (u8s (shaOf nb.data.toList)))] rfl _ hbu ?_;refine hK _ ?_;clear hK K;with_reducible refine wpQuiet_step (fun K hK=>?_)
  go_simp;apply Exists.intro;refine⟨fun g=>?_,hK _ ?_⟩
  ·go_at_call 32;refine(jfb g.val (jbj nb d.size) HSW.out).mono ?_;rintro e wk ⟨rfl,hbk⟩;exact⟨rfl,⟨wk,g.prop.trans (hbk.mono g.prop.size)⟩,rfl⟩
  clear hK K;rw[show jg0 (jbj nb d.size)=jbl (jbj nb d.size) by unfold jg0;rw[if_pos HSB.out],show jb3 (jbj nb d.size)=0 by unfold jb3;rw[HSB.out];rfl];have hss:=ji1 (jbj nb d.size) HSB.out (jgc _);obtain⟨sb,hsb⟩:∃sb,jbl (jbj nb d.size)=sb:=⟨_,rfl⟩
  have HSS:=Lib.hid hsb;rw[hsb]at hss ⊢;clear hsb;iterate 5 (
   with_reducible refine wpQuiet_step (fun K hK=>?_)
   go_simp;generalize hZ:(Act.mk _ _:Act)=zz;refine hK _ ?_;subst hZ;clear hK K)
  refine wpQuiet_nil ?_;intro _ hwq;obtain⟨wq,hwq⟩:=hwq;subst hwq;have hb3:=wq.prop;generalize wq.val=w3 at hb3 ⊢;have hr3:=(hb3.block _ (lt_of_block H2.out.2.1)).trans H2.out.2.1;have hx3:=(hb3.block _ (lt_of_block H2.out.2.2)).trans H2.out.2.2;have hB3:=H2.out.1.trans (hb3.mono H2.out.1.size);have H3:=Lib.hid (And.intro hB3 (And.intro hr3 hx3));have x0:w3.cell? ⟨w.heap.size,0,none⟩=some (.int .u32 d.size):=by rw[cell_of_row _ _ _ _ _ _ hx3];rfl
  have x1:w3.cell? ⟨w.heap.size,1,none⟩=some (.slice A n c):=by rw[cell_of_row _ _ _ _ _ _ hx3];rfl
  have x2:w3.cell? ⟨w.heap.size,2,none⟩=some (.slice A2 n2 c2):=by rw[cell_of_row _ _ _ _ _ _ hx3];rfl
  have x3:w3.cell? ⟨w.heap.size,3,none⟩=some (.bool d.down):=by rw[cell_of_row _ _ _ _ _ _ hx3];rfl
  have x4:w3.cell? ⟨w.heap.size,4,none⟩=some (.int .i64 d.fuse):=by rw[cell_of_row _ _ _ _ _ _ hx3];rfl
  clear hb3 hr3 hB3 hx3 f0 c0 hbu;go_wp2_with (fail);refine(jhg w3 _ d (HV.out.below H3.out.1 (Nat.le_refl _)) hl hl2).mono ?_;rintro e w4 ⟨r,rfl,hdo,hb4⟩;have HDO:=Lib.hid hdo;obtain⟨bv2,wv2,rfl,ho1,ho2,hwb,_,_,_,_⟩:=hdo;have HWB:=Lib.hid hwb;have hone2:bv2.oneCell'=true∧wv2.oneCell'=true:=by
   obtain⟨_,_,_,e1⟩:=jan ho1;obtain⟨_,_,_,e2⟩:=jan ho2;rw[e1,e2];exact⟨rfl,rfl⟩
  have hr4:=(hb4.block _ (lt_of_block H3.out.2.1)).trans H3.out.2.1;have hB4:=H3.out.1.trans (hb4.mono H3.out.1.size);have hsz4:=hB4.size;have hsz43:=H3.out.1.size;have hwt:WtAt w.heap.size (w4.alloc (.cells #[Value.int .u32 d.size,bv2,wv2, .bool d.down, .int .i64 d.fuse, .int .i64 0] 84)) w4.heap.size ⟨d,0⟩:=⟨bv2,wv2,heap_alloc_new _ _,jcy (devO_up HDO.out hsz43) ((Below.refl _ w4).alloc (Nat.le_refl _) _),jgl HOK.out HWB.out⟩
  have hr5:=(Lib.alloc_old w4 (.cells #[Value.int .u32 d.size,bv2,wv2, .bool d.down, .int .i64 d.fuse, .int .i64 0] 84) _ (lt_of_block hr4)).trans hr4;have hB5:=hB4.alloc hB4.size (.cells #[Value.int .u32 d.size,bv2,wv2, .bool d.down, .int .i64 d.fuse, .int .i64 0] 84);have H5:=Lib.hid (FmI.mk hwt hB5 hr5);have hnum:w.heap.size + 1 < w4.heap.size:=lt_of_block hr4;have HONE2:=Lib.hid hone2;clear ho1 ho2 hwb hone2 hb4 hr4 hB4 hwt hr5 hB5 x0 x1 x2 x3 x4;go_upto_region 7 with(first
   |((with_reducible refine jar 84 ?_);refine jah rfl 84 _ rfl [(0, .agg #[_,_,_,_,_])] rfl _ (built_wt _ _ _ _ _) ?_))
  generalize w4.alloc (.cells #[Value.int .u32 d.size,bv2,wv2, .bool d.down, .int .i64 d.fuse, .int .i64 0] 84)=w5 at *;have hs5:=H5.out.below.size;generalize hpE:w4.heap.size=p at *;clear hpE;go_wp2_with (fail);refine(jfd w.heap.size w5 p ⟨d,0⟩ 2 nb H5.out.at_ hs5 (by unfold u32Ok;decide) (by omega)).mono ?_;rintro e w6 ⟨rfl,hta,hga⟩;have H6:=Lib.hid (H5.out.step (by omega) (by omega) hta hga);clear hta hga;have hs6:=H6.out.below.size;go_wp2_with (fail);refine(jgm w.heap.size w6 p _ H6.out.at_ hs6).mono ?_;rintro e w7 ⟨rfl,hta,hga⟩;have H7:=Lib.hid (H6.out.step (by omega) (by omega) hta hga);clear hta hga;have hs7:=H7.out.below.size;go_wp2_with (fail);refine(jfd w.heap.size w7 p _ 1 sb H7.out.at_ hs7 (by unfold u32Ok;decide) (by omega)).mono ?_;rintro e w8 ⟨rfl,hta,hga⟩;have H8:=Lib.hid (H7.out.step (by omega) (by omega) hta hga);clear hta hga;have hs8:=H8.out.below.size;go_wp2_with (fail);refine(jfd w.heap.size w8 p _ 0 ByteArray.empty H8.out.at_ hs8 (by unfold u32Ok;decide) (by decide)).mono ?_;rintro e w9 ⟨rfl,hta,hga⟩;have H9:=Lib.hid (H8.out.step (by omega) (by omega) hta hga);clear hta hga;have hs9:=H9.out.below.size;go_wp2_with (fail);refine(jgm w.heap.size w9 p _ H9.out.at_ hs9).mono ?_;rintro e w10 ⟨rfl,hta,hga⟩;have H10:=Lib.hid (H9.out.step (by omega) (by omega) hta hga);clear hta hga;have hs10:=H10.out.below.size;have hfw:(jd6 (jdc (jdc (jd6 (jdc ⟨d,0⟩ 2 nb)) 1 sb) 0 ByteArray.empty))=jgj d:=by
   unfold jgj jiz;rw[HNB.out,HSS.out]
  rw[hfw]at H10;clear hfw H5 H6 H7 H8 H9;obtain⟨⟨bv5,wv5,hp5,ho5,hs5⟩,hB10,hq10⟩:=H10.out;obtain⟨fw,hfw⟩:∃fw,jgj d=fw:=⟨_,rfl⟩
  rw[hfw]at H10 hp5 ho5 hs5 HF;obtain⟨b',w',e,h1,h2,hw1,hw2,hsz5,hfu5,hap⟩:=ho5;unfold jck at e;simp only[Value.agg.injEq,Array.mk.injEq,List.cons.injEq,and_true,true_and]at e;obtain⟨rfl,rfl⟩:=e;obtain⟨A5,m5,k5,rfl⟩:=jan h1;obtain⟨A6,m6,k6,rfl⟩:=jan h2;have HOF:=Lib.hid (jgh (w:=w) (wz:=w10.drew) (d:=fw.dev) (q:=w.heap.size + 1) (by omega) hq10 h1 h2 hw1 hw2 hsz5 hfu5 hap hB10.drew);have HQ:=Lib.hid hq10;have HS:=Lib.hid hs5;have r0:w10.cell? ⟨p,0,none⟩=some (.int .u32 fw.dev.size):=by rw[cell_of_row _ _ _ _ _ _ hp5];rfl
  have r1:w10.cell? ⟨p,1,none⟩=some (.slice A5 m5 k5):=by rw[cell_of_row _ _ _ _ _ _ hp5];rfl
  have r2:w10.cell? ⟨p,2,none⟩=some (.slice A6 m6 k6):=by rw[cell_of_row _ _ _ _ _ _ hp5];rfl
  have r3:w10.cell? ⟨p,3,none⟩=some (.bool fw.dev.down):=by rw[cell_of_row _ _ _ _ _ _ hp5];rfl
  have r4:w10.cell? ⟨p,4,none⟩=some (.int .i64 fw.dev.fuse):=by rw[cell_of_row _ _ _ _ _ _ hp5];rfl
  have r5:w10.cell? ⟨p,5,none⟩=some (.int .i64 fw.why):=by rw[cell_of_row _ _ _ _ _ _ hp5];rfl
  have hra0:w10.rangeAt p 0 [.int .u32 fw.dev.size, .slice A5 m5 k5, .slice A6 m6 k6, .bool fw.dev.down, .int .i64 fw.dev.fuse, .int .i64 fw.why]:=fun i u hi=>by
   rw[cell_of_row _ _ _ _ _ _ hp5,Nat.zero_add];exact(by simpa[devL]using hi)
  have HRA:=Lib.hid hra0;have hra2:(w10.setRow (w.heap.size + 1) #[.int .u32 fw.dev.size, .slice A5 m5 k5, .slice A6 m6 k6, .bool fw.dev.down, .int .i64 fw.dev.fuse]).rangeAt p 0 [.int .u32 fw.dev.size, .slice A5 m5 k5, .slice A6 m6 k6, .bool fw.dev.down, .int .i64 fw.dev.fuse, .int .i64 fw.why]:=fun i u hi=>
   (World.cell?_of_block (jac _ _ _ _ (by show p≠_;omega))).trans (hra0 i u hi)
  have HJ:=Lib.hid (fun(j:Nat) (u:Value) (hj:([.int .u32 fw.dev.size, .slice A5 m5 k5, .slice A6 m6 k6, .bool fw.dev.down, .int .i64 fw.dev.fuse]:List Value)[j]? =some u)=>show([.int .u32 fw.dev.size, .slice A5 m5 k5, .slice A6 m6 k6, .bool fw.dev.down, .int .i64 fw.dev.fuse, .int .i64 fw.why]:List Value)[j]? =some u from by
   match j with
   |0|1|2|3|4=>exact hj
   |j + 5=>simp at hj)
  clear hp5 h1 h2 hw1 hw2 hsz5 hfu5 hap hB10 hq10 hs5 H10 hs6 hs7 hs8 hs9 hs10 hfw;go_upto_region 12 with(fail);have hra:w10.rangeAt p 0 [.int .u32 fw.dev.size, .slice A5 m5 k5, .slice A6 m6 k6, .bool fw.dev.down, .int .i64 fw.dev.fuse, .int .i64 fw.why]:=HRA.out;refine wp_region_held_drew (S:=fun z=>z.rangeAt p 0 [.int .u32 fw.dev.size, .slice A5 m5 k5, .slice A6 m6 k6, .bool fw.dev.down, .int .i64 fw.dev.fuse, .int .i64 fw.why]) (by kernel_rfl) hra (fun hHeld=>?_);refine wpAnyH_take (i:=0) (v:=(.pointer (some ⟨p,0,none⟩))) rfl (by kernel_rfl) (by kernel_rfl) (by kernel_rfl) (fun _ _ _ h=>h) (Or.inl ⟨by rfl,fun z hz=>by go_simp⟩) hHeld ?_;try simp only[Act.put,jy1,jy2,jy3,List.getElem_toArray,List.getElem_cons_zero,List.getElem_cons_succ]
  refine wpAnyH_take (i:=1) (v:=(.pointer (some ⟨p,0,none⟩))) rfl (by kernel_rfl) (by kernel_rfl) (by kernel_rfl) (fun _ _ _ h=>h) (Or.inl ⟨by rfl,fun z hz=>by go_simp⟩) hHeld ?_;try simp only[Act.put,jy1,jy2,jy3,List.getElem_toArray,List.getElem_cons_zero,List.getElem_cons_succ]
  refine wpAnyH_take (i:=2) (v:=(.pointer (some ⟨p,0,none⟩))) rfl (by kernel_rfl) (by kernel_rfl) (by kernel_rfl) (fun _ _ _ h=>h) (Or.inl ⟨by rfl,fun z hz=>by go_simp⟩) hHeld ?_;try simp only[Act.put,jy1,jy2,jy3,List.getElem_toArray,List.getElem_cons_zero,List.getElem_cons_succ]
  refine wpAnyH_take (i:=3) (v:= .agg #[.int .u32 fw.dev.size, .slice A5 m5 k5, .slice A6 m6 k6, .bool fw.dev.down, .int .i64 fw.dev.fuse]) rfl (by kernel_rfl) (by kernel_rfl) (by kernel_rfl) (fun _ _ _ h=>h) (yieldsIf_load_mid (by rfl) 25 (.tmp 48) rfl p 0 rfl [.int .u32 fw.dev.size, .slice A5 m5 k5, .slice A6 m6 k6, .bool fw.dev.down, .int .i64 fw.dev.fuse] _ (fun z hz j u hj=>hz j u (HJ.out j u hj)) Tryz.underlying25 rfl jbz) hHeld ?_;try simp only[Act.put,jy1,jy2,jy3,List.getElem_toArray,List.getElem_cons_zero,List.getElem_cons_succ]
  refine wpAnyH_take (i:=4) (v:=(.pointer (some ⟨p,0,none⟩))) rfl (by kernel_rfl) (by kernel_rfl) (by kernel_rfl) (fun _ _ _ h=>h) (Or.inl ⟨by rfl,fun z hz=>by go_simp⟩) hHeld ?_;try simp only[Act.put,jy1,jy2,jy3,List.getElem_toArray,List.getElem_cons_zero,List.getElem_cons_succ]
  refine wpAnyH_take (i:=5) (v:=(.pointer (some ⟨p,0,none⟩))) rfl (by kernel_rfl) (by kernel_rfl) (by kernel_rfl) (fun _ _ _ h=>h) (Or.inl ⟨by rfl,fun z hz=>by go_simp⟩) hHeld ?_;try simp only[Act.put,jy1,jy2,jy3,List.getElem_toArray,List.getElem_cons_zero,List.getElem_cons_succ]
  refine wpAnyH_take (i:=6) (v:=(.pointer (some ⟨p,5,none⟩))) rfl (by kernel_rfl) (by kernel_rfl) (by kernel_rfl) (fun _ _ _ h=>h) (Or.inl ⟨by rfl,fun z hz=>by go_simp⟩) hHeld ?_;try simp only[Act.put,jy1,jy2,jy3,List.getElem_toArray,List.getElem_cons_zero,List.getElem_cons_succ]
  refine wpAnyH_take (i:=7) (v:=(.int .i64 fw.why)) rfl (by kernel_rfl) (by kernel_rfl) (by kernel_rfl) (fun _ _ _ h=>h) (Or.inl ⟨by rfl,fun z hz=>by have h5:z.cell? ⟨p,5,none⟩=some (.int .i64 fw.why):=hz 5 _ rfl;clear hz;go_simp⟩) hHeld ?_;try simp only[Act.put,jy1,jy2,jy3,List.getElem_toArray,List.getElem_cons_zero,List.getElem_cons_succ]
  refine wpAnyH_ready (rs:=[8]) (by kernel_rfl) (by simp) ?_;refine AllReadyH.cons rfl (fun K hK=>?_) AllReadyH.nil;rw[if_pos (by rfl)];refine jdg 25 (.tmp 2) (.tmp 49) rfl (w.heap.size + 1) 0 rfl [.int .u32 fw.dev.size, .slice A5 m5 k5, .slice A6 m6 k6, .bool fw.dev.down, .int .i64 fw.dev.fuse] rfl 25 _ HQ.out (by show 0 + 5≤5;decide) (by intro v hv;simp at hv;rcases hv with rfl|rfl|rfl|rfl|rfl <;>rfl) jbz ?_;rw[show((#[Value.int .u32 0, .slice none 0 0, .slice none 0 0, .bool false, .int .i64 0]:Array Value).toList.take 0 ++ [Value.int .u32 fw.dev.size, .slice A5 m5 k5, .slice A6 m6 k6, .bool fw.dev.down, .int .i64 fw.dev.fuse] ++ (#[Value.int .u32 0, .slice none 0 0, .slice none 0 0, .bool false, .int .i64 0]:Array Value).toList.drop (0 + ([Value.int .u32 fw.dev.size, .slice A5 m5 k5, .slice A6 m6 k6, .bool fw.dev.down, .int .i64 fw.dev.fuse]:List Value).length)).toArray= #[Value.int .u32 fw.dev.size, .slice A5 m5 k5, .slice A6 m6 k6, .bool fw.dev.down, .int .i64 fw.dev.fuse]from rfl];refine hK.out _ _ hra2 (fun hHeld=>?_);clear hK K;refine wpAnyH_take (i:=9) (v:=(.int .i64 fw.why)) rfl (by kernel_rfl) (by kernel_rfl) (by kernel_rfl) (fun _ _ _ h=>h) (Or.inl ⟨by rfl,fun z hz=>by go_simp⟩) hHeld ?_;try simp only[Act.put,jy1,jy2,jy3,List.getElem_toArray,List.getElem_cons_zero,List.getElem_cons_succ]
  refine wpAnyH_done (by kernel_rfl) ?_ _;go_wp2_with (fail);refine bodyPost_ret (jb6 rfl _ (w.heap.size + 1) _ (0,0) _ rfl HOF.out.1 rfl) rfl ⟨.agg #[.int .u32 fw.dev.size, .slice A5 m5 k5, .slice A6 m6 k6, .bool fw.dev.down, .int .i64 fw.dev.fuse],?_,?_,?_,HOF.out.2.2⟩
  ·rw[HF.out];rfl
  ·rw[HF.out];exact HOF.out.2.1.dev
  ·rw[HF.out];exact HS.out
theorem ji5{w:World}{x y:Obj}:((w.alloc x).alloc y).heap[w.heap.size + 1]? =some y:=by
 have h:=heap_alloc_new (w.alloc x) y;rw[show(w.alloc x).heap.size=w.heap.size + 1 by simp]at h;exact h
theorem ji6{w:World}{x y:Obj}:((w.alloc x).alloc y).heap[w.heap.size]? =some x:=(Lib.alloc_old _ _ _ (by simp)).trans (heap_alloc_new _ _)
theorem jf5{w:World}{x y:Obj}:Below w.heap.size w ((w.alloc x).alloc y):=((Below.refl _ w).alloc (Nat.le_refl _) x).alloc (by simp) y
theorem open_nums(h:Hp):jaj (jav h)=h.cells.map (·.num):=by
 unfold jaj;rw[jb5,List.map_map,List.map_map];rfl
theorem numPos_ltY{ns:List Int}{t:Int}(h:jba ns t=true):ja5 ns t < ns.length:=by
 rcases Nat.lt_or_ge (ja5 ns t) ns.length with h1|h1
 ·exact h1
 ·unfold jba hasAt at h;rw[List.getElem?_eq_none h1]at h;cases h
theorem cel_at{h:Hp}{t:Int}(hh:jba (h.cells.map (·.num)) t=true):∃c,∃hi:ja5 (h.cells.map (·.num)) t < h.cells.length,h.cells[ja5 (h.cells.map (·.num)) t]=c∧c.num=t∧c∈h.cells:=by
 have hi:=numPos_ltY hh;rw[List.length_map]at hi;refine⟨_,hi,rfl,?_,List.getElem_mem _⟩;unfold jba hasAt at hh;have e:(h.cells.map (·.num))[ja5 (h.cells.map (·.num)) t]? =some (h.cells[ja5 (h.cells.map (·.num)) t].num):=by rw[List.getElem?_map,List.getElem?_eq_getElem hi];rfl
 rw[e]at hh;simpa using hh
theorem jmp{h:Hp}(ho:openB h=true):jdk (h.cells.map (·.num)):=by
 have hr:=(je4 h ho).ris;rw[open_nums]at hr;exact jc3 hr
theorem isTab_no{h:Hp}(ho:openB h=true){k:Kid}(hh:jba (h.cells.map (·.num)) k.num=false):jdb h k=false:=by
 unfold jdb;have hr:=(je4 h ho).ris;cases hf:(jav h).find? (fun c=>c.num==k.num)with
 |none=>rfl
 |some c=>
  exfalso;have h1:=(jc2 hr).1 hf;have h2:k.num∈jaj (jav h):=by rw[←h1.2];exact List.mem_map.2 ⟨c,h1.1,rfl⟩
  have h3:=(jez hr k.num).2 h2;rw[open_nums,hh]at h3;cases h3
theorem isTab_at{h:Hp}(ho:openB h=true){k:Kid}{c:Cel}(hc:c∈h.cells)(hn:c.num=k.num):jdb h k=(decide ((decN c.data).kind=3) && (shaOf c.data.data.toList==k.hash)):=by
 unfold jdb;have hr:=(je4 h ho).ris;have hm:∃x∈jav h,x.num=k.num∧x.node=decN c.data∧x.hash=shaOf c.data.data.toList:=by
  rw[jb5];exact⟨_,List.mem_map.2 ⟨cc1 c,List.mem_map.2 ⟨c,hc,rfl⟩,rfl⟩,hn,rfl,rfl⟩
 obtain⟨x,hx,h1,h2,h3⟩:=hm;have hf:(jav h).find? (fun c=>c.num==k.num)=some x:=(jc2 hr).2 ⟨hx,h1⟩;rw[hf];simp only[h2,h3];congr 1
 rw[Bool.eq_iff_iff];simp
theorem is_any(w:World)(v:Value)(h:Hp)(k:Kid)(hv:HeapV w v h)(hk:kidE.wf k)(ho:openB h=true)(hmax:h.cells.length≤1073741824):
 Calls Tryz.prog 60 #[v, .agg (kidE.enc k).toArray] w fun e w'=>e= .returned (.bool (jdb h k))∧Below w.heap.size w w':=by
 obtain⟨cv,rfl,hsl,hsz⟩:=hv;have HSL:=Lib.hid hsl;obtain⟨A,c,rfl,hc1,hc2,hrow⟩:=hsl;have HR:=Lib.hid hrow;clear hrow;have hB:=jf5 (w:=w) (x:= .cells #[.int .u32 h.size, .slice A h.cells.length c] 32) (y:= .cells (kidE.enc k).toArray 40);have hb1:=ji6 (w:=w) (x:= .cells #[.int .u32 h.size, .slice A h.cells.length c] 32) (y:= .cells (kidE.enc k).toArray 40);have hb2:=ji5 (w:=w) (x:= .cells #[.int .u32 h.size, .slice A h.cells.length c] 32) (y:= .cells (kidE.enc k).toArray 40);have hkx:∀j u,(hashV k.hash)[j]? =some u→(kidE.enc k).toArray[2 + j]? =some u:=fun j u hj=>by
  rw[List.getElem?_toArray,show kidE.enc k=[Value.string k.key, .int .u32 k.num] ++ hashV k.hash from rfl,List.getElem?_append_right (by simp)];simpa using hj
 have q1:(kidE.enc k).toArray[1]? =some (.int .u32 k.num):=rfl;have HKX:=Lib.hid hkx;clear hkx;obtain⟨ka,hka⟩:∃ka,(kidE.enc k).toArray=ka:=⟨_,rfl⟩
 rw[hka]at hB hb1 hb2 q1 HKX ⊢;clear hka;go_enter Tryz.func60,Tryz.ntmps60;go_upto_region 1 with(fail);generalize(w.alloc (.cells #[.int .u32 h.size, .slice A h.cells.length c] 32)).alloc (.cells ka 40)=wa at *;have H0:=Lib.hid (And.intro hB (And.intro hb1 hb2));have x1:wa.cell? ⟨w.heap.size,1,none⟩=some (.slice A h.cells.length c):=by rw[cell_of_row _ _ _ _ _ _ hb1];rfl
 have z1:wa.cell? ⟨w.heap.size + 1,1,none⟩=some (.int .u32 k.num):=by rw[cell_of_row _ _ _ _ _ _ hb2];exact q1
 clear hB hb1 hb2 q1;have hris:=jmp ho;go_wp2_with (fail);refine(jhe wa _ h.cells k.num (HSL.out.below H0.out.1 (Nat.le_refl _)) hris (by omega)).mono ?_;rintro e w1 ⟨rfl,hbk1⟩;have h1a:=H0.out.1.trans (hbk1.mono H0.out.1.size);have h1b:=(hbk1.block _ (lt_of_block H0.out.2.1)).trans H0.out.2.1;have h1c:=(hbk1.block _ (lt_of_block H0.out.2.2)).trans H0.out.2.2;have H1:=Lib.hid (And.intro h1a (And.intro h1b h1c));clear h1a h1b h1c hbk1 x1 z1 hris;cases hh:jba (h.cells.map (·.num)) k.num with
 |false=>
  have HV:=Lib.hid (isTab_no ho hh);clear hh;go_wp2_with (fail);go_ret;rw[HV.out];exact⟨rfl,H1.out.1⟩
 |true=>
  obtain⟨cl,hi,hcl,hnum,hmem⟩:=cel_at hh;have HV:=Lib.hid (isTab_at ho hmem hnum);obtain⟨b,o,rfl,hat,hwf⟩:=HR.out _ hi;have hstr:cl.data.size≤140737488355328:=by rw[hcl]at hwf;exact hwf.2.1
  have hat1:=hat.below H1.out.1 (Nat.le_refl _);rw[hcl]at hat1;clear hat hwf hh hnum hmem hcl;generalize ja5 (h.cells.map (·.num)) k.num=i at *;have d1:=hat1.cell 1 _ rfl;simp only[celE]at d1;have hi1:(0:Int)≤i:=by omega
  have hi2:(i:Int) < h.cells.length:=by omega
  have y1:w1.cell? ⟨w.heap.size,1,none⟩=some (.slice (some ⟨b,o,none⟩) h.cells.length c):=by rw[cell_of_row _ _ _ _ _ _ H1.out.2.1];rfl
  have HD1:=Lib.hid d1;clear hat1;obtain⟨data,hdata⟩:∃x,cl.data=x:=⟨_,rfl⟩
  rw[hdata]at d1 hstr HV HD1;clear hdata;go_wp2_with (fail);refine(jfl w1 data hstr).mono ?_;rintro e w2 ⟨nv,rfl,⟨hnv,_⟩,_,hb2⟩;obtain⟨vi,vk,vv,rfl,hsi,hsk,hsv,hk0,hk1⟩:=hnv;have hone:vi.oneCell'=true∧vk.oneCell'=true∧vv.oneCell'=true:=by
   obtain⟨_,_,a1,_⟩:=hsi;obtain⟨_,_,a2,_⟩:=hsk;obtain⟨_,_,a3,_⟩:=hsv;rw[a1,a2,a3];exact⟨rfl,rfl,rfl⟩
  have HONE:=Lib.hid hone;clear hsi hsk hsv hone;obtain⟨kd,hkdE⟩:∃x,(decN data).kind=x:=⟨_,rfl⟩
  rw[hkdE]at HV hk0 hk1 ⊢;clear hkdE;have hb3:=hb2.trans ((Below.refl _ w2).alloc (Nat.le_refl _) (.cells #[.int .u8 kd,vi,vk,vv] 59)|>.mono hb2.size);have hn3:=heap_alloc_new w2 (.cells #[.int .u8 kd,vi,vk,vv] 59);have H3:=Lib.hid (And.intro (H1.out.1.trans (hb3.mono H1.out.1.size)) (And.intro ((hb3.block _ (lt_of_block H1.out.2.1)).trans H1.out.2.1) (And.intro ((hb3.block _ (lt_of_block H1.out.2.2)).trans H1.out.2.2) hn3)));have d3:(w2.alloc (.cells #[.int .u8 kd,vi,vk,vv] 59)).cell? ⟨b,o + i * 3 + 1,none⟩=some (.string data):=(hb3.cell (block_lt_of_cell HD1.out)).trans HD1.out;clear hb2 hb3 hn3 y1 d1;go_upto_region 5 with((with_reducible refine jab ?_);refine jaa rfl 59 (.tmp 7) (.tmp 27) rfl 59 _ rfl [_,_,_,_] rfl rfl (by intro v hv;simp at hv;rcases hv with rfl|rfl|rfl|rfl <;>first|rfl|exact HONE.out.1|exact HONE.out.2.1|exact HONE.out.2.2) ja0 ?_);generalize w2.alloc (.cells #[.int .u8 kd,vi,vk,vv] 59)=wr at *;generalize w2.heap.size=nb at *;have y1:wr.cell? ⟨w.heap.size,1,none⟩=some (.slice (some ⟨b,o,none⟩) h.cells.length c):=by rw[cell_of_row _ _ _ _ _ _ H3.out.2.1];rfl
  have y3:wr.cell? ⟨nb,0,none⟩=some (.int .u8 kd):=by rw[cell_of_row _ _ _ _ _ _ H3.out.2.2.2];rfl
  have z2:At wr (w.heap.size + 1) 2 (hashV k.hash):=fun j hj=>by
   rw[cell_of_row _ _ _ _ _ _ H3.out.2.2.1];exact HKX.out j _ (List.getElem?_eq_getElem hj)
  have hhl:(hashV k.hash).length=32:=by simp[hashV,hk.2.2.1]
  have f1:=fun g:Grown wr=>g.fact y1
  have f3:=fun g:Grown wr=>g.fact y3
  have f5:=fun g:Grown wr=>g.fact d3
  have f2:=fun g:Grown wr=>jas (P:=Tryz.prog) g.val (w.heap.size + 1) 2 34 (hashV k.hash) _ (z2.below (g.prop) (Nat.le_refl _)) Tryz.underlying34 rfl (by rw[hhl];exact jje)
  obtain⟨hb5,hb5e⟩:∃x,(hashV k.hash).toArray=x:=⟨_,rfl⟩
  rw[hb5e]at f2;have HH5:=Lib.hid hb5e;have HHL:=Lib.hid hk.2.2.1;have HSH:=Lib.hid (jgc data.data.toList);clear hb5e hhl y1 y3 z2 d3;by_cases hk3:kd=3
  ·have hk3b:(kd==3)=true:=by simp[hk3]
   rw[decide_eq_true hk3]at HV;have HV':=Lib.hid (show jdb h k=(shaOf data.data.toList==k.hash) by rw[HV.out];rfl);clear HV hk3;generalize hsh:(shaOf data.data.toList==k.hash)=sb at *;refine jak (by kernel_rfl) (by kernel_rfl) ?_;iterate 10 (
    with_reducible refine wpQuiet_step (fun K hK=>?_)
    go_simp;generalize hZ:(Act.mk _ _:Act)=zz;refine hK _ ?_;subst hZ;clear hK K)
   with_reducible refine wpQuiet_step (fun K hK=>?_)
   go_simp;apply Exists.intro;refine⟨fun g=>?_,hK _ ?_⟩
   ·go_at_call 33;refine(jfj g.val data hstr).mono ?_;rintro e wk ⟨rfl,hbk⟩;exact⟨rfl,⟨wk,g.prop.trans (hbk.mono g.prop.size)⟩,rfl⟩
   clear hK K;iterate 1 (
    with_reducible refine wpQuiet_step (fun K hK=>?_)
    go_simp;generalize hZ:(Act.mk _ _:Act)=zz;refine hK _ ?_;subst hZ;clear hK K)
   refine wpQuiet_step (fun K hK=>?_);refine jal 34 (.tmp 40) rfl ⟨w.heap.size + 1,2,none⟩ rfl (.agg hb5) f2 ?_;generalize hZ:(Act.put _ _ _:Act)=zz;refine hK _ ?_;subst hZ;clear hK K;refine wpQuiet_step (fun K hK=>?_);refine quiet_eqG (.tmp 39) (.tmp 41) rfl (shaOf data.data.toList) k.hash HSH.out.1 HHL.out _ hb5 rfl HH5.out rfl rfl ?_;rw[hsh];generalize hZ:(Act.put _ _ _:Act)=zz;refine hK _ ?_;subst hZ;clear hK K;iterate 2 (
    with_reducible refine wpQuiet_step (fun K hK=>?_)
    go_simp;generalize hZ:(Act.mk _ _:Act)=zz;refine hK _ ?_;subst hZ;clear hK K)
   refine wpQuiet_nil ?_;intro _ hwq;obtain⟨wq,hwq⟩:=hwq;subst hwq;have hq:=wq.prop;go_wp2_with (fail);go_ret;rw[HV'.out];exact⟨rfl,H3.out.1.trans (hq.mono H3.out.1.size)⟩
  ·have hk3b:(kd==3)=false:=by simp[hk3]
   have HV':=Lib.hid (show jdb h k=false by rw[HV.out,decide_eq_false hk3];rfl);clear HV hk3;refine jak (by kernel_rfl) (by kernel_rfl) ?_;iterate 16 (
    with_reducible refine wpQuiet_step (fun K hK=>?_)
    go_simp;generalize hZ:(Act.mk _ _:Act)=zz;refine hK _ ?_;subst hZ;clear hK K)
   refine wpQuiet_nil ?_;intro _ hwq;obtain⟨wq,hwq⟩:=hwq;subst hwq;have hq:=wq.prop;go_wp2_with (fail);go_ret;rw[HV'.out];exact⟨rfl,H3.out.1.trans (hq.mono H3.out.1.size)⟩
end Go.Proofs.YtpaohkkhejpgjaaGreatDoor
