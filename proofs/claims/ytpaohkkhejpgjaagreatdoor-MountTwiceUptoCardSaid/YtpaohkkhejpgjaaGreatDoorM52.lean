/- Texts of the proof: Zr. -/
import Derived.Test.YtpaohkkhejpgjaaGreatDoorM60
import Derived.Test.YtpaohkkhejpgjaaGreatDoorM51
set_option linter.all false
set_option maxRecDepth 100000
set_option maxHeartbeats 8000000
namespace Go.Proofs.YtpaohkkhejpgjaaGreatDoor
open Go Go.RowKit
def still(s:Sto):Sto:={s with dev:={s.dev with fuse:= -1}}
theorem sto_len{w:World}{l:List Value}{s:Sto}(h:StoV w (.agg l.toArray) s):l.length=113∧(∀u∈l,u.oneCell'=true):=by
 obtain⟨st,e,h1,h2,_⟩:=jcf h;injection e with e;have e2:=congrArg Array.toList e;simp only at e2;subst e2;exact⟨h1,h2⟩
theorem sto_still{w:World}{v:Value}{s:Sto}(h:StoV w v s):∃l0 l1:List Value,v= .agg l0.toArray∧StoV w (.agg l0.toArray) s∧StoV w (.agg l1.toArray) (still s)∧l0.toArray.setIfInBounds 4 (.int .i64 (-1))=l1.toArray∧l0[4]? =some (.int .i64 s.dev.fuse):=by
 have h0:=h;obtain⟨bv,wv,cv,rfl,hd,hh,a,b,c⟩:=h;obtain⟨_,_,e,h1,h2,h3,h4⟩:=hd;simp only[jck,Value.agg.injEq,Array.mk.injEq,List.cons.injEq,and_true,true_and]at e;obtain⟨rfl,rfl⟩:=e;exact⟨_,stoL (devL (still s).dev bv wv) [.int .u32 s.heap.size,cv] (supA s.s0).toList (supA s.s1).toList [.bool s.v0, .bool s.v1] (kidE.enc s.table),rfl,h0,⟨bv,wv,cv,rfl,⟨_,_,rfl,h1,h2,h3,by show jho (-1);unfold jho;decide⟩,hh,a,b,c⟩,by rw[List.setIfInBounds_toArray];rfl,rfl⟩
theorem commit_left{s:Sto}(hf:s.dev.fuse= -1)(hk:kidE.wf s.table)(H:Int→Bool):(jep s H).1=s∨((jep s H).1.heap.cells.length≤65536∧(devB (jep s H).1.dev=true∨(jep s H).1.dev=noDev)):=by
 unfold jep;by_cases hc:jdm s=false
 ·rw[if_pos hc];exact Or.inr ⟨Nat.zero_le _,Or.inr rfl⟩
 ·have hc:jdm s=true:=by simpa using hc
  rw[if_neg (by rw[hc];simp)];by_cases hg:genS s=4611686018427387904
  ·rw[if_pos hg];exact Or.inl rfl
  ·rw[if_neg hg];have hr:=RtS.of hc;obtain⟨p1,p2,_⟩:=commit_pre hc hg hk;have hw:=hr.writes hf p1 p2.2.2.2 H;by_cases h0:(jg4 s H).why=0
   ·rw[if_neg (by simp[h0])];obtain⟨cs',hc',hd,_⟩:=hr.commit hf p1 p2.2.2.2 h0;exact Or.inr ⟨chk_cells hc'.chk,Or.inl ((jcq _).2 hd.ok)⟩
   ·rw[if_pos h0];exact Or.inr ⟨Nat.zero_le _,Or.inl ((jcq _).2 hw.1.ok)⟩
theorem sto_smallR{w:World}{v:Value}{s:Sto}(h:StoV w v s)(hd:devB s.dev=true):DevSm s.dev:=by
 obtain⟨_,_,_,_,⟨_,_,_,hb,_⟩,_⟩:=h;exact jgl ((jcq _).1 hd) (sl_wfY hb)
theorem commit_size{w:World}{v:Value}{s:Sto}(hf:s.dev.fuse= -1)(hk:kidE.wf s.table)(H:Int→Bool)(hbl:s.dev.blocks.length≤1073741824)(hwl:s.dev.waits.length≤1073741824)(hmax:s.heap.cells.length≤1073741824)(h:StoV w v (jep s H).1):
 (jep s H).1.dev.blocks.length≤1073741824∧(jep s H).1.dev.waits.length≤1073741824∧(jep s H).1.heap.cells.length≤1073741824:=by
 rcases commit_left hf hk H with e|⟨e1,e2|e2⟩
 ·rw[e];exact⟨hbl,hwl,hmax⟩
 ·have h1:=sto_smallR h e2;exact⟨Nat.le_trans h1.1 (by decide),Nat.le_trans h1.2 (by decide),Nat.le_trans e1 (by decide)⟩
 ·rw[e2];exact⟨Nat.zero_le _,Nat.zero_le _,Nat.le_trans e1 (by decide)⟩
structure TwiceR(a b:Sto):Prop where
 chk:jdm b=true
 v0:b.v0=true
 v1:b.v1=true
 tabs:b.s0.table=b.s1.table
 tab:b.table=a.table
theorem twice_plain{s:Sto}(hf:s.dev.fuse= -1)(hk:kidE.wf s.table)(H1 H2:Int→Bool)(h1:(jep s H1).2=0):
 ((jep (jep s H1).1 H2).2=1∨(jep (jep s H1).1 H2).2=8)∨((jep (jep s H1).1 H2).2=0∧TwiceR (jep s H1).1 (jep (jep s H1).1 H2).1):=by
 by_cases hc:jdm s=false
 ·have e:jep s H1=(noSto,7):=by unfold jep;rw[if_pos hc]
  rw[e]at h1;exact absurd h1 (by show ¬(7:Int)=0;decide)
 ·have hc:jdm s=true:=by simpa using hc
  rcases twice_law hc hf hk H1 H2 h1 with e|⟨e1,e2,e3,e4,e5,e6⟩
  ·exact Or.inl e
  ·exact Or.inr ⟨e1,e2,e3,e4,e5,e6⟩
theorem twice_any(w:World)(v:Value)(s:Sto)(hv:StoV w v s)(hbl:s.dev.blocks.length≤1073741824)(hwl:s.dev.waits.length≤1073741824)(hmax:s.heap.cells.length≤1073741824):
 Calls Tryz.prog 5 #[v] w fun e w'=>e= .returned (.bool true)∧Below w.heap.size w w':=by
 obtain⟨l0,l1,rfl,hv0,hv1,hset,hl4⟩:=sto_still hv;have hkw:kidE.wf (still s).table:=by obtain⟨_,_,_,_,_,_,_,_,h5⟩:=hv1;exact h5
 have HV1:=Lib.hid hv1;have HB:=Lib.hid (And.intro hbl (And.intro hwl hmax));have HKW:=Lib.hid hkw;have hz1:=sto_len hv1;have hz0:=sto_len hv0;have hsi1:(Tryz.prog.info? 42).map (·.size)=some l1.length:=by rw[hz1.1];exact ja6
 have HZ1:=Lib.hid hz1;have HSET:=Lib.hid (And.intro hset (And.intro hl4 hz0));have hn0:=heap_alloc_new w (.cells l0.toArray 42);have hb0:=(Below.refl w.heap.size w).alloc (Nat.le_refl _) (.cells l0.toArray 42);clear hv hv0 hv1 hbl hwl hmax hkw hz1 hz0 hset hl4;go_enter Tryz.func5,Tryz.ntmps5;go_upto_region 1 with(fail);generalize w.alloc (.cells l0.toArray 42)=wa at *;have H0:=Lib.hid (And.intro hn0 hb0);have HLV:=Lib.hid (lives_any wa);clear hn0 hb0;go_wp2_with (fail);refine HLV.out.mono ?_;rintro e w1 ⟨rfl,hb1⟩;have hr1:=(hb1.block _ (lt_of_block H0.out.1)).trans H0.out.1;have x4:w1.cell? ⟨w.heap.size,4,none⟩=some (.int .i64 s.dev.fuse):=by rw[cell_of_row _ _ _ _ _ _ hr1,List.getElem?_toArray];exact HSET.out.2.1
 have f4:w1.frozen? ⟨w.heap.size,4,none⟩=false:=jbi hr1 _;have hset:=ja2 hr1 4 (.int .i64 (-1));rw[HSET.out.1]at hset;have hbs:=(H0.out.2.trans (hb1.mono H0.out.2.size)).setCell (p:=⟨w.heap.size,4,none⟩) (Nat.le_refl _) (.int .i64 (-1));have HB1:=Lib.hid (show BoxS w (w1.setCell ⟨w.heap.size,4,none⟩ (.int .i64 (-1))) w.heap.size l1 (still s)from⟨hbs,hset,HV1.out.below hbs (Nat.le_refl _)⟩);clear hb1 HLV hr1 hset hbs;go_upto_region 4 with(fail);generalize w1.setCell ⟨w.heap.size,4,none⟩ (.int .i64 (-1))=w2 at *;have hat:=HB1.out.at;have HCO:=Lib.hid (commit_any w2 _ (still s) HB1.out.sto HB.out.1 HB.out.2.1 HB.out.2.2);obtain⟨a1,ha1⟩:∃a1,l1.toArray=a1:=⟨_,rfl⟩
 have HA1:=Lib.hid ha1;rw[ha1]at HCO;clear x4 f4 ha1;go_wp2_with (refine jae rfl 42 (.tmp 1) rfl w.heap.size 0 rfl l1 _ hat Tryz.underlying42 rfl hsi1 a1 HA1.out ?_);refine HCO.out.mono ?_;rintro e w3 ⟨H1,_,r,rfl,hsv,hb3⟩;have HTP:=Lib.hid (fun H2=>twice_plain (s:=still s) rfl HKW.out H1 H2);have HSZ:=Lib.hid (commit_size (s:=still s) rfl HKW.out H1 HB.out.1 HB.out.2.1 HB.out.2.2 hsv);obtain⟨e1,he1⟩:∃e1,(jep (still s) H1).2=e1:=⟨_,rfl⟩
 obtain⟨sa,hsa⟩:∃sa,(jep (still s) H1).1=sa:=⟨_,rfl⟩
 rw[hsa]at hsv HTP HSZ;rw[he1]at HTP ⊢;have HBW:=Lib.hid (HB1.out.below.trans (hb3.mono HB1.out.below.size));clear hat he1 hsa hb3 HCO;obtain⟨s2,rfl,hl2,ho2,_⟩:=jcf hsv;have hsi2:(Tryz.prog.info? 42).map (·.size)=some s2.length:=by rw[hl2];exact ja6
 have HB2:=Lib.hid (BoxS.new (w:=w) HBW.out hsv);have hbn2:=(Below.refl w3.heap.size w3).alloc (Nat.le_refl _) (.cells s2.toArray 42);obtain⟨a2,ha2⟩:∃a2,s2.toArray=a2:=⟨_,rfl⟩
 have HA2:=Lib.hid ha2;rw[ha2];have HL2:=Lib.hid hl2;clear hsv ha2 hl2;go_upto_region 5 with((with_reducible refine jab ?_);refine jaa rfl 42 (.tmp 3) (.tmp 14) rfl 42 _ rfl s2 (by rw[HA2.out];rfl) (by rw[HL2.out];rfl) ho2 hsi2 ?_);generalize w3.alloc (.cells s2.toArray 42)=w4 at *;generalize w3.heap.size=b2 at *;have hat:=HB2.out.at;have HCO:=Lib.hid (commit_any w4 _ sa HB2.out.sto HSZ.out.1 HSZ.out.2.1 HSZ.out.2.2);rw[HA2.out]at HCO;clear hbn2;try simp only[Act.put]
 go_wp2_with (refine jae rfl 42 (.tmp 3) rfl b2 0 rfl s2 _ hat Tryz.underlying42 rfl hsi2 a2 HA2.out ?_);refine HCO.out.mono ?_;rintro e w5 ⟨H2,_,r,rfl,hsv,hb5⟩;have HT:=Lib.hid (HTP.out H2);obtain⟨e2,he2⟩:∃e2,(jep sa H2).2=e2:=⟨_,rfl⟩
 obtain⟨sb,hsb⟩:∃sb,(jep sa H2).1=sb:=⟨_,rfl⟩
 rw[hsb]at hsv HT;rw[he2]at HT ⊢;have HB22:=Lib.hid (HB2.out.pure hb5);clear hat he2 hsb hb5 HCO HTP;obtain⟨s3,rfl,hl3,ho3,_⟩:=jcf hsv;have hsi3:(Tryz.prog.info? 42).map (·.size)=some s3.length:=by rw[hl3];exact ja6
 have HB3:=Lib.hid (BoxS.new (w:=w) HB22.out.below hsv);have hbn3:=(Below.refl w5.heap.size w5).alloc (Nat.le_refl _) (.cells s3.toArray 42);obtain⟨a3,ha3⟩:∃a3,s3.toArray=a3:=⟨_,rfl⟩
 have HA3:=Lib.hid ha3;rw[ha3];have HL3:=Lib.hid hl3;clear hsv ha3 hl3;go_upto_region 6 with((with_reducible refine jab ?_);refine jaa rfl 42 (.tmp 5) (.tmp 19) rfl 42 _ rfl s3 (by rw[HA3.out];rfl) (by rw[HL3.out];rfl) ho3 hsi3 ?_);have HB23:=Lib.hid (HB22.out.pure hbn3);generalize w5.alloc (.cells s3.toArray 42)=w6 at *;generalize w5.heap.size=b3 at *;clear hbn3;try simp only[Act.put]
 by_cases h0:e1=0
 ·subst h0;have HT:=Lib.hid (HT.out rfl);by_cases h1:e2=0
  ·subst h1;have htr:TwiceR sa sb:=by
    rcases HT.out with(e|e)|⟨_,e⟩
    ·exact absurd e (by decide)
    ·exact absurd e (by decide)
    ·exact e
   have HTR:=Lib.hid htr;have HCC:=Lib.hid (And.intro (jmv HB3.out.sto htr.chk) (chk_cells htr.chk));obtain⟨_,_,_,_,_,_,_,_,_,_,p7,p42,p77,p79,_,hkw⟩:=HB3.out.parts;obtain⟨_,_,_,_,_,_,_,_,_,_,_,_,_,r79,_,_⟩:=HB23.out.parts;rw[htr.v0,htr.v1]at p77;rw[←htr.tab]at r79;have x9:w6.cell? ⟨b3,9,none⟩=some (.int .u32 sb.s0.table):=p7.cell 2 _ rfl;have x44:w6.cell? ⟨b3,44,none⟩=some (.int .u32 sb.s0.table):=by rw[htr.tabs];exact p42.cell 2 _ rfl
   have f9:=fun g:Grown w6=>g.fact x9
   have f44:=fun g:Grown w6=>g.fact x44
   have at3:=HB3.out.at;have lv:∀g:Grown w6,(loadVar 38 ⟨b3,77,none⟩).run Tryz.prog g.val= .ok (.agg #[.bool true, .bool true]) g.val:=fun g=>jas (P:=Tryz.prog) g.val b3 77 38 [.bool true, .bool true] _ (p77.below g.prop (Nat.le_refl _)) Tryz.underlying38 rfl jj2
   have lk3:=fun g:Grown w6=>jas (P:=Tryz.prog) g.val b3 79 40 _ _ (p79.below g.prop (Nat.le_refl _)) Tryz.underlying40 rfl (jc7 _ hkw)
   have lk2:=fun g:Grown w6=>jas (P:=Tryz.prog) g.val b2 79 40 _ _ (r79.below g.prop (Nat.le_refl _)) Tryz.underlying40 rfl (jc7 _ hkw)
   have ls3:=fun g:Grown w6=>jas (P:=Tryz.prog) g.val b3 0 42 s3 _ (at3.below g.prop (Nat.le_refl _)) Tryz.underlying42 rfl hsi3
   have HCK:=Lib.hid (fun g:Grown w6=>chk_any g.val _ sb (HB3.out.sto.below g.prop (Nat.le_refl _)) (Nat.le_trans HCC.out.1.1 (by decide)) (Nat.le_trans HCC.out.1.2 (by decide)) (Nat.le_trans HCC.out.2 (by decide)));rw[show stoE sb=0 by unfold stoE;rw[HTR.out.chk];rfl]at HCK;rw[HA3.out]at ls3 HCK;have HBQ:=Lib.hid (fun g:World=>bools_eq true true true true g);have HKQ:=Lib.hid (fun g:World=>kid_eq_atY sb.table hkw.2.2.1 g 9997);obtain⟨q3,hq3⟩:∃q3,(kidE.enc sb.table).toArray=q3:=⟨_,rfl⟩
   rw[hq3]at lk3 lk2 HKQ;generalize sb.s0.table=tb at *;clear x9 x44 p7 p42 p77 p79 r79 at3 hq3 hkw htr HT;go_upto_region 8 with(fail);refine jbf ?_;iterate 1 (
    with_reducible refine wpQuiet_step (fun K hK=>?_)
    go_simp;generalize hZ:(Act.mk _ _:Act)=zz;refine hK _ ?_;subst hZ;clear hK K)
   refine wpQuiet_step (fun K hK=>?_);refine jal 38 (.tmp 37) rfl ⟨b3,77,none⟩ rfl (.agg #[.bool true, .bool true]) lv ?_;generalize hZ:(Act.put _ _ _:Act)=zz;refine hK _ ?_;subst hZ;clear hK K;refine wpQuiet_step (fun K hK=>?_);refine jkl 38 _ rfl [(0, .bool true),(1, .bool true)] rfl _ (built_bools _ _) ?_;generalize hZ:(Act.put _ _ _:Act)=zz;refine hK _ ?_;subst hZ;clear hK K;refine wpQuiet_step (fun K hK=>?_);refine jfq 38 38 (.tmp 38) (.tmp 39) rfl #[.bool true, .bool true] #[.bool true, .bool true] rfl rfl jmu true HBQ.out ?_;generalize hZ:(Act.put _ _ _:Act)=zz;refine hK _ ?_;subst hZ;clear hK K;iterate 13 (
    with_reducible refine wpQuiet_step (fun K hK=>?_)
    go_simp;generalize hZ:(Act.mk _ _:Act)=zz;refine hK _ ?_;subst hZ;clear hK K)
   refine wpQuiet_step (fun K hK=>?_);refine jal 40 (.tmp 53) rfl ⟨b3,79,none⟩ rfl (.agg q3) lk3 ?_;generalize hZ:(Act.put _ _ _:Act)=zz;refine hK _ ?_;subst hZ;clear hK K;iterate 1 (
    with_reducible refine wpQuiet_step (fun K hK=>?_)
    go_simp;generalize hZ:(Act.mk _ _:Act)=zz;refine hK _ ?_;subst hZ;clear hK K)
   refine wpQuiet_step (fun K hK=>?_);refine jal 40 (.tmp 55) rfl ⟨b2,79,none⟩ rfl (.agg q3) lk2 ?_;generalize hZ:(Act.put _ _ _:Act)=zz;refine hK _ ?_;subst hZ;clear hK K;refine wpQuiet_step (fun K hK=>?_);refine jfq 40 40 (.tmp 54) (.tmp 56) rfl q3 q3 rfl rfl kid_guard true HKQ.out ?_;generalize hZ:(Act.put _ _ _:Act)=zz;refine hK _ ?_;subst hZ;clear hK K;iterate 2 (
    with_reducible refine wpQuiet_step (fun K hK=>?_)
    go_simp;generalize hZ:(Act.mk _ _:Act)=zz;refine hK _ ?_;subst hZ;clear hK K)
   refine wpQuiet_step (fun K hK=>?_);refine jal 42 (.tmp 5) rfl ⟨b3,0,none⟩ rfl (.agg a3) ls3 ?_;generalize hZ:(Act.put _ _ _:Act)=zz;refine hK _ ?_;subst hZ;clear hK K;with_reducible refine wpQuiet_step (fun K hK=>?_)
   go_simp;apply Exists.intro;refine⟨fun g=>?_,hK _ ?_⟩
   ·go_at_call 19;refine(HCK.out g).mono ?_;rintro e wk ⟨rfl,hbk⟩;exact⟨rfl,⟨wk,g.prop.trans (hbk.mono g.prop.size)⟩,rfl⟩
   clear hK K;iterate 3 (
    with_reducible refine wpQuiet_step (fun K hK=>?_)
    go_simp;generalize hZ:(Act.mk _ _:Act)=zz;refine hK _ ?_;subst hZ;clear hK K)
   refine wpQuiet_nil ?_;intro _ hwq;obtain⟨wq,hwq⟩:=hwq;subst hwq;have hq:=wq.prop;go_wp2_with (fail);go_ret;exact⟨rfl,HB3.out.below.trans (hq.mono HB3.out.below.size)⟩
  ·have h1b:(e2 !=0)=true:=by simp[h1]
   have hor:e2=1∨e2=8:=by
    rcases HT.out with e|⟨e,_⟩
    ·exact e
    ·exact absurd e h1
   clear h1 HT;rcases hor with rfl|rfl
   ·go_wp2_with (fail);go_ret;exact⟨rfl,HB3.out.below⟩
   ·go_wp2_with (fail);go_ret;exact⟨rfl,HB3.out.below⟩
 ·have h0b:(e1 !=0)=true:=by simp[h0]
  clear h0 HT;go_wp2_with (fail);go_ret;exact⟨rfl,HB3.out.below⟩
end Go.Proofs.YtpaohkkhejpgjaaGreatDoor
