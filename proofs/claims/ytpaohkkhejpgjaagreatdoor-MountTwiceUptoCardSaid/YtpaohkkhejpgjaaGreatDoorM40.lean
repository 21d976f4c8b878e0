/- Texts of the proof: Z0 Z1. -/
import Derived.Test.YtpaohkkhejpgjaaGreatDoorM39
import Derived.Test.YtpaohkkhejpgjaaGreatDoorM19
set_option linter.all false
set_option maxRecDepth 100000
set_option maxHeartbeats 8000000
namespace Go.Proofs.YtpaohkkhejpgjaaGreatDoor
open Go Go.RowKit
theorem jhj:Tryz.prog.built 36 []=some (supA noSup):=by kernel_rfl
def jf6(s:Sto):Bool:=slotB s s.s0 s.v0 0 && (slotB s s.s1 s.v1 1 && (s.v0||s.v1))
def preB(s:Sto)(k:Nat):Bool:=if k=0 then true else if k=1 then slotB s s.s0 s.v0 0 else slotB s s.s0 s.v0 0 && slotB s s.s1 s.v1 1
structure SlR(w wr:World)(p:Nat)(st:List Value)(b:Bool):Prop where
 sto:wr.heap[p]? =some (.cells st.toArray 42 (0,0))
 below:Below w.heap.size w wr
 yes:b=true
theorem valid_pos(s:Sto):decide (0 < (jbh s).length)=(s.v0||s.v1):=by
 unfold jbh;cases s.v0 <;>cases s.v1 <;>rfl
theorem jk4{s:Sto}{k:Nat}(hk:k < 2)(h:preB s (k + 1)=false):jf6 s=false:=by
 unfold jf6;rcases(show k=0∨k=1 by omega)with rfl|rfl
 ·rw[show slotB s s.s0 s.v0 0=false from h];rfl
 ·have h2:(slotB s s.s0 s.v0 0 && slotB s s.s1 s.v1 1)=false:=h;rw[←Bool.and_assoc,h2];rfl
theorem own_len{w:World}{B:Nat}{t:TypeId}{sz n c:Nat}{A:Option Addr}{k:Nat}{xs:List Value}(h:w.ownsRow B t sz (.slice A n c) k xs):n=k:=by
 obtain⟨_,h2⟩:=h;rcases h2 with⟨e,h0⟩|⟨g,cap,cur,e,_⟩
 ·injection e with _ e2 _;omega
 ·injection e with _ e2 _
theorem slots_any(w:World)(v:Value)(s:Sto)(hv:StoV w v s)(ho:openB s.heap=true)(hmax:s.heap.cells.length≤1073741824):
 Calls Tryz.prog 59 #[v] w fun e w'=>e= .returned (.bool (jf6 s))∧Below w.heap.size w w':=by
 have HVV:=Lib.hid hv;obtain⟨bv,wv,cv,rfl,hdv,hhv,hw0,hw1,hkw⟩:=hv;have HHV:=Lib.hid hhv;have HSL:=Lib.hid (ja4 (d:=s.dev) (bv:=bv) (wv:=wv) (x:= .int .u32 s.heap.size) (cv:=cv) (p:=s.v0) (q:=s.v1) hw0 hw1 hkw);have HSW:=Lib.hid (And.intro trivial (And.intro hw0 hw1));have IX0:=Lib.hid (ixs_zero (supA s.s0).toList (supA s.s1).toList HSL.out.a HSL.out.b);have IX1:=Lib.hid (ixs_one (supA s.s0).toList (supA s.s1).toList HSL.out.a HSL.out.b);have hb:=heap_alloc_new w (.cells (stoL (devL s.dev bv wv) [.int .u32 s.heap.size,cv] (supA s.s0).toList (supA s.s1).toList [.bool s.v0, .bool s.v1] (kidE.enc s.table)).toArray 42);have hB:=(Below.refl w.heap.size w).alloc (Nat.le_refl _) (.cells (stoL (devL s.dev bv wv) [.int .u32 s.heap.size,cv] (supA s.s0).toList (supA s.s1).toList [.bool s.v0, .bool s.v1] (kidE.enc s.table)).toArray 42);have has:=sto_slots hb HSL.out;have hssl:((supA s.s0).toList ++ (supA s.s1).toList).length=70:=by rw[List.length_append,HSL.out.a,HSL.out.b]
 clear hdv hhv hw0 hw1 hkw;obtain⟨sl,hsl⟩:∃sl,((supA s.s0).toList ++ (supA s.s1).toList).toArray=sl:=⟨_,rfl⟩
 rw[hsl]at IX0 IX1;obtain⟨ss,hss⟩:∃ss,((supA s.s0).toList ++ (supA s.s1).toList)=ss:=⟨_,rfl⟩
 rw[hss]at hsl has hssl;clear hss;have HSS:=Lib.hid hsl;clear hsl;have HLN:=Lib.hid (jb4 HSL.out);obtain⟨st,hst⟩:∃st,stoL (devL s.dev bv wv) [.int .u32 s.heap.size,cv] (supA s.s0).toList (supA s.s1).toList [.bool s.v0, .bool s.v1] (kidE.enc s.table)=st:=⟨_,rfl⟩
 rw[hst]at hb hB has HLN HVV ⊢;have HST:=Lib.hid hst;clear hst;have h70:(Tryz.prog.info? 37).map (·.size)=some ss.length:=by rw[hssl];exact slots_size
 go_enter Tryz.func59,Tryz.ntmps59;go_upto_region 1 with(fail);generalize w.alloc (.cells st.toArray 42)=wa at *;go_wp2_with (first
  |((with_reducible refine jbv 37 ?_);refine jae rfl 37 (.tmp 5) rfl w.heap.size 7 rfl ss _ has Tryz.underlying37 rfl h70 sl HSS.out ?_))
 have H0:=Lib.hid (And.intro hb hB);clear hb hB has hssl h70;go_loopw [3,4,7,8,9,10,11,12,13,14,15,16,17,18,19,20,21,22,23,24,25,26,27,28,29,30,31,32,33,34,35,36,37,38,39,40,41,42,43,44] (fun _ _ i _ _ _ _ _ _ _ _ _ _ _ _ _ _ _ _ _ _ _ _ _ _ _ _ _ _ _ _ _ _ _ _ _ _ _ _ _ wr=>∃k:Nat,k≤2∧i= .int .i64 k∧SlR w wr w.heap.size st (preB s k)) (fun _ _ i _ _ _ _ _ _ _ _ _ _ _ _ _ _ _ _ _ _ _ _ _ _ _ _ _ _ _ _ _ _ _ _ _ _ _ _ _ _=>2 - (intOf i).toNat)
 case atStart=>exact⟨0,by omega,rfl,H0.out.1,H0.out.2,rfl⟩
 case round=>
  obtain⟨k,hk,rfl,hvr⟩:=hrel;rcases(show k=0∨k=1∨k=2 by omega)with rfl|rfl|rfl
  ·-- round 0
   have HW:=Lib.hid (show supWf s.s0 from HSW.out.2.1);obtain⟨vs,hvs⟩:∃vs,(supA s.s0).toList=vs:=⟨_,rfl⟩
   have hvl:vs.length=35:=by rw[←hvs,Array.length_toList];exact jbn HW.out
   have hv1:∀u∈vs,u.oneCell'=true:=by rw[←hvs];exact jbt _
   have hvi:(Tryz.prog.info? 36).map (·.size)=some vs.length:=by rw[←hvs];exact jbx HW.out
   have hix:=IX0.out;rw[hvs]at hix;have HPB:=Lib.hid (show preB s 1=(preB s 0 && slotB s s.s0 s.v0 0) by unfold preB;simp);have y7:wr.cell? ⟨w.heap.size,77,none⟩=some (.bool s.v0):=by
    have:=(jcr (by rw[HST.out];exact hvr.sto) HSL.out).2.2.2.2.1.cell 0 _ rfl;simpa using this
   have HVR:=Lib.hid hvr;have hvsA:vs.toArray=supA s.s0:=by rw[←hvs]
   have HVS:=Lib.hid hvsA;have hsz0:vs.toArray[0]? =some (.int .u32 (s.s0).size):=by rw[hvsA];rfl
   clear hvr hvsA;have hat:At (wr.alloc (.cells vs.toArray 36)) wr.heap.size 0 vs:=by have h9:=jg1 wr vs.toArray;simpa using h9
   have y7a:∀o,(wr.alloc o).cell? ⟨w.heap.size,77,none⟩=some (.bool s.v0):=fun o=>(World.cell?_alloc_some wr _ o (by rw[y7];rfl)).trans y7
   have y7:=y7a (.cells vs.toArray 36);clear y7a;have hst2:=(Lib.alloc_old wr (.cells vs.toArray 36) _ (lt_of_block HVR.out.sto)).trans HVR.out.sto;have hb2:=HVR.out.below.alloc HVR.out.below.size (.cells vs.toArray 36);have hnb:=heap_alloc_new wr (.cells vs.toArray 36);obtain⟨va,hva⟩:∃va,vs.toArray=va:=⟨_,rfl⟩
   have HVA:=Lib.hid hva;rw[hva]at hix;have HX:=Lib.hid (And.intro hst2 (And.intro hb2 hnb));clear hva hst2 hb2 hvs hnb;cases hvv:s.v0 with
   |false=>
    rw[hvv]at y7;have HSB:=Lib.hid (show slotB s s.s0 false 0=supEq s.s0 noSup from rfl);rw[hvv]at HPB;rw[HSB.out]at HPB;clear hvv;have hqe:∀W:World,(Op.equalIn 10000 36 (.agg va) (.agg (supA noSup))).run Tryz.prog W= .ok (supEq s.s0 noSup) W:=fun W=>by
     rw[←HVA.out,HVS.out];exact ji8 s.s0 noSup HW.out.2.2.2.1 jcb.2.2.2.1 W 9997
    cases hqb:supEq s.s0 noSup with
    |true=>
     rw[hqb]at HPB hqe;have HQE:=Lib.hid hqe;have HV:=Lib.hid (show SlR w (wr.alloc (.cells vs.toArray 36)) w.heap.size st (preB s 1)from⟨HX.out.1,HX.out.2.1,by rw[HPB.out,HVR.out.yes];rfl⟩);clear hqb hqe;go_wp2_with (first
      |((with_reducible refine jab ?_);refine jaa rfl 36 (.tmp 4) (.tmp 10) rfl 36 _ rfl vs (by rw[HVA.out];rfl) (by rw[hvl];rfl) hv1 hvi ?_)
      |(refine jae rfl 36 (.tmp 4) rfl wr.heap.size 0 rfl vs _ hat Tryz.underlying36 rfl hvi va HVA.out ?_)
      |((with_reducible refine jar 36 ?_);refine jah rfl 36 _ rfl [] rfl _ jhj ?_)
      |(refine jew rfl 36 36 (.tmp 16) (.tmp 17) rfl va (supA noSup) rfl rfl ji9 true (HQE.out _) ?_;rw[Bool.not_true]))
     exact⟨⟨1,by omega,by go_num,HV.out⟩,by simp[intOf]⟩
    |false=>
     rw[hqb]at HPB hqe;have HQE:=Lib.hid hqe;have HR:=Lib.hid (show jf6 s=false from jk4 (k:=0) (by omega) (by rw[HPB.out];simp));clear hqb hqe;go_wp2_with (first
      |((with_reducible refine jab ?_);refine jaa rfl 36 (.tmp 4) (.tmp 10) rfl 36 _ rfl vs (by rw[HVA.out];rfl) (by rw[hvl];rfl) hv1 hvi ?_)
      |(refine jae rfl 36 (.tmp 4) rfl wr.heap.size 0 rfl vs _ hat Tryz.underlying36 rfl hvi va HVA.out ?_)
      |((with_reducible refine jar 36 ?_);refine jah rfl 36 _ rfl [] rfl _ jhj ?_)
      |(refine jew rfl 36 36 (.tmp 16) (.tmp 17) rfl va (supA noSup) rfl rfl ji9 false (HQE.out _) ?_;rw[Bool.not_false]))
     go_ret;exact⟨by rw[HR.out];rfl,HX.out.2.1⟩
   |true=>
    rw[hvv]at y7;obtain⟨bb,hbb⟩:∃bb,slotB s s.s0 true 0=bb:=⟨_,rfl⟩
    have HBB:=Lib.hid (show(supB s.s0 && (decide (slotS s.s0=0) && (decide ((s.s0).size=s.dev.size) && jdb s.heap (tabOf s.s0))))=bb from hbb);rw[hvv,hbb]at HPB;clear hvv hbb;go_upto_region 7 with(first
     |((with_reducible refine jab ?_);refine jaa rfl 36 (.tmp 4) (.tmp 10) rfl 36 _ rfl vs (by rw[HVA.out];rfl) (by rw[hvl];rfl) hv1 hvi ?_))
    generalize wr.alloc (.cells vs.toArray 36)=wx at *;generalize wr.heap.size=b5 at *;have x0:wx.cell? ⟨b5,0,none⟩=some (.int .u32 (s.s0).size):=by rw[cell_of_row _ _ _ _ _ _ HX.out.2.2];exact hsz0
    have hsa:=jcr (by rw[HST.out];exact HX.out.1) HSL.out;have x1:wx.cell? ⟨w.heap.size,0,none⟩=some (.int .u32 s.dev.size):=hsa.1.cell 0 _ rfl;have x2:wx.cell? ⟨w.heap.size,5,none⟩=some (.int .u32 s.heap.size):=hsa.2.1.cell 0 _ rfl;have x3:wx.cell? ⟨w.heap.size,6,none⟩=some cv:=hsa.2.1.cell 1 _ rfl;have f0:=fun g:Grown wx=>g.fact x0
    have f1:=fun g:Grown wx=>g.fact x1
    have f2:=fun g:Grown wx=>g.fact x2
    have f3:=fun g:Grown wx=>g.fact x3
    have fl:=fun g:Grown wx=>jas (P:=Tryz.prog) g.val b5 0 36 vs _ (hat.below (g.prop) (Nat.le_refl _)) Tryz.underlying36 rfl hvi
    rw[HVA.out]at fl;have hva:va=supA s.s0:=by rw[←HVA.out,HVS.out]
    have HVQ:=Lib.hid hva;have hwx:=HX.out.2.1.size;have HIS:=Lib.hid (fun g:Grown wx=>is_any g.val _ s.heap (tabOf s.s0) (HHV.out.below (HX.out.2.1.trans (g.prop.mono hwx)) (Nat.le_refl _)) (jkj HW.out) ho hmax);obtain⟨szx,hszx⟩:∃z,(s.s0).size=z:=⟨_,rfl⟩
    obtain⟨szd,hszd⟩:∃z,s.dev.size=z:=⟨_,rfl⟩
    rw[hszx]at f0 HBB;rw[hszd]at f1 HBB;obtain⟨nb,hnb⟩:∃z,(!bb)=z:=⟨_,rfl⟩
    have HNB:=Lib.hid hnb;clear hnb;clear x0 x1 x2 x3 hsz0 hva hix hsa y7 hszx hszd;go_cut [19,20,21,22,23,24,25,26,27,28,29,30,31,32,33,34,35,36,37,38,39,40,41,42,43] (fun _ _ _ _ _ _ _ _ _ _ _ _ _ _ _ _ _ _ _ _ _ _ _ _ x wy=>x= .bool nb∧Below wx.heap.size wx wy)
    case first=>
     cases hs0:supB s.s0 with
     |false=>
      have HV:=Lib.hid (show bb=false by rw[←HBB.out,hs0];rfl);have he:(jb3 s.s0 !=0)=true:=by unfold jb3;rw[hs0];rfl
      obtain⟨er,hEr⟩:∃z,jb3 s.s0=z:=⟨_,rfl⟩
      have HER:=Lib.hid hEr;rw[hEr]at he;clear hEr hs0;refine jak (by kernel_rfl) (by kernel_rfl) ?_;refine wpQuiet_step (fun K hK=>?_);refine jal 36 (.tmp 4) rfl ⟨b5,0,none⟩ rfl (.agg va) fl ?_;generalize hZ:(Act.put _ _ _:Act)=zz;refine hK _ ?_;subst hZ;clear hK K;with_reducible refine wpQuiet_step (fun K hK=>?_)
      go_simp;apply Exists.intro;refine⟨fun g=>?_,hK _ ?_⟩
      ·go_at_call 87;rw[HVQ.out];refine(jca g.val s.s0).mono ?_;rw[HER.out];rintro e wk ⟨rfl,hbk⟩;exact⟨rfl,⟨wk,g.prop.trans (hbk.mono g.prop.size)⟩,rfl⟩
      clear hK K;iterate 23 (
       with_reducible refine wpQuiet_step (fun K hK=>?_)
       go_simp;generalize hZ:(Act.mk _ _:Act)=zz;refine hK _ ?_;subst hZ;clear hK K)
      refine wpQuiet_nil ?_;intro _ hwq;obtain⟨wq,hwq⟩:=hwq;subst hwq;go_wp2_with (fail);go_meet;exact⟨by rw[←HNB.out,HV.out] <;>rfl,wq.prop⟩
     |true=>
      have hs1:jb3 s.s0=0:=by unfold jb3;rw[hs0];rfl
      have HS1:=Lib.hid hs1;rw[hs0,Bool.true_and]at HBB;clear hs0 hs1;obtain⟨sv,hsv⟩:∃z,(s.s0).gen % 2=z:=⟨_,rfl⟩
      have HSV:=Lib.hid hsv;rw[show slotS s.s0=sv from hsv]at HBB;clear hsv;by_cases hs2:sv=0
      ·have hs2b:(sv !=0)=false:=by simp[hs2]
       rw[decide_eq_true hs2,Bool.true_and]at HBB;clear hs2;by_cases hs3:szx=szd
       ·have hs3b:(szx !=szd)=false:=by simp[hs3]
        rw[decide_eq_true hs3,Bool.true_and]at HBB;clear hs3;obtain⟨ib,hib⟩:∃z,jdb s.heap (tabOf s.s0)=z:=⟨_,rfl⟩
        have HIB:=Lib.hid hib;rw[hib]at HBB;clear hib;have HV:=Lib.hid (show bb=ib from HBB.out.symm);refine jak (by kernel_rfl) (by kernel_rfl) ?_;refine wpQuiet_step (fun K hK=>?_);refine jal 36 (.tmp 4) rfl ⟨b5,0,none⟩ rfl (.agg va) fl ?_;generalize hZ:(Act.put _ _ _:Act)=zz;refine hK _ ?_;subst hZ;clear hK K;with_reducible refine wpQuiet_step (fun K hK=>?_)
        go_simp;apply Exists.intro;refine⟨fun g=>?_,hK _ ?_⟩
        ·go_at_call 87;rw[HVQ.out];refine(jca g.val s.s0).mono ?_;rw[HS1.out];rintro e wk ⟨rfl,hbk⟩;exact⟨rfl,⟨wk,g.prop.trans (hbk.mono g.prop.size)⟩,rfl⟩
        clear hK K;iterate 2 (
         with_reducible refine wpQuiet_step (fun K hK=>?_)
         go_simp;generalize hZ:(Act.mk _ _:Act)=zz;refine hK _ ?_;subst hZ;clear hK K)
        refine wpQuiet_step (fun K hK=>?_);refine jal 36 (.tmp 4) rfl ⟨b5,0,none⟩ rfl (.agg va) fl ?_;generalize hZ:(Act.put _ _ _:Act)=zz;refine hK _ ?_;subst hZ;clear hK K;with_reducible refine wpQuiet_step (fun K hK=>?_)
        go_simp;apply Exists.intro;refine⟨fun g=>?_,hK _ ?_⟩
        ·go_at_call 47;rw[HVQ.out];refine(jbo g.val s.s0 HW.out.2.1.1 HW.out.2.1.2).mono ?_;rw[HSV.out];rintro e wk ⟨rfl,hbk⟩;exact⟨rfl,⟨wk,g.prop.trans (hbk.mono g.prop.size)⟩,rfl⟩
        clear hK K;iterate 14 (
         with_reducible refine wpQuiet_step (fun K hK=>?_)
         go_simp;generalize hZ:(Act.mk _ _:Act)=zz;refine hK _ ?_;subst hZ;clear hK K)
        refine wpQuiet_step (fun K hK=>?_);refine jal 36 (.tmp 4) rfl ⟨b5,0,none⟩ rfl (.agg va) fl ?_;generalize hZ:(Act.put _ _ _:Act)=zz;refine hK _ ?_;subst hZ;clear hK K;with_reducible refine wpQuiet_step (fun K hK=>?_)
        go_simp;apply Exists.intro;refine⟨fun g=>?_,hK _ ?_⟩
        ·go_at_call 46;rw[HVQ.out];refine(jmn g.val s.s0 HW.out).mono ?_;rintro e wk ⟨rfl,hbk⟩;exact⟨rfl,⟨wk,g.prop.trans (hbk.mono g.prop.size)⟩,rfl⟩
        clear hK K;with_reducible refine wpQuiet_step (fun K hK=>?_)
        go_simp;apply Exists.intro;refine⟨fun g=>?_,hK _ ?_⟩
        ·go_at_call 60;refine(HIS.out g).mono ?_;rw[HIB.out];rintro e wk ⟨rfl,hbk⟩;exact⟨rfl,⟨wk,g.prop.trans (hbk.mono g.prop.size)⟩,rfl⟩
        clear hK K;iterate 2 (
         with_reducible refine wpQuiet_step (fun K hK=>?_)
         go_simp;generalize hZ:(Act.mk _ _:Act)=zz;refine hK _ ?_;subst hZ;clear hK K)
        refine wpQuiet_nil ?_;intro _ hwq;obtain⟨wq,hwq⟩:=hwq;subst hwq;go_wp2_with (fail);go_meet;exact⟨by rw[←HNB.out,HV.out] <;>rfl,wq.prop⟩
       ·have hs3b:(szx !=szd)=true:=by simp[hs3]
        have HV:=Lib.hid (show bb=false by rw[←HBB.out,decide_eq_false hs3];rfl);clear hs3;refine jak (by kernel_rfl) (by kernel_rfl) ?_;refine wpQuiet_step (fun K hK=>?_);refine jal 36 (.tmp 4) rfl ⟨b5,0,none⟩ rfl (.agg va) fl ?_;generalize hZ:(Act.put _ _ _:Act)=zz;refine hK _ ?_;subst hZ;clear hK K;with_reducible refine wpQuiet_step (fun K hK=>?_)
        go_simp;apply Exists.intro;refine⟨fun g=>?_,hK _ ?_⟩
        ·go_at_call 87;rw[HVQ.out];refine(jca g.val s.s0).mono ?_;rw[HS1.out];rintro e wk ⟨rfl,hbk⟩;exact⟨rfl,⟨wk,g.prop.trans (hbk.mono g.prop.size)⟩,rfl⟩
        clear hK K;iterate 2 (
         with_reducible refine wpQuiet_step (fun K hK=>?_)
         go_simp;generalize hZ:(Act.mk _ _:Act)=zz;refine hK _ ?_;subst hZ;clear hK K)
        refine wpQuiet_step (fun K hK=>?_);refine jal 36 (.tmp 4) rfl ⟨b5,0,none⟩ rfl (.agg va) fl ?_;generalize hZ:(Act.put _ _ _:Act)=zz;refine hK _ ?_;subst hZ;clear hK K;with_reducible refine wpQuiet_step (fun K hK=>?_)
        go_simp;apply Exists.intro;refine⟨fun g=>?_,hK _ ?_⟩
        ·go_at_call 47;rw[HVQ.out];refine(jbo g.val s.s0 HW.out.2.1.1 HW.out.2.1.2).mono ?_;rw[HSV.out];rintro e wk ⟨rfl,hbk⟩;exact⟨rfl,⟨wk,g.prop.trans (hbk.mono g.prop.size)⟩,rfl⟩
        clear hK K;iterate 19 (
         with_reducible refine wpQuiet_step (fun K hK=>?_)
         go_simp;generalize hZ:(Act.mk _ _:Act)=zz;refine hK _ ?_;subst hZ;clear hK K)
        refine wpQuiet_nil ?_;intro _ hwq;obtain⟨wq,hwq⟩:=hwq;subst hwq;go_wp2_with (fail);go_meet;exact⟨by rw[←HNB.out,HV.out] <;>rfl,wq.prop⟩
      ·have hs2b:(sv !=0)=true:=by simp[hs2]
       have HV:=Lib.hid (show bb=false by rw[←HBB.out,decide_eq_false hs2];rfl);clear hs2;refine jak (by kernel_rfl) (by kernel_rfl) ?_;refine wpQuiet_step (fun K hK=>?_);refine jal 36 (.tmp 4) rfl ⟨b5,0,none⟩ rfl (.agg va) fl ?_;generalize hZ:(Act.put _ _ _:Act)=zz;refine hK _ ?_;subst hZ;clear hK K;with_reducible refine wpQuiet_step (fun K hK=>?_)
       go_simp;apply Exists.intro;refine⟨fun g=>?_,hK _ ?_⟩
       ·go_at_call 87;rw[HVQ.out];refine(jca g.val s.s0).mono ?_;rw[HS1.out];rintro e wk ⟨rfl,hbk⟩;exact⟨rfl,⟨wk,g.prop.trans (hbk.mono g.prop.size)⟩,rfl⟩
       clear hK K;iterate 2 (
        with_reducible refine wpQuiet_step (fun K hK=>?_)
        go_simp;generalize hZ:(Act.mk _ _:Act)=zz;refine hK _ ?_;subst hZ;clear hK K)
       refine wpQuiet_step (fun K hK=>?_);refine jal 36 (.tmp 4) rfl ⟨b5,0,none⟩ rfl (.agg va) fl ?_;generalize hZ:(Act.put _ _ _:Act)=zz;refine hK _ ?_;subst hZ;clear hK K;with_reducible refine wpQuiet_step (fun K hK=>?_)
       go_simp;apply Exists.intro;refine⟨fun g=>?_,hK _ ?_⟩
       ·go_at_call 47;rw[HVQ.out];refine(jbo g.val s.s0 HW.out.2.1.1 HW.out.2.1.2).mono ?_;rw[HSV.out];rintro e wk ⟨rfl,hbk⟩;exact⟨rfl,⟨wk,g.prop.trans (hbk.mono g.prop.size)⟩,rfl⟩
       clear hK K;iterate 19 (
        with_reducible refine wpQuiet_step (fun K hK=>?_)
        go_simp;generalize hZ:(Act.mk _ _:Act)=zz;refine hK _ ?_;subst hZ;clear hK K)
       refine wpQuiet_nil ?_;intro _ hwq;obtain⟨wq,hwq⟩:=hwq;subst hwq;go_wp2_with (fail);go_meet;exact⟨by rw[←HNB.out,HV.out] <;>rfl,wq.prop⟩
    case rest=>
     obtain⟨rfl,hbc⟩:=hcut;have hsto:=(hbc.block _ (lt_of_block HX.out.1)).trans HX.out.1;have hbl:=HX.out.2.1.trans (hbc.mono HX.out.2.1.size);have HY:=Lib.hid (And.intro hsto hbl);clear hsto hbl hbc f0 f1 f2 f3 fl HIS;have hbn:bb= !nb:=by rw[←HNB.out,Bool.not_not]
     rw[hbn]at HPB;clear hbn;cases nb with
     |false=>
      have HV:=Lib.hid (show SlR w wc w.heap.size st (preB s 1)from⟨HY.out.1,HY.out.2,by rw[HPB.out,HVR.out.yes];rfl⟩);go_wp2_with (fail);exact⟨⟨1,by omega,by go_num,HV.out⟩,by simp[intOf]⟩
     |true=>
      have HR:=Lib.hid (show jf6 s=false from jk4 (k:=0) (by omega) (by rw[HPB.out];simp));go_wp2_with (fail);go_ret;exact⟨by rw[HR.out];rfl,HY.out.2⟩
  ·-- round 1
   have HW:=Lib.hid (show supWf s.s1 from HSW.out.2.2);obtain⟨vs,hvs⟩:∃vs,(supA s.s1).toList=vs:=⟨_,rfl⟩
   have hvl:vs.length=35:=by rw[←hvs,Array.length_toList];exact jbn HW.out
   have hv1:∀u∈vs,u.oneCell'=true:=by rw[←hvs];exact jbt _
   have hvi:(Tryz.prog.info? 36).map (·.size)=some vs.length:=by rw[←hvs];exact jbx HW.out
   have hix:=IX1.out;rw[hvs]at hix;have HPB:=Lib.hid (show preB s 2=(preB s 1 && slotB s s.s1 s.v1 1) by unfold preB;simp);have y7:wr.cell? ⟨w.heap.size,78,none⟩=some (.bool s.v1):=by
    have:=(jcr (by rw[HST.out];exact hvr.sto) HSL.out).2.2.2.2.1.cell 1 _ rfl;simpa using this
   have HVR:=Lib.hid hvr;have hvsA:vs.toArray=supA s.s1:=by rw[←hvs]
   have HVS:=Lib.hid hvsA;have hsz0:vs.toArray[0]? =some (.int .u32 (s.s1).size):=by rw[hvsA];rfl
   clear hvr hvsA;have hat:At (wr.alloc (.cells vs.toArray 36)) wr.heap.size 0 vs:=by have h9:=jg1 wr vs.toArray;simpa using h9
   have y7a:∀o,(wr.alloc o).cell? ⟨w.heap.size,78,none⟩=some (.bool s.v1):=fun o=>(World.cell?_alloc_some wr _ o (by rw[y7];rfl)).trans y7
   have y7:=y7a (.cells vs.toArray 36);clear y7a;have hst2:=(Lib.alloc_old wr (.cells vs.toArray 36) _ (lt_of_block HVR.out.sto)).trans HVR.out.sto;have hb2:=HVR.out.below.alloc HVR.out.below.size (.cells vs.toArray 36);have hnb:=heap_alloc_new wr (.cells vs.toArray 36);obtain⟨va,hva⟩:∃va,vs.toArray=va:=⟨_,rfl⟩
   have HVA:=Lib.hid hva;rw[hva]at hix;have HX:=Lib.hid (And.intro hst2 (And.intro hb2 hnb));clear hva hst2 hb2 hvs hnb;cases hvv:s.v1 with
   |false=>
    rw[hvv]at y7;have HSB:=Lib.hid (show slotB s s.s1 false 1=supEq s.s1 noSup from rfl);rw[hvv]at HPB;rw[HSB.out]at HPB;clear hvv;have hqe:∀W:World,(Op.equalIn 10000 36 (.agg va) (.agg (supA noSup))).run Tryz.prog W= .ok (supEq s.s1 noSup) W:=fun W=>by
     rw[←HVA.out,HVS.out];exact ji8 s.s1 noSup HW.out.2.2.2.1 jcb.2.2.2.1 W 9997
    cases hqb:supEq s.s1 noSup with
    |true=>
     rw[hqb]at HPB hqe;have HQE:=Lib.hid hqe;have HV:=Lib.hid (show SlR w (wr.alloc (.cells vs.toArray 36)) w.heap.size st (preB s 2)from⟨HX.out.1,HX.out.2.1,by rw[HPB.out,HVR.out.yes];rfl⟩);clear hqb hqe;go_wp2_with (first
      |((with_reducible refine jab ?_);refine jaa rfl 36 (.tmp 4) (.tmp 10) rfl 36 _ rfl vs (by rw[HVA.out];rfl) (by rw[hvl];rfl) hv1 hvi ?_)
      |(refine jae rfl 36 (.tmp 4) rfl wr.heap.size 0 rfl vs _ hat Tryz.underlying36 rfl hvi va HVA.out ?_)
      |((with_reducible refine jar 36 ?_);refine jah rfl 36 _ rfl [] rfl _ jhj ?_)
      |(refine jew rfl 36 36 (.tmp 16) (.tmp 17) rfl va (supA noSup) rfl rfl ji9 true (HQE.out _) ?_;rw[Bool.not_true]))
     exact⟨⟨2,by omega,by go_num,HV.out⟩,by simp[intOf]⟩
    |false=>
     rw[hqb]at HPB hqe;have HQE:=Lib.hid hqe;have HR:=Lib.hid (show jf6 s=false from jk4 (k:=1) (by omega) (by rw[HPB.out];simp));clear hqb hqe;go_wp2_with (first
      |((with_reducible refine jab ?_);refine jaa rfl 36 (.tmp 4) (.tmp 10) rfl 36 _ rfl vs (by rw[HVA.out];rfl) (by rw[hvl];rfl) hv1 hvi ?_)
      |(refine jae rfl 36 (.tmp 4) rfl wr.heap.size 0 rfl vs _ hat Tryz.underlying36 rfl hvi va HVA.out ?_)
      |((with_reducible refine jar 36 ?_);refine jah rfl 36 _ rfl [] rfl _ jhj ?_)
      |(refine jew rfl 36 36 (.tmp 16) (.tmp 17) rfl va (supA noSup) rfl rfl ji9 false (HQE.out _) ?_;rw[Bool.not_false]))
     go_ret;exact⟨by rw[HR.out];rfl,HX.out.2.1⟩
   |true=>
    rw[hvv]at y7;obtain⟨bb,hbb⟩:∃bb,slotB s s.s1 true 1=bb:=⟨_,rfl⟩
    have HBB:=Lib.hid (show(supB s.s1 && (decide (slotS s.s1=1) && (decide ((s.s1).size=s.dev.size) && jdb s.heap (tabOf s.s1))))=bb from hbb);rw[hvv,hbb]at HPB;clear hvv hbb;go_upto_region 7 with(first
     |((with_reducible refine jab ?_);refine jaa rfl 36 (.tmp 4) (.tmp 10) rfl 36 _ rfl vs (by rw[HVA.out];rfl) (by rw[hvl];rfl) hv1 hvi ?_))
    generalize wr.alloc (.cells vs.toArray 36)=wx at *;generalize wr.heap.size=b5 at *;have x0:wx.cell? ⟨b5,0,none⟩=some (.int .u32 (s.s1).size):=by rw[cell_of_row _ _ _ _ _ _ HX.out.2.2];exact hsz0
    have hsa:=jcr (by rw[HST.out];exact HX.out.1) HSL.out;have x1:wx.cell? ⟨w.heap.size,0,none⟩=some (.int .u32 s.dev.size):=hsa.1.cell 0 _ rfl;have x2:wx.cell? ⟨w.heap.size,5,none⟩=some (.int .u32 s.heap.size):=hsa.2.1.cell 0 _ rfl;have x3:wx.cell? ⟨w.heap.size,6,none⟩=some cv:=hsa.2.1.cell 1 _ rfl;have f0:=fun g:Grown wx=>g.fact x0
    have f1:=fun g:Grown wx=>g.fact x1
    have f2:=fun g:Grown wx=>g.fact x2
    have f3:=fun g:Grown wx=>g.fact x3
    have fl:=fun g:Grown wx=>jas (P:=Tryz.prog) g.val b5 0 36 vs _ (hat.below (g.prop) (Nat.le_refl _)) Tryz.underlying36 rfl hvi
    rw[HVA.out]at fl;have hva:va=supA s.s1:=by rw[←HVA.out,HVS.out]
    have HVQ:=Lib.hid hva;have hwx:=HX.out.2.1.size;have HIS:=Lib.hid (fun g:Grown wx=>is_any g.val _ s.heap (tabOf s.s1) (HHV.out.below (HX.out.2.1.trans (g.prop.mono hwx)) (Nat.le_refl _)) (jkj HW.out) ho hmax);obtain⟨szx,hszx⟩:∃z,(s.s1).size=z:=⟨_,rfl⟩
    obtain⟨szd,hszd⟩:∃z,s.dev.size=z:=⟨_,rfl⟩
    rw[hszx]at f0 HBB;rw[hszd]at f1 HBB;obtain⟨nb,hnb⟩:∃z,(!bb)=z:=⟨_,rfl⟩
    have HNB:=Lib.hid hnb;clear hnb;clear x0 x1 x2 x3 hsz0 hva hix hsa y7 hszx hszd;go_cut [19,20,21,22,23,24,25,26,27,28,29,30,31,32,33,34,35,36,37,38,39,40,41,42,43] (fun _ _ _ _ _ _ _ _ _ _ _ _ _ _ _ _ _ _ _ _ _ _ _ _ x wy=>x= .bool nb∧Below wx.heap.size wx wy)
    case first=>
     cases hs0:supB s.s1 with
     |false=>
      have HV:=Lib.hid (show bb=false by rw[←HBB.out,hs0];rfl);have he:(jb3 s.s1 !=0)=true:=by unfold jb3;rw[hs0];rfl
      obtain⟨er,hEr⟩:∃z,jb3 s.s1=z:=⟨_,rfl⟩
      have HER:=Lib.hid hEr;rw[hEr]at he;clear hEr hs0;refine jak (by kernel_rfl) (by kernel_rfl) ?_;refine wpQuiet_step (fun K hK=>?_);refine jal 36 (.tmp 4) rfl ⟨b5,0,none⟩ rfl (.agg va) fl ?_;generalize hZ:(Act.put _ _ _:Act)=zz;refine hK _ ?_;subst hZ;clear hK K;with_reducible refine wpQuiet_step (fun K hK=>?_)
      go_simp;apply Exists.intro;refine⟨fun g=>?_,hK _ ?_⟩
      ·go_at_call 87;rw[HVQ.out];refine(jca g.val s.s1).mono ?_;rw[HER.out];rintro e wk ⟨rfl,hbk⟩;exact⟨rfl,⟨wk,g.prop.trans (hbk.mono g.prop.size)⟩,rfl⟩
      clear hK K;iterate 23 (
       with_reducible refine wpQuiet_step (fun K hK=>?_)
       go_simp;generalize hZ:(Act.mk _ _:Act)=zz;refine hK _ ?_;subst hZ;clear hK K)
      refine wpQuiet_nil ?_;intro _ hwq;obtain⟨wq,hwq⟩:=hwq;subst hwq;go_wp2_with (fail);go_meet;exact⟨by rw[←HNB.out,HV.out] <;>rfl,wq.prop⟩
     |true=>
      have hs1:jb3 s.s1=0:=by unfold jb3;rw[hs0];rfl
      have HS1:=Lib.hid hs1;rw[hs0,Bool.true_and]at HBB;clear hs0 hs1;obtain⟨sv,hsv⟩:∃z,(s.s1).gen % 2=z:=⟨_,rfl⟩
      have HSV:=Lib.hid hsv;rw[show slotS s.s1=sv from hsv]at HBB;clear hsv;by_cases hs2:sv=1
      ·have hs2b:(sv !=1)=false:=by simp[hs2]
       rw[decide_eq_true hs2,Bool.true_and]at HBB;clear hs2;by_cases hs3:szx=szd
       ·have hs3b:(szx !=szd)=false:=by simp[hs3]
        rw[decide_eq_true hs3,Bool.true_and]at HBB;clear hs3;obtain⟨ib,hib⟩:∃z,jdb s.heap (tabOf s.s1)=z:=⟨_,rfl⟩
        have HIB:=Lib.hid hib;rw[hib]at HBB;clear hib;have HV:=Lib.hid (show bb=ib from HBB.out.symm);refine jak (by kernel_rfl) (by kernel_rfl) ?_;refine wpQuiet_step (fun K hK=>?_);refine jal 36 (.tmp 4) rfl ⟨b5,0,none⟩ rfl (.agg va) fl ?_;generalize hZ:(Act.put _ _ _:Act)=zz;refine hK _ ?_;subst hZ;clear hK K;with_reducible refine wpQuiet_step (fun K hK=>?_)
        go_simp;apply Exists.intro;refine⟨fun g=>?_,hK _ ?_⟩
        ·go_at_call 87;rw[HVQ.out];refine(jca g.val s.s1).mono ?_;rw[HS1.out];rintro e wk ⟨rfl,hbk⟩;exact⟨rfl,⟨wk,g.prop.trans (hbk.mono g.prop.size)⟩,rfl⟩
        clear hK K;iterate 2 (
         with_reducible refine wpQuiet_step (fun K hK=>?_)
         go_simp;generalize hZ:(Act.mk _ _:Act)=zz;refine hK _ ?_;subst hZ;clear hK K)
        refine wpQuiet_step (fun K hK=>?_);refine jal 36 (.tmp 4) rfl ⟨b5,0,none⟩ rfl (.agg va) fl ?_;generalize hZ:(Act.put _ _ _:Act)=zz;refine hK _ ?_;subst hZ;clear hK K;with_reducible refine wpQuiet_step (fun K hK=>?_)
        go_simp;apply Exists.intro;refine⟨fun g=>?_,hK _ ?_⟩
        ·go_at_call 47;rw[HVQ.out];refine(jbo g.val s.s1 HW.out.2.1.1 HW.out.2.1.2).mono ?_;rw[HSV.out];rintro e wk ⟨rfl,hbk⟩;exact⟨rfl,⟨wk,g.prop.trans (hbk.mono g.prop.size)⟩,rfl⟩
        clear hK K;iterate 14 (
         with_reducible refine wpQuiet_step (fun K hK=>?_)
         go_simp;generalize hZ:(Act.mk _ _:Act)=zz;refine hK _ ?_;subst hZ;clear hK K)
        refine wpQuiet_step (fun K hK=>?_);refine jal 36 (.tmp 4) rfl ⟨b5,0,none⟩ rfl (.agg va) fl ?_;generalize hZ:(Act.put _ _ _:Act)=zz;refine hK _ ?_;subst hZ;clear hK K;with_reducible refine wpQuiet_step (fun K hK=>?_)
        go_simp;apply Exists.intro;refine⟨fun g=>?_,hK _ ?_⟩
        ·go_at_call 46;rw[HVQ.out];refine(jmn g.val s.s1 HW.out).mono ?_;rintro e wk ⟨rfl,hbk⟩;exact⟨rfl,⟨wk,g.prop.trans (hbk.mono g.prop.size)⟩,rfl⟩
        clear hK K;with_reducible refine wpQuiet_step (fun K hK=>?_)
        go_simp;apply Exists.intro;refine⟨fun g=>?_,hK _ ?_⟩
        ·go_at_call 60;refine(HIS.out g).mono ?_;rw[HIB.out];rintro e wk ⟨rfl,hbk⟩;exact⟨rfl,⟨wk,g.prop.trans (hbk.mono g.prop.size)⟩,rfl⟩
        clear hK K;iterate 2 (
         with_reducible refine wpQuiet_step (fun K hK=>?_)
         go_simp;generalize hZ:(Act.mk _ _:Act)=zz;refine hK _ ?_;subst hZ;clear hK K)
        refine wpQuiet_nil ?_;intro _ hwq;obtain⟨wq,hwq⟩:=hwq;subst hwq;go_wp2_with (fail);go_meet;exact⟨by rw[←HNB.out,HV.out] <;>rfl,wq.prop⟩
       ·have hs3b:(szx !=szd)=true:=by simp[hs3]
        have HV:=Lib.hid (show bb=false by rw[←HBB.out,decide_eq_false hs3];rfl);clear hs3;refine jak (by kernel_rfl) (by kernel_rfl) ?_;refine wpQuiet_step (fun K hK=>?_);refine jal 36 (.tmp 4) rfl ⟨b5,0,none⟩ rfl (.agg va) fl ?_;generalize hZ:(Act.put _ _ _:Act)=zz;refine hK _ ?_;subst hZ;clear hK K;with_reducible refine wpQuiet_step (fun K hK=>?_)
        go_simp;apply Exists.intro;refine⟨fun g=>?_,hK _ ?_⟩
        ·go_at_call 87;rw[HVQ.out];refine(jca g.val s.s1).mono ?_;rw[HS1.out];rintro e wk ⟨rfl,hbk⟩;exact⟨rfl,⟨wk,g.prop.trans (hbk.mono g.prop.size)⟩,rfl⟩
        clear hK K;iterate 2 (
         with_reducible refine wpQuiet_step (fun K hK=>?_)
         go_simp;generalize hZ:(Act.mk _ _:Act)=zz;refine hK _ ?_;subst hZ;clear hK K)
        refine wpQuiet_step (fun K hK=>?_);refine jal 36 (.tmp 4) rfl ⟨b5,0,none⟩ rfl (.agg va) fl ?_;generalize hZ:(Act.put _ _ _:Act)=zz;refine hK _ ?_;subst hZ;clear hK K;with_reducible refine wpQuiet_step (fun K hK=>?_)
        go_simp;apply Exists.intro;refine⟨fun g=>?_,hK _ ?_⟩
        ·go_at_call 47;rw[HVQ.out];refine(jbo g.val s.s1 HW.out.2.1.1 HW.out.2.1.2).mono ?_;rw[HSV.out];rintro e wk ⟨rfl,hbk⟩;exact⟨rfl,⟨wk,g.prop.trans (hbk.mono g.prop.size)⟩,rfl⟩
        clear hK K;iterate 19 (
         with_reducible refine wpQuiet_step (fun K hK=>?_)
         go_simp;generalize hZ:(Act.mk _ _:Act)=zz;refine hK _ ?_;subst hZ;clear hK K)
        refine wpQuiet_nil ?_;intro _ hwq;obtain⟨wq,hwq⟩:=hwq;subst hwq;go_wp2_with (fail);go_meet;exact⟨by rw[←HNB.out,HV.out] <;>rfl,wq.prop⟩
      ·have hs2b:(sv !=1)=true:=by simp[hs2]
       have HV:=Lib.hid (show bb=false by rw[←HBB.out,decide_eq_false hs2];rfl);clear hs2;refine jak (by kernel_rfl) (by kernel_rfl) ?_;refine wpQuiet_step (fun K hK=>?_);refine jal 36 (.tmp 4) rfl ⟨b5,0,none⟩ rfl (.agg va) fl ?_;generalize hZ:(Act.put _ _ _:Act)=zz;refine hK _ ?_;subst hZ;clear hK K;with_reducible refine wpQuiet_step (fun K hK=>?_)
       go_simp;apply Exists.intro;refine⟨fun g=>?_,hK _ ?_⟩
       ·go_at_call 87;rw[HVQ.out];refine(jca g.val s.s1).mono ?_;rw[HS1.out];rintro e wk ⟨rfl,hbk⟩;exact⟨rfl,⟨wk,g.prop.trans (hbk.mono g.prop.size)⟩,rfl⟩
       clear hK K;iterate 2 (
        with_reducible refine wpQuiet_step (fun K hK=>?_)
        go_simp;generalize hZ:(Act.mk _ _:Act)=zz;refine hK _ ?_;subst hZ;clear hK K)
       refine wpQuiet_step (fun K hK=>?_);refine jal 36 (.tmp 4) rfl ⟨b5,0,none⟩ rfl (.agg va) fl ?_;generalize hZ:(Act.put _ _ _:Act)=zz;refine hK _ ?_;subst hZ;clear hK K;with_reducible refine wpQuiet_step (fun K hK=>?_)
       go_simp;apply Exists.intro;refine⟨fun g=>?_,hK _ ?_⟩
       ·go_at_call 47;rw[HVQ.out];refine(jbo g.val s.s1 HW.out.2.1.1 HW.out.2.1.2).mono ?_;rw[HSV.out];rintro e wk ⟨rfl,hbk⟩;exact⟨rfl,⟨wk,g.prop.trans (hbk.mono g.prop.size)⟩,rfl⟩
       clear hK K;iterate 19 (
        with_reducible refine wpQuiet_step (fun K hK=>?_)
        go_simp;generalize hZ:(Act.mk _ _:Act)=zz;refine hK _ ?_;subst hZ;clear hK K)
       refine wpQuiet_nil ?_;intro _ hwq;obtain⟨wq,hwq⟩:=hwq;subst hwq;go_wp2_with (fail);go_meet;exact⟨by rw[←HNB.out,HV.out] <;>rfl,wq.prop⟩
    case rest=>
     obtain⟨rfl,hbc⟩:=hcut;have hsto:=(hbc.block _ (lt_of_block HX.out.1)).trans HX.out.1;have hbl:=HX.out.2.1.trans (hbc.mono HX.out.2.1.size);have HY:=Lib.hid (And.intro hsto hbl);clear hsto hbl hbc f0 f1 f2 f3 fl HIS;have hbn:bb= !nb:=by rw[←HNB.out,Bool.not_not]
     rw[hbn]at HPB;clear hbn;cases nb with
     |false=>
      have HV:=Lib.hid (show SlR w wc w.heap.size st (preB s 2)from⟨HY.out.1,HY.out.2,by rw[HPB.out,HVR.out.yes];rfl⟩);go_wp2_with (fail);exact⟨⟨2,by omega,by go_num,HV.out⟩,by simp[intOf]⟩
     |true=>
      have HR:=Lib.hid (show jf6 s=false from jk4 (k:=1) (by omega) (by rw[HPB.out];simp));go_wp2_with (fail);go_ret;exact⟨by rw[HR.out];rfl,HY.out.2⟩
  ·have HV:=Lib.hid hvr;clear hvr;have hat:At wr w.heap.size 0 st:=fun j hj=>by
    rw[cell_of_row _ _ _ _ _ _ HV.out.sto,Nat.zero_add];simp[hj]
   have hsi:(Tryz.prog.info? 42).map (·.size)=some st.length:=by rw[HLN.out];exact ja6
   have HVA:=Lib.hid (ji7 wr _ s (HVV.out.below HV.out.below (Nat.le_refl _)));obtain⟨sta,hsta⟩:∃sta,st.toArray=sta:=⟨_,rfl⟩
   rw[hsta]at HVA;have HSTA:=Lib.hid hsta;clear hsta;go_wp2_with (refine jae rfl 42 (.tmp 1) rfl w.heap.size 0 rfl st _ hat Tryz.underlying42 rfl hsi sta HSTA.out ?_);refine HVA.out.mono ?_;rintro e w1 ⟨r,rfl,hown,hb1⟩;obtain⟨A,n,c,rfl⟩:=jan hown;have hn:n=(jbh s).length:=own_len hown;subst hn;have hb:=HV.out.below.trans (hb1.mono HV.out.below.size);have hvp:=valid_pos s;have HB:=Lib.hid (And.intro hb (show jf6 s=(s.v0||s.v1) by unfold jf6;have:=HV.out.yes;unfold preB at this;simp at this;rw[this.1,this.2];rfl));rw[←hvp]at HB;generalize(jbh s).length=n at *;clear hown hb1 hb hvp hat;go_wp2_with (fail);go_ret;refine⟨?_,HB.out.1⟩;rw[HB.out.2];simp
theorem int_infoT:(Tryz.prog.info? 3).map (fun i=>(i.zero.map (fun z=>z.cells.size),i.size,i.bytes))=some (some 1,1,8):=by kernel_rfl
theorem wpList_run{P:Program}{ops:Array Oper}{rest:List Oper}{o:Oper}{a:Act}{w:World}{Q:Exit→Act→World→Prop}(hgd:o.guard=none)(t:TypeId)(x y:Operand)(ho:o.op= .makeSlice t x y)
 (u v r:Value) (hx:a.eval x=u) (hy:a.eval y=v) (w':World) (hr:(Instr.makeSlice t u v).run P w= .ok r w') (h:wpList P ops Q rest (a.put o.dst r) w'):wpList P ops Q (o::rest) a w:=
 wpList_plain hgd fun _ hK=>by
  unfold Oper.wp execOp;simp only[ho,hx,hy,Sem.run_bind,hr,Result.andThen_ok,Sem.run_pure];exact hK _ _ h
def heldV(c:CC):Value:= .int .i64 (c.refs - c.led)
def jgn(cs:List CC)(ys:List Value)(k:Nat):List Value:=(cs.take k).map heldV ++ ys.drop k
theorem heldRow_set{cs:List CC}{ys:List Value}(hl:ys.length=cs.length)(k:Nat)(hk:k < cs.length):(jgn cs ys k).set k (heldV cs[k])=jgn cs ys (k + 1):=by
 unfold jgn;have h1:((cs.take k).map heldV).length=k:=by simp;omega
 rw[List.set_append_right _ _ (by omega),h1,Nat.sub_self,List.take_succ_eq_append_getElem hk,List.map_append,List.append_assoc,List.drop_eq_getElem_cons (by omega:k < ys.length)];rfl
structure HeldR(w w1 wr:World)(g n:Nat)(cs:List CC)(ys:List Value)(k:Nat):Prop where
 own:wr.ownsRow w1.heap.size 3 1 (.slice (some ⟨g,0,none⟩) n n) n (jgn cs ys k)
 below:Below w1.heap.size w1 wr
theorem allHeld_any(w:World)(v:Value)(h:Hp)(hv:HeapV w v h)(ho:openB h=true)(hmax:h.cells.length≤1073741824):
 Calls Tryz.prog 61 #[v] w fun e w'=>∃r,e= .returned r∧w'.ownsRow w.heap.size 3 1 r h.cells.length ((jav h).map heldV)∧Below w.heap.size w w':=by
 obtain⟨cv,rfl,hsl,hsz⟩:=hv;have HV:=Lib.hid (box_heapV hsl hsz);obtain⟨C,cc,rfl,_⟩:=hsl;obtain⟨hs0,hs1⟩:=hsz;go_enter Tryz.func61,Tryz.ntmps61;go_wp2_with (fail);go_at_call 68;refine(open_any _ _ h HV.out hmax).mono ?_;rintro e w1 ⟨hb,h1⟩;have HB:=Lib.hid (below_box2 hb);clear hb;rcases h1 with⟨_,p,pcs,rfl,hst,hop⟩|⟨ho',rfl⟩
 ·have hpl:pcs.length=h.cells.length:=by have:=congrArg List.length hop;rw[jb5]at this;simpa using this
  have HST:=Lib.hid hst;have HOP:=Lib.hid hop;have HGD:=Lib.hid (je4 h ho);obtain⟨sv,s1,hown⟩:=hst.field;obtain⟨A,cp,rfl,hcp1,hcp2,_⟩:=St.sl hown;rw[List.length_map]at s1 hcp1;have hpm:pcs.length≤1073741824:=by omega
  have hw1:=HB.out.size;have hpp:=hst.plt;obtain⟨i0,z0,hi,hz0,hz1,hz2,hzs⟩:=jbw int_infoT;obtain⟨w2,hmk,hmo,hmg⟩:=run_make_full (P:=Tryz.prog) w1 w1.heap.size 118 3 i0 z0 1 Tryz.underlying118 hi hz0 hz1 .i64 .i64 pcs.length (by rw[hz2];omega) (by unfold maxLen;omega) (Nat.le_refl _);have hlk:(madeCells z0.cells (pcs.length * 1)).toList.length=(pcs.map (·.2)).length:=by rw[Array.length_toList,size_madeCells,List.length_map];omega
  generalize(madeCells z0.cells (pcs.length * 1)).toList=ys at *;have hB2:Below w1.heap.size w1 w2:=⟨hmg.os,hmg.tape,hmg.output,hmg.size,fun k hk=>hmg.block k hk (by simp)⟩
  have HH:=Lib.hid (HeldR.mk (w:=w) (k:=0) (cs:=pcs.map (·.2)) (ys:=ys) (by unfold jgn;simpa using hmo) hB2);have s2:w2.cell? ⟨p,1,none⟩=some (.slice A pcs.length cp):=(hB2.cell (p:=⟨p,1,none⟩) hpp).trans s1;have HMK:=Lib.hid hmk;have HPL:=Lib.hid hpl;clear hpl;clear ho hop hown hst hmo hmg hmk hB2 hi hz0 hz1 hz2 hzs;go_wp2_with (first
   |(refine wpList_run rfl 118 (.tmp 19) (.tmp 19) rfl (.int .i64 pcs.length) (.int .i64 pcs.length) _ rfl rfl w2 HMK.out ?_))
  generalize hgE:w1.heap.size=g at *;go_loopw [6,7,26,27,28,29,30,31,32,33,34,35,36,37,38,39,40,41,42,43,44] (fun _ _ i _ _ _ _ _ _ _ _ _ _ _ _ _ _ _ _ _ _ wr=>∃k:Nat,k≤pcs.length∧i= .int .i64 k∧HeldR w w1 wr g pcs.length (pcs.map (·.2)) ys k) (fun _ _ i _ _ _ _ _ _ _ _ _ _ _ _ _ _ _ _ _ _ _=>pcs.length - (intOf i).toNat)
  case atStart=>exact⟨0,Nat.zero_le _,rfl,HH.out⟩
  case round=>
   obtain⟨k,hk,rfl,hr⟩:=hrel;by_cases hlt:k < pcs.length
   ·have hps:St w.heap.size wr p h.size pcs:=by
     have h9:=HST.out.below hr.below;exact h9.lower (by simp)
    have hsvr:wr.cell? ⟨p,1,none⟩=some (.slice A pcs.length cp):=(hr.below.cell (p:=⟨p,1,none⟩) (by rw[hgE];exact hpp)).trans s1;have hrow:=(St.sl (hps.own hsvr)).len_eq.2.2.2;obtain⟨b,o,rfl,hat,_⟩:=hrow k (by rw[List.length_map];exact hlt);have d0:wr.cell? ⟨b,o + k,none⟩=some (.pointer (some ⟨pcs[k].1,0,none⟩)):=by
     have:=hat.cell 0 _ rfl;simpa[ptrE]using this
    have hm:pcs[k]∈pcs:=List.getElem_mem hlt;have d1:wr.cell? ⟨pcs[k].1,2,none⟩=some (.int .i64 pcs[k].2.refs):=hps.refs_cell hm;have d2:wr.cell? ⟨pcs[k].1,39,none⟩=some (.int .i64 pcs[k].2.led):=hps.led_cell hm;have hcnt:=HGD.out.cnt pcs[k].2 (by rw[←HOP.out];exact List.mem_map.2 ⟨_,hm,rfl⟩);have hwr:IntKind.i64.wrap (pcs[k].2.refs - pcs[k].2.led)=pcs[k].2.refs - pcs[k].2.led:=by rw[IntKind.wrap_i64];omega
    have hlm:(pcs.map (·.2)).length=pcs.length:=by simp
    have hyl:ys.length=(pcs.map (·.2)).length:=hlk;obtain⟨ho1,ho2⟩:=hr.own;rcases ho2 with⟨h8,_⟩|⟨g2,cap,cur,h8,hgB,hgb,hnc,hcm2,hcsz,htk⟩
    ·simp at h8
    ·simp only[Value.slice.injEq,Option.some.injEq,Addr.mk.injEq,and_true,true_and]at h8;obtain⟨rfl,rfl⟩:=h8;obtain⟨u,hu⟩:∃u,wr.cell? ⟨g,k,none⟩=some u:=by
      rw[cell_of_row _ _ _ _ _ _ hgb];exact⟨_,Array.getElem?_eq_getElem (by omega)⟩
     have hfz:wr.frozen? ⟨g,k,none⟩=false:=jbi hgb _;have hset:=hr.own.stored k (heldV pcs[k].2);have hks:(jgn (pcs.map (·.2)) ys k).set k (heldV pcs[k].2)=jgn (pcs.map (·.2)) ys (k + 1):=by
      have h7:=heldRow_set (cs:=pcs.map (·.2)) hyl k (by rw[hlm];exact hlt);rw[List.getElem_map]at h7;exact h7
     rw[hks]at hset;have hfin:HeldR w w1 (wr.setCell ⟨g,k,none⟩ (heldV pcs[k].2)) g pcs.length (pcs.map (·.2)) ys (k + 1):=⟨hset.1,hr.below.setCell (p:=⟨g,k,none⟩) hgB _⟩
     unfold heldV at hfin;have HF:=Lib.hid hfin;have hi1:(0:Int)≤k:=by omega
     have hi2:(k:Int) < pcs.length:=by omega
     have hne1:pcs[k].1≠g:=fun e=>by
      have h6:=hps.cellRow hm;obtain⟨_,_,_,h6,_⟩:=h6;rw[e,hgb]at h6;injection h6 with h6;injection h6 with _ h6 _;exact absurd h6 (by decide)
     have hne2:g≠pcs[k].1:=fun e=>hne1 e.symm
     clear hr hps hsvr hrow hat hm hcnt ho1 hgb hnc hcm2 hcsz htk hset hks hfin hlm hyl;generalize pcs[k].1=q at *;generalize pcs[k].2.refs=refs at *;generalize pcs[k].2.led=led at *;go_wp2_with (fail);go_region;go_wp2_with (fail);exact⟨⟨k + 1,by omega,by go_num,HF.out.own.drew,HF.out.below.drew⟩,by simp[intOf];omega⟩
   ·obtain rfl:k=pcs.length:=by omega
    have HF:=Lib.hid hr;clear hr;go_wp2_with (fail);go_ret;have hB:=HF.out.below;refine⟨_,rfl,?_,HB.out.trans (hB.mono (by rw[hgE];exact hw1))⟩;have h5:=HF.out.own;rw[show jgn (pcs.map (·.2)) ys pcs.length=(jav h).map heldV by unfold jgn;rw[←HOP.out,List.take_of_length_le (by simp),List.drop_of_length_le (by rw[hlk];simp),List.append_nil]]at h5;rw[←HPL.out];exact jd4 h5 (by rw[hgE];exact hw1)
 ·exfalso;rw[ho]at ho';cases ho'
end Go.Proofs.YtpaohkkhejpgjaaGreatDoor
