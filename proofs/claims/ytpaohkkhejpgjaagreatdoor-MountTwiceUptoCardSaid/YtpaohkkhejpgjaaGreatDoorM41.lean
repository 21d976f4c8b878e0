/- Texts of the proof: Z2. -/
import Derived.Test.YtpaohkkhejpgjaaGreatDoorM40
set_option linter.all false
set_option maxRecDepth 100000
set_option maxHeartbeats 8000000
namespace Go.Proofs.YtpaohkkhejpgjaaGreatDoor
open Go Go.RowKit
theorem jfe{P:Program}{ops:Array Oper}{C:World→Prop}{Qk:Act→Prop}{Q:Exit→Act→World→Prop}(hQ:∀a w,C w→Qk a→Q .normal a w):∀(l:List Oper) (a:Act) (w:World),C w→wpQuiet P ops C Qk l a→wpList P ops Q l a w
 |[],a,w,hw,h=>hQ a w hw h
 |o::rest,a,w,hw,h=>by
  unfold wpQuiet at h;unfold wpList;by_cases hc:Region.wanted o (yielded ops a.tmps)=true
  ·rw[if_pos hc]at h ⊢;exact Or.inl (Oper.wp_of_quiet hw (fun a w' hw' hk=>jfe hQ rest a w' hw' hk) h)
  ·rw[if_neg hc]at h ⊢;exact jfe hQ rest _ w hw h
theorem jbf{P:Program}{id:Nat}{Q:Exit→Act→World→Prop}{a:Act}{w:World}{l:List Oper}
 (h:wpQuiet P l.toArray (fun w'=>∃g:Grown w,w'=g.val) (fun a'=>∀w',(∃g:Grown w,w'=g.val)→Q .normal a' w') l a):(Code.region id l.toArray false).wp P Q a w:=
 wp_region_lit (jfe (fun _ w hw h=>h w hw) l a w ⟨⟨w,Below.refl _ _⟩,rfl⟩ h)
def stoE(s:Sto):Int:=if jdm s then 0 else 7
def headB(s:Sto):Bool:=devB s.dev && (openB s.heap && (decide (s.heap.size=s.dev.size) && (jf6 s && (s.table.key.toList.isEmpty && jdb s.heap s.table))))
def celB(s:Sto)(c:CC):Bool:=decide (c.refs - c.led=wantS s c.num) && decide (c.refs≠0)
theorem chk_head(s:Sto):jdm s=(headB s && (jav s.heap).all (celB s)):=by
 unfold jdm headB jf6;simp only[Bool.and_assoc];rfl
def cntT(l:List Sup)(n:Int):Int:=((l.filter (fun x=>x.table==n)).length:Int)
theorem want_cnt(s:Sto)(n:Int):wantS s n=(if n=s.table.num then 1 else 0) + cntT (jbh s) n:=by
 unfold wantS cntT jbh;cases s.v0 <;>cases s.v1 <;>simp[List.filter_cons] <;>(repeat' split) <;>simp_all <;>omega
theorem cntT_snoc(l:List Sup)(x:Sup)(n:Int):cntT (l ++ [x]) n=cntT l n + (if x.table=n then 1 else 0):=by
 unfold cntT;rw[List.filter_append,List.length_append];by_cases h:x.table=n
 ·simp[h]
 ·simp[h]
theorem cntT_nn(l:List Sup)(n:Int):0≤cntT l n∧cntT l n≤l.length:=by
 unfold cntT;have:=List.length_filter_le (fun x:Sup=>x.table==n) l;omega
theorem opened_get(h:Hp)(k:Nat)(hk:k < h.cells.length):∃hk':k < (jav h).length,(jav h)[k].num=h.cells[k].num∧(jav h)[k].refs=h.cells[k].refs:=by
 have hl:(jav h).length=h.cells.length:=by rw[jb5];simp
 refine⟨by omega,?_⟩;simp only[jb5,List.getElem_map];exact⟨rfl,rfl⟩
theorem chk_no{s:Sto}(hh:headB s=true){k:Nat}(h:((jav s.heap).take (k + 1)).all (celB s)=false):stoE s=7:=by
 have h2:(jav s.heap).all (celB s)=false:=by
  cases h3:(jav s.heap).all (celB s)with
  |false=>rfl
  |true=>
   exfalso;rw[List.all_eq_true]at h3;have h4:((jav s.heap).take (k + 1)).all (celB s)=true:=List.all_eq_true.2 fun x hx=>h3 x (List.mem_of_mem_take hx)
   rw[h]at h4;cases h4
 unfold stoE;rw[chk_head,hh,h2];rfl
theorem jk5{w:World}{v:Value}{s:Sto}(h:StoV w v s):∀x∈jbh s,supWf x:=by
 obtain⟨_,_,_,_,_,_,h0,h1,_⟩:=h;intro x hx;unfold jbh at hx;rw[List.mem_append]at hx;rcases hx with hx|hx
 ·split at hx
  ·rw[List.mem_singleton.1 hx];exact h0
  ·cases hx
 ·split at hx
  ·rw[List.mem_singleton.1 hx];exact h1
  ·cases hx
structure CkR(w wr:World)(p:Nat)(st:List Value)(hvv:Value)(n:Nat)(hs:List Value)(b:Bool):Prop where
 sto:wr.heap[p]? =some (.cells st.toArray 42 (0,0))
 held:wr.ownsRow w.heap.size 3 1 hvv n hs
 below:Below w.heap.size w wr
 yes:b=true
theorem CkR.step{w wr wx:World}{p:Nat}{st:List Value}{hvv:Value}{n:Nat}{hs:List Value}{b b':Bool}(h:CkR w wr p st hvv n hs b)(hb:Below wr.heap.size wr wx)(hy:b'=true):CkR w wx p st hvv n hs b':=
 ⟨(hb.block _ (lt_of_block h.sto)).trans h.sto,jc4 h.held hb,h.below.trans (hb.mono h.below.size),hy⟩
theorem chk_any(w:World)(v:Value)(s:Sto)(hv:StoV w v s)(hbl:s.dev.blocks.length≤1073741824)(hwl:s.dev.waits.length≤1073741824)(hmax:s.heap.cells.length≤1073741824):
 Calls Tryz.prog 19 #[v] w fun e w'=>e= .returned (.int .i64 (stoE s))∧Below w.heap.size w w':=by
 have HVV:=Lib.hid hv;obtain⟨bv,wv,cv,rfl,hdv,hhv,hw0,hw1,hkw⟩:=hv;have hsl0:Sl celE w cv s.heap.cells:=by
  obtain⟨c',e,h1,h2⟩:=hhv;simp only[Value.agg.injEq,Array.mk.injEq,List.cons.injEq,and_true,true_and]at e;rw[e];exact h1
 obtain⟨C,cc,rfl,hcc1,hcc2,_⟩:=hsl0;have HHV:=Lib.hid hhv;have HDV:=Lib.hid hdv;have HKW:=Lib.hid hkw;have HSL:=Lib.hid (ja4 (d:=s.dev) (bv:=bv) (wv:=wv) (x:= .int .u32 s.heap.size) (cv:= .slice C s.heap.cells.length cc) (p:=s.v0) (q:=s.v1) hw0 hw1 hkw);have hb:=heap_alloc_new w (.cells (stoL (devL s.dev bv wv) [.int .u32 s.heap.size, .slice C s.heap.cells.length cc] (supA s.s0).toList (supA s.s1).toList [.bool s.v0, .bool s.v1] (kidE.enc s.table)).toArray 42);have hB:=(Below.refl w.heap.size w).alloc (Nat.le_refl _) (.cells (stoL (devL s.dev bv wv) [.int .u32 s.heap.size, .slice C s.heap.cells.length cc] (supA s.s0).toList (supA s.s1).toList [.bool s.v0, .bool s.v1] (kidE.enc s.table)).toArray 42);have hone:bv.oneCell'=true∧wv.oneCell'=true:=by
  obtain⟨b',w',e,h1,h2,_⟩:=hdv;unfold jck at e;simp only[Value.agg.injEq,Array.mk.injEq,List.cons.injEq,and_true,true_and]at e;obtain⟨rfl,rfl⟩:=e;obtain⟨_,_,e1,_⟩:=h1;obtain⟨_,_,e2,_⟩:=h2;rw[e1,e2];exact⟨rfl,rfl⟩
 clear hdv hhv hw0 hw1;have HLN:=Lib.hid (jb4 HSL.out);obtain⟨st,hst⟩:∃st,stoL (devL s.dev bv wv) [.int .u32 s.heap.size, .slice C s.heap.cells.length cc] (supA s.s0).toList (supA s.s1).toList [.bool s.v0, .bool s.v1] (kidE.enc s.table)=st:=⟨_,rfl⟩
 rw[hst]at hb hB HLN HVV ⊢;have HST:=Lib.hid hst;clear hst;go_enter Tryz.func19,Tryz.ntmps19;go_upto_region 1 with(fail);generalize w.alloc (.cells st.toArray 42)=wa at *;have H0:=Lib.hid (And.intro hb hB);have hsa:=jcr (by rw[HST.out];exact hb) HSL.out;have hat:At wa w.heap.size 0 st:=fun j hj=>by
  rw[cell_of_row _ _ _ _ _ _ hb,Nat.zero_add];simp[hj]
 have hsi:(Tryz.prog.info? 42).map (·.size)=some st.length:=by rw[HLN.out];exact ja6
 have x0:wa.cell? ⟨w.heap.size,0,none⟩=some (.int .u32 s.dev.size):=hsa.1.cell 0 _ rfl;have x1:wa.cell? ⟨w.heap.size,1,none⟩=some bv:=hsa.1.cell 1 _ rfl;have x2:wa.cell? ⟨w.heap.size,2,none⟩=some wv:=hsa.1.cell 2 _ rfl;have x3:wa.cell? ⟨w.heap.size,3,none⟩=some (.bool s.dev.down):=hsa.1.cell 3 _ rfl;have x4:wa.cell? ⟨w.heap.size,4,none⟩=some (.int .i64 s.dev.fuse):=hsa.1.cell 4 _ rfl;have x5:wa.cell? ⟨w.heap.size,5,none⟩=some (.int .u32 s.heap.size):=hsa.2.1.cell 0 _ rfl;have x6:wa.cell? ⟨w.heap.size,6,none⟩=some (.slice C s.heap.cells.length cc):=hsa.2.1.cell 1 _ rfl;have x79:wa.cell? ⟨w.heap.size,79,none⟩=some (.string s.table.key):=hsa.2.2.2.2.2.cell 0 _ rfl;have f0:=fun g:Grown wa=>g.fact x0
 have f1:=fun g:Grown wa=>g.fact x1
 have f2:=fun g:Grown wa=>g.fact x2
 have f3:=fun g:Grown wa=>g.fact x3
 have f4:=fun g:Grown wa=>g.fact x4
 have f5:=fun g:Grown wa=>g.fact x5
 have f6:=fun g:Grown wa=>g.fact x6
 have f79:=fun g:Grown wa=>g.fact x79
 have fst:=fun g:Grown wa=>jas (P:=Tryz.prog) g.val w.heap.size 0 42 st _ (hat.below (g.prop) (Nat.le_refl _)) Tryz.underlying42 rfl hsi
 have fkd:=fun g:Grown wa=>jas (P:=Tryz.prog) g.val w.heap.size 79 40 (kidE.enc s.table) _ (hsa.2.2.2.2.2.below (g.prop) (Nat.le_refl _)) Tryz.underlying40 rfl (jc7 _ hkw)
 have HDG:=Lib.hid (fun g:Grown wa=>jdu g.val _ s.dev (HDV.out.below (hB.trans (g.prop.mono hB.size)) (Nat.le_refl _)) hbl hwl);have HHG:=Lib.hid (fun g:Grown wa=>check_any g.val _ s.heap (HHV.out.below (hB.trans (g.prop.mono hB.size)) (Nat.le_refl _)) hmax);have HSG:=Lib.hid (fun(g:Grown wa) (ho:openB s.heap=true)=>slots_any g.val _ s (HVV.out.below (hB.trans (g.prop.mono hB.size)) (Nat.le_refl _)) ho hmax);have HIG:=Lib.hid (fun(g:Grown wa) (ho:openB s.heap=true)=>is_any g.val _ s.heap s.table (HHV.out.below (hB.trans (g.prop.mono hB.size)) (Nat.le_refl _)) HKW.out ho hmax);obtain⟨sta,hsta⟩:∃sta,st.toArray=sta:=⟨_,rfl⟩
 rw[hsta]at fst HSG;have HSTA:=Lib.hid hsta;obtain⟨ka,hka⟩:∃ka,(kidE.enc s.table).toArray=ka:=⟨_,rfl⟩
 rw[hka]at fkd HIG;obtain⟨nb,hnb⟩:∃z,(!(headB s))=z:=⟨_,rfl⟩
 have HNB:=Lib.hid hnb;have HHD:=Lib.hid (show headB s=(devB s.dev && (openB s.heap && (decide (s.heap.size=s.dev.size) && (jf6 s && (s.table.key.toList.isEmpty && jdb s.heap s.table)))))from rfl);obtain⟨ky,hky⟩:∃z,s.table.key=z:=⟨_,rfl⟩
 rw[hky]at HHD;rw[hky]at f79;clear hsta hka hb hB hsa hat hsi x0 x1 x2 x3 x4 x5 x6 x79 hnb hky hone;go_cut [9,10,11,12,13,14,15,16,17,18,19,20,21,22,23,24,25,26,27,28,29,30,31,32,33,34,35,36,37,38,39,40,41,42,43,44,45,46] (fun _ _ _ _ _ _ _ _ _ _ _ _ _ _ _ _ _ _ _ _ _ _ _ _ _ _ _ _ _ _ _ _ _ _ _ _ _ x wx=>x= .bool nb∧Below wa.heap.size wa wx)
 case first=>
  cases hd:devB s.dev with
  |false=>
   have HD0:=Lib.hid hd;have HV:=Lib.hid (show headB s=false by rw[HHD.out,hd];rfl);clear hd;refine jbf ?_;iterate 2 (
    with_reducible refine wpQuiet_step (fun K hK=>?_)
    go_simp;generalize hZ:(Act.mk _ _:Act)=zz;refine hK _ ?_;subst hZ;clear hK K)
   with_reducible refine wpQuiet_step (fun K hK=>?_)
   go_simp;apply Exists.intro;refine⟨fun g=>?_,hK _ ?_⟩
   ·go_at_call 30;refine(HDG.out g).mono ?_;rw[show jb0 s.dev=7 by unfold jb0;rw[HD0.out];rfl];rintro e wk ⟨rfl,hbk⟩;exact⟨rfl,⟨wk,g.prop.trans (hbk.mono g.prop.size)⟩,rfl⟩
   clear hK K;iterate 35 (
    with_reducible refine wpQuiet_step (fun K hK=>?_)
    go_simp;generalize hZ:(Act.mk _ _:Act)=zz;refine hK _ ?_;subst hZ;clear hK K)
   refine wpQuiet_nil ?_;intro _ hwq;obtain⟨wq,hwq⟩:=hwq;subst hwq;go_wp2_with (fail);go_meet;exact⟨by rw[←HNB.out,HV.out] <;>rfl,wq.prop⟩
  |true=>
   have HD1:=Lib.hid hd;rw[hd,Bool.true_and]at HHD;clear hd;cases ho:openB s.heap with
   |false=>
    have HO0:=Lib.hid ho;have HV:=Lib.hid (show headB s=false by rw[HHD.out,ho];rfl);clear ho;refine jbf ?_;iterate 2 (
     with_reducible refine wpQuiet_step (fun K hK=>?_)
     go_simp;generalize hZ:(Act.mk _ _:Act)=zz;refine hK _ ?_;subst hZ;clear hK K)
    with_reducible refine wpQuiet_step (fun K hK=>?_)
    go_simp;apply Exists.intro;refine⟨fun g=>?_,hK _ ?_⟩
    ·go_at_call 30;refine(HDG.out g).mono ?_;rw[show jb0 s.dev=0 by unfold jb0;rw[HD1.out];rfl];rintro e wk ⟨rfl,hbk⟩;exact⟨rfl,⟨wk,g.prop.trans (hbk.mono g.prop.size)⟩,rfl⟩
    clear hK K;iterate 4 (
     with_reducible refine wpQuiet_step (fun K hK=>?_)
     go_simp;generalize hZ:(Act.mk _ _:Act)=zz;refine hK _ ?_;subst hZ;clear hK K)
    with_reducible refine wpQuiet_step (fun K hK=>?_)
    go_simp;apply Exists.intro;refine⟨fun g=>?_,hK _ ?_⟩
    ·go_at_call 58;refine(HHG.out g).mono ?_;rw[show chkE s.heap=7 by unfold chkE;rw[HO0.out];rfl];rintro e wk ⟨rfl,hbk⟩;exact⟨rfl,⟨wk,g.prop.trans (hbk.mono g.prop.size)⟩,rfl⟩
    clear hK K;iterate 30 (
     with_reducible refine wpQuiet_step (fun K hK=>?_)
     go_simp;generalize hZ:(Act.mk _ _:Act)=zz;refine hK _ ?_;subst hZ;clear hK K)
    refine wpQuiet_nil ?_;intro _ hwq;obtain⟨wq,hwq⟩:=hwq;subst hwq;go_wp2_with (fail);go_meet;exact⟨by rw[←HNB.out,HV.out] <;>rfl,wq.prop⟩
   |true=>
    have HO1:=Lib.hid ho;rw[ho,Bool.true_and]at HHD;clear ho;by_cases hz:s.heap.size=s.dev.size
    ·have hzb:(s.heap.size !=s.dev.size)=false:=by simp[hz]
     rw[decide_eq_true hz,Bool.true_and]at HHD;clear hz;cases hs:jf6 s with
     |false=>
      have HS0:=Lib.hid hs;have HV:=Lib.hid (show headB s=false by rw[HHD.out,hs];rfl);clear hs;refine jbf ?_;iterate 2 (
       with_reducible refine wpQuiet_step (fun K hK=>?_)
       go_simp;generalize hZ:(Act.mk _ _:Act)=zz;refine hK _ ?_;subst hZ;clear hK K)
      with_reducible refine wpQuiet_step (fun K hK=>?_)
      go_simp;apply Exists.intro;refine⟨fun g=>?_,hK _ ?_⟩
      ·go_at_call 30;refine(HDG.out g).mono ?_;rw[show jb0 s.dev=0 by unfold jb0;rw[HD1.out];rfl];rintro e wk ⟨rfl,hbk⟩;exact⟨rfl,⟨wk,g.prop.trans (hbk.mono g.prop.size)⟩,rfl⟩
      clear hK K;iterate 4 (
       with_reducible refine wpQuiet_step (fun K hK=>?_)
       go_simp;generalize hZ:(Act.mk _ _:Act)=zz;refine hK _ ?_;subst hZ;clear hK K)
      with_reducible refine wpQuiet_step (fun K hK=>?_)
      go_simp;apply Exists.intro;refine⟨fun g=>?_,hK _ ?_⟩
      ·go_at_call 58;refine(HHG.out g).mono ?_;rw[show chkE s.heap=0 by unfold chkE;rw[HO1.out];rfl];rintro e wk ⟨rfl,hbk⟩;exact⟨rfl,⟨wk,g.prop.trans (hbk.mono g.prop.size)⟩,rfl⟩
      clear hK K;iterate 12 (
       with_reducible refine wpQuiet_step (fun K hK=>?_)
       go_simp;generalize hZ:(Act.mk _ _:Act)=zz;refine hK _ ?_;subst hZ;clear hK K)
      refine wpQuiet_step (fun K hK=>?_);refine jal 42 (.tmp 1) rfl ⟨w.heap.size,0,none⟩ rfl (.agg sta) fst ?_;generalize hZ:(Act.put _ _ _:Act)=zz;refine hK _ ?_;subst hZ;clear hK K;with_reducible refine wpQuiet_step (fun K hK=>?_)
      go_simp;apply Exists.intro;refine⟨fun g=>?_,hK _ ?_⟩
      ·go_at_call 59;refine(HSG.out g HO1.out).mono ?_;rw[HS0.out];rintro e wk ⟨rfl,hbk⟩;exact⟨rfl,⟨wk,g.prop.trans (hbk.mono g.prop.size)⟩,rfl⟩
      clear hK K;iterate 16 (
       with_reducible refine wpQuiet_step (fun K hK=>?_)
       go_simp;generalize hZ:(Act.mk _ _:Act)=zz;refine hK _ ?_;subst hZ;clear hK K)
      refine wpQuiet_nil ?_;intro _ hwq;obtain⟨wq,hwq⟩:=hwq;subst hwq;go_wp2_with (fail);go_meet;exact⟨by rw[←HNB.out,HV.out] <;>rfl,wq.prop⟩
     |true=>
      have HS1:=Lib.hid hs;rw[hs,Bool.true_and]at HHD;clear hs;cases hk:ky.toList.isEmpty with
      |false=>
       have HV:=Lib.hid (show headB s=false by rw[HHD.out,hk];rfl);have hkb:¬ky.toList=[]:=by intro e;rw[e]at hk;cases hk
       clear hk;refine jbf ?_;iterate 2 (
        with_reducible refine wpQuiet_step (fun K hK=>?_)
        go_simp;generalize hZ:(Act.mk _ _:Act)=zz;refine hK _ ?_;subst hZ;clear hK K)
       with_reducible refine wpQuiet_step (fun K hK=>?_)
       go_simp;apply Exists.intro;refine⟨fun g=>?_,hK _ ?_⟩
       ·go_at_call 30;refine(HDG.out g).mono ?_;rw[show jb0 s.dev=0 by unfold jb0;rw[HD1.out];rfl];rintro e wk ⟨rfl,hbk⟩;exact⟨rfl,⟨wk,g.prop.trans (hbk.mono g.prop.size)⟩,rfl⟩
       clear hK K;iterate 4 (
        with_reducible refine wpQuiet_step (fun K hK=>?_)
        go_simp;generalize hZ:(Act.mk _ _:Act)=zz;refine hK _ ?_;subst hZ;clear hK K)
       with_reducible refine wpQuiet_step (fun K hK=>?_)
       go_simp;apply Exists.intro;refine⟨fun g=>?_,hK _ ?_⟩
       ·go_at_call 58;refine(HHG.out g).mono ?_;rw[show chkE s.heap=0 by unfold chkE;rw[HO1.out];rfl];rintro e wk ⟨rfl,hbk⟩;exact⟨rfl,⟨wk,g.prop.trans (hbk.mono g.prop.size)⟩,rfl⟩
       clear hK K;iterate 12 (
        with_reducible refine wpQuiet_step (fun K hK=>?_)
        go_simp;generalize hZ:(Act.mk _ _:Act)=zz;refine hK _ ?_;subst hZ;clear hK K)
       refine wpQuiet_step (fun K hK=>?_);refine jal 42 (.tmp 1) rfl ⟨w.heap.size,0,none⟩ rfl (.agg sta) fst ?_;generalize hZ:(Act.put _ _ _:Act)=zz;refine hK _ ?_;subst hZ;clear hK K;with_reducible refine wpQuiet_step (fun K hK=>?_)
       go_simp;apply Exists.intro;refine⟨fun g=>?_,hK _ ?_⟩
       ·go_at_call 59;refine(HSG.out g HO1.out).mono ?_;rw[HS1.out];rintro e wk ⟨rfl,hbk⟩;exact⟨rfl,⟨wk,g.prop.trans (hbk.mono g.prop.size)⟩,rfl⟩
       clear hK K;iterate 16 (
        with_reducible refine wpQuiet_step (fun K hK=>?_)
        go_simp;generalize hZ:(Act.mk _ _:Act)=zz;refine hK _ ?_;subst hZ;clear hK K)
       refine wpQuiet_nil ?_;intro _ hwq;obtain⟨wq,hwq⟩:=hwq;subst hwq;go_wp2_with (fail);go_meet;exact⟨by rw[←HNB.out,HV.out] <;>rfl,wq.prop⟩
      |true=>
       rw[hk,Bool.true_and]at HHD;have hkb:ky.toList=[]:=List.isEmpty_iff.1 hk;clear hk;obtain⟨ib,hib⟩:∃z,jdb s.heap s.table=z:=⟨_,rfl⟩
       have HIB:=Lib.hid hib;rw[hib]at HHD;clear hib;have HV:=Lib.hid (show headB s=ib from HHD.out);refine jbf ?_;iterate 2 (
        with_reducible refine wpQuiet_step (fun K hK=>?_)
        go_simp;generalize hZ:(Act.mk _ _:Act)=zz;refine hK _ ?_;subst hZ;clear hK K)
       with_reducible refine wpQuiet_step (fun K hK=>?_)
       go_simp;apply Exists.intro;refine⟨fun g=>?_,hK _ ?_⟩
       ·go_at_call 30;refine(HDG.out g).mono ?_;rw[show jb0 s.dev=0 by unfold jb0;rw[HD1.out];rfl];rintro e wk ⟨rfl,hbk⟩;exact⟨rfl,⟨wk,g.prop.trans (hbk.mono g.prop.size)⟩,rfl⟩
       clear hK K;iterate 4 (
        with_reducible refine wpQuiet_step (fun K hK=>?_)
        go_simp;generalize hZ:(Act.mk _ _:Act)=zz;refine hK _ ?_;subst hZ;clear hK K)
       with_reducible refine wpQuiet_step (fun K hK=>?_)
       go_simp;apply Exists.intro;refine⟨fun g=>?_,hK _ ?_⟩
       ·go_at_call 58;refine(HHG.out g).mono ?_;rw[show chkE s.heap=0 by unfold chkE;rw[HO1.out];rfl];rintro e wk ⟨rfl,hbk⟩;exact⟨rfl,⟨wk,g.prop.trans (hbk.mono g.prop.size)⟩,rfl⟩
       clear hK K;iterate 12 (
        with_reducible refine wpQuiet_step (fun K hK=>?_)
        go_simp;generalize hZ:(Act.mk _ _:Act)=zz;refine hK _ ?_;subst hZ;clear hK K)
       refine wpQuiet_step (fun K hK=>?_);refine jal 42 (.tmp 1) rfl ⟨w.heap.size,0,none⟩ rfl (.agg sta) fst ?_;generalize hZ:(Act.put _ _ _:Act)=zz;refine hK _ ?_;subst hZ;clear hK K;with_reducible refine wpQuiet_step (fun K hK=>?_)
       go_simp;apply Exists.intro;refine⟨fun g=>?_,hK _ ?_⟩
       ·go_at_call 59;refine(HSG.out g HO1.out).mono ?_;rw[HS1.out];rintro e wk ⟨rfl,hbk⟩;exact⟨rfl,⟨wk,g.prop.trans (hbk.mono g.prop.size)⟩,rfl⟩
       clear hK K;iterate 12 (
        with_reducible refine wpQuiet_step (fun K hK=>?_)
        go_simp;generalize hZ:(Act.mk _ _:Act)=zz;refine hK _ ?_;subst hZ;clear hK K)
       refine wpQuiet_step (fun K hK=>?_);refine jal 40 (.tmp 42) rfl ⟨w.heap.size,79,none⟩ rfl (.agg ka) fkd ?_;generalize hZ:(Act.put _ _ _:Act)=zz;refine hK _ ?_;subst hZ;clear hK K;with_reducible refine wpQuiet_step (fun K hK=>?_)
       go_simp;apply Exists.intro;refine⟨fun g=>?_,hK _ ?_⟩
       ·go_at_call 60;refine(HIG.out g HO1.out).mono ?_;rw[HIB.out];rintro e wk ⟨rfl,hbk⟩;exact⟨rfl,⟨wk,g.prop.trans (hbk.mono g.prop.size)⟩,rfl⟩
       clear hK K;iterate 2 (
        with_reducible refine wpQuiet_step (fun K hK=>?_)
        go_simp;generalize hZ:(Act.mk _ _:Act)=zz;refine hK _ ?_;subst hZ;clear hK K)
       refine wpQuiet_nil ?_;intro _ hwq;obtain⟨wq,hwq⟩:=hwq;subst hwq;go_wp2_with (fail);go_meet;exact⟨by rw[←HNB.out,HV.out] <;>rfl,wq.prop⟩
    ·have hzb:(s.heap.size !=s.dev.size)=true:=by simp[hz]
     have HV:=Lib.hid (show headB s=false by rw[HHD.out,decide_eq_false hz];rfl);clear hz;refine jbf ?_;iterate 2 (
      with_reducible refine wpQuiet_step (fun K hK=>?_)
      go_simp;generalize hZ:(Act.mk _ _:Act)=zz;refine hK _ ?_;subst hZ;clear hK K)
     with_reducible refine wpQuiet_step (fun K hK=>?_)
     go_simp;apply Exists.intro;refine⟨fun g=>?_,hK _ ?_⟩
     ·go_at_call 30;refine(HDG.out g).mono ?_;rw[show jb0 s.dev=0 by unfold jb0;rw[HD1.out];rfl];rintro e wk ⟨rfl,hbk⟩;exact⟨rfl,⟨wk,g.prop.trans (hbk.mono g.prop.size)⟩,rfl⟩
     clear hK K;iterate 4 (
      with_reducible refine wpQuiet_step (fun K hK=>?_)
      go_simp;generalize hZ:(Act.mk _ _:Act)=zz;refine hK _ ?_;subst hZ;clear hK K)
     with_reducible refine wpQuiet_step (fun K hK=>?_)
     go_simp;apply Exists.intro;refine⟨fun g=>?_,hK _ ?_⟩
     ·go_at_call 58;refine(HHG.out g).mono ?_;rw[show chkE s.heap=0 by unfold chkE;rw[HO1.out];rfl];rintro e wk ⟨rfl,hbk⟩;exact⟨rfl,⟨wk,g.prop.trans (hbk.mono g.prop.size)⟩,rfl⟩
     clear hK K;iterate 30 (
      with_reducible refine wpQuiet_step (fun K hK=>?_)
      go_simp;generalize hZ:(Act.mk _ _:Act)=zz;refine hK _ ?_;subst hZ;clear hK K)
     refine wpQuiet_nil ?_;intro _ hwq;obtain⟨wq,hwq⟩:=hwq;subst hwq;go_wp2_with (fail);go_meet;exact⟨by rw[←HNB.out,HV.out] <;>rfl,wq.prop⟩
 case rest=>
  obtain⟨rfl,hbc⟩:=hcut;have h1:=(hbc.block _ (lt_of_block H0.out.1)).trans H0.out.1;have h2:=H0.out.2.trans (hbc.mono H0.out.2.size);have H1:=Lib.hid (And.intro h1 h2);clear f0 f1 f2 f3 f4 f5 f6 f79 fst fkd HDG HHG HSG HIG h1 h2 hbc H0;have HCH:=Lib.hid (chk_head s);cases nb with
  |true=>
   have HR:=Lib.hid (show stoE s=7 by
    have h9:headB s=false:=by have:=HNB.out;cases hh:headB s with|false=>rfl|true=>rw[hh]at this;cases this
    unfold stoE;rw[HCH.out,h9];rfl)
   go_wp2_with (fail);go_ret;exact⟨by rw[HR.out];rfl,H1.out.2⟩
  |false=>
   have hhd:headB s=true:=by have:=HNB.out;cases hh:headB s with|true=>rfl|false=>rw[hh]at this;cases this
   have HHT:=Lib.hid hhd;have ho:openB s.heap=true:=by unfold headB at hhd;simp only[Bool.and_eq_true]at hhd;exact hhd.2.1
   have hsa:=jcr (by rw[HST.out];exact H1.out.1) HSL.out;have x5:wc.cell? ⟨w.heap.size,5,none⟩=some (.int .u32 s.heap.size):=hsa.2.1.cell 0 _ rfl;have x6:wc.cell? ⟨w.heap.size,6,none⟩=some (.slice C s.heap.cells.length cc):=hsa.2.1.cell 1 _ rfl;have HAH:=Lib.hid (allHeld_any wc _ s.heap (HHV.out.below H1.out.2 (Nat.le_refl _)) ho hmax);clear hhd hsa;go_wp2_with (fail);refine HAH.out.mono ?_;rintro e w2 ⟨hvv,rfl,hown,hb2⟩;have hck:CkR w w2 w.heap.size st hvv s.heap.cells.length ((jav s.heap).map heldV) (((jav s.heap).take 0).all (celB s)):=⟨(hb2.block _ (lt_of_block H1.out.1)).trans H1.out.1,jd4 hown H1.out.2.size,H1.out.2.trans (hb2.mono H1.out.2.size),rfl⟩
   have HCK:=Lib.hid hck;obtain⟨HA,hn,hc,rfl⟩:=jan hown;have hnn:=own_len hown;subst hnn;have y6:w2.cell? ⟨w.heap.size,6,none⟩=some (.slice C s.heap.cells.length cc):=(hb2.cell (block_lt_of_cell x6)).trans x6;clear hown hb2 x5 x6 hck HAH;go_wp2_with (fail);go_loopw [4,5,6,8,54,55,56,57,58,59,60,61,62,63,64,65,66,67,68,69,70,71,72,73,74,75,76,77,78,79,80,81,82,83,84,85,86,87,88,89,90,91] (fun _ _ _ _ i _ _ _ _ _ _ _ _ _ _ _ _ _ _ _ _ _ _ _ _ _ _ _ _ _ _ _ _ _ _ _ _ _ _ _ _ _ wr=>∃k:Nat,k≤s.heap.cells.length∧i= .int .i64 k∧CkR w wr w.heap.size st (.slice HA s.heap.cells.length hc) s.heap.cells.length ((jav s.heap).map heldV) (((jav s.heap).take k).all (celB s))) (fun _ _ _ _ i _ _ _ _ _ _ _ _ _ _ _ _ _ _ _ _ _ _ _ _ _ _ _ _ _ _ _ _ _ _ _ _ _ _ _ _ _ _=>s.heap.cells.length - (intOf i).toNat)
   case atStart=>exact⟨0,Nat.zero_le _,rfl,HCK.out⟩
   case round=>
    obtain⟨k,hk,rfl,hr⟩:=hrel;by_cases hlt:k < s.heap.cells.length
    ·obtain⟨c',ec,hslr,_⟩:=HHV.out.below hr.below (Nat.le_refl _);simp only[Value.agg.injEq,Array.mk.injEq,List.cons.injEq,and_true,true_and]at ec;subst ec;obtain⟨b,o,rfl,hat,hwf⟩:=jgk hslr k hlt;obtain⟨hlo,hcn,hcr⟩:=opened_get s.heap k hlt;have hcb:((jav s.heap).take (k + 1)).all (celB s)=(((jav s.heap).take k).all (celB s) && celB s (jav s.heap)[k]):=by
      rw[List.take_succ_eq_append_getElem hlo,List.all_append];simp
     have HCB:=Lib.hid (show((jav s.heap).take (k + 1)).all (celB s)=(decide ((jav s.heap)[k].refs - (jav s.heap)[k].led=wantS s s.heap.cells[k].num) && decide (s.heap.cells[k].refs≠0)) by
      rw[hcb,hr.yes,Bool.true_and];unfold celB;rw[hcn,hcr])
     have d0:=hat.cell 0 _ rfl;have d1:=hat.cell 1 _ rfl;have d2:=hat.cell 2 _ rfl;simp only[celE,Nat.add_zero]at d0 d1 d2;have hro:=hr.held;obtain⟨_,ho2⟩:=hro;rcases ho2 with⟨e1,h0⟩|⟨g,cap,cur,h8,hgB,hgb,hnc,hcm2,hcsz,htk⟩
     ·exfalso;omega
     ·simp only[Value.slice.injEq,Option.some.injEq,Addr.mk.injEq,and_true,true_and]at h8;obtain⟨rfl,rfl⟩:=h8;have dg:wr.cell? ⟨g,k,none⟩=some (.int .i64 ((jav s.heap)[k].refs - (jav s.heap)[k].led)):=by
       rw[cell_of_row _ _ _ _ _ _ hgb,←Array.getElem?_toList];have h7:(cur.toList.take (s.heap.cells.length * 1))[k]? =some (heldV (jav s.heap)[k]):=by rw[htk,List.getElem?_map,List.getElem?_eq_getElem hlo];rfl
       rw[List.getElem?_take,if_pos (by omega)]at h7;exact h7
      obtain⟨hd,hhd⟩:∃z,(jav s.heap)[k].refs - (jav s.heap)[k].led=z:=⟨_,rfl⟩
      rw[hhd]at dg HCB;have hcr2:=hwf;have hi1:(0:Int)≤k:=by omega
      have hi2:(k:Int) < s.heap.cells.length:=by omega
      have HR0:=Lib.hid hr;have hsa:=jcr (by rw[HST.out];exact hr.sto) HSL.out;have x80:wr.cell? ⟨w.heap.size,80,none⟩=some (.int .u32 s.table.num):=hsa.2.2.2.2.2.cell 1 _ rfl;have hnb:=heap_alloc_new wr (.cells #[.int .u32 s.heap.cells[k].num, .string s.heap.cells[k].data, .int .i64 s.heap.cells[k].refs] 91);have hbb:=(Below.refl wr.heap.size wr).alloc (Nat.le_refl _) (.cells #[.int .u32 s.heap.cells[k].num, .string s.heap.cells[k].data, .int .i64 s.heap.cells[k].refs] 91);have d3:∀o',(wr.alloc o').cell? ⟨g,k,none⟩=some (.int .i64 hd):=fun o'=>(World.cell?_alloc_some wr _ o' (by rw[dg];rfl)).trans dg
      have d4:=d3 (.cells #[.int .u32 s.heap.cells[k].num, .string s.heap.cells[k].data, .int .i64 s.heap.cells[k].refs] 91);have x81:∀o',(wr.alloc o').cell? ⟨w.heap.size,80,none⟩=some (.int .u32 s.table.num):=fun o'=>(World.cell?_alloc_some wr _ o' (by rw[x80];rfl)).trans x80
      have x82:=x81 (.cells #[.int .u32 s.heap.cells[k].num, .string s.heap.cells[k].data, .int .i64 s.heap.cells[k].refs] 91);clear hr hslr hat hwf hcb hgb htk hcsz hcm2 hnc hsa d3 x81 hcn hcr hhd y6;generalize s.heap.cells[k].num=num at *;generalize s.heap.cells[k].data=data at *;generalize s.heap.cells[k].refs=refs at *;go_upto_region 7 with(fail);have HX:=Lib.hid (And.intro (HR0.out.step hbb HR0.out.yes) hnb);generalize wr.alloc (.cells #[.int .u32 num, .string data, .int .i64 refs] 91)=wx at *;generalize wr.heap.size=b5 at *;have z0:wx.cell? ⟨b5,0,none⟩=some (.int .u32 num):=by rw[cell_of_row _ _ _ _ _ _ hnb];rfl
      have z2:wx.cell? ⟨b5,2,none⟩=some (.int .i64 refs):=by rw[cell_of_row _ _ _ _ _ _ hnb];rfl
      have hats:At wx w.heap.size 0 st:=fun j hj=>by
       rw[cell_of_row _ _ _ _ _ _ HX.out.1.sto,Nat.zero_add];simp[hj]
      have hsi:(Tryz.prog.info? 42).map (·.size)=some st.length:=by rw[HLN.out];exact ja6
      have HVA:=Lib.hid (ji7 wx _ s (HVV.out.below HX.out.1.below (Nat.le_refl _)));rw[HSTA.out]at HVA;have HWT:=Lib.hid (want_cnt s num);clear hbb hnb d0 d1 d2 dg x80;obtain⟨w0,hw0⟩:∃z:Int,(if num=s.table.num then 1 else 0)=z:=⟨_,rfl⟩
      have hw01:0≤w0∧w0≤1:=by rw[←hw0];split <;>omega
      rw[hw0]at HWT;by_cases hnt:num=s.table.num
      ·have hntb:(num==s.table.num)=true:=by simp[hnt]
       have hw1:w0=1:=by rw[←hw0];simp[hnt]
       subst hw1;clear hw0 hw01 hnt;go_wp2_with (refine jae rfl 42 (.tmp 1) rfl w.heap.size 0 rfl st _ hats Tryz.underlying42 rfl hsi sta HSTA.out ?_);refine HVA.out.mono ?_;rintro e wv ⟨r,rfl,hown,hbv⟩;have hwfs:∀x∈jbh s,supE.wf x:=fun x hx=>jk5 HVV.out x hx
       have hslv:=jct (E:=supE) hown rfl hwfs;obtain⟨VA,vc,rfl,hv1,hv2,_⟩:=hslv;have hslv:=jct (E:=supE) hown rfl hwfs;have HSV:=Lib.hid hslv;have HCV:=Lib.hid (HX.out.1.step hbv HX.out.1.yes);have z0:=(hbv.cell (block_lt_of_cell z0)).trans z0;have z2:=(hbv.cell (block_lt_of_cell z2)).trans z2;have d4:=(hbv.cell (block_lt_of_cell d4)).trans d4;have HVL:=Lib.hid (show(jbh s).length≤2 by unfold jbh;cases s.v0 <;>cases s.v1 <;>simp);clear hown hbv hslv hats x82 HVA hwfs;obtain⟨vl,hvl⟩:∃vl,jbh s=vl:=⟨_,rfl⟩
       rw[hvl]at HSV HVL HWT hv1 ⊢;clear hvl;go_wp2_with (fail);go_loopw [6,8,68,69,70,71,72,73,74,75,76,77,78,79] (fun u _ i _ _ _ _ _ _ _ _ _ _ _ wr2=>∃j:Nat,j≤vl.length∧i= .int .i64 j∧u= .int .i64 (1 + cntT (vl.take j) num)∧Below wv.heap.size wv wr2) (fun _ _ i _ _ _ _ _ _ _ _ _ _ _ _=>vl.length - (intOf i).toNat)
       case atStart=>exact⟨0,Nat.zero_le _,rfl,by simp[cntT],Below.refl _ _⟩
       case round=>
        obtain⟨j,hj,rfl,rfl,hbr⟩:=hrel;have z0:=(hbr.cell (block_lt_of_cell z0)).trans z0;have hcj:=cntT_nn (vl.take j) num;have hvl2:=HVL.out;have hcl:(vl.take j).length≤2:=by simp;omega
        by_cases hjl:j < vl.length
        ·obtain⟨b',o',rfl,hat,hwf⟩:=jgk (HSV.out.below hbr (Nat.le_refl _)) j hjl;have HSN:=Lib.hid (show cntT (vl.take (j + 1)) num=cntT (vl.take j) num + (if vl[j].table=num then 1 else 0) by rw[List.take_succ_eq_append_getElem hjl,cntT_snoc]);have HWX:=Lib.hid (show supWf vl[j]from hwf);have s1:=jbt vl[j];have s2:=jbx HWX.out;have s3:(supA vl[j]).toList.length=35:=by rw[Array.length_toList];exact jbn HWX.out
         have s4:(supA vl[j])[2]? =some (.int .u32 vl[j].table):=rfl;have hat2:At wr b' (o' + j * 35) (supA vl[j]).toList:=hat;obtain⟨xs,hxs⟩:∃xs,(supA vl[j]).toList=xs:=⟨_,rfl⟩
         rw[hxs]at s1 s2 s3 hat2;rw[←Array.getElem?_toList,hxs,←List.getElem?_toArray]at s4;obtain⟨xa,hxa⟩:∃xa,xs.toArray=xa:=⟨_,rfl⟩
         have HXA:=Lib.hid hxa;obtain⟨tb,htb⟩:∃z,vl[j].table=z:=⟨_,rfl⟩
         rw[htb]at HSN s4;have hnb8:=heap_alloc_new wr (.cells xs.toArray 36);have t2:(wr.alloc (.cells xs.toArray 36)).cell? ⟨wr.heap.size,2,none⟩=some (.int .u32 tb):=by rw[cell_of_row _ _ _ _ _ _ hnb8];exact s4
         have z0a:(wr.alloc (.cells xs.toArray 36)).cell? ⟨b5,0,none⟩=some (.int .u32 num):=(World.cell?_alloc_some wr _ _ (by rw[z0];rfl)).trans z0;have HBR:=Lib.hid (hbr.alloc hbr.size (.cells xs.toArray 36));have hi3:(0:Int)≤j:=by omega
         have hi4:(j:Int) < vl.length:=by omega
         have hwr:IntKind.i64.wrap (1 + cntT (vl.take j) num + 1)=1 + cntT (vl.take j) num + 1:=by rw[IntKind.wrap_i64];omega
         clear hat hwf hxs hxa htb hbr hnb8 s4 hcj hcl;by_cases hte:tb=num
         ·have hteb:(tb==num)=true:=by simp[hte]
          have HSN2:=Lib.hid (show 1 + cntT (vl.take (j + 1)) num=1 + cntT (vl.take j) num + 1 by have h9:=HSN.out;rw[if_pos hte]at h9;omega);clear hte;generalize cntT (vl.take j) num=cj at *;go_wp2_with (first
           |(refine jae rfl 36 (.tmp 70) rfl b' (o' + j * 35) rfl xs _ hat2 Tryz.underlying36 rfl s2 xa HXA.out ?_)
           |((with_reducible refine jab ?_);refine jaa rfl 36 (.tmp 8) (.tmp 71) rfl 36 _ rfl xs (by rw[HXA.out];rfl) (by rw[s3];rfl) s1 s2 ?_))
          exact⟨⟨j + 1,by omega,by go_num,by rw[HSN2.out],HBR.out⟩,by simp[intOf];omega⟩
         ·have hteb:(tb==num)=false:=by simp[hte]
          have HSN2:=Lib.hid (show cntT (vl.take (j + 1)) num=cntT (vl.take j) num by have h9:=HSN.out;rw[if_neg hte]at h9;omega);clear hte;go_wp2_with (first
           |(refine jae rfl 36 (.tmp 70) rfl b' (o' + j * 35) rfl xs _ hat2 Tryz.underlying36 rfl s2 xa HXA.out ?_)
           |((with_reducible refine jab ?_);refine jaa rfl 36 (.tmp 8) (.tmp 71) rfl 36 _ rfl xs (by rw[HXA.out];rfl) (by rw[s3];rfl) s1 s2 ?_))
          exact⟨⟨j + 1,by omega,by go_num,by rw[HSN2.out],HBR.out⟩,by simp[intOf];omega⟩
        ·obtain rfl:j=vl.length:=by omega
         rw[List.take_length];rw[List.take_length]at hcj;have z2:=(hbr.cell (block_lt_of_cell z2)).trans z2;have d4:=(hbr.cell (block_lt_of_cell d4)).trans d4;have hwt:=HWT.out;obtain⟨wt,hwtE⟩:∃z,wantS s num=z:=⟨_,rfl⟩
         rw[hwtE]at HCB hwt;rw[←hwt];have HFB:=Lib.hid hbr;clear hwt hwtE hbr hcj hcl;by_cases hq1:hd=wt
         ·have hq1b:(hd !=wt)=false:=by simp[hq1]
          rw[decide_eq_true hq1,Bool.true_and]at HCB;clear hq1;by_cases hq2:refs=0
          ·have hq2b:(refs==0)=true:=by simp[hq2]
           have HRR:=Lib.hid (show stoE s=7 from chk_no HHT.out (k:=k) (by rw[HCB.out];simp[hq2]));clear hq2;go_wp2_with (fail);go_ret;exact⟨by rw[HRR.out];rfl,HCV.out.below.trans (HFB.out.mono HCV.out.below.size)⟩
          ·have hq2b:(refs==0)=false:=by simp[hq2]
           have HRR:=Lib.hid (HCV.out.step (b':=((jav s.heap).take (k + 1)).all (celB s)) HFB.out (by rw[HCB.out];simp[hq2]));clear hq2;go_wp2_with (fail);exact⟨⟨k + 1,by omega,by go_num,HRR.out⟩,by simp[intOf];omega⟩
         ·have hq1b:(hd !=wt)=true:=by simp[hq1]
          have HRR:=Lib.hid (show stoE s=7 from chk_no HHT.out (k:=k) (by rw[HCB.out];simp[hq1]));clear hq1;go_wp2_with (fail);go_ret;exact⟨by rw[HRR.out];rfl,HCV.out.below.trans (HFB.out.mono HCV.out.below.size)⟩
      ·have hntb:(num==s.table.num)=false:=by simp[hnt]
       have hw1:w0=0:=by rw[←hw0];simp[hnt]
       subst hw1;clear hw0 hw01 hnt;go_wp2_with (refine jae rfl 42 (.tmp 1) rfl w.heap.size 0 rfl st _ hats Tryz.underlying42 rfl hsi sta HSTA.out ?_);refine HVA.out.mono ?_;rintro e wv ⟨r,rfl,hown,hbv⟩;have hwfs:∀x∈jbh s,supE.wf x:=fun x hx=>jk5 HVV.out x hx
       have hslv:=jct (E:=supE) hown rfl hwfs;obtain⟨VA,vc,rfl,hv1,hv2,_⟩:=hslv;have hslv:=jct (E:=supE) hown rfl hwfs;have HSV:=Lib.hid hslv;have HCV:=Lib.hid (HX.out.1.step hbv HX.out.1.yes);have z0:=(hbv.cell (block_lt_of_cell z0)).trans z0;have z2:=(hbv.cell (block_lt_of_cell z2)).trans z2;have d4:=(hbv.cell (block_lt_of_cell d4)).trans d4;have HVL:=Lib.hid (show(jbh s).length≤2 by unfold jbh;cases s.v0 <;>cases s.v1 <;>simp);clear hown hbv hslv hats x82 HVA hwfs;obtain⟨vl,hvl⟩:∃vl,jbh s=vl:=⟨_,rfl⟩
       rw[hvl]at HSV HVL HWT hv1 ⊢;clear hvl;go_wp2_with (fail);go_loopw [6,8,68,69,70,71,72,73,74,75,76,77,78,79] (fun u _ i _ _ _ _ _ _ _ _ _ _ _ wr2=>∃j:Nat,j≤vl.length∧i= .int .i64 j∧u= .int .i64 (cntT (vl.take j) num)∧Below wv.heap.size wv wr2) (fun _ _ i _ _ _ _ _ _ _ _ _ _ _ _=>vl.length - (intOf i).toNat)
       case atStart=>exact⟨0,Nat.zero_le _,rfl,by simp[cntT],Below.refl _ _⟩
       case round=>
        obtain⟨j,hj,rfl,rfl,hbr⟩:=hrel;have z0:=(hbr.cell (block_lt_of_cell z0)).trans z0;have hcj:=cntT_nn (vl.take j) num;have hvl2:=HVL.out;have hcl:(vl.take j).length≤2:=by simp;omega
        by_cases hjl:j < vl.length
        ·obtain⟨b',o',rfl,hat,hwf⟩:=jgk (HSV.out.below hbr (Nat.le_refl _)) j hjl;have HSN:=Lib.hid (show cntT (vl.take (j + 1)) num=cntT (vl.take j) num + (if vl[j].table=num then 1 else 0) by rw[List.take_succ_eq_append_getElem hjl,cntT_snoc]);have HWX:=Lib.hid (show supWf vl[j]from hwf);have s1:=jbt vl[j];have s2:=jbx HWX.out;have s3:(supA vl[j]).toList.length=35:=by rw[Array.length_toList];exact jbn HWX.out
         have s4:(supA vl[j])[2]? =some (.int .u32 vl[j].table):=rfl;have hat2:At wr b' (o' + j * 35) (supA vl[j]).toList:=hat;obtain⟨xs,hxs⟩:∃xs,(supA vl[j]).toList=xs:=⟨_,rfl⟩
         rw[hxs]at s1 s2 s3 hat2;rw[←Array.getElem?_toList,hxs,←List.getElem?_toArray]at s4;obtain⟨xa,hxa⟩:∃xa,xs.toArray=xa:=⟨_,rfl⟩
         have HXA:=Lib.hid hxa;obtain⟨tb,htb⟩:∃z,vl[j].table=z:=⟨_,rfl⟩
         rw[htb]at HSN s4;have hnb8:=heap_alloc_new wr (.cells xs.toArray 36);have t2:(wr.alloc (.cells xs.toArray 36)).cell? ⟨wr.heap.size,2,none⟩=some (.int .u32 tb):=by rw[cell_of_row _ _ _ _ _ _ hnb8];exact s4
         have z0a:(wr.alloc (.cells xs.toArray 36)).cell? ⟨b5,0,none⟩=some (.int .u32 num):=(World.cell?_alloc_some wr _ _ (by rw[z0];rfl)).trans z0;have HBR:=Lib.hid (hbr.alloc hbr.size (.cells xs.toArray 36));have hi3:(0:Int)≤j:=by omega
         have hi4:(j:Int) < vl.length:=by omega
         have hwr:IntKind.i64.wrap (cntT (vl.take j) num + 1)=cntT (vl.take j) num + 1:=by rw[IntKind.wrap_i64];omega
         clear hat hwf hxs hxa htb hbr hnb8 s4 hcj hcl;by_cases hte:tb=num
         ·have hteb:(tb==num)=true:=by simp[hte]
          have HSN2:=Lib.hid (show cntT (vl.take (j + 1)) num=cntT (vl.take j) num + 1 by have h9:=HSN.out;rw[if_pos hte]at h9;omega);clear hte;generalize cntT (vl.take j) num=cj at *;go_wp2_with (first
           |(refine jae rfl 36 (.tmp 70) rfl b' (o' + j * 35) rfl xs _ hat2 Tryz.underlying36 rfl s2 xa HXA.out ?_)
           |((with_reducible refine jab ?_);refine jaa rfl 36 (.tmp 8) (.tmp 71) rfl 36 _ rfl xs (by rw[HXA.out];rfl) (by rw[s3];rfl) s1 s2 ?_))
          exact⟨⟨j + 1,by omega,by go_num,by rw[HSN2.out],HBR.out⟩,by simp[intOf];omega⟩
         ·have hteb:(tb==num)=false:=by simp[hte]
          have HSN2:=Lib.hid (show cntT (vl.take (j + 1)) num=cntT (vl.take j) num by have h9:=HSN.out;rw[if_neg hte]at h9;omega);clear hte;go_wp2_with (first
           |(refine jae rfl 36 (.tmp 70) rfl b' (o' + j * 35) rfl xs _ hat2 Tryz.underlying36 rfl s2 xa HXA.out ?_)
           |((with_reducible refine jab ?_);refine jaa rfl 36 (.tmp 8) (.tmp 71) rfl 36 _ rfl xs (by rw[HXA.out];rfl) (by rw[s3];rfl) s1 s2 ?_))
          exact⟨⟨j + 1,by omega,by go_num,by rw[HSN2.out],HBR.out⟩,by simp[intOf];omega⟩
        ·obtain rfl:j=vl.length:=by omega
         rw[List.take_length];rw[List.take_length]at hcj;have z2:=(hbr.cell (block_lt_of_cell z2)).trans z2;have d4:=(hbr.cell (block_lt_of_cell d4)).trans d4;have hwt:=HWT.out;obtain⟨wt,hwtE⟩:∃z,wantS s num=z:=⟨_,rfl⟩
         rw[hwtE]at HCB hwt;rw[Int.zero_add]at hwt;rw[←hwt];have HFB:=Lib.hid hbr;clear hwt hwtE hbr hcj hcl;by_cases hq1:hd=wt
         ·have hq1b:(hd !=wt)=false:=by simp[hq1]
          rw[decide_eq_true hq1,Bool.true_and]at HCB;clear hq1;by_cases hq2:refs=0
          ·have hq2b:(refs==0)=true:=by simp[hq2]
           have HRR:=Lib.hid (show stoE s=7 from chk_no HHT.out (k:=k) (by rw[HCB.out];simp[hq2]));clear hq2;go_wp2_with (fail);go_ret;exact⟨by rw[HRR.out];rfl,HCV.out.below.trans (HFB.out.mono HCV.out.below.size)⟩
          ·have hq2b:(refs==0)=false:=by simp[hq2]
           have HRR:=Lib.hid (HCV.out.step (b':=((jav s.heap).take (k + 1)).all (celB s)) HFB.out (by rw[HCB.out];simp[hq2]));clear hq2;go_wp2_with (fail);exact⟨⟨k + 1,by omega,by go_num,HRR.out⟩,by simp[intOf];omega⟩
         ·have hq1b:(hd !=wt)=true:=by simp[hq1]
          have HRR:=Lib.hid (show stoE s=7 from chk_no HHT.out (k:=k) (by rw[HCB.out];simp[hq1]));clear hq1;go_wp2_with (fail);go_ret;exact⟨by rw[HRR.out];rfl,HCV.out.below.trans (HFB.out.mono HCV.out.below.size)⟩
    ·obtain rfl:k=s.heap.cells.length:=by omega
     have HRR:=Lib.hid hr;clear hr;have HV:=Lib.hid (show stoE s=0 by
      have h9:=HRR.out.yes;have h8:(jav s.heap).length≤s.heap.cells.length:=by rw[jb5];simp
      rw[List.take_of_length_le h8]at h9;unfold stoE;rw[HCH.out,HHT.out,h9];rfl)
     go_wp2_with (fail);go_ret;exact⟨by rw[HV.out];rfl,HRR.out.below⟩
end Go.Proofs.YtpaohkkhejpgjaaGreatDoor
