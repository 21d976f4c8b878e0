/- Texts of the proof: Vy Vf Y5. -/
import Derived.Test.YtpaohkkhejpgjaaGreatDoorM20
import Derived.Test.YtpaohkkhejpgjaaGreatDoorM29
import Derived.Test.YtpaohkkhejpgjaaGreatDoorM21
import Derived.Deep.AppendLies
import Derived.Deep.RegionLaw
import Derived.Test.YtpaohkkhejpgjaaGreatDoorM25
import Derived.Test.YtpaohkkhejpgjaaGreatDoorM27
import Derived.Test.YtpaohkkhejpgjaaGreatDoorM36
set_option linter.all false
set_option maxRecDepth 100000
set_option maxHeartbeats 8000000
namespace Go.Proofs.YtpaohkkhejpgjaaGreatDoor
open Go Go.RowKit
theorem jb6{fn:Func}{t u:Tmp}(h:fn.results= #[.cell t 25, .tmp u])(tmps:Array Value)(g:Nat)(cs:Array Value)(fr:Nat×Nat)(w:World)(ht:tmps.getD t undef= .pointer (some ⟨g,0,none⟩))
 (hg:w.heap[g]? =some (.cells cs 25 fr)) (hsz:cs.size=5):
 (results fn tmps).run Tryz.prog w= .ok (.tuple #[.agg cs,tmps.getD u undef]) w:=by
 have hp':tmps[t]?.getD undef= .pointer (some ⟨g,0,none⟩):=by simpa using ht
 have hl:=run_loadVar_row (P:=Tryz.prog) w g 25 25 cs fr _ hg Tryz.underlying25 rfl (by rw[jbz,hsz]);simp[results,h,hp',asAddr,hl]
theorem jeo(A A2:Option Addr)(n n2 c c2:Nat)(s:Int)(d:Bool)(f:Int):(#[Value.int .u32 s, .slice A n c, .slice A2 n2 c2, .bool d, .int .i64 f]:Array Value).all (·.oneCell')=true:=by
 simp[Value.oneCell']
def jd5(d:Dv)(A1:Option Addr)(m1 k1:Nat)(A2:Option Addr)(m2 k2:Nat):Array Value:= #[.int .u32 d.size, .slice A1 m1 k1, .slice A2 m2 k2, .bool d.down, .int .i64 d.fuse]
theorem jgh{w wz:World}{q:Nat}{d:Dv}{A1 A2:Option Addr}{m1 k1 m2 k2:Nat}{z:Array Value}(hq:w.heap.size≤q)(hres:wz.heap[q]? =some (.cells z 25 (0,0)))
 (ho1:wz.ownsRow w.heap.size 160 2 (.slice A1 m1 k1) d.blocks.length (d.blocks.flatMap blkE.enc)) (ho2:wz.ownsRow w.heap.size 160 2 (.slice A2 m2 k2) d.waits.length (d.waits.flatMap blkE.enc))
 (hw1:∀b∈d.blocks,blkE.wf b) (hw2:∀b∈d.waits,blkE.wf b) (hs:u32Ok d.size) (hf:jho d.fuse) (hap:∀g g',(Value.slice A1 m1 k1).ownBlock=some g→(Value.slice A2 m2 k2).ownBlock=some g'→g≠g') (hbl:Below w.heap.size w wz):
 (wz.setRow q (jd5 d A1 m1 k1 A2 m2 k2)).heap[q]? =some (.cells (jd5 d A1 m1 k1 A2 m2 k2) 25 (0,0))∧DevO w.heap.size (wz.setRow q (jd5 d A1 m1 k1 A2 m2 k2)) (.agg (jd5 d A1 m1 k1 A2 m2 k2)) d∧Below w.heap.size w (wz.setRow q (jd5 d A1 m1 k1 A2 m2 k2)):=by
 have hg:wz.grownBy (wz.setRow q (jd5 d A1 m1 k1 A2 m2 k2)) (some q):=⟨rfl,rfl,rfl,by simp[World.setRow],fun k _ hk=>jac _ _ _ _ (by simpa using hk)⟩
 exact⟨jad _ _ _ _ _ hres,⟨_,_,rfl,jat ho1 hg hres (by decide),jat ho2 hg hres (by decide),hw1,hw2,hs,hf,hap⟩,hbl.trans ⟨rfl,rfl,rfl,by simp[World.setRow],fun k hk=>jac _ _ _ _ (by omega)⟩⟩
theorem dev_zero:Tryz.prog.built 25 []=some #[.int .u32 0, .slice none 0 0, .slice none 0 0, .bool false, .int .i64 0]:=by kernel_rfl
def DevPost(w:World)(x:Dv×Int)(e:Ending)(w':World):Prop:=∃r,e= .returned (.tuple #[r, .int .i64 x.2])∧DevO w.heap.size w' r x.1∧Below w.heap.size w w'
theorem devWrite_any(w:World)(v:Value)(d:Dv)(num:Int)(data:ByteArray)(hv:DevV w v d)(hl:d.blocks.length≤1073741824)(hl2:d.waits.length≤1073741824)(hnum:u32Ok num)(hdata:data.size≤9223372036854775807):
 Calls Tryz.prog 93 #[v, .int .u32 num, .string data] w fun e w'=>DevPost w (jbg d num data) e w':=by
 have HV:=Lib.hid hv;obtain⟨bv,wv,rfl,hbs,hws,hsz,hfu⟩:=hv;obtain⟨A,n,c,rfl⟩:=jax hbs;obtain⟨A2,n2,c2,rfl⟩:=jax hws;have hn2:=(hws.len_eq).1;subst hn2;clear hbs hws;have hbb:=(jb2 w #[.int .u32 d.size, .slice A n c, .slice A2 d.waits.length c2, .bool d.down, .int .i64 d.fuse] 25).alloc (by simp) (.cells #[.int .u32 0, .slice none 0 0, .slice none 0 0, .bool false, .int .i64 0] 25);have hb1:=two_newV w #[.int .u32 d.size, .slice A n c, .slice A2 d.waits.length c2, .bool d.down, .int .i64 d.fuse] 25 #[.int .u32 0, .slice none 0 0, .slice none 0 0, .bool false, .int .i64 0] 25;have hb2:=two_oldV w #[.int .u32 d.size, .slice A n c, .slice A2 d.waits.length c2, .bool d.down, .int .i64 d.fuse] 25 #[.int .u32 0, .slice none 0 0, .slice none 0 0, .bool false, .int .i64 0] 25;go_enter Tryz.func93,Tryz.ntmps93;go_upto_region 1 with(fail);generalize(w.alloc (.cells #[.int .u32 d.size, .slice A n c, .slice A2 d.waits.length c2, .bool d.down, .int .i64 d.fuse] 25)).alloc (.cells #[.int .u32 0, .slice none 0 0, .slice none 0 0, .bool false, .int .i64 0] 25)=wa at *;have a0:wa.cell? ⟨w.heap.size,0,none⟩=some (.int .u32 d.size):=by rw[cell_of_row _ _ _ _ _ _ hb2];rfl
 have a1:wa.cell? ⟨w.heap.size,1,none⟩=some (.slice A n c):=by rw[cell_of_row _ _ _ _ _ _ hb2];rfl
 have a2:wa.cell? ⟨w.heap.size,2,none⟩=some (.slice A2 d.waits.length c2):=by rw[cell_of_row _ _ _ _ _ _ hb2];rfl
 have a3:wa.cell? ⟨w.heap.size,3,none⟩=some (.bool d.down):=by rw[cell_of_row _ _ _ _ _ _ hb2];rfl
 have a4:wa.cell? ⟨w.heap.size,4,none⟩=some (.int .i64 d.fuse):=by rw[cell_of_row _ _ _ _ _ _ hb2];rfl
 have l2:=lt_of_block hb2;have l1:=lt_of_block hb1;have H0:=Lib.hid (And.intro hbb (And.intro hb1 hb2));clear hbb hb1 hb2;go_wp2_with (fail);go_at_call 30;refine(jdu wa _ d (HV.out.below H0.out.1 (Nat.le_refl _)) hl hl2).mono ?_;rintro e w1 ⟨rfl,hbk1⟩;have hr1:=(hbk1.block _ l1).trans H0.out.2.1;have hx1:=(hbk1.block _ l2).trans H0.out.2.2;have b0:w1.cell? ⟨w.heap.size,0,none⟩=some (.int .u32 d.size):=by rw[cell_of_row _ _ _ _ _ _ hx1];rfl
 have b1:w1.cell? ⟨w.heap.size,1,none⟩=some (.slice A n c):=by rw[cell_of_row _ _ _ _ _ _ hx1];rfl
 have b2:w1.cell? ⟨w.heap.size,2,none⟩=some (.slice A2 d.waits.length c2):=by rw[cell_of_row _ _ _ _ _ _ hx1];rfl
 have b3:w1.cell? ⟨w.heap.size,3,none⟩=some (.bool d.down):=by rw[cell_of_row _ _ _ _ _ _ hx1];rfl
 have b4:w1.cell? ⟨w.heap.size,4,none⟩=some (.int .i64 d.fuse):=by rw[cell_of_row _ _ _ _ _ _ hx1];rfl
 have l3:=lt_of_block hr1;have l4:=lt_of_block hx1;have H1:=Lib.hid (And.intro (H0.out.1.trans (hbk1.mono H0.out.1.size)) (And.intro hr1 hx1));clear hbk1 hr1 hx1 a0 a1 a2 a3 a4;cases hdv:devB d with
 |false=>
  have HD:=Lib.hid (show jbg d num data=(noDev,7) by unfold jbg;rw[if_pos hdv]);rw[show jb0 d=7 by unfold jb0;rw[hdv];rfl];clear hdv;have HO:=Lib.hid (jgh (d:=noDev) (A1:=none) (m1:=0) (k1:=0) (A2:=none) (m2:=0) (k2:=0) (q:=w.heap.size + 1) (by omega) H1.out.2.1 (World.ownsRow_nil _ _ _ _) (World.ownsRow_nil _ _ _ _) (fun b hb=>by simp[noDev]at hb) (fun b hb=>by simp[noDev]at hb) (by unfold u32Ok noDev;simp) (by unfold jho noDev;simp) (fun g g' h=>by simp[Value.ownBlock]at h) H1.out.1);go_wp2_with (first
   |((with_reducible refine jar 25 ?_);refine jah rfl 25 _ rfl [] rfl _ dev_zero ?_)
   |((with_reducible refine jam 25 ?_);(refine wpList_store_row rfl 25 (.tmp 6) _ rfl (w.heap.size + 1) #[.int .u32 0, .slice none 0 0, .slice none 0 0, .bool false, .int .i64 0] rfl rfl 25 _ H1.out.2.1 (by rw[jbz];rfl) rfl (jeo _ _ _ _ _ _ _ _ _) ?_)))
  refine bodyPost_ret (jb6 rfl _ (w.heap.size + 1) _ (0,0) _ rfl HO.out.1 rfl) rfl ⟨.agg (jd5 noDev none 0 0 none 0 0),?_,?_,HO.out.2.2⟩
  ·rw[HD.out];rfl
  ·rw[HD.out];exact HO.out.2.1
 |true=>
  have HDV:=Lib.hid hdv;rw[show jb0 d=0 by unfold jb0;rw[hdv];rfl];clear hdv;go_wp2_with (fail);go_at_call 73;refine(jmd w1 _ d (HV.out.below H1.out.1 (Nat.le_refl _)) hl hl2).mono ?_;rintro e w2 ⟨p,rfl,hdr,hbk2⟩;have hr2:=(hbk2.block _ l3).trans H1.out.2.1;have hx2:=(hbk2.block _ l4).trans H1.out.2.2;have c0:w2.cell? ⟨w.heap.size,0,none⟩=some (.int .u32 d.size):=by rw[cell_of_row _ _ _ _ _ _ hx2];rfl
  have c1:w2.cell? ⟨w.heap.size,1,none⟩=some (.slice A n c):=by rw[cell_of_row _ _ _ _ _ _ hx2];rfl
  have c2:w2.cell? ⟨w.heap.size,2,none⟩=some (.slice A2 d.waits.length c2):=by rw[cell_of_row _ _ _ _ _ _ hx2];rfl
  have c3:w2.cell? ⟨w.heap.size,3,none⟩=some (.bool d.down):=by rw[cell_of_row _ _ _ _ _ _ hx2];rfl
  have c4:w2.cell? ⟨w.heap.size,4,none⟩=some (.int .i64 d.fuse):=by rw[cell_of_row _ _ _ _ _ _ hx2];rfl
  have HB2:=Lib.hid (H1.out.1.trans (hbk2.mono H1.out.1.size));obtain⟨bv,wv,mn,hp,hpB,ho1,ho2,hw1,hw2,hs1,hf1,hap⟩:=hdr;obtain⟨B1,m1,k1,rfl⟩:=jan ho1;obtain⟨B2,m2,k2,rfl⟩:=jan ho2;have hle:w.heap.size≤w1.heap.size:=H1.out.1.size;have HP:=Lib.hid (And.intro hp (And.intro hpB (And.intro ho1 (And.intro ho2 (And.intro hw1 (And.intro hw2 (And.intro hs1 hf1)))))));have p0:w2.cell? ⟨p,0,none⟩=some (.int .u32 d.size):=by rw[cell_of_row _ _ _ _ _ _ hp];rfl
  have p1:w2.cell? ⟨p,1,none⟩=some (.slice B1 m1 k1):=by rw[cell_of_row _ _ _ _ _ _ hp];rfl
  have p2:w2.cell? ⟨p,2,none⟩=some (.slice B2 m2 k2):=by rw[cell_of_row _ _ _ _ _ _ hp];rfl
  have p3:w2.cell? ⟨p,3,none⟩=some (.bool d.down):=by rw[cell_of_row _ _ _ _ _ _ hp];rfl
  have p4:w2.cell? ⟨p,4,none⟩=some (.int .i64 d.fuse):=by rw[cell_of_row _ _ _ _ _ _ hp];rfl
  have HR2:=Lib.hid hr2;have lp:=lt_of_block hp;have hne:p≠w.heap.size + 1:=by intro e;rw[e]at hpB;omega
  clear hbk2 hr2 hx2 hp hpB ho1 ho2 hw1 hw2 b0 b1 b2 b3 b4;have HOE:=Lib.hid (jgh (w:=w) (d:=d) (q:=w.heap.size + 1) (by omega) HR2.out (jd4 HP.out.2.2.1 hle) (jd4 HP.out.2.2.2.1 hle) HP.out.2.2.2.2.1 HP.out.2.2.2.2.2.1 hsz hfu hap HB2.out);cases hdn:d.down with
  |true=>
   rw[hdn]at c3 p3;have hdn2:=hdn;have HD:=Lib.hid (show jbg d num data=(d,17) by
    unfold jbg;have he:jes d num data=17:=by unfold jes;rw[hdn2];rfl
    rw[if_neg (by rw[HDV.out];simp),he,if_pos (by simp)])
   have hrow:jd5 d B1 m1 k1 B2 m2 k2= #[.int .u32 d.size, .slice B1 m1 k1, .slice B2 m2 k2, .bool true, .int .i64 d.fuse]:=by unfold jd5;rw[hdn]
   have hox:=HOE.out;rw[hrow]at hox;have HOX:=Lib.hid hox;clear hox hrow;go_wp2_with (first
    |((with_reducible refine jam 25 ?_);(refine wpList_store_row rfl 25 (.tmp 6) _ rfl (w.heap.size + 1) #[.int .u32 d.size, .slice B1 m1 k1, .slice B2 m2 k2, .bool true, .int .i64 d.fuse] rfl rfl 25 _ HR2.out (by rw[jbz];rfl) rfl (jeo _ _ _ _ _ _ _ _ _) ?_)))
   refine bodyPost_ret (jb6 rfl _ (w.heap.size + 1) _ (0,0) _ rfl HOX.out.1 rfl) rfl ⟨.agg #[.int .u32 d.size, .slice B1 m1 k1, .slice B2 m2 k2, .bool true, .int .i64 d.fuse],?_,?_,HOX.out.2.2⟩
   ·rw[HD.out];rfl
   ·rw[HD.out];exact HOX.out.2.1
  |false=>
   rw[hdn]at c3 p3;by_cases hn1:d.size≤num
   ·have q1:decide (num≥d.size)=true:=decide_eq_true hn1;have q1':decide (d.size≤num)=true:=decide_eq_true hn1;have HD:=Lib.hid (show jbg d num data=(d,1) by
     unfold jbg;have he:jes d num data=1:=by unfold jes;rw[hdn,if_neg (by simp),if_pos hn1]
     rw[if_neg (by rw[HDV.out];simp),he,if_pos (by simp)])
    have hrow:jd5 d B1 m1 k1 B2 m2 k2= #[.int .u32 d.size, .slice B1 m1 k1, .slice B2 m2 k2, .bool false, .int .i64 d.fuse]:=by unfold jd5;rw[hdn]
    have hox:=HOE.out;rw[hrow]at hox;have HOX:=Lib.hid hox;clear hox hrow;go_wp2_with (first
     |((with_reducible refine jam 25 ?_);(refine wpList_store_row rfl 25 (.tmp 6) _ rfl (w.heap.size + 1) #[.int .u32 d.size, .slice B1 m1 k1, .slice B2 m2 k2, .bool false, .int .i64 d.fuse] rfl rfl 25 _ HR2.out (by rw[jbz];rfl) rfl (jeo _ _ _ _ _ _ _ _ _) ?_)))
    refine bodyPost_ret (jb6 rfl _ (w.heap.size + 1) _ (0,0) _ rfl HOX.out.1 rfl) rfl ⟨.agg #[.int .u32 d.size, .slice B1 m1 k1, .slice B2 m2 k2, .bool false, .int .i64 d.fuse],?_,?_,HOX.out.2.2⟩
    ·rw[HD.out];rfl
    ·rw[HD.out];exact HOX.out.2.1
   ·have q1:decide (num≥d.size)=false:=decide_eq_false hn1;have q1':decide (d.size≤num)=false:=decide_eq_false hn1;by_cases hn2:512 < data.size
    ·have q2:decide ((data.size:Int)>512)=true:=decide_eq_true (by omega);have q2':decide (512 < (data.size:Int))=true:=decide_eq_true (by omega);have HD:=Lib.hid (show jbg d num data=(d,2) by
      unfold jbg;have he:jes d num data=2:=by unfold jes;rw[hdn,if_neg (by simp),if_neg hn1,if_pos hn2]
      rw[if_neg (by rw[HDV.out];simp),he,if_pos (by simp)])
     have hrow:jd5 d B1 m1 k1 B2 m2 k2= #[.int .u32 d.size, .slice B1 m1 k1, .slice B2 m2 k2, .bool false, .int .i64 d.fuse]:=by unfold jd5;rw[hdn]
     have hox:=HOE.out;rw[hrow]at hox;have HOX:=Lib.hid hox;clear hox hrow;go_wp2_with (first
      |((with_reducible refine jam 25 ?_);(refine wpList_store_row rfl 25 (.tmp 6) _ rfl (w.heap.size + 1) #[.int .u32 d.size, .slice B1 m1 k1, .slice B2 m2 k2, .bool false, .int .i64 d.fuse] rfl rfl 25 _ HR2.out (by rw[jbz];rfl) rfl (jeo _ _ _ _ _ _ _ _ _) ?_)))
     refine bodyPost_ret (jb6 rfl _ (w.heap.size + 1) _ (0,0) _ rfl HOX.out.1 rfl) rfl ⟨.agg #[.int .u32 d.size, .slice B1 m1 k1, .slice B2 m2 k2, .bool false, .int .i64 d.fuse],?_,?_,HOX.out.2.2⟩
     ·rw[HD.out];rfl
     ·rw[HD.out];exact HOX.out.2.1
    ·have q2:decide ((data.size:Int)>512)=false:=decide_eq_false (by omega);have q2':decide (512 < (data.size:Int))=false:=decide_eq_false (by omega);by_cases hn3:16384≤d.waits.length
     ·have q3:decide ((d.waits.length:Int)≥16384)=true:=decide_eq_true (by omega);have q3':decide (16384≤(d.waits.length:Int))=true:=decide_eq_true (by omega);have HD:=Lib.hid (show jbg d num data=(d,8) by
       unfold jbg;have he:jes d num data=8:=by unfold jes;rw[hdn,if_neg (by simp),if_neg hn1,if_neg hn2,if_pos hn3]
       rw[if_neg (by rw[HDV.out];simp),he,if_pos (by simp)])
      have hrow:jd5 d B1 m1 k1 B2 m2 k2= #[.int .u32 d.size, .slice B1 m1 k1, .slice B2 m2 k2, .bool false, .int .i64 d.fuse]:=by unfold jd5;rw[hdn]
      have hox:=HOE.out;rw[hrow]at hox;have HOX:=Lib.hid hox;clear hox hrow;go_wp2_with (first
       |((with_reducible refine jam 25 ?_);(refine wpList_store_row rfl 25 (.tmp 6) _ rfl (w.heap.size + 1) #[.int .u32 d.size, .slice B1 m1 k1, .slice B2 m2 k2, .bool false, .int .i64 d.fuse] rfl rfl 25 _ HR2.out (by rw[jbz];rfl) rfl (jeo _ _ _ _ _ _ _ _ _) ?_)))
      refine bodyPost_ret (jb6 rfl _ (w.heap.size + 1) _ (0,0) _ rfl HOX.out.1 rfl) rfl ⟨.agg #[.int .u32 d.size, .slice B1 m1 k1, .slice B2 m2 k2, .bool false, .int .i64 d.fuse],?_,?_,HOX.out.2.2⟩
      ·rw[HD.out];rfl
      ·rw[HD.out];exact HOX.out.2.1
     ·have q3:decide ((d.waits.length:Int)≥16384)=false:=decide_eq_false (by omega);have q3':decide (16384≤(d.waits.length:Int))=false:=decide_eq_false (by omega);have HWE:=Lib.hid (show jes d num data=0 by unfold jes;rw[hdn,if_neg (by simp),if_neg hn1,if_neg hn2,if_neg hn3]);obtain⟨i0,z0,hi,hz0,hz1,hz2,hzs⟩:=jbw jiw;have hcs:strOk (cutB data):=by unfold strOk;have:=cut_size data;omega
      have hone:∀u∈[Value.int .u32 num, .string (cutB data)],u.oneCell'=true:=by intro u hu;simp at hu;rcases hu with rfl|rfl <;>rfl
      have HONE:=Lib.hid hone;have HCS:=Lib.hid hcs;have hw12:w1.heap.size≤w2.heap.size:=by have:=HP.out.2.1;omega
      have hwl:d.waits.length < 16384:=by omega
      clear hone hcs;go_wp2_with (fail);go_region_law (first
       |(refine step_append_lies (w:=_) rfl (.tmp 48) (.tmp 53) 23 rfl w1.heap.size 160 i0 z0 2 24 Tryz.underlying23 hi hz0 hz1 hz2 hzs (by decide) _ d.waits.length _ (by simp[Act.eval,Act.put]) (HP.out.2.2.2.1.alloc (.cells #[.int .u32 num, .string (cutB data)] 160)) ⟨w2.heap.size,0,none⟩ 1 1 [.int .u32 num, .string (cutB data)] (by simp[Act.eval,Act.put]) rfl (fun j u hj=>by rw[jcl,Nat.zero_add];exact jay (t:=160) j u hj) HONE.out (by decide) (by unfold maxLen;omega) (by omega) (by simp;omega) (w2.heap.size + 1) (by simp) ?_;intro g cap wd ho9 hg9 hgh9 hgl9;have hpd:=(hg9.block p (by simp;omega) (fun e=>jb8 HP.out.2.2.2.1 HP.out.1 (by decide) e.symm)).trans (show _=some _ from(Lib.alloc_old w2 _ p lp).trans HP.out.1);have s2:wd.cell? ⟨p,2,none⟩=some (.slice B2 m2 k2):=(by rw[cell_of_row _ _ _ _ _ _ hpd];rfl);have z2:=frozen_of_row wd p 2 _ _ hpd;have H9:=Lib.hid (And.intro ho9 (And.intro hg9 (And.intro hgh9 hpd)));clear ho9 hg9 hgh9 hpd)
       |(go_simp;go_at_call 76;refine(jf1 data _ hdata).mono ?_;rintro e _ ⟨rfl,rfl⟩))
      all_goals(
       have ho1':=World.ownsRow.kept (HP.out.2.2.1.alloc (.cells #[.int .u32 num, .string (cutB data)] 160)) (w':=wd) ⟨H9.out.2.1.os,H9.out.2.1.tape,H9.out.2.1.output,H9.out.2.1.size,H9.out.2.1.block⟩ (by
        cases h1:(Value.slice B1 m1 k1).ownBlock with
        |none=>exact Or.inl rfl
        |some g1=>exact Or.inr fun e=>hap g1 g1 h1 e.symm rfl)
       have hpd:=H9.out.2.2.2;have hgs:wd.grownBy (wd.setCell ⟨p,2,none⟩ (.slice (some ⟨g,0,none⟩) (d.waits.length + 1) cap)) (some p):=jap (World.grownBy.refl wd (some p)) 2 _;have hap1:∀g1 g',(Value.slice B1 m1 k1).ownBlock=some g1→(Value.slice (some ⟨g,0,none⟩) (d.waits.length + 1) cap).ownBlock=some g'→g1≠g':=by
        intro g1 g' h1 h2 e;have h3:g=g':=by simpa[Value.ownBlock]using h2
        have h4:=(HP.out.2.2.1.lt g1 h1).2;rcases H9.out.2.2.1 with h5|h5
        ·exact hap g1 g h1 h5 (by rw[e,h3])
        ·omega
       have hbw:Below w.heap.size w (wd.setCell ⟨p,2,none⟩ (.slice (some ⟨g,0,none⟩) (d.waits.length + 1) cap)):=by
        have hs:=H9.out.2.1.size;have hbs:=HB2.out.size;have hw1s:=HP.out.2.1;refine HB2.out.trans ⟨H9.out.2.1.os,H9.out.2.1.tape,H9.out.2.1.output,?_,fun k hk=>?_⟩
        ·exact Nat.le_trans (by simp at hs;omega) hgs.size
        ·rw[hgs.block k (by simp at hs;omega) (by intro e;have h8:k=p:=Option.some.inj e;omega),H9.out.2.1.block k (by simp;omega) (fun e=>by have:=(HP.out.2.2.2.1.lt _ e.symm).1;omega)];exact Lib.alloc_old w2 _ k (by omega)
       have hd1:DrvO w.heap.size (wd.setCell ⟨p,2,none⟩ (.slice (some ⟨g,0,none⟩) (d.waits.length + 1) cap)) p {d with waits:=d.waits ++ [⟨num,cutB data⟩]}:=by
        refine⟨.slice B1 m1 k1, .slice (some ⟨g,0,none⟩) (d.waits.length + 1) cap,mn,ja2 hpd 2 _,Nat.le_trans hle HP.out.2.1,jd4 (jat ho1' hgs hpd (by decide)) hle,?_,HP.out.2.2.2.2.1,?_,hsz,hfu,hap1⟩
        ·have h9:=jd4 (jat H9.out.1 hgs hpd (by decide)) hle;simp only[List.length_append,List.length_singleton,List.flatMap_append];exact h9
        ·intro b hb;rcases List.mem_append.1 hb with hb|hb
         ·exact HP.out.2.2.2.2.2.1 b hb
         ·rw[List.mem_singleton.1 hb];exact⟨hnum,HCS.out⟩
       have hres:(wd.setCell ⟨p,2,none⟩ (.slice (some ⟨g,0,none⟩) (d.waits.length + 1) cap)).heap[w.heap.size + 1]? =some (.cells #[.int .u32 0, .slice none 0 0, .slice none 0 0, .bool false, .int .i64 0] 25 (0,0)):=by
        have hq:=lt_of_block HR2.out;rw[hgs.block _ (by have:=H9.out.2.1.size;simp at this;omega) (by intro e;exact hne (Option.some.inj e).symm),H9.out.2.1.block _ (by simp;omega) (fun e=>jb8 HP.out.2.2.2.1 HR2.out (by decide) e.symm)];exact(Lib.alloc_old w2 _ _ hq).trans HR2.out
       have HW3:=Lib.hid (And.intro hd1 (And.intro hbw hres));clear ho1' hgs hap1 hbw hd1 hres hpd s2 z2;generalize wd.setCell ⟨p,2,none⟩ (.slice (some ⟨g,0,none⟩) (d.waits.length + 1) cap)=w3 at *;go_wp2_with (fail);go_at_call 149;refine(jme w.heap.size w3 p _ HW3.out.1).mono ?_;rintro e w4 ⟨rfl,hd4,hg4⟩;have hr4:=(hg4.block _ (lt_of_block HW3.out.2.2) (by intro e;exact hne (Option.some.inj e).symm)).trans HW3.out.2.2;have hb4:Below w.heap.size w w4:=HW3.out.2.1.grown hg4 HW3.out.2.1.size (fun q hq=>by have h9:p=q:=Option.some.inj hq;have:=HP.out.2.1;omega);obtain⟨bv4,wv4,mn4,hp4,_,ho41,ho42,hw41,hw42,hs4,hf4,hap4⟩:=hd4;obtain⟨E1,f1,g1,rfl⟩:=jan ho41;obtain⟨E2,f2,g2,rfl⟩:=jan ho42;have HD0:=Lib.hid (show jbg d num data=(burnD {d with waits:=d.waits ++ [⟨num,cutB data⟩]},if(burnD d).down=true then 17 else 0) by
        unfold jbg;rw[if_neg (by rw[HDV.out];simp),if_neg (by rw[HWE.out];simp)])
       have hbd:(burnD d).down=(burnD {d with waits:=d.waits ++ [⟨num,cutB data⟩]}).down:=rfl;rw[hbd]at HD0;obtain⟨d4,hd4⟩:∃d4,burnD {d with waits:=d.waits ++ [⟨num,cutB data⟩]}=d4:=⟨_,rfl⟩
       rw[hd4]at HD0 hp4 ho41 ho42 hw41 hw42 hs4 hf4 ⊢;have p0:w4.cell? ⟨p,0,none⟩=some (.int .u32 d4.size):=by rw[cell_of_row _ _ _ _ _ _ hp4];rfl
       have p1:w4.cell? ⟨p,1,none⟩=some (.slice E1 f1 g1):=by rw[cell_of_row _ _ _ _ _ _ hp4];rfl
       have p2:w4.cell? ⟨p,2,none⟩=some (.slice E2 f2 g2):=by rw[cell_of_row _ _ _ _ _ _ hp4];rfl
       have p3:w4.cell? ⟨p,3,none⟩=some (.bool d4.down):=by rw[cell_of_row _ _ _ _ _ _ hp4];rfl
       have p4:w4.cell? ⟨p,4,none⟩=some (.int .i64 d4.fuse):=by rw[cell_of_row _ _ _ _ _ _ hp4];rfl
       have HOF:=Lib.hid (jgh (w:=w) (d:=d4) (q:=w.heap.size + 1) (by omega) hr4 ho41 ho42 hw41 hw42 hs4 hf4 hap4 hb4);have HR4:=Lib.hid hr4;clear hr4 hb4 hp4 ho41 ho42 hw41 hw42 hs4 hf4 hap4 hg4 hd4 hbd;obtain⟨s4,bl4,wt4,dn4,fu4⟩:=d4;simp only at p0 p3 p4 HD0 ⊢;cases dn4 with
       |true=>
        have HD:=Lib.hid HD0.out;go_wp2_with (first
         |((with_reducible refine jam 25 ?_);(refine wpList_store_row rfl 25 (.tmp 6) _ rfl (w.heap.size + 1) #[.int .u32 s4, .slice E1 f1 g1, .slice E2 f2 g2, .bool true, .int .i64 fu4] rfl rfl 25 _ HR4.out (by rw[jbz];rfl) rfl (jeo _ _ _ _ _ _ _ _ _) ?_)))
        refine bodyPost_ret (jb6 rfl _ (w.heap.size + 1) _ (0,0) _ rfl HOF.out.1 rfl) rfl ⟨.agg #[.int .u32 s4, .slice E1 f1 g1, .slice E2 f2 g2, .bool true, .int .i64 fu4],?_,?_,HOF.out.2.2⟩
        ·rw[HD.out];rfl
        ·rw[HD.out];exact HOF.out.2.1
       |false=>
        have HD:=Lib.hid HD0.out;go_wp2_with (first
         |((with_reducible refine jam 25 ?_);(refine wpList_store_row rfl 25 (.tmp 6) _ rfl (w.heap.size + 1) #[.int .u32 s4, .slice E1 f1 g1, .slice E2 f2 g2, .bool false, .int .i64 fu4] rfl rfl 25 _ HR4.out (by rw[jbz];rfl) rfl (jeo _ _ _ _ _ _ _ _ _) ?_)))
        refine bodyPost_ret (jb6 rfl _ (w.heap.size + 1) _ (0,0) _ rfl HOF.out.1 rfl) rfl ⟨.agg #[.int .u32 s4, .slice E1 f1 g1, .slice E2 f2 g2, .bool false, .int .i64 fu4],?_,?_,HOF.out.2.2⟩
        ·rw[HD.out];rfl
        ·rw[HD.out];exact HOF.out.2.1)
def zDev:Array Value:= #[.int .u32 0, .slice none 0 0, .slice none 0 0, .bool false, .int .i64 0]
def FlAt(w wr:World)(p:Nat)(d:Dv)(wv:Value)(mn:Int)(bs:List Blk):Prop:=∃bv,wr.heap[p]? =some (.cells (jl8 {d with blocks:=bs} bv wv mn) 114 (0,0))∧w.heap.size≤p∧
 wr.ownsRow w.heap.size 160 2 bv bs.length (bs.flatMap blkE.enc)∧wr.ownsRow w.heap.size 160 2 wv d.waits.length (d.waits.flatMap blkE.enc)∧
 (∀g g',bv.ownBlock=some g→wv.ownBlock=some g'→g≠g')∧wr.heap[w.heap.size + 1]? =some (.cells zDev 25 (0,0))∧Below w.heap.size w wr
theorem FlAt.put{w wr w2:World}{p:Nat}{d:Dv}{wv bv:Value}{mn:Int}{bs:List Blk}{b:Blk}(h1:wr.heap[p]? =some (.cells (jl8 {d with blocks:=bs} bv wv mn) 114 (0,0)))(h2:w.heap.size≤p)
 (h3:wr.ownsRow w.heap.size 160 2 bv bs.length (bs.flatMap blkE.enc)) (h4:wr.ownsRow w.heap.size 160 2 wv d.waits.length (d.waits.flatMap blkE.enc))
 (h5:∀g g',bv.ownBlock=some g→wv.ownBlock=some g'→g≠g') (h6:wr.heap[w.heap.size + 1]? =some (.cells zDev 25 (0,0))) (h7:Below w.heap.size w wr)
 (k:PutTo w.heap.size wr w2 p {d with blocks:=bs} bv wv mn b):FlAt w w2 p d wv mn (putB bs b):=by
 obtain⟨bv',k1,k2,k3,k4⟩:=k;refine⟨bv',k1,h2,k2,?_,fun g g' hg hg'=>?_,?_,?_⟩
 ·refine⟨h4.1,?_⟩;have hne:=jb8 h4 h1 (by decide);rcases h4.2 with hn|⟨g,cap,cur,rfl,hb,hgg,rest⟩
  ·exact .inl hn
  ·refine .inr ⟨g,cap,cur,rfl,hb,?_,rest⟩;exact(k4.block g (lt_of_block hgg) (fun e=>hne (by rw[e];rfl)) (fun e=>h5 g g e rfl rfl)).trans hgg
 ·rcases k3 g hg with h|h
  ·exact h5 g g' h hg'
  ·have:=(h4.lt g' hg').2;omega
 ·refine(k4.block _ (lt_of_block h6) (fun e=>?_) (fun e=>?_)).trans h6
  ·rw[e]at h6;rw[h6]at h1;injection h1 with h1;injection h1 with h1 h2;cases h2
  ·exact jb8 h3 h6 (by decide) e
 ·refine h7.trans ⟨k4.os,k4.tape,k4.output,k4.size,fun i hi=>k4.block i (Nat.lt_of_lt_of_le hi h7.size) (by omega) (fun e=>?_)⟩;have:=(h3.lt i e).1;omega
theorem rise_blk_len{bs:List Blk}(h:RiseB bs){s:Int}(hs:s≤65536)(hb:∀b∈bs,0≤b.num∧b.num < s)(h0:0≤s):bs.length≤65536:=by
 have:=jg2 (bs.map (fun b=>b.num)) 0 s (show(bs.map (fun b=>b.num)).Pairwise (· < ·)from h) (fun x hx=>by obtain⟨b,hb',rfl⟩:=List.mem_map.1 hx;exact hb b hb') h0;simp at this;omega
theorem jkg(w:World)(v:Value)(d:Dv)(hv:DevV w v d)(hl:d.blocks.length≤1073741824)(hl2:d.waits.length≤1073741824):
 Calls Tryz.prog 94 #[v] w fun e w'=>DevPost w (jbs d) e w':=by
 have HV:=Lib.hid hv;obtain⟨bv,wv,rfl,hbs,hws,hsz,hfu⟩:=hv;obtain⟨A,n,c,rfl⟩:=jax hbs;obtain⟨A2,n2,c2,rfl⟩:=jax hws;have hn2:=(hws.len_eq).1;subst hn2;clear hbs hws;have hbb:=(jb2 w #[.int .u32 d.size, .slice A n c, .slice A2 d.waits.length c2, .bool d.down, .int .i64 d.fuse] 25).alloc (by simp) (.cells #[.int .u32 0, .slice none 0 0, .slice none 0 0, .bool false, .int .i64 0] 25);have hb1:=two_newV w #[.int .u32 d.size, .slice A n c, .slice A2 d.waits.length c2, .bool d.down, .int .i64 d.fuse] 25 #[.int .u32 0, .slice none 0 0, .slice none 0 0, .bool false, .int .i64 0] 25;have hb2:=two_oldV w #[.int .u32 d.size, .slice A n c, .slice A2 d.waits.length c2, .bool d.down, .int .i64 d.fuse] 25 #[.int .u32 0, .slice none 0 0, .slice none 0 0, .bool false, .int .i64 0] 25;go_enter Tryz.func94,Tryz.ntmps94;go_upto_region 1 with(fail);generalize(w.alloc (.cells #[.int .u32 d.size, .slice A n c, .slice A2 d.waits.length c2, .bool d.down, .int .i64 d.fuse] 25)).alloc (.cells #[.int .u32 0, .slice none 0 0, .slice none 0 0, .bool false, .int .i64 0] 25)=wa at *;have a0:wa.cell? ⟨w.heap.size,0,none⟩=some (.int .u32 d.size):=by rw[cell_of_row _ _ _ _ _ _ hb2];rfl
 have a1:wa.cell? ⟨w.heap.size,1,none⟩=some (.slice A n c):=by rw[cell_of_row _ _ _ _ _ _ hb2];rfl
 have a2:wa.cell? ⟨w.heap.size,2,none⟩=some (.slice A2 d.waits.length c2):=by rw[cell_of_row _ _ _ _ _ _ hb2];rfl
 have a3:wa.cell? ⟨w.heap.size,3,none⟩=some (.bool d.down):=by rw[cell_of_row _ _ _ _ _ _ hb2];rfl
 have a4:wa.cell? ⟨w.heap.size,4,none⟩=some (.int .i64 d.fuse):=by rw[cell_of_row _ _ _ _ _ _ hb2];rfl
 have l2:=lt_of_block hb2;have l1:=lt_of_block hb1;have H0:=Lib.hid (And.intro hbb (And.intro hb1 hb2));clear hbb hb1 hb2;go_wp2_with (fail);go_at_call 30;refine(jdu wa _ d (HV.out.below H0.out.1 (Nat.le_refl _)) hl hl2).mono ?_;rintro e w1 ⟨rfl,hbk1⟩;have hr1:=(hbk1.block _ l1).trans H0.out.2.1;have hx1:=(hbk1.block _ l2).trans H0.out.2.2;have b0:w1.cell? ⟨w.heap.size,0,none⟩=some (.int .u32 d.size):=by rw[cell_of_row _ _ _ _ _ _ hx1];rfl
 have b1:w1.cell? ⟨w.heap.size,1,none⟩=some (.slice A n c):=by rw[cell_of_row _ _ _ _ _ _ hx1];rfl
 have b2:w1.cell? ⟨w.heap.size,2,none⟩=some (.slice A2 d.waits.length c2):=by rw[cell_of_row _ _ _ _ _ _ hx1];rfl
 have b3:w1.cell? ⟨w.heap.size,3,none⟩=some (.bool d.down):=by rw[cell_of_row _ _ _ _ _ _ hx1];rfl
 have b4:w1.cell? ⟨w.heap.size,4,none⟩=some (.int .i64 d.fuse):=by rw[cell_of_row _ _ _ _ _ _ hx1];rfl
 have l3:=lt_of_block hr1;have l4:=lt_of_block hx1;have H1:=Lib.hid (And.intro (H0.out.1.trans (hbk1.mono H0.out.1.size)) (And.intro hr1 hx1));clear hbk1 hr1 hx1 a0 a1 a2 a3 a4;cases hdv:devB d with
 |false=>
  have HD:=Lib.hid (show jbs d=(noDev,7) by unfold jbs;rw[if_pos hdv]);rw[show jb0 d=7 by unfold jb0;rw[hdv];rfl];clear hdv;have HO:=Lib.hid (jgh (d:=noDev) (A1:=none) (m1:=0) (k1:=0) (A2:=none) (m2:=0) (k2:=0) (q:=w.heap.size + 1) (by omega) H1.out.2.1 (World.ownsRow_nil _ _ _ _) (World.ownsRow_nil _ _ _ _) (fun b hb=>by simp[noDev]at hb) (fun b hb=>by simp[noDev]at hb) (by unfold u32Ok noDev;simp) (by unfold jho noDev;simp) (fun g g' h=>by simp[Value.ownBlock]at h) H1.out.1);go_wp2_with (first
   |((with_reducible refine jar 25 ?_);refine jah rfl 25 _ rfl [] rfl _ dev_zero ?_)
   |((with_reducible refine jam 25 ?_);(refine wpList_store_row rfl 25 (.tmp 2) _ rfl (w.heap.size + 1) #[.int .u32 0, .slice none 0 0, .slice none 0 0, .bool false, .int .i64 0] rfl rfl 25 _ H1.out.2.1 (by rw[jbz];rfl) rfl (jeo _ _ _ _ _ _ _ _ _) ?_)))
  refine bodyPost_ret (jb6 rfl _ (w.heap.size + 1) _ (0,0) _ rfl HO.out.1 rfl) rfl ⟨.agg (jd5 noDev none 0 0 none 0 0),?_,?_,HO.out.2.2⟩
  ·rw[HD.out];rfl
  ·rw[HD.out];exact HO.out.2.1
 |true=>
  have HDV:=Lib.hid hdv;rw[show jb0 d=0 by unfold jb0;rw[hdv];rfl];clear hdv;go_wp2_with (fail);go_at_call 73;refine(jmd w1 _ d (HV.out.below H1.out.1 (Nat.le_refl _)) hl hl2).mono ?_;rintro e w2 ⟨p,rfl,hdr,hbk2⟩;have hr2:=(hbk2.block _ l3).trans H1.out.2.1;have hx2:=(hbk2.block _ l4).trans H1.out.2.2;have c0:w2.cell? ⟨w.heap.size,0,none⟩=some (.int .u32 d.size):=by rw[cell_of_row _ _ _ _ _ _ hx2];rfl
  have c1:w2.cell? ⟨w.heap.size,1,none⟩=some (.slice A n c):=by rw[cell_of_row _ _ _ _ _ _ hx2];rfl
  have c2:w2.cell? ⟨w.heap.size,2,none⟩=some (.slice A2 d.waits.length c2):=by rw[cell_of_row _ _ _ _ _ _ hx2];rfl
  have c3:w2.cell? ⟨w.heap.size,3,none⟩=some (.bool d.down):=by rw[cell_of_row _ _ _ _ _ _ hx2];rfl
  have c4:w2.cell? ⟨w.heap.size,4,none⟩=some (.int .i64 d.fuse):=by rw[cell_of_row _ _ _ _ _ _ hx2];rfl
  have HB2:=Lib.hid (H1.out.1.trans (hbk2.mono H1.out.1.size));obtain⟨bv,wv,mn,hp,hpB,ho1,ho2,hw1,hw2,hs1,hf1,hap⟩:=hdr;obtain⟨B1,m1,k1,rfl⟩:=jan ho1;obtain⟨B2,m2,k2,rfl⟩:=jan ho2;have hle:w.heap.size≤w1.heap.size:=H1.out.1.size;have HP:=Lib.hid (And.intro hp (And.intro hpB (And.intro ho1 (And.intro ho2 (And.intro hw1 (And.intro hw2 (And.intro hs1 hf1)))))));have p0:w2.cell? ⟨p,0,none⟩=some (.int .u32 d.size):=by rw[cell_of_row _ _ _ _ _ _ hp];rfl
  have p1:w2.cell? ⟨p,1,none⟩=some (.slice B1 m1 k1):=by rw[cell_of_row _ _ _ _ _ _ hp];rfl
  have p2:w2.cell? ⟨p,2,none⟩=some (.slice B2 m2 k2):=by rw[cell_of_row _ _ _ _ _ _ hp];rfl
  have p3:w2.cell? ⟨p,3,none⟩=some (.bool d.down):=by rw[cell_of_row _ _ _ _ _ _ hp];rfl
  have p4:w2.cell? ⟨p,4,none⟩=some (.int .i64 d.fuse):=by rw[cell_of_row _ _ _ _ _ _ hp];rfl
  have HR2:=Lib.hid hr2;have HX2:=Lib.hid hx2;have lp:=lt_of_block hp;have hne:p≠w.heap.size + 1:=by intro e;rw[e]at hpB;omega
  clear hbk2 hr2 hx2 hp hpB ho1 ho2 hw1 hw2 b0 b1 b2 b3 b4;have HOE:=Lib.hid (jgh (w:=w) (d:=d) (q:=w.heap.size + 1) (by omega) HR2.out (jd4 HP.out.2.2.1 hle) (jd4 HP.out.2.2.2.1 hle) HP.out.2.2.2.2.1 HP.out.2.2.2.2.2.1 hsz hfu hap HB2.out);cases hdn:d.down with
  |true=>
   rw[hdn]at c3 p3;have HD:=Lib.hid (show jbs d=(d,17) by unfold jbs;rw[if_neg (by rw[HDV.out];simp),hdn,if_pos rfl]);have hrow:jd5 d B1 m1 k1 B2 m2 k2= #[.int .u32 d.size, .slice B1 m1 k1, .slice B2 m2 k2, .bool true, .int .i64 d.fuse]:=by unfold jd5;rw[hdn]
   have hox:=HOE.out;rw[hrow]at hox;have HOX:=Lib.hid hox;clear hox hrow;go_wp2_with (first
    |((with_reducible refine jam 25 ?_);(refine wpList_store_row rfl 25 (.tmp 2) _ rfl (w.heap.size + 1) #[.int .u32 d.size, .slice B1 m1 k1, .slice B2 m2 k2, .bool true, .int .i64 d.fuse] rfl rfl 25 _ HR2.out (by rw[jbz];rfl) rfl (jeo _ _ _ _ _ _ _ _ _) ?_)))
   refine bodyPost_ret (jb6 rfl _ (w.heap.size + 1) _ (0,0) _ rfl HOX.out.1 rfl) rfl ⟨.agg #[.int .u32 d.size, .slice B1 m1 k1, .slice B2 m2 k2, .bool true, .int .i64 d.fuse],?_,?_,HOX.out.2.2⟩
   ·rw[HD.out];rfl
   ·rw[HD.out];exact HOX.out.2.1
  |false=>
   rw[hdn]at c3 p3;have HDO:=Lib.hid (show DrvO w.heap.size w2 p d from⟨_,_,mn,HP.out.1,Nat.le_trans hle HP.out.2.1,jd4 HP.out.2.2.1 hle,jd4 HP.out.2.2.2.1 hle,HP.out.2.2.2.2.1,HP.out.2.2.2.2.2.1,hsz,hfu,hap⟩);go_wp2_with (fail);go_at_call 149;refine(jme w.heap.size w2 p d HDO.out).mono ?_;rintro e w4 ⟨rfl,hd4,hg4⟩;have hr4:=(hg4.block _ (lt_of_block HR2.out) (by intro e;exact hne (Option.some.inj e).symm)).trans HR2.out;have hb4:Below w.heap.size w w4:=HB2.out.grown hg4 HB2.out.size (fun q hq=>by have h9:p=q:=Option.some.inj hq;have:=HP.out.2.1;omega);have hx4:=(hg4.block w.heap.size (by have:=HB2.out.size;have:=lt_of_block HR2.out;omega) (by intro e;have h9:w.heap.size=p:=Option.some.inj e;have:=HP.out.2.1;omega)).trans HX2.out;obtain⟨bv4,wv4,mn4,hp4,hpB4,ho41,ho42,hw41,hw42,hs4,hf4,hap4⟩:=hd4;obtain⟨E1,f1,g1,rfl⟩:=jan ho41;obtain⟨E2,f2,g2,rfl⟩:=jan ho42;have hoe:=(jcq d).1 HDV.out;have HD0:=Lib.hid (show jbs d=if(burnD d).down then(burnD d,17)else({burnD d with blocks:=d.waits.foldl putB d.blocks,waits:=[]},0) by
    unfold jbs;rw[if_neg (by rw[HDV.out];simp),hdn,if_neg (by simp)])
   obtain⟨d4,hd4⟩:∃d4,burnD d=d4:=⟨_,rfl⟩
   have hbl:d4.blocks=d.blocks:=by rw[←hd4];rfl
   have hwl:d4.waits=d.waits:=by rw[←hd4];rfl
   rw[hd4]at HD0 hp4 ho41 ho42 hw41 hw42 hs4 hf4 ⊢;have p0:w4.cell? ⟨p,0,none⟩=some (.int .u32 d4.size):=by rw[cell_of_row _ _ _ _ _ _ hp4];rfl
   have p1:w4.cell? ⟨p,1,none⟩=some (.slice E1 f1 g1):=by rw[cell_of_row _ _ _ _ _ _ hp4];rfl
   have p2:w4.cell? ⟨p,2,none⟩=some (.slice E2 f2 g2):=by rw[cell_of_row _ _ _ _ _ _ hp4];rfl
   have p3:w4.cell? ⟨p,3,none⟩=some (.bool d4.down):=by rw[cell_of_row _ _ _ _ _ _ hp4];rfl
   have p4:w4.cell? ⟨p,4,none⟩=some (.int .i64 d4.fuse):=by rw[cell_of_row _ _ _ _ _ _ hp4];rfl
   have c3:w4.cell? ⟨w.heap.size,3,none⟩=some (.bool d.down):=by rw[cell_of_row _ _ _ _ _ _ hx4];rfl
   rw[hdn]at c3;have HR4:=Lib.hid hr4;have HB4:=Lib.hid hb4;have HO4:=Lib.hid (And.intro ho41 (And.intro ho42 (And.intro hw41 (And.intro hw42 (And.intro hs4 hf4)))));have HP4:=Lib.hid hp4;have HAP:=Lib.hid hap4;have hds:d4.size=d.size:=by rw[←hd4];rfl
   clear hr4 hb4 hp4 ho41 ho42 hw41 hw42 hs4 hf4 hap4 hg4 hx4 c0 c1 c2 c4;obtain⟨s4,bl4,wt4,dn4,fu4⟩:=d4;simp only at p0 p3 p4 HD0 hbl hwl hds HP4 HO4 ⊢;subst hbl hwl hds;cases dn4 with
   |true=>
    have HOF:=Lib.hid (jgh (w:=w) (d:=burnD d) (q:=w.heap.size + 1) (by omega) HR4.out (by rw[hd4];exact HO4.out.1) (by rw[hd4];exact HO4.out.2.1) (by rw[hd4];exact HO4.out.2.2.1) (by rw[hd4];exact HO4.out.2.2.2.1) (by rw[hd4];exact HO4.out.2.2.2.2.1) (by rw[hd4];exact HO4.out.2.2.2.2.2) HAP.out HB4.out);rw[hd4]at HOF;have HD:=Lib.hid HD0.out;go_wp2_with (first
     |((with_reducible refine jam 25 ?_);(refine wpList_store_row rfl 25 (.tmp 2) _ rfl (w.heap.size + 1) #[.int .u32 d.size, .slice E1 f1 g1, .slice E2 f2 g2, .bool true, .int .i64 fu4] rfl rfl 25 _ HR4.out (by rw[jbz];rfl) rfl (jeo _ _ _ _ _ _ _ _ _) ?_)))
    refine bodyPost_ret (jb6 rfl _ (w.heap.size + 1) _ (0,0) _ rfl HOF.out.1 rfl) rfl ⟨.agg #[.int .u32 d.size, .slice E1 f1 g1, .slice E2 f2 g2, .bool true, .int .i64 fu4],?_,?_,HOF.out.2.2⟩
    ·rw[HD.out];rfl
    ·rw[HD.out];exact HOF.out.2.1
   |false=>
    rw[show(!false)=true from rfl];have HD:=Lib.hid HD0.out;have hn2:=(jct (E:=blkE) HO4.out.2.1 rfl HO4.out.2.2.2.1).len_eq.1;subst hn2;have hwlen:d.waits.length≤16384:=hoe.wl;go_wp2_with (fail);go_loopw [7,33] (fun _ vi wr=>∃k:Nat,k≤d.waits.length∧vi= .int .i64 k∧FlAt w wr p ⟨d.size,d.blocks,d.waits,false,fu4⟩ (.slice E2 d.waits.length g2) mn4 ((d.waits.take k).foldl putB d.blocks)) (fun _ vi _=>d.waits.length - (intOf vi).toNat)
    case atStart=>exact⟨0,Nat.zero_le _,rfl,_,HP4.out,hpB4,HO4.out.1,HO4.out.2.1,HAP.out,HR4.out,HB4.out⟩
    case round=>
     obtain⟨k,hk,rfl,hfl⟩:=hrel;obtain⟨kr,kmem,_⟩:=jkz (d.waits.take k) d.blocks hoe.ris;have hwk:∀b∈d.waits.take k,b∈d.waits:=fun b hb=>(List.take_sublist _ _).subset hb
     have hwfk:∀b∈(d.waits.take k).foldl putB d.blocks,blkE.wf b:=fun b hb=>by
      rcases kmem b hb with h|h
      ·exact HO4.out.2.2.1 b h
      ·exact HO4.out.2.2.2.1 b (hwk b h.1)
     have hlenk:((d.waits.take k).foldl putB d.blocks).length≤65536:=rise_blk_len kr (s:=d.size) hoe.hi (fun b hb=>⟨(hwfk b hb).1.1,by
      rcases kmem b hb with h|h
      ·exact(show b.num < d.size by have:=(hoe.bs b h).1;simp[ja3]at this;exact this.1)
      ·exact(show b.num < d.size by have:=hoe.ws b (hwk b h.1);simp[ja3]at this;exact this.1)⟩) hsz.1
     by_cases hlt:k < d.waits.length
     ·have htk:(d.waits.take (k + 1)).foldl putB d.blocks=putB ((d.waits.take k).foldl putB d.blocks) d.waits[k]:=by
       rw[List.take_succ_eq_append_getElem hlt,List.foldl_append];rfl
      have HTK:=Lib.hid htk;clear htk;obtain⟨bv,g1,g2',g3,g4,g5,g6,g7⟩:=hfl;have hsl:=jct (E:=blkE) g4 rfl HO4.out.2.2.2.1;obtain⟨A9,c9,e9,hc,hc2,hrow⟩:=hsl;simp only[Value.slice.injEq,true_and]at e9;obtain⟨rfl,rfl⟩:=e9;obtain⟨b,o,rfl,hat,hwf⟩:=hrow k hlt;have d0:=hat.cell 0 _ rfl;have d1:=hat.cell 1 _ rfl;simp only[blkE,Nat.add_zero]at d0 d1;have hwfx:blkE.wf d.waits[k]:=hwf;obtain⟨bk,hbk⟩:∃bk,d.waits[k]=bk:=⟨_,rfl⟩
      rw[hbk]at d0 d1 hwfx HTK;have hnb:=heap_alloc_new wr (.cells #[.int .u32 bk.num, .string bk.data] 160);have HG:=Lib.hid (And.intro ((Lib.alloc_old wr (.cells #[.int .u32 bk.num, .string bk.data] 160) p (lt_of_block g1)).trans g1) (And.intro (g3.alloc (.cells #[.int .u32 bk.num, .string bk.data] 160)) (And.intro (g4.alloc (.cells #[.int .u32 bk.num, .string bk.data] 160)) (And.intro g5 (And.intro ((Lib.alloc_old wr (.cells #[.int .u32 bk.num, .string bk.data] 160) _ (lt_of_block g6)).trans g6) (And.intro (g7.alloc g7.size (.cells #[.int .u32 bk.num, .string bk.data] 160)) (And.intro kr (And.intro hwfk hlenk))))))));clear g1 g3 g4 g5 g6 g7 hat hwf hrow hc hc2 hbk kr kmem hwk hwfk hlenk;have HNB:=Lib.hid hnb;clear hnb;go_upto_region 10 with(fail);generalize wr.alloc (.cells #[.int .u32 bk.num, .string bk.data] 160)=wx at *;have x0:wx.cell? ⟨wr.heap.size,0,none⟩=some (.int .u32 bk.num):=by rw[cell_of_row _ _ _ _ _ _ HNB.out];rfl
      have x1:wx.cell? ⟨wr.heap.size,1,none⟩=some (.string bk.data):=by rw[cell_of_row _ _ _ _ _ _ HNB.out];rfl
      go_wp2_with (fail);go_at_call 74;refine(dvPut_any w.heap.size wx p {size:=d.size,blocks:=(d.waits.take k).foldl putB d.blocks,waits:=d.waits,down:=false,fuse:=fu4} bv (.slice (some ⟨b,o,none⟩) d.waits.length g2) mn4 bk HG.out.1 g2' HG.out.2.1 HG.out.2.2.2.2.2.2.2.1 hwfx HG.out.2.2.2.2.2.2.1 (Nat.le_trans HG.out.2.2.2.2.2.2.2.2 (by decide))).mono ?_;rintro e w7 ⟨rfl,hpt⟩;have hfl7:=FlAt.put (d:={size:=d.size,blocks:=d.blocks,waits:=d.waits,down:=false,fuse:=fu4}) HG.out.1 g2' HG.out.2.1 HG.out.2.2.1 HG.out.2.2.2.1 HG.out.2.2.2.2.1 HG.out.2.2.2.2.2.1 hpt;have HFL:=Lib.hid hfl7;clear hpt hfl7 d0 d1 x0 x1;go_wp2_with (fail);exact⟨⟨k + 1,by omega,by go_num,by rw[HTK.out];exact HFL.out⟩,by simp[intOf];omega⟩
     ·obtain rfl:k=d.waits.length:=by omega
      rw[List.take_length]at hfl;have hq:((d.waits.take d.waits.length).foldl putB d.blocks)=d.waits.foldl putB d.blocks:=by rw[List.take_length]
      rw[hq]at hwfk;clear kmem kr hlenk hwk hq;obtain⟨bs5,hbs5⟩:∃bs5,d.waits.foldl putB d.blocks=bs5:=⟨_,rfl⟩
      rw[hbs5]at hfl hwfk HD;obtain⟨bv,g1,g2',g3,g4,g5,g6,g7⟩:=hfl;obtain⟨A5,m5,k5,rfl⟩:=jan g3;have hpd:p≠w.heap.size + 1:=hne;have p2':wr.cell? ⟨p,2,none⟩=some (.slice E2 d.waits.length g2):=by rw[cell_of_row _ _ _ _ _ _ g1];rfl
      have z2':=frozen_of_row wr p 2 _ _ g1;have hgs:wr.grownBy (wr.setCell ⟨p,2,none⟩ (.slice none 0 0)) (some p):=jap (World.grownBy.refl wr (some p)) 2 _;have hp5:=ja2 g1 2 (.slice none 0 0);have hr5:=(hgs.block _ (lt_of_block g6) (by intro e;exact hpd (Option.some.inj e).symm)).trans g6;have ho5:=jat g3 hgs g1 (by decide);have hb5:Below w.heap.size w (wr.setCell ⟨p,2,none⟩ (.slice none 0 0)):=g7.grown hgs g7.size (fun q hq=>by have h9:p=q:=Option.some.inj hq;omega);have HOF:=Lib.hid (jgh (w:=w) (d:=⟨d.size,bs5,[],false,fu4⟩) (q:=w.heap.size + 1) (A2:=none) (m2:=0) (k2:=0) (by omega) hr5 ho5 (World.ownsRow_nil _ _ _ _) hwfk (fun b hb=>by simp at hb) HO4.out.2.2.2.2.1 HO4.out.2.2.2.2.2 (fun g g' _ h=>by simp[Value.ownBlock]at h) hb5);have HR5:=Lib.hid hr5;have HP5:=Lib.hid hp5;clear hgs hp5 hr5 ho5 hb5 g1 g3 g4 g5 g6 g7 hwfk;go_upto_region 13 with(fail);generalize wr.setCell ⟨p,2,none⟩ (.slice none 0 0)=w5 at *;have r0:w5.cell? ⟨p,0,none⟩=some (.int .u32 d.size):=by rw[cell_of_row _ _ _ _ _ _ HP5.out];rfl
      have r1:w5.cell? ⟨p,1,none⟩=some (.slice A5 m5 k5):=by rw[cell_of_row _ _ _ _ _ _ HP5.out];rfl
      have r2:w5.cell? ⟨p,2,none⟩=some (.slice none 0 0):=by rw[cell_of_row _ _ _ _ _ _ HP5.out];rfl
      have r3:w5.cell? ⟨p,3,none⟩=some (.bool false):=by rw[cell_of_row _ _ _ _ _ _ HP5.out];rfl
      have r4:w5.cell? ⟨p,4,none⟩=some (.int .i64 fu4):=by rw[cell_of_row _ _ _ _ _ _ HP5.out];rfl
      go_wp2_with (first
       |((with_reducible refine jam 25 ?_);(refine wpList_store_row rfl 25 (.tmp 2) _ rfl (w.heap.size + 1) #[.int .u32 d.size, .slice A5 m5 k5, .slice none 0 0, .bool false, .int .i64 fu4] rfl rfl 25 _ HR5.out (by rw[jbz];rfl) rfl (jeo _ _ _ _ _ _ _ _ _) ?_)))
      refine bodyPost_ret (jb6 rfl _ (w.heap.size + 1) _ (0,0) _ rfl HOF.out.1 rfl) rfl ⟨.agg #[.int .u32 d.size, .slice A5 m5 k5, .slice none 0 0, .bool false, .int .i64 fu4],?_,?_,HOF.out.2.2⟩
      ·rw[HD.out];rfl
      ·rw[HD.out];exact HOF.out.2.1
#print axioms jkg
def DevSm(d:Dv):Prop:=d.blocks.length≤65536∧d.waits.length≤16384
theorem jgl{d:Dv}(h:DevOk d)(hw:∀b∈d.blocks,blkE.wf b):DevSm d:=by
 refine⟨?_,h.wl⟩;have hr:=h.ris;unfold RiseB at hr;have hhi:=h.hi;have hlo:=h.lo;have hz:∀x∈d.blocks.map (·.num),0≤x∧x < d.size:=by
  intro x hx;obtain⟨b,hb,rfl⟩:=List.mem_map.1 hx;have h1:=(h.bs b hb).1;have h2:=(hw b hb).1;unfold ja3 at h1;simp only[Bool.and_eq_true,decide_eq_true_eq]at h1;exact⟨h2.1,h1.1⟩
 have:=jg2 _ 0 d.size hr hz (by omega);rw[List.length_map]at this;omega
theorem jh6:DevSm noDev:=⟨by decide,by decide⟩
theorem devSm_write{d:Dv}(h:DevSm d)(num:Int)(data:ByteArray):DevSm (jbg d num data).1:=by
 unfold jbg;split
 ·exact jh6
 ·split
  ·exact h
  ·rename_i h1;refine⟨h.1,?_⟩;have h2:jes d num data=0:=by simpa using h1
   unfold jes at h2;show(d.waits ++ [_]).length≤16384
   rw[List.length_append,List.length_singleton];by_cases h3:16384≤d.waits.length
   ·exfalso;split at h2
    ·simp at h2
    ·split at h2
     ·simp at h2
     ·split at h2
      ·simp at h2
      ·simp at h2
   ·omega
theorem devSm_flush{d:Dv}(h:DevSm d)(hw:∀b∈(jbs d).1.blocks,blkE.wf b):DevSm (jbs d).1:=by
 unfold jbs at hw ⊢;cases hd:devB d with
 |false=>rw[if_pos rfl];exact jh6
 |true=>
  rw[hd,if_neg (by simp)]at hw;rw[if_neg (by simp)];split
  ·exact h
  ·split
   ·exact⟨h.1,h.2⟩
   ·rename_i h1 h2;rw[if_neg h1,if_neg h2]at hw;exact jgl ((jcq d).1 hd).flush.burn hw
theorem jk2{p:Prop}(h:p∧True):p:=h.1
def WtAt(B:Nat)(w:World)(p:Nat)(t:Wt):Prop:=∃bv wv,w.heap[p]? =some (.cells (devL t.dev bv wv ++ [Value.int .i64 t.why]).toArray 84 (0,0))∧DevO B w (jck t.dev bv wv) t.dev∧DevSm t.dev
theorem jj1{B:Nat}{w:World}{v:Value}{d:Dv}(h:DevO B w v d):∃bv wv,v=jck d bv wv:=by
 obtain⟨bv,wv,e,_⟩:=h;exact⟨bv,wv,e⟩
theorem jmo{B:Nat}{w:World}{v:Value}{d:Dv}(h:DevO B w v d):∀b∈d.blocks,blkE.wf b:=by
 obtain⟨bv,wv,e,_,_,h3,_⟩:=h;exact h3
theorem devO_up{B B':Nat}{w:World}{v:Value}{d:Dv}(h:DevO B w v d)(hb:B'≤B):DevO B' w v d:=by
 obtain⟨bv,wv,e,h1,h2,h3⟩:=h;exact⟨bv,wv,e,jd4 h1 hb,jd4 h2 hb,h3⟩
theorem wt_put{B:Nat}{w w1:World}{p:Nat}{t:Wt}{bv wv:Value}{d:Dv}{bv2 wv2:Value}{why:Int}(hp:w.heap[p]? =some (.cells (devL t.dev bv wv ++ [Value.int .i64 t.why]).toArray 84 (0,0)))(hb:Below w.heap.size w w1)
 (ho:DevO w.heap.size w1 (jck d bv2 wv2) d) (hs:DevSm d) (hB:B≤w.heap.size):
 WtAt B ((w1.setRow p ((devL t.dev bv wv ++ [Value.int .i64 t.why]).take 0 ++ devL d bv2 wv2 ++ (devL t.dev bv wv ++ [Value.int .i64 t.why]).drop (0 + (devL d bv2 wv2).length)).toArray).setCell ⟨p,5,none⟩ (.int .i64 why)) p ⟨d,why⟩∧
  w.grownBy ((w1.setRow p ((devL t.dev bv wv ++ [Value.int .i64 t.why]).take 0 ++ devL d bv2 wv2 ++ (devL t.dev bv wv ++ [Value.int .i64 t.why]).drop (0 + (devL d bv2 wv2).length)).toArray).setCell ⟨p,5,none⟩ (.int .i64 why)) (some p):=by
 have hp1:=(hb.block _ (lt_of_block hp)).trans hp;have e:((devL t.dev bv wv ++ [Value.int .i64 t.why]).take 0 ++ devL d bv2 wv2 ++ (devL t.dev bv wv ++ [Value.int .i64 t.why]).drop (0 + (devL d bv2 wv2).length))=devL d bv2 wv2 ++ [Value.int .i64 t.why]:=rfl;rw[e];have hg1:=jaq w1 p (devL d bv2 wv2 ++ [Value.int .i64 t.why]).toArray;have hp2:=jad w1 p (devL d bv2 wv2 ++ [Value.int .i64 t.why]).toArray _ _ hp1;have hp3:=ja2 hp2 5 (.int .i64 why);have hg2:=jap (World.grownBy.refl (w1.setRow p (devL d bv2 wv2 ++ [Value.int .i64 t.why]).toArray) (some p)) 5 (.int .i64 why);refine⟨⟨bv2,wv2,hp3,devO_up (jb1 (jb1 ho hg1 hp1 (by decide)) hg2 hp2 (by decide)) hB,hs⟩,jag (jag (jbd hb) hg1) hg2⟩
theorem jfd(B:Nat)(w:World)(p:Nat)(t:Wt)(num:Int)(data:ByteArray)(ht:WtAt B w p t)(hB:B≤w.heap.size)(hnum:u32Ok num)(hdata:data.size≤9223372036854775807):
 Calls Tryz.prog 35 #[.pointer (some ⟨p,0,none⟩), .int .u32 num, .string data] w fun e w'=>e= .returned (.tuple #[])∧WtAt B w' p (jdc t num data)∧w.grownBy w' (some p):=by
 have HT:=Lib.hid ht;obtain⟨bv,wv,hp,hdo,hsm⟩:=ht;have hone:bv.oneCell'=true∧wv.oneCell'=true:=by
  obtain⟨b',w',e,h1,h2,_⟩:=hdo;unfold jck at e;simp only[Value.agg.injEq,Array.mk.injEq,List.cons.injEq,and_true,true_and]at e;obtain⟨rfl,rfl⟩:=e;obtain⟨_,_,_,e1⟩:=jan h1;obtain⟨_,_,_,e2⟩:=jan h2;rw[e1,e2];exact⟨rfl,rfl⟩
 have x0:w.cell? ⟨p,0,none⟩=some (.int .u32 t.dev.size):=by rw[cell_of_row _ _ _ _ _ _ hp];rfl
 have x1:w.cell? ⟨p,1,none⟩=some bv:=by rw[cell_of_row _ _ _ _ _ _ hp];rfl
 have x2:w.cell? ⟨p,2,none⟩=some wv:=by rw[cell_of_row _ _ _ _ _ _ hp];rfl
 have x3:w.cell? ⟨p,3,none⟩=some (.bool t.dev.down):=by rw[cell_of_row _ _ _ _ _ _ hp];rfl
 have x4:w.cell? ⟨p,4,none⟩=some (.int .i64 t.dev.fuse):=by rw[cell_of_row _ _ _ _ _ _ hp];rfl
 have x5:w.cell? ⟨p,5,none⟩=some (.int .i64 t.why):=by rw[cell_of_row _ _ _ _ _ _ hp];rfl
 by_cases hw:t.why=0
 ·have HW:=Lib.hid (show jdc t num data=⟨(jbg t.dev num data).1,(jbg t.dev num data).2⟩ by unfold jdc;rw[if_pos hw]);have HX:=Lib.hid (And.intro hp (And.intro hdo hsm));have HC:=Lib.hid (devWrite_any w _ t.dev num data hdo.dev (by have:=hsm.1;omega) (by have:=hsm.2;omega) hnum hdata);rw[hw]at x5;have HW0:=Lib.hid hw;clear hp hdo hsm hw;go_enter Tryz.func35,Tryz.ntmps35;go_wp2_with (fail);refine HC.out.mono ?_;rintro e w1 ⟨r,rfl,hdo1,hb1⟩;have HDO:=Lib.hid hdo1;obtain⟨bv2,wv2,rfl⟩:=jj1 hdo1;rw[show jck (jbg t.dev num data).1 bv2 wv2= .agg #[.int .u32 (jbg t.dev num data).1.size,bv2,wv2, .bool (jbg t.dev num data).1.down, .int .i64 (jbg t.dev num data).1.fuse]from rfl];have hone2:bv2.oneCell'=true∧wv2.oneCell'=true:=by
   obtain⟨b',w',e,h1,h2,_⟩:=hdo1;unfold jck at e;simp only[Value.agg.injEq,Array.mk.injEq,List.cons.injEq,and_true,true_and]at e;obtain⟨rfl,rfl⟩:=e;obtain⟨_,_,_,e1⟩:=jan h1;obtain⟨_,_,_,e2⟩:=jan h2;rw[e1,e2];exact⟨rfl,rfl⟩
  have HP:=Lib.hid (wt_put (why:=(jbg t.dev num data).2) HX.out.1 hb1 HDO.out (devSm_write HX.out.2.2 num data) hB);have hp1:=(hb1.block _ (lt_of_block HX.out.1)).trans HX.out.1;have HP1:=Lib.hid hp1;have hdl:(devL (jbg t.dev num data).1 bv2 wv2).length=5:=rfl;have hinf:(Tryz.prog.info? 25).map (·.size)=some (devL (jbg t.dev num data).1 bv2 wv2).length:=jbz;have hdone:∀u∈devL (jbg t.dev num data).1 bv2 wv2,u.oneCell'=true:=by
   intro u hu;unfold devL at hu;simp at hu;rcases hu with rfl|rfl|rfl|rfl|rfl <;>first|rfl|exact hone2.1|exact hone2.2
  have c5:(w1.setRow p ((devL t.dev bv wv ++ [Value.int .i64 t.why]).take 0 ++ devL (jbg t.dev num data).1 bv2 wv2 ++ (devL t.dev bv wv ++ [Value.int .i64 t.why]).drop (0 + (devL (jbg t.dev num data).1 bv2 wv2).length)).toArray).cell? ⟨p,5,none⟩=some (.int .i64 t.why):=by
   rw[cell_of_row _ _ _ _ _ _ (jad _ _ _ _ _ hp1)];rfl
  have c6:(w1.setRow p ((devL t.dev bv wv ++ [Value.int .i64 t.why]).take 0 ++ devL (jbg t.dev num data).1 bv2 wv2 ++ (devL t.dev bv wv ++ [Value.int .i64 t.why]).drop (0 + (devL (jbg t.dev num data).1 bv2 wv2).length)).toArray).frozen? ⟨p,5,none⟩=false:=jbi (jad _ _ _ _ _ hp1) _;generalize hwz:(w1.setRow p ((devL t.dev bv wv ++ [Value.int .i64 t.why]).take 0 ++ devL (jbg t.dev num data).1 bv2 wv2 ++ (devL t.dev bv wv ++ [Value.int .i64 t.why]).drop (0 + (devL (jbg t.dev num data).1 bv2 wv2).length)).toArray)=wz at *;have HWZ:=Lib.hid hwz;clear hwz hp1 hdo1 x0 x1 x2 x3 x4 x5;go_wp2_with ((with_reducible refine jam 25 ?_);refine jk2 ?_);refine⟨?_,trivial⟩;refine jaf rfl 25 _ _ rfl p 0 rfl (devL (jbg t.dev num data).1 bv2 wv2) rfl 84 _ HP1.out (by show 0 + 5≤6;decide) hdone hinf ?_;rw[List.toList_toArray,HWZ.out];go_wp2_with (fail);go_end0;rw[HW.out];exact⟨rfl,HP.out.1,HP.out.2⟩
 ·have HW:=Lib.hid (show jdc t num data=t by unfold jdc;rw[if_neg hw]);have hwb:(t.why==0)=false:=by simp[hw]
  clear hp hdo hsm hw;go_enter Tryz.func35,Tryz.ntmps35;go_wp2_with (fail);go_end0;rw[HW.out];exact⟨rfl,HT.out,World.grownBy.refl _ _⟩
theorem jgm(B:Nat)(w:World)(p:Nat)(t:Wt)(ht:WtAt B w p t)(hB:B≤w.heap.size):
 Calls Tryz.prog 36 #[.pointer (some ⟨p,0,none⟩)] w fun e w'=>e= .returned (.tuple #[])∧WtAt B w' p (jd6 t)∧w.grownBy w' (some p):=by
 have HT:=Lib.hid ht;obtain⟨bv,wv,hp,hdo,hsm⟩:=ht;have hone:bv.oneCell'=true∧wv.oneCell'=true:=by
  obtain⟨b',w',e,h1,h2,_⟩:=hdo;unfold jck at e;simp only[Value.agg.injEq,Array.mk.injEq,List.cons.injEq,and_true,true_and]at e;obtain⟨rfl,rfl⟩:=e;obtain⟨_,_,_,e1⟩:=jan h1;obtain⟨_,_,_,e2⟩:=jan h2;rw[e1,e2];exact⟨rfl,rfl⟩
 have x0:w.cell? ⟨p,0,none⟩=some (.int .u32 t.dev.size):=by rw[cell_of_row _ _ _ _ _ _ hp];rfl
 have x1:w.cell? ⟨p,1,none⟩=some bv:=by rw[cell_of_row _ _ _ _ _ _ hp];rfl
 have x2:w.cell? ⟨p,2,none⟩=some wv:=by rw[cell_of_row _ _ _ _ _ _ hp];rfl
 have x3:w.cell? ⟨p,3,none⟩=some (.bool t.dev.down):=by rw[cell_of_row _ _ _ _ _ _ hp];rfl
 have x4:w.cell? ⟨p,4,none⟩=some (.int .i64 t.dev.fuse):=by rw[cell_of_row _ _ _ _ _ _ hp];rfl
 have x5:w.cell? ⟨p,5,none⟩=some (.int .i64 t.why):=by rw[cell_of_row _ _ _ _ _ _ hp];rfl
 by_cases hw:t.why=0
 ·have HW:=Lib.hid (show jd6 t=⟨(jbs t.dev).1,(jbs t.dev).2⟩ by unfold jd6;rw[if_pos hw]);have HX:=Lib.hid (And.intro hp (And.intro hdo hsm));have HC:=Lib.hid (jkg w _ t.dev hdo.dev (by have:=hsm.1;omega) (by have:=hsm.2;omega));rw[hw]at x5;have HW0:=Lib.hid hw;clear hp hdo hsm hw;go_enter Tryz.func36,Tryz.ntmps36;go_wp2_with (fail);refine HC.out.mono ?_;rintro e w1 ⟨r,rfl,hdo1,hb1⟩;have HDO:=Lib.hid hdo1;obtain⟨bv2,wv2,rfl⟩:=jj1 hdo1;rw[show jck (jbs t.dev).1 bv2 wv2= .agg #[.int .u32 (jbs t.dev).1.size,bv2,wv2, .bool (jbs t.dev).1.down, .int .i64 (jbs t.dev).1.fuse]from rfl];have hone2:bv2.oneCell'=true∧wv2.oneCell'=true:=by
   obtain⟨b',w',e,h1,h2,_⟩:=hdo1;unfold jck at e;simp only[Value.agg.injEq,Array.mk.injEq,List.cons.injEq,and_true,true_and]at e;obtain⟨rfl,rfl⟩:=e;obtain⟨_,_,_,e1⟩:=jan h1;obtain⟨_,_,_,e2⟩:=jan h2;rw[e1,e2];exact⟨rfl,rfl⟩
  have HP:=Lib.hid (wt_put (why:=(jbs t.dev).2) HX.out.1 hb1 HDO.out (devSm_flush HX.out.2.2 (jmo HDO.out)) hB);have hp1:=(hb1.block _ (lt_of_block HX.out.1)).trans HX.out.1;have HP1:=Lib.hid hp1;have hdl:(devL (jbs t.dev).1 bv2 wv2).length=5:=rfl;have hinf:(Tryz.prog.info? 25).map (·.size)=some (devL (jbs t.dev).1 bv2 wv2).length:=jbz;have hdone:∀u∈devL (jbs t.dev).1 bv2 wv2,u.oneCell'=true:=by
   intro u hu;unfold devL at hu;simp at hu;rcases hu with rfl|rfl|rfl|rfl|rfl <;>first|rfl|exact hone2.1|exact hone2.2
  have c5:(w1.setRow p ((devL t.dev bv wv ++ [Value.int .i64 t.why]).take 0 ++ devL (jbs t.dev).1 bv2 wv2 ++ (devL t.dev bv wv ++ [Value.int .i64 t.why]).drop (0 + (devL (jbs t.dev).1 bv2 wv2).length)).toArray).cell? ⟨p,5,none⟩=some (.int .i64 t.why):=by
   rw[cell_of_row _ _ _ _ _ _ (jad _ _ _ _ _ hp1)];rfl
  have c6:(w1.setRow p ((devL t.dev bv wv ++ [Value.int .i64 t.why]).take 0 ++ devL (jbs t.dev).1 bv2 wv2 ++ (devL t.dev bv wv ++ [Value.int .i64 t.why]).drop (0 + (devL (jbs t.dev).1 bv2 wv2).length)).toArray).frozen? ⟨p,5,none⟩=false:=jbi (jad _ _ _ _ _ hp1) _;generalize hwz:(w1.setRow p ((devL t.dev bv wv ++ [Value.int .i64 t.why]).take 0 ++ devL (jbs t.dev).1 bv2 wv2 ++ (devL t.dev bv wv ++ [Value.int .i64 t.why]).drop (0 + (devL (jbs t.dev).1 bv2 wv2).length)).toArray)=wz at *;have HWZ:=Lib.hid hwz;clear hwz hp1 hdo1 x0 x1 x2 x3 x4 x5;go_wp2_with ((with_reducible refine jam 25 ?_);refine jk2 ?_);refine⟨?_,trivial⟩;refine jaf rfl 25 _ _ rfl p 0 rfl (devL (jbs t.dev).1 bv2 wv2) rfl 84 _ HP1.out (by show 0 + 5≤6;decide) hdone hinf ?_;rw[List.toList_toArray,HWZ.out];go_wp2_with (fail);go_end0;rw[HW.out];exact⟨rfl,HP.out.1,HP.out.2⟩
 ·have HW:=Lib.hid (show jd6 t=t by unfold jd6;rw[if_neg hw]);have hwb:(t.why==0)=false:=by simp[hw]
  clear hp hdo hsm hw;go_enter Tryz.func36,Tryz.ntmps36;go_wp2_with (fail);go_end0;rw[HW.out];exact⟨rfl,HT.out,World.grownBy.refl _ _⟩
end Go.Proofs.YtpaohkkhejpgjaaGreatDoor
