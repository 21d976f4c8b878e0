/- Texts of the proof: U7. -/
import Derived.Test.YtpaohkkhejpgjaaGreatDoorM33
set_option linter.all false
set_option maxRecDepth 100000
set_option maxHeartbeats 8000000
namespace Go.Proofs.YtpaohkkhejpgjaaGreatDoor
open Go Go.RowKit
def PairF(w:World)(p q:Nat)(a b:ByteArray)(w2:World):Prop:=∃ov,jd8 w2 p a b 1 ov∧BoxAt w2 q p∧Sl supE w2 ov (jcm a b)∧w.grownBy w2 (some p)∧ov.ownBlock≠some p∧(∀g,ov.ownBlock=some g→w.heap.size≤g)
theorem pairF_mid{w w2:World}{p q:Nat}{a b:ByteArray}(h:PairF w p q a b w2):OnceMid p 2 w2:=by
 obtain⟨ov,h1,_,_⟩:=h;refine⟨⟨by rw[cell_of_row _ _ _ _ _ _ h1];rfl,by rw[cell_of_row _ _ _ _ _ _ h1];rfl⟩,jbi h1 _,jbi h1 _⟩
def PairE(w:World)(p q:Nat)(a b:ByteArray)(w3:World):Prop:=∃ov,w3.heap[p]? =some (.cells #[.string a, .string b, .int .u32 1, .int .i32 0, .int .u32 0,ov] 203 (0,0))∧BoxAt w3 q p∧Sl supE w3 ov (jcm a b)∧w.grownBy w3 (some p)∧(∀g,ov.ownBlock=some g→w.heap.size≤g)
theorem pairF_end{w w2:World}{p q:Nat}{a b:ByteArray}(h:PairF w p q a b w2):PairE w p q a b (jgy p 2 w2):=by
 obtain⟨ov,h1,h4,h2,h3,hap,hfr⟩:=h;have h5:=ja2 (w:=w2.drew) h1 2 (.int .u32 1);have h6:=ja2 h5 3 (.int .i32 0);have hg:w2.grownBy (jgy p 2 w2) (some p):=jap (jap (jec (World.grownBy.refl w2 (some p))) 2 (.int .u32 1)) 3 (.int .i32 0);refine⟨ov,h6,(hg.block q (lt_of_block h4) (fun e=>jkx h1 h4 (by injection e))).trans h4,?_,jag h3 hg,hfr⟩;obtain⟨A,c,rfl,e1,e2,hr⟩:=h2;refine⟨A,c,rfl,e1,e2,fun k hk=>?_⟩;obtain⟨g,o,rfl,hat,hwf⟩:=hr k hk;have hlt:g < w2.heap.size:=block_lt_of_cell (hat.cell 0 (.int .u32 (jcm a b)[k].size) rfl);exact⟨g,o,rfl,hat.heap (hg.block g hlt (fun e=>hap e)),hwf⟩
theorem supers_any(w:World)(p:Nat)(a b:ByteArray)(ha:a.size≤140737488355328)(hb:b.size≤140737488355328)(hp:jd8 w p a b 0 (.slice none 0 0)):
 Calls Tryz.prog 105 #[.pointer (some ⟨p,0,none⟩)] w fun e w'=>∃r,e= .returned r∧(Sl supE w' r (jcm a b)∧∀g,r.ownBlock=some g→w.heap.size≤g)∧w.grownBy w' (some p):=by
 have hmf:∀(fn:Fn) (first cap:Array Value) (w:World),(Instr.makeFunc fn first cap).run Tryz.prog w= .ok (.func fn first cap) w:=fun _ _ _ _=>rfl
 have hlp:=lt_of_block hp;have hp1:jd8 (w.alloc (.cells #[.pointer (some ⟨p,0,none⟩)] 200)) p a b 0 (.slice none 0 0):=(Lib.alloc_old w _ _ hlp).trans hp;have hq1:BoxAt (w.alloc (.cells #[.pointer (some ⟨p,0,none⟩)] 200)) w.heap.size p:=heap_alloc_new _ _;have hgr:w.grownBy (w.alloc (.cells #[.pointer (some ⟨p,0,none⟩)] 200)) (some p):=⟨rfl,rfl,rfl,by simp,fun k hk _=>Lib.alloc_old w _ k hk⟩
 have x0:(w.alloc (.cells #[.pointer (some ⟨p,0,none⟩)] 200)).cell? ⟨w.heap.size,0,none⟩=some (.pointer (some ⟨p,0,none⟩)):=by rw[cell_of_row _ _ _ _ _ _ hq1];rfl
 obtain⟨wa,hwa⟩:∃wa,w.alloc (.cells #[.pointer (some ⟨p,0,none⟩)] 200)=wa:=⟨_,rfl⟩
 rw[hwa]at hp1 hq1 hgr x0;have c2:wa.cell? ⟨p,2,none⟩=some (.int .u32 0):=by rw[cell_of_row _ _ _ _ _ _ hp1];rfl
 have c3:wa.cell? ⟨p,2 + 1,none⟩=some (.int .i32 0):=by rw[cell_of_row _ _ _ _ _ _ hp1];rfl
 have hset:jd8 (wa.setCell ⟨p,2 + 1,none⟩ (.int .i32 1)) p a b 1 (.slice none 0 0):=ja2 hp1 3 (.int .i32 1);have hgs:wa.grownBy (wa.setCell ⟨p,2 + 1,none⟩ (.int .i32 1)) (some p):=jap (World.grownBy.refl wa (some p)) 3 (.int .i32 1);have hqs:BoxAt (wa.setCell ⟨p,2 + 1,none⟩ (.int .i32 1)) w.heap.size p:=(hgs.block _ (lt_of_block hq1) (fun e=>jkx hp1 hq1 (by injection e))).trans hq1;have hdo:=jka p 2 158 #[.pointer (some ⟨w.heap.size,0,none⟩)] wa (PairF wa p w.heap.size a b) (enters_of Tryz.func158 (by kernel_rfl) rfl) c2 c3 (jbi hp1 _)
  ((pairFn_any _ w.heap.size p a b ha hb hset hqs).mono fun e w2 ⟨he,ov,k1,k2,k3,k4,k5,k6⟩=>⟨he,ov,k1,k2,k3,jag hgs k4,k5,fun g hg=>by have:=k6 g hg;simpa using this⟩) (fun w2 h=>pairF_mid h)
 have HDO:=Lib.hid hdo;have HW:=Lib.hid (And.intro hwa hgr);clear hdo hset hgs hqs c2 c3 hp hgr;go_enter Tryz.func105,Tryz.ntmps105;go_upto_region 1 with(fail);first|rw[hwa]|skip
 clear hwa;go_wp2_with (fail);refine HDO.out.mono ?_;rintro e w' ⟨rfl,w2,hw2,rfl⟩;have he:=pairF_end hw2;generalize jgy p 2 w2=w3 at *;obtain⟨ov,k1,k2,k3,k4,k6⟩:=he;have y0:w3.cell? ⟨w.heap.size,0,none⟩=some (.pointer (some ⟨p,0,none⟩)):=by rw[cell_of_row _ _ _ _ _ _ k2];rfl
 have y5:w3.cell? ⟨p,5,none⟩=some ov:=by rw[cell_of_row _ _ _ _ _ _ k1];rfl
 have HF:=Lib.hid (And.intro k3 (And.intro k4 k6));clear k1 k2 k3 k4 k6 hw2;go_wp2_with (fail);go_ret;exact⟨_,rfl,⟨HF.out.1,fun g hg=>Nat.le_trans HW.out.2.size (HF.out.2.2 g hg)⟩,jag HW.out.2 HF.out.2.1⟩
theorem order_any(w:World)(a b:ByteArray)(ha:a.size≤140737488355328)(hb:b.size≤140737488355328):
 Calls Tryz.prog 43 #[.string a, .string b] w fun e w'=>∃r,e= .returned r∧(Sl supE w' r (jcm a b)∧∀g,r.ownBlock=some g→w.heap.size≤g)∧Below w.heap.size w w':=by
 have hp:jd8 (w.alloc (.cells #[.string a, .string b, .int .u32 0, .int .i32 0, .int .u32 0, .slice none 0 0] 203)) w.heap.size a b 0 (.slice none 0 0):=heap_alloc_new _ _;have hB:=(Below.refl w.heap.size w).alloc (Nat.le_refl _) (.cells #[.string a, .string b, .int .u32 0, .int .i32 0, .int .u32 0, .slice none 0 0] 203);have HP:=Lib.hid (And.intro hp hB);clear hp hB;go_enter Tryz.func43,Tryz.ntmps43;go_wp2_with (go_at_call 105;refine(supers_any _ w.heap.size a b ha hb HP.out.1).mono ?_;rintro e w' ⟨r,rfl,⟨hsl,hfr⟩,hgr⟩);go_ret;exact⟨_,rfl,⟨hsl,fun g hg=>Nat.le_trans (by simp) (hfr g hg)⟩,HP.out.2.grown hgr (by simp) (fun k hk=>by injection hk with hk;omega)⟩
end Go.Proofs.YtpaohkkhejpgjaaGreatDoor
