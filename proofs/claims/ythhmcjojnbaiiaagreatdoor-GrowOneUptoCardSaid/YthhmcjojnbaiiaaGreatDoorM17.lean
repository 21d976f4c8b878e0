/- Texts of the proof: Qt. -/
import Derived.Test.YthhmcjojnbaiiaaGreatDoorM14
import Derived.Test.YthhmcjojnbaiiaaGreatDoorM8
set_option linter.all false
/- Hashes compared in a region that draws its order. -/
namespace Go.Proofs.YthhmcjojnbaiiaaGreatDoor
open Go Go.RowKit
theorem noGuard : Tryz.prog.eqGuardType Tryz.prog.depth 56 = false := by kernel_rfl
theorem neq_run (x y : Operand) (l m : List Int) (w : World) (hl : l.length = 32) (hm : m.length = 32) : (do eqGuard .neq 56 x y (.agg (hashV l).toArray) (.agg (hashV m).toArray); binOp .neq 56 (.agg (hashV l).toArray) (.agg (hashV m).toArray)).run Tryz.prog w = .ok (.bool (!(l == m))) w := by
  have hq := eqHash l m w hl hm
  simp [eqGuard, binOp, Op.equal, Op.maxDepth, noGuard, hq]
theorem quiet_neqHash {K : Act → Prop} {o : Oper} {a : Act} {w : World} (x y : Operand) (ho : o.op = .binOp .neq 56 x y 56) (l m : List Int) (hl : l.length = 32) (hm : m.length = 32) (la ma : Array Value)
    (hla : (hashV l).toArray = la) (hma : (hashV m).toArray = ma) (hx : a.eval x = .agg la) (hy : a.eval y = .agg ma) (h : K (a.put o.dst (.bool (!(l == m))))) : o.quiet Tryz.prog a (fun w' => ∃ n, w' = w.drewN n) K := by
  subst hla hma
  refine ⟨.bool (!(l == m)), ?_, h⟩
  rintro _ ⟨n, rfl⟩
  have hr := neq_run x y l m (w.drewN n) hl hm
  unfold Oper.quietAt execOp
  simp only [ho, hx, hy]
  simp only [Sem.run_bind] at hr ⊢
  rw [hr]
  simp only [Result.andThen_ok, Sem.run_pure]
  exact ⟨rfl, rfl⟩
end Go.Proofs.YthhmcjojnbaiiaaGreatDoor
