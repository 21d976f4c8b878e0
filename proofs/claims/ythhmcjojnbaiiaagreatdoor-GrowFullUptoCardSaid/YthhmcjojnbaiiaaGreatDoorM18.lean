/- Texts of the proof: Or. -/
import Derived.Test.YthhmcjojnbaiiaaGreatDoorM5
set_option linter.all false
/- cmp.Or of error numbers. -/
namespace Go.Proofs.YthhmcjojnbaiiaaGreatDoor
open Go Go.RowKit
def errE : Enc Int where
  sz := 1
  enc x := [.int .i64 x]
  wf _ := True
  len _ _ := rfl
  one x _ u hu := by simp at hu; subst hu; rfl
  pos := by decide
def orL : List Int → Int
  | [] => 0
  | x :: r => if x = 0 then orL r else x
set_option maxRecDepth 100000 in
set_option maxHeartbeats 1000000 in
theorem or_any (w : World) (v : Value) (xs : List Int) (hv : Sl errE w v xs) :
    Calls Tryz.prog 57 #[v] w fun e w' => e = .returned (.int .i64 (orL xs)) ∧ w' = w := by
  obtain ⟨A, c, rfl, hc, hc2, hrow⟩ := hv
  have HR := Lib.hid hrow
  clear hrow
  go_enter Tryz.func57, Tryz.ntmps57
  go_wp2
  go_loopw [5, 8, 9, 10, 11, 12, 13, 14, 15, 16] (fun _ i _ _ _ _ _ _ _ _ wr => ∃ k : Nat, k ≤ xs.length ∧ i = .int .i64 k ∧ orL xs = orL (xs.drop k) ∧ wr = w) (fun _ i _ _ _ _ _ _ _ _ _ => xs.length - (intOf i).toNat)
  case atStart => exact ⟨0, Nat.zero_le _, rfl, rfl, rfl⟩
  case round =>
    obtain ⟨k, hk, rfl, hor, rfl⟩ := hrel
    by_cases hlt : k < xs.length
    · obtain ⟨b, o, rfl, hat, _⟩ := HR.out k hlt
      have d0 : wr.cell? ⟨b, o + k, none⟩ = some (.int .i64 xs[k]) := by have := hat.cell 0 _ rfl; simpa [errE] using this
      have hbr : b < wr.heap.size := block_lt_of_cell d0
      rw [List.drop_eq_getElem_cons hlt, orL] at hor
      have HF := Lib.hid hor
      clear hor hat
      generalize xs[k] = y at *
      by_cases hy : y = 0
      · have HF2 := Lib.hid (show orL xs = orL (xs.drop (k + 1)) by rw [HF.out, if_pos hy])
        subst hy
        go_wp2
        exact ⟨⟨k + 1, by omega, by go_num, HF2.out, trivial⟩, by simp [intOf]; omega⟩
      · have HF2 := Lib.hid (show orL xs = y by rw [HF.out, if_neg hy])
        have hyb : (y != 0) = true := by simpa using hy
        clear hy
        go_wp2
        go_ret
        exact ⟨by rw [HF2.out]; rfl, rfl⟩
    · have HF2 := Lib.hid (show orL xs = 0 by rw [hor, List.drop_of_length_le (by omega)]; rfl)
      clear hor
      go_wp2
      go_ret
      exact ⟨by rw [HF2.out]; rfl, rfl⟩
end Go.Proofs.YthhmcjojnbaiiaaGreatDoor
