/- Texts of the proof: N6. -/
import Derived.Test.YthhmcjojnbaiiaaGreatDoorM6
import Derived.Lib.Repeat
set_option linter.all false
/- Node.Whole. -/
namespace Go.Proofs.YthhmcjojnbaiiaaGreatDoor
open Go Go.RowKit
/-- A block's data whose bytes behind the sum are l (at most 508). -/
def padTo (k : Nat) (l : List UInt8) : List UInt8 := l ++ List.replicate (k - l.length) 0
def wholeL (l : List UInt8) : List UInt8 := Lib.trimRightB ((numB (crcOf (padTo 508 l)) 4).data.toList ++ padTo 508 l) 0
theorem wrap_u32_range (x : Int) : 0 ≤ IntKind.u32.wrap x ∧ IntKind.u32.wrap x ≤ 4294967295 := by
  rw [IntKind.wrap_u32]; omega
theorem crcStep_range (x : Int) : 0 ≤ crcStep x ∧ crcStep x ≤ 4294967295 := by
  unfold crcStep bits
  exact wrap_u32_range _
theorem crcOf_range (l : List UInt8) : 0 ≤ crcOf l ∧ crcOf l ≤ 4294967295 := by
  have h : ∀ k s, (0 ≤ s ∧ s ≤ 4294967295) → 0 ≤ crcRounds k s ∧ crcRounds k s ≤ 4294967295 := by
    intro k
    induction k with
    | zero => intro s hs; exact hs
    | succ k ih => intro s _; exact ih _ (crcStep_range s)
  have h8 : ∀ s, 0 ≤ crcRounds 8 s ∧ crcRounds 8 s ≤ 4294967295 := by
    intro s
    rw [crcRounds]
    exact h 7 _ (crcStep_range s)
  rcases List.eq_nil_or_concat l with rfl | ⟨r, b, rfl⟩
  · exact ⟨by decide, by decide⟩
  · rw [List.concat_eq_append, crcOf_snoc]; exact h8 _
theorem repeat_zero : ∀ k : Nat, Lib.repeatL [0] k = List.replicate k (0 : UInt8)
  | 0 => rfl
  | k + 1 => by rw [Lib.repeatL, repeat_zero k, List.replicate_succ]; rfl
set_option maxHeartbeats 1000000 in
set_option maxRecDepth 100000 in
theorem whole_any (w : World) (s : ByteArray) (hs : s.size ≤ 508) :
    Calls Tryz.prog 124 #[.string s] w fun e w' => e = .returned (.string ⟨(wholeL s.data.toList).toArray⟩) ∧ Below w.heap.size w w' := by
  have hi : IntKind.i64.wrap (508 - (s.size : Int)) = ((508 - s.size : Nat) : Int) := by rw [IntKind.wrap_i64]; omega
  have hi2 : (508 - (s.size : Int)) = ((508 - s.size : Nat) : Int) := by omega
  obtain ⟨p, hp⟩ : ∃ p : ByteArray, p = s ++ ⟨(Lib.repeatL (⟨#[0]⟩ : ByteArray).data.toList (508 - s.size)).toArray⟩ := ⟨_, rfl⟩
  have hpd : p.data.toList = padTo 508 s.data.toList := by
    rw [hp]; unfold padTo; rw [← repeat_zero]; simp
  have hps : p.size = 508 := by
    have := congrArg List.length hpd
    unfold padTo at this
    simp at this; omega
  have HP := Lib.hid (And.intro hp (And.intro hpd hps))
  clear hp hpd
  have hrl : (Lib.repeatL [0] (508 - s.size)).length = 508 - s.size := by rw [repeat_zero, List.length_replicate]
  have hc := crcOf_range p.data.toList
  generalize hcc : crcOf p.data.toList = cc at *
  have HC := Lib.hid hcc
  clear hcc
  obtain ⟨hc0, hc1⟩ := hc
  have hfit : Lib.bitLen cc.toNat ≤ 8 * 4 := bitLen_fit 32 (by omega) (by omega)
  have HF := Lib.hid hfit
  clear hfit
  have hn4 : (numB cc 4).size = 4 := by unfold numB; rw [strOfNums_size, numL_length]
  go_enter Tryz.func124, Tryz.ntmps124
  go_wp2_with (first | (go_at_call 141; refine (Tryz.strings_Repeat ⟨#[0]⟩ (508 - s.size) _ (by omega) (by rw [show (⟨#[0]⟩ : ByteArray).size = 1 from rfl]; omega)).mono ?_; rintro e w1 ⟨rfl, hb1⟩) | (go_at_call 162; refine (sum_any _ _ (by rw [← HP.out.1, HP.out.2.2]; omega)).mono ?_; rintro e w2 ⟨rfl, hb2⟩; rw [← HP.out.1, HC.out]) | (go_at_call 159; refine (number_yes _ cc 4 hc0 (by omega) (by omega) (by omega) HF.out).mono ?_; rintro e w3 ⟨rfl, hb3⟩) | (go_at_call 163; refine (trimRight_any _ _ (by simp [hn4, hps])).mono ?_; rintro e _ ⟨rfl, rfl⟩))
  go_ret
  refine ⟨?_, Below.step hb1 (Below.step hb2 hb3)⟩
  unfold wholeL
  rw [← HP.out.2.1, HC.out]
  simp
end Go.Proofs.YthhmcjojnbaiiaaGreatDoor
