/- Texts of the proof: Tk. -/
import Derived.Test.YthhmcjojnbaiiaaGreatDoorM11
import Derived.Test.YthhmcjojnbaiiaaGreatDoorM7
set_option linter.all false
/- Node's taker. -/
namespace Go.Proofs.YthhmcjojnbaiiaaGreatDoor
open Go Go.RowKit
structure Tk where
  left : ByteArray
  bad : Bool
def TkAt (w : World) (g : Nat) (t : Tk) : Prop := w.heap[g]? = some (.cells #[.string t.left, .bool t.bad] 165 (0, 0))
def someF (t : Tk) (n : Nat) : ByteArray × Tk :=
  if t.bad || decide (t.left.size < n) then (ByteArray.empty, ⟨t.left, true⟩) else (t.left.extract 0 n, ⟨t.left.extract n t.left.size, false⟩)
set_option maxRecDepth 100000 in
set_option maxHeartbeats 1000000 in
theorem some_any (w : World) (g : Nat) (t : Tk) (n : Nat) (hg : TkAt w g t) (hs : t.left.size ≤ 9223372036854775807) :
    Calls Tryz.prog 175 #[.pointer (some ⟨g, 0, none⟩), .int .i64 n] w fun e w' => e = .returned (.string (someF t n).1) ∧ w.grownBy w' (some g) ∧ TkAt w' g (someF t n).2 := by
  obtain ⟨s, bad⟩ := t
  unfold TkAt at hg
  have c0 : w.cell? ⟨g, 0, none⟩ = some (.string s) := by rw [cell_of_row w g 0 _ _ _ hg]; rfl
  have c1 : w.cell? ⟨g, 1, none⟩ = some (.bool bad) := by rw [cell_of_row w g 1 _ _ _ hg]; rfl
  have f0 : w.frozen? ⟨g, 0, none⟩ = false := frozen_of_row w g 0 _ _ hg
  have f1 : w.frozen? ⟨g, 1, none⟩ = false := frozen_of_row w g 1 _ _ hg
  have HG := Lib.hid hg
  clear hg
  cases bad with
  | true =>
    go_enter Tryz.func175, Tryz.ntmps175
    go_wp2
    go_ret
    exact ⟨rfl, grown_set (World.grownBy.refl w (some g)) 1 _, blk_set HG.out 1 _⟩
  | false =>
    by_cases hlt : s.size < n
    · have HD := Lib.hid (show decide (s.size < n) = true from decide_eq_true hlt)
      have hd : decide ((s.size : Int) < (n : Int)) = true := decide_eq_true (by omega)
      go_enter Tryz.func175, Tryz.ntmps175
      go_wp2
      go_ret
      refine ⟨?_, grown_set (World.grownBy.refl w (some g)) 1 _, ?_⟩
      · unfold someF; rw [HD.out]; rfl
      · unfold someF TkAt; rw [HD.out]; exact blk_set HG.out 1 _
    · have HD := Lib.hid (show decide (s.size < n) = false from decide_eq_false hlt)
      have hd : decide ((s.size : Int) < (n : Int)) = false := decide_eq_false (by omega)
      go_enter Tryz.func175, Tryz.ntmps175
      go_wp2
      go_ret
      refine ⟨?_, grown_set (grown_set (World.grownBy.refl w (some g)) 1 _) 0 _, ?_⟩
      · unfold someF; rw [HD.out]; rfl
      · unfold someF TkAt; rw [HD.out]; exact blk_set (blk_set HG.out 1 _) 0 _
theorem someF_le (t : Tk) (n : Nat) : (someF t n).2.left.size ≤ t.left.size := by
  unfold someF; split <;> simp
def numT (t : Tk) (k : Nat) : Int × Tk := (if (someF t k).1.size < k then 0 else takeOf ((someF t k).1.data.toList.take k), (someF t k).2)
set_option maxRecDepth 100000 in
set_option maxHeartbeats 1000000 in
theorem tkNumber_any (w : World) (g : Nat) (t : Tk) (k : Nat) (hk : 1 ≤ k) (hk8 : k ≤ 8) (hg : TkAt w g t) (hs : t.left.size ≤ 9223372036854775807) :
    Calls Tryz.prog 142 #[.pointer (some ⟨g, 0, none⟩), .int .i64 k] w fun e w' => e = .returned (.int .u64 (numT t k).1) ∧ w.grownBy w' (some g) ∧ TkAt w' g (numT t k).2 := by
  have hsz : (someF t k).1.size ≤ 9223372036854775807 := by
    unfold someF; split
    · simp
    · simp; omega
  by_cases hlt : (someF t k).1.size < k
  · have HN := Lib.hid (show (numT t k).1 = 0 by simp [numT, hlt])
    go_enter Tryz.func142, Tryz.ntmps142
    go_wp2_with (fail)
    go_at_call 175
    refine (some_any w g t k hg hs).mono ?_
    rintro e w1 ⟨rfl, hg1, ht1⟩
    go_wp2_with (fail)
    go_at_call 174
    refine (takeNumber_short w1 _ k hk hk8 hlt).mono ?_
    rintro e _ ⟨rfl, rfl⟩
    go_wp2
    go_ret
    exact ⟨by rw [HN.out]; rfl, hg1, ht1⟩
  · have HN := Lib.hid (show (numT t k).1 = takeOf ((someF t k).1.data.toList.take k) by simp [numT, hlt])
    go_enter Tryz.func142, Tryz.ntmps142
    go_wp2_with (fail)
    go_at_call 175
    refine (some_any w g t k hg hs).mono ?_
    rintro e w1 ⟨rfl, hg1, ht1⟩
    go_wp2_with (fail)
    go_at_call 174
    refine (takeNumber_yes w1 _ k hsz hk hk8 (by omega)).mono ?_
    rintro e _ ⟨rfl, q, rfl⟩
    go_wp2
    go_ret
    refine ⟨by rw [HN.out]; rfl, ⟨hg1.os, hg1.tape, hg1.output, hg1.size, hg1.block⟩, ht1⟩
def textT (t : Tk) : ByteArray × Tk := someF (numT t 1).2 (numT t 1).1.toNat
theorem takeOf_one (b : List UInt8) : 0 ≤ takeOf (b.take 1) ∧ takeOf (b.take 1) ≤ 255 := by
  by_cases h : b.length = 0
  · have : b = [] := List.length_eq_zero_iff.1 h
    subst this
    exact ⟨by decide, by decide⟩
  · obtain ⟨i0, i1⟩ := takeOf_range 1 (b.take 1) (by simp; omega) (by omega)
    exact ⟨i0, by omega⟩
theorem numT_one (t : Tk) : 0 ≤ (numT t 1).1 ∧ (numT t 1).1 ≤ 255 := by
  unfold numT
  split
  · exact ⟨by omega, by omega⟩
  · exact takeOf_one _
set_option maxRecDepth 100000 in
set_option maxHeartbeats 1000000 in
theorem tkText_any (w : World) (g : Nat) (t : Tk) (hg : TkAt w g t) (hs : t.left.size ≤ 9223372036854775807) :
    Calls Tryz.prog 143 #[.pointer (some ⟨g, 0, none⟩)] w fun e w' => e = .returned (.string (textT t).1) ∧ w.grownBy w' (some g) ∧ TkAt w' g (textT t).2 := by
  obtain ⟨h0, h1⟩ := numT_one t
  have hle : (numT t 1).2.left.size ≤ 9223372036854775807 := Nat.le_trans (someF_le t 1) hs
  obtain ⟨m, hm⟩ : ∃ m : Nat, (numT t 1).1 = (m : Int) := ⟨(numT t 1).1.toNat, by omega⟩
  have HM := Lib.hid hm
  have hm255 : m ≤ 255 := by omega
  clear h0 h1
  go_enter Tryz.func143, Tryz.ntmps143
  go_wp2_with (fail)
  go_at_call 142
  refine (tkNumber_any w g t 1 (by omega) (by omega) hg hs).mono ?_
  rintro e w1 ⟨rfl, hg1, ht1⟩
  rw [hm]
  clear hm
  go_wp2_with (fail)
  go_at_call 175
  refine (some_any w1 g (numT t 1).2 m ht1 hle).mono ?_
  rintro e w2 ⟨rfl, hg2, ht2⟩
  go_wp2
  go_ret
  have e1 : textT t = someF (numT t 1).2 m := by unfold textT; rw [HM.out]; rfl
  exact ⟨by rw [e1]; rfl, grown_trans hg1 hg2, by rw [e1]; exact ht2⟩
end Go.Proofs.YthhmcjojnbaiiaaGreatDoor
