/- Texts of the proof: S0 S1 S2 S3 S4 S5 S6. -/
import Derived.Test.YthhmcjojnbaiiaaGreatDoorM30
import Derived.Sort.Walk13a
import Derived.Sort.WalkA
import Derived.Sort.WalkB2
import Derived.Deep.LoopGhost
import Derived.Sort.WalkB3
import Derived.Sort.WalkD1
import Derived.Sort.LotD4
import Derived.Sort.Walk7
import Derived.Sort.WalkA14
set_option linter.all false
/- slices.Sort of uint32: the row under sort; cmp.Less. -/
namespace Go.Proofs.YthhmcjojnbaiiaaGreatDoor
open Go Go.RowKit
open Go.Sort (swp ltInt)

/-- The world wr is w but for block b, which holds dk from place off on (pre ahead of it, tail behind), for draws and for new blocks. -/
structure SR (w : World) (b off : Nat) (pre tail : List Value) (n : Nat) (dk : Array Int) (wr : World) : Prop where
  size : dk.size = n
  ahead : pre.length = off
  lt : b < w.heap.size
  grown : w.grownBy wr (some b)
  row : wr.heap[b]? = some (.cells (pre ++ (dk.toList.map (Value.int .u32) ++ tail)).toArray 22 (0, 0))

section
variable {w wr w1 : World} {b off n : Nat} {pre tail : List Value} {dk : Array Int}
theorem SR.cell (h : SR w b off pre tail n dk wr) {t : Nat} (ht : t < n) : wr.cell? ⟨b, off + t, none⟩ = some (.int .u32 dk[t]!) := by
  have hs := h.size
  have ha := h.ahead
  rw [cell_of_row _ _ _ _ _ _ h.row]
  rw [List.getElem?_toArray, List.getElem?_append_right (by omega), List.getElem?_append_left (by simp; omega), List.getElem?_map, getElem!_pos dk t (by omega)]
  simp [ha, show t < dk.size by omega]
theorem SR.frozen (h : SR w b off pre tail n dk wr) (t : Nat) : wr.frozen? ⟨b, t, none⟩ = false := by simp [World.frozen?, h.row]
theorem SR.ltw (h : SR w b off pre tail n dk wr) : b < wr.heap.size := Nat.lt_of_lt_of_le h.lt h.grown.size
theorem SR.drewN (h : SR w b off pre tail n dk wr) (q : Nat) : SR w b off pre tail n dk (wr.drewN q) := ⟨h.size, h.ahead, h.lt, ⟨h.grown.os, h.grown.tape, h.grown.output, h.grown.size, h.grown.block⟩, h.row⟩
theorem SR.drew (h : SR w b off pre tail n dk wr) : SR w b off pre tail n dk wr.drew := h.drewN 1
theorem SR.set (h : SR w b off pre tail n dk wr) {i : Nat} (hi : i < n) (x : Int) : SR w b off pre tail n (dk.setIfInBounds i x) (wr.setCell ⟨b, off + i, none⟩ (.int .u32 x)) := by
  have hs := h.size
  have ha := h.ahead
  refine ⟨by simpa using hs, ha, h.lt, ⟨h.grown.os, h.grown.tape, h.grown.output, by have := h.grown.size; simpa [World.setCell] using this, fun k hk hne => ?_⟩, ?_⟩
  · have hkb : b ≠ k := fun e => hne (by rw [e])
    rw [← h.grown.block k hk hne]
    simp [World.setCell, Array.getElem?_modify, hkb]
  · have hr := h.row
    simp only [World.setCell, Array.getElem?_modify, hr, if_true, Option.map_some]
    congr 2
    apply Array.ext'
    simp [List.set_append, ha, hs, hi, List.map_set, show ¬ off + i < off by omega]
theorem SR.swap (h : SR w b off pre tail n dk wr) {i j : Nat} (hi : i < n) (hj : j < n) : SR w b off pre tail n (swp dk i j) ((wr.setCell ⟨b, off + i, none⟩ (.int .u32 dk[j]!)).setCell ⟨b, off + j, none⟩ (.int .u32 dk[i]!)) :=
  (h.set hi _).set hj _
theorem SR.below (h : SR w b off pre tail n dk wr) (hb : Below wr.heap.size wr w1) : SR w b off pre tail n dk w1 := by
  have hl := h.ltw
  refine ⟨h.size, h.ahead, h.lt, ⟨hb.os.trans h.grown.os, hb.tape.trans h.grown.tape, hb.output.trans h.grown.output, Nat.le_trans h.grown.size hb.size, fun k hk hne => ?_⟩, ?_⟩
  · have := h.grown.size
    rw [hb.block k (by omega), h.grown.block k hk hne]
  · rw [hb.block b hl, h.row]
/-- A store into a block made since. -/
theorem SR.other (h : SR w b off pre tail n dk wr) {k o : Nat} (hk : w.heap.size ≤ k) (v : Value) : SR w b off pre tail n dk (wr.setCell ⟨k, o, none⟩ v) := by
  have hl := h.lt
  refine ⟨h.size, h.ahead, h.lt, ⟨h.grown.os, h.grown.tape, h.grown.output, by have := h.grown.size; simpa [World.setCell] using this, fun j hj hne => ?_⟩, ?_⟩
  · rw [← h.grown.block j hj hne]
    simp [World.setCell, Array.getElem?_modify, show k ≠ j by omega]
  · rw [← h.row]
    simp [World.setCell, Array.getElem?_modify, show k ≠ b by omega]
end
theorem isNaN_any (x : Int) (w : World) : Calls Tryz.prog 128 #[.int .u32 x] w fun e w' => e = .returned (.bool false) ∧ w' = w := by
  go_enter Tryz.func128, Tryz.ntmps128
  go_wp2
  go_ret
  exact ⟨by simp, rfl⟩
theorem less_any (x y : Int) (w : World) : Calls Tryz.prog 136 #[.int .u32 x, .int .u32 y] w fun e w' => e = .returned (.bool (ltInt x y)) ∧ w' = w := by
  go_enter Tryz.func136, Tryz.ntmps136
  go_wp2_with (go_at_call 128; refine (isNaN_any _ _).mono ?_; rintro e w' ⟨rfl, rfl⟩)
  go_ret
  exact ⟨rfl, rfl⟩
end Go.Proofs.YthhmcjojnbaiiaaGreatDoor

/- slices.Sort of uint32: insertionSortOrdered, reverseRangeOrdered. -/
namespace Go.Proofs.YthhmcjojnbaiiaaGreatDoor
open Go Go.RowKit
open Go.Sort (swp ltInt insInner insOuter size_swp)

theorem insSort_any (w : World) (b off n cap lo hi : Nat) (pre tail : List Value) (d : Array Int) (wr : World) (hS : SR w b off pre tail n d wr) (hab : lo ≤ hi) (hb : hi ≤ n) (hn : n ≤ 1073741824) :
    Calls Tryz.prog 130 #[.slice (some ⟨b, off, none⟩) n cap, .int .i64 lo, .int .i64 hi] wr fun e w' => e = .returned (.tuple #[]) ∧ SR w b off pre tail n (Sort.insertionSort ltInt d lo hi) w' := by
  have HS := Lib.hid hS
  clear hS
  go_enter Tryz.func130, Tryz.ntmps130
  go_wp2
  go_loopw [6] (fun vi wq => ∃ (i : Nat) (dk : Array Int), vi = .int .i64 i ∧ lo < i ∧ i ≤ hi + 1 ∧ SR w b off pre tail n dk wq ∧ insOuter ltInt lo hi i dk = insOuter ltInt lo hi (lo + 1) d) (fun vi _ => hi + 1 - (intOf vi).toNat)
  case atStart => exact ⟨lo + 1, d, by go_num, by omega, by omega, HS.out, rfl⟩
  case round =>
    obtain ⟨i, dk, rfl, hai, hib, hsk, hO⟩ := hrel
    have HO := Lib.hid hO
    have HK := Lib.hid hsk
    clear hO hsk
    go_wp2
    · go_loopw [7] (fun vj wq => ∃ (j : Nat) (dj : Array Int), vj = .int .i64 j ∧ lo ≤ j ∧ j ≤ i ∧ SR w b off pre tail n dj wq ∧ insInner ltInt lo j dj = insInner ltInt lo i dk) (fun vj _ => (intOf vj).toNat)
      case atStart => exact ⟨i, dk, rfl, by omega, Nat.le_refl _, HK.out, rfl⟩
      case round =>
        obtain ⟨j, dj, rfl, haj, hji, hsj, hI⟩ := hrel
        have hlt : i < hi := by assumption
        obtain ⟨G, hG⟩ : ∃ G : Nat → Int, ∀ t, G t = dj[t]! := ⟨fun t => dj[t]!, fun _ => rfl⟩
        have hcw : ∀ t, t < n → wr.cell? ⟨b, off + t, none⟩ = some (.int .u32 (G t)) := fun t ht => by rw [hG]; exact hsj.cell ht
        have hfw : ∀ t, t < n → wr.frozen? ⟨b, off + t, none⟩ = false := fun t _ => hsj.frozen _
        have HJ := Lib.hid hsj
        have HG := Lib.hid hG
        have HI := Lib.hid hI
        clear hG hI hsj
        have OUT := Lib.hid (show (j ≤ lo ∨ ltInt dj[j]! dj[j - 1]! = false) → ∀ q, ∃ (i' : Nat) (dk' : Array Int), Value.int .i64 ((i : Int) + 1) = .int .i64 i' ∧ lo < i' ∧ i' ≤ hi + 1 ∧ SR w b off pre tail n dk' (wr.drewN q) ∧ insOuter ltInt lo hi i' dk' = insOuter ltInt lo hi (lo + 1) d from
          fun hs q => ⟨i + 1, dj, by go_num, by omega, by omega, HJ.out.drewN q, by rw [← HO.out, insOuter_go _ _ _ _ _ hlt, ← HI.out, insInner_stop _ _ _ _ hs]⟩)
        go_wp2
        by_cases hja : lo < j
        · go_quiet (first | (go_at_call 136; refine Calls.quiet_of_same (less_any _ _ _)))
          go_wp2
          · have hl : ltInt (G j) (G (j - 1)) = true := by assumption
            go_region
            all_goals go_wp2
            go_roundw
            case rel =>
              refine ⟨j - 1, swp dj j (j - 1), by congr 1; omega, by omega, by omega, ?_, ?_⟩
              · rw [HG.out, HG.out]
                exact (HJ.out.drewN _).swap (by omega) (by omega)
              · rw [← HI.out, insInner_go ltInt lo j dj hja (by rw [← HG.out, ← HG.out]; exact hl)]
            case measure => simp [intOf]; omega
          · have hl : ltInt (G j) (G (j - 1)) = false := by assumption
            go_roundw
            case rel => exact OUT.out (Or.inr (by rw [← HG.out, ← HG.out]; exact hl)) nq
            case measure => simp [intOf]; omega
        · go_quiet (first | (go_at_call 136; refine Calls.quiet_of_same (less_any _ _ _)))
          go_wp2
          go_roundw
          case rel => exact OUT.out (Or.inl (by omega)) nq
          case measure => simp [intOf]; omega
    · have hge : ¬ i < hi := by assumption
      go_end0
      refine ⟨rfl, ?_⟩
      unfold Sort.insertionSort
      rw [← HO.out, insOuter_stop _ _ _ _ _ hge]
      exact HK.out
end Go.Proofs.YthhmcjojnbaiiaaGreatDoor

/- slices.Sort of uint32: reverseRangeOrdered, siftDownOrdered. -/
namespace Go.Proofs.YthhmcjojnbaiiaaGreatDoor
open Go Go.RowKit
open Go.Sort (swp ltInt size_swp reverseLoop reverseRange siftDown sd_end sd_right_stop sd_right_go sd_left_stop sd_left_go)

set_option maxRecDepth 100000 in
theorem revRange_any (w : World) (b off n cap lo hi : Nat) (pre tail : List Value) (d : Array Int) (wr : World) (hS : SR w b off pre tail n d wr) (hab : lo ≤ hi) (hb : hi ≤ n) (hn : n ≤ 1073741824) :
    Calls Tryz.prog 134 #[.slice (some ⟨b, off, none⟩) n cap, .int .i64 lo, .int .i64 hi] wr fun e w' => e = .returned (.tuple #[]) ∧ SR w b off pre tail n (reverseRange d lo hi) w' := by
  have HS := Lib.hid hS
  clear hS
  go_enter Tryz.func134, Tryz.ntmps134
  go_wp2
  go_loopg [6, 7] (hi - lo) (fun k s6 s7 wq => ∃ (i j : Nat) (jz : Int) (dk : Array Int), s6 = .int .i64 i ∧ s7 = .int .i64 jz ∧ ((i : Int) < jz → jz = j ∧ j < n) ∧ (¬ (i : Int) < jz → ¬ i < j) ∧ -1 ≤ jz ∧ i ≤ n ∧ jz ≤ n ∧ j - i ≤ k ∧ SR w b off pre tail n dk wq ∧ reverseLoop i j dk = reverseLoop lo (hi - 1) d)
  case atStart => exact ⟨lo, hi - 1, (hi : Int) - 1, d, rfl, rfl, fun h => ⟨by omega, by omega⟩, fun h => by omega, by omega, by omega, by omega, by omega, HS.out, rfl⟩
  case round =>
    obtain ⟨i, j, jz, dk, rfl, rfl, h1, h2, h3, h4, h5, hk, hsk, heq⟩ := hrel
    by_cases hlt : (i : Int) < jz
    · obtain ⟨rfl, hjn⟩ := h1 hlt
      have hij : i < j := by omega
      obtain ⟨G, hG⟩ : ∃ G : Nat → Int, ∀ t, G t = dk[t]! := ⟨fun t => dk[t]!, fun _ => rfl⟩
      have hcw : ∀ t, t < n → wr.cell? ⟨b, off + t, none⟩ = some (.int .u32 (G t)) := fun t ht => by rw [hG]; exact hsk.cell ht
      have hfw : ∀ t, t < n → wr.frozen? ⟨b, off + t, none⟩ = false := fun t _ => hsk.frozen _
      have HJ := Lib.hid hsk
      have HG := Lib.hid hG
      have HE := Lib.hid heq
      clear hG hsk h1 h2 heq
      go_wp2_with fail
      go_region
      go_wp2
      go_roundg (j - 1 - (i + 1))
      case measure => omega
      case rel =>
        have h := HE.out
        rw [reverseLoop, if_pos hij] at h
        refine ⟨i + 1, j - 1, (j : Int) - 1, swp dk i j, by simp, rfl, fun h => ⟨by omega, by omega⟩, fun h => by omega, by omega, by omega, by omega, Nat.le_refl _, ?_, h⟩
        rw [HG.out, HG.out]
        exact (HJ.out.drewN _).swap (by omega) (by omega)
    · have hnot := h2 hlt
      have HJ := Lib.hid hsk
      have HE := Lib.hid heq
      clear hsk h1 h2 heq
      go_wp2
      go_end0
      refine ⟨rfl, ?_⟩
      have h := HE.out
      rw [reverseLoop, if_neg hnot] at h
      rw [reverseRange, ← h]
      exact HJ.out
set_option maxRecDepth 1000000 in
set_option maxHeartbeats 3200000 in
theorem sift_any (w : World) (b off n cap lo hi first : Nat) (pre tail : List Value) (d : Array Int) (wr : World) (hS : SR w b off pre tail n d wr) (hab : lo ≤ hi) (hb : first + hi ≤ n) (hn : n ≤ 1073741824) :
    Calls Tryz.prog 166 #[.slice (some ⟨b, off, none⟩) n cap, .int .i64 lo, .int .i64 hi, .int .i64 first] wr fun e w' => e = .returned (.tuple #[]) ∧ SR w b off pre tail n (siftDown ltInt hi first lo d) w' := by
  have HS := Lib.hid hS
  clear hS
  go_enter Tryz.func166, Tryz.ntmps166
  go_wp2
  go_loopg [8] (hi - lo) (fun k s8 wq => ∃ (root : Nat) (dk : Array Int), s8 = .int .i64 root ∧ root ≤ hi ∧ hi - root ≤ k ∧ SR w b off pre tail n dk wq ∧ siftDown ltInt hi first root dk = siftDown ltInt hi first lo d)
  case atStart => exact ⟨lo, d, rfl, hab, Nat.le_refl _, HS.out, rfl⟩
  case round =>
    obtain ⟨root, dk, rfl, hr, hk, hsk, heq⟩ := hrel
    obtain ⟨G, hG⟩ : ∃ G : Nat → Int, ∀ t, G t = dk[t]! := ⟨fun t => dk[t]!, fun _ => rfl⟩
    have hcw : ∀ t, t < n → wr.cell? ⟨b, off + t, none⟩ = some (.int .u32 (G t)) := fun t ht => by rw [hG]; exact hsk.cell ht
    have hfw : ∀ t, t < n → wr.frozen? ⟨b, off + t, none⟩ = false := fun t _ => hsk.frozen _
    have HJ := Lib.hid hsk
    have HG := Lib.hid hG
    have HE := Lib.hid heq
    clear hG hsk heq
    by_cases h0 : hi ≤ 2 * root + 1
    · have h0z : (hi : Int) ≤ 2 * (root : Int) + 1 := by omega
      go_wp2
      go_end0
      refine ⟨rfl, ?_⟩
      rw [← HE.out, sd_end ltInt dk h0]
      exact HJ.out
    · have h0z : ¬ ((hi : Int) ≤ 2 * (root : Int) + 1) := by omega
      by_cases h1 : 2 * root + 2 < hi
      · have h1z : 2 * (root : Int) + 1 + 1 < (hi : Int) := by omega
        go_wp2_with fail
        go_big_quiet (first | (go_at_call 136; refine Calls.quiet_of_same (less_any _ _ _)))
        go_wp2_with fail
        · have hL : ltInt (G (first + 2 * root + 1)) (G (first + 2 * root + 2)) = true := by assumption
          rw [HG.out, HG.out, Nat.add_assoc, Nat.add_assoc] at hL
          revert nq; intro nq1
          have hcw2 : ∀ t, t < n → (wr.drewN nq1).cell? ⟨b, off + t, none⟩ = some (.int .u32 (G t)) := hcw
          have hfw2 : ∀ t, t < n → (wr.drewN nq1).frozen? ⟨b, off + t, none⟩ = false := hfw
          have HJ2 := Lib.hid (HJ.out.drewN nq1)
          clear hcw hfw HJ
          generalize wr.drewN nq1 = wr2 at hcw2 hfw2 HJ2 ⊢
          go_big_quiet (first | (go_at_call 136; refine Calls.quiet_of_same (less_any _ _ _)))
          go_wp2_with fail
          · have hq : ltInt (G (first + root)) (G (first + 2 * root + 2)) = false := by
              have : (!ltInt (G (first + root)) (G (first + 2 * root + 2))) = true := by assumption
              simpa using this
            (try simp only [Exit.inBlock, Exit.then]); refine bodyPost_ret (results_none rfl _ _ _) rfl ?_
            refine ⟨rfl, ?_⟩
            rw [HG.out, HG.out, Nat.add_assoc] at hq
            rw [← HE.out, sd_right_stop ltInt dk h1 hL hq]
            exact HJ2.out.drewN nq
          · have hq : ltInt (G (first + root)) (G (first + 2 * root + 2)) = true := by
              have : (!ltInt (G (first + root)) (G (first + 2 * root + 2))) = false := by assumption
              simpa using this
            have hcw3 : ∀ t, t < n → (wr2.drewN nq).cell? ⟨b, off + t, none⟩ = some (.int .u32 (G t)) := hcw2
            have hfw3 : ∀ t, t < n → (wr2.drewN nq).frozen? ⟨b, off + t, none⟩ = false := hfw2
            have HJ3 := Lib.hid (HJ2.out.drewN nq)
            clear hcw2 hfw2 HJ2
            generalize wr2.drewN nq = wr3 at hcw3 hfw3 HJ3 ⊢
            go_region
            go_wp2
            go_roundg (hi - (2 * root + 2))
            case measure => omega
            case rel =>
              rw [HG.out, HG.out, Nat.add_assoc] at hq
              refine ⟨2 * root + 2, swp dk (first + root) (first + (2 * root + 2)), by simp <;> omega, by omega, Nat.le_refl _, ?_, by rw [← HE.out, sd_right_go ltInt dk h1 hL hq]⟩
              have hsw := (HJ3.out.drewN 1).swap (i := first + root) (j := first + (2 * root + 2)) (by omega) (by omega)
              simp only [HG.out]
              exact hsw
        · have hL : ltInt (G (first + 2 * root + 1)) (G (first + 2 * root + 2)) = false := by assumption
          rw [HG.out, HG.out, Nat.add_assoc, Nat.add_assoc] at hL
          revert nq; intro nq1
          have hcw2 : ∀ t, t < n → (wr.drewN nq1).cell? ⟨b, off + t, none⟩ = some (.int .u32 (G t)) := hcw
          have hfw2 : ∀ t, t < n → (wr.drewN nq1).frozen? ⟨b, off + t, none⟩ = false := hfw
          have HJ2 := Lib.hid (HJ.out.drewN nq1)
          clear hcw hfw HJ
          generalize wr.drewN nq1 = wr2 at hcw2 hfw2 HJ2 ⊢
          go_big_quiet (first | (go_at_call 136; refine Calls.quiet_of_same (less_any _ _ _)))
          go_wp2_with fail
          · have hq : ltInt (G (first + root)) (G (first + 2 * root + 1)) = false := by
              have : (!ltInt (G (first + root)) (G (first + 2 * root + 1))) = true := by assumption
              simpa using this
            (try simp only [Exit.inBlock, Exit.then]); refine bodyPost_ret (results_none rfl _ _ _) rfl ?_
            refine ⟨rfl, ?_⟩
            rw [HG.out, HG.out, Nat.add_assoc] at hq
            rw [← HE.out, sd_left_stop ltInt dk (by omega) (fun _ => hL) hq]
            exact HJ2.out.drewN nq
          · have hq : ltInt (G (first + root)) (G (first + 2 * root + 1)) = true := by
              have : (!ltInt (G (first + root)) (G (first + 2 * root + 1))) = false := by assumption
              simpa using this
            have hcw3 : ∀ t, t < n → (wr2.drewN nq).cell? ⟨b, off + t, none⟩ = some (.int .u32 (G t)) := hcw2
            have hfw3 : ∀ t, t < n → (wr2.drewN nq).frozen? ⟨b, off + t, none⟩ = false := hfw2
            have HJ3 := Lib.hid (HJ2.out.drewN nq)
            clear hcw2 hfw2 HJ2
            generalize wr2.drewN nq = wr3 at hcw3 hfw3 HJ3 ⊢
            go_region
            go_wp2
            go_roundg (hi - (2 * root + 1))
            case measure => omega
            case rel =>
              rw [HG.out, HG.out, Nat.add_assoc] at hq
              refine ⟨2 * root + 1, swp dk (first + root) (first + (2 * root + 1)), by simp <;> omega, by omega, Nat.le_refl _, ?_, by rw [← HE.out, sd_left_go ltInt dk (by omega) (fun _ => hL) hq]⟩
              have hsw := (HJ3.out.drewN 1).swap (i := first + root) (j := first + (2 * root + 1)) (by omega) (by omega)
              simp only [HG.out]
              exact hsw
      · have h1z : decide (2 * (root : Int) + 1 + 1 < (hi : Int)) = false := decide_eq_false (by omega)
        go_wp2_with fail
        go_big_quiet (first | (go_at_call 136; refine Calls.quiet_of_same (less_any _ _ _)))
        go_wp2_with fail
        revert nq; intro nq1
        have hcw2 : ∀ t, t < n → (wr.drewN nq1).cell? ⟨b, off + t, none⟩ = some (.int .u32 (G t)) := hcw
        have hfw2 : ∀ t, t < n → (wr.drewN nq1).frozen? ⟨b, off + t, none⟩ = false := hfw
        have HJ2 := Lib.hid (HJ.out.drewN nq1)
        clear hcw hfw HJ
        generalize wr.drewN nq1 = wr2 at hcw2 hfw2 HJ2 ⊢
        go_big_quiet (first | (go_at_call 136; refine Calls.quiet_of_same (less_any _ _ _)))
        go_wp2_with fail
        · have hq : ltInt (G (first + root)) (G (first + 2 * root + 1)) = false := by
            have : (!ltInt (G (first + root)) (G (first + 2 * root + 1))) = true := by assumption
            simpa using this
          (try simp only [Exit.inBlock, Exit.then]); refine bodyPost_ret (results_none rfl _ _ _) rfl ?_
          refine ⟨rfl, ?_⟩
          rw [HG.out, HG.out, Nat.add_assoc] at hq
          rw [← HE.out, sd_left_stop ltInt dk (by omega) (fun h => absurd h h1) hq]
          exact HJ2.out.drewN nq
        · have hq : ltInt (G (first + root)) (G (first + 2 * root + 1)) = true := by
            have : (!ltInt (G (first + root)) (G (first + 2 * root + 1))) = false := by assumption
            simpa using this
          have hcw3 : ∀ t, t < n → (wr2.drewN nq).cell? ⟨b, off + t, none⟩ = some (.int .u32 (G t)) := hcw2
          have hfw3 : ∀ t, t < n → (wr2.drewN nq).frozen? ⟨b, off + t, none⟩ = false := hfw2
          have HJ3 := Lib.hid (HJ2.out.drewN nq)
          clear hcw2 hfw2 HJ2
          generalize wr2.drewN nq = wr3 at hcw3 hfw3 HJ3 ⊢
          go_region
          go_wp2
          go_roundg (hi - (2 * root + 1))
          case measure => omega
          case rel =>
            rw [HG.out, HG.out, Nat.add_assoc] at hq
            refine ⟨2 * root + 1, swp dk (first + root) (first + (2 * root + 1)), by simp <;> omega, by omega, Nat.le_refl _, ?_, by rw [← HE.out, sd_left_go ltInt dk (by omega) (fun h => absurd h h1) hq]⟩
            have hsw := (HJ3.out.drewN 1).swap (i := first + root) (j := first + (2 * root + 1)) (by omega) (by omega)
            simp only [HG.out]
            exact hsw
end Go.Proofs.YthhmcjojnbaiiaaGreatDoor

/- slices.Sort of uint32: heapSortOrdered. -/
namespace Go.Proofs.YthhmcjojnbaiiaaGreatDoor
open Go Go.RowKit
open Go.Sort (swp ltInt size_swp siftDown heapBuild heapPop heapSort)

set_option maxRecDepth 1000000 in
set_option maxHeartbeats 3200000 in
theorem heapSort_any (w : World) (b off n cap lo hi : Nat) (pre tail : List Value) (d : Array Int) (wr : World) (hS : SR w b off pre tail n d wr) (hab : lo ≤ hi) (hb : hi ≤ n) (hn : n ≤ 1073741824) :
    Calls Tryz.prog 131 #[.slice (some ⟨b, off, none⟩) n cap, .int .i64 lo, .int .i64 hi] wr fun e w' => e = .returned (.tuple #[]) ∧ SR w b off pre tail n (heapSort ltInt d lo hi) w' := by
  have ecast : ((hi - lo : Nat) : Int) = (hi : Int) - (lo : Int) := by omega
  have HS := Lib.hid hS
  clear hS
  go_enter Tryz.func131, Tryz.ntmps131
  go_wp2
  go_loopg [9] ((hi - lo - 1) / 2 + 1) (fun k s9 wq => s9 = .int .i64 ((k : Int) - 1) ∧ k ≤ (hi - lo - 1) / 2 + 1 ∧ ∃ (dk : Array Int), SR w b off pre tail n dk wq ∧ heapBuild ltInt (hi - lo) lo k dk = heapBuild ltInt (hi - lo) lo ((hi - lo - 1) / 2 + 1) d)
  case atStart => exact ⟨by rw [half_start hab], Nat.le_refl _, d, HS.out, rfl⟩
  case round =>
    obtain ⟨rfl, hkk, dk, hsk, heq⟩ := hrel
    have HJ := Lib.hid hsk
    have HE := Lib.hid heq
    clear hsk heq
    cases gk with
    | zero =>
      clear hkk
      go_wp2
      go_loopg [10] (hi - lo) (fun k s10 wq => s10 = .int .i64 ((k : Int) - 1) ∧ k ≤ hi - lo ∧ ∃ (dj : Array Int), SR w b off pre tail n dj wq ∧ heapPop ltInt lo k dj = heapPop ltInt lo (hi - lo) dk)
      case atStart => exact ⟨by rw [ecast], Nat.le_refl _, dk, HJ.out, rfl⟩
      case round =>
        obtain ⟨rfl, hkk, dj, hsj, heq2⟩ := hrel
        cases gk with
        | zero =>
          have HX := Lib.hid (And.intro hsj heq2)
          clear hsj heq2
          go_wp2
          go_end0
          refine ⟨rfl, ?_⟩
          have e : heapSort ltInt d lo hi = dj := by
            have h1 := HE.out
            have h2 := HX.out.2
            rw [heapSort, ← h1, show heapBuild ltInt (hi - lo) lo 0 dk = dk from rfl, ← h2]
            rfl
          rw [e]
          exact HX.out.1
        | succ k =>
          obtain ⟨G, hG⟩ : ∃ G : Nat → Int, ∀ t, G t = dj[t]! := ⟨fun t => dj[t]!, fun _ => rfl⟩
          have hcw : ∀ t, t < n → wr.cell? ⟨b, off + t, none⟩ = some (.int .u32 (G t)) := fun t ht => by rw [hG]; exact hsj.cell ht
          have hfw : ∀ t, t < n → wr.frozen? ⟨b, off + t, none⟩ = false := fun t _ => hsj.frozen _
          have HJ2 := Lib.hid hsj
          have HG := Lib.hid hG
          have HE2 := Lib.hid heq2
          clear hG hsj heq2
          rcases Nat.eq_zero_or_pos k with hk0 | hkp
          · subst hk0
            go_wp2_with fail
            go_region
            go_wp2_with fail
            have hsw := (HJ2.out.drewN 1).swap (i := lo) (j := lo) (by omega) (by omega)
            have HSW := Lib.hid hsw
            clear hsw
            simp only [HG.out]
            refine (sift_any w b off n cap 0 0 lo pre tail _ _ HSW.out (Nat.zero_le _) (by omega) hn).mono ?_
            rintro e w1 ⟨rfl, hw1⟩
            have HW1 := Lib.hid hw1
            clear hw1
            go_wp2
            go_roundg 0
            case measure => omega
            case rel => exact ⟨by simp, by omega, _, HW1.out, HE2.out⟩
          · go_wp2_with fail
            go_region
            go_wp2_with fail
            have hsw := (HJ2.out.drewN 1).swap (i := lo) (j := lo + k) (by omega) (by omega)
            have HSW := Lib.hid hsw
            clear hsw
            simp only [HG.out]
            refine (sift_any w b off n cap 0 k lo pre tail _ _ HSW.out (Nat.zero_le _) (by omega) hn).mono ?_
            rintro e w1 ⟨rfl, hw1⟩
            have HW1 := Lib.hid hw1
            clear hw1
            go_wp2
            go_roundg k
            case measure => omega
            case rel => exact ⟨by simp, by omega, _, HW1.out, HE2.out⟩
    | succ k =>
      go_wp2_with fail
      rw [← ecast]
      refine (sift_any w b off n cap k (hi - lo) lo pre tail _ _ HJ.out (by omega) (by omega) hn).mono ?_
      rintro e w1 ⟨rfl, hw1⟩
      have HW1 := Lib.hid hw1
      clear hw1
      go_wp2
      go_roundg k
      case measure => omega
      case rel => exact ⟨by simp, by omega, _, HW1.out, HE.out⟩
end Go.Proofs.YthhmcjojnbaiiaaGreatDoor

/- slices.Sort of uint32: order2Ordered, medianOrdered, medianAdjacentOrdered. -/
namespace Go.Proofs.YthhmcjojnbaiiaaGreatDoor
open Go Go.RowKit
open Go.Sort (swp ltInt size_swp order2 median medianAdjacent)

/-- The counter behind 'swaps'. -/
def Cnt (w : World) (sb s : Nat) : Prop := w.heap[sb]? = some (.cells #[.int .i64 s] 3 (0, 0))
theorem Cnt.drewN {w : World} {sb s : Nat} (h : Cnt w sb s) (q : Nat) : Cnt (w.drewN q) sb s := h
theorem Cnt.set {w : World} {sb s : Nat} (h : Cnt w sb s) (t : Int) (k : Nat) (hk : t = k) : Cnt (w.setCell ⟨sb, 0, none⟩ (.int .i64 t)) sb k := by
  subst hk
  have h' : w.heap[sb]? = _ := h
  simp [Cnt, World.setCell, Array.getElem?_modify, h']
theorem order2_any (w : World) (b off n cap x y sb s : Nat) (pre tail : List Value) (d : Array Int) (wr : World) (hS : SR w b off pre tail n d wr) (hx : x < n) (hy : y < n) (hn : n ≤ 1073741824) (hsb : w.heap.size ≤ sb) (hc : Cnt wr sb s) (hs : s ≤ 1073741824) :
    Calls Tryz.prog 195 #[.slice (some ⟨b, off, none⟩) n cap, .int .i64 x, .int .i64 y, .pointer (some ⟨sb, 0, none⟩)] wr fun e w' =>
      e = .returned (.tuple #[.int .i64 (order2 ltInt d x y s).1, .int .i64 (order2 ltInt d x y s).2.1]) ∧ SR w b off pre tail n d w' ∧ Cnt w' sb (order2 ltInt d x y s).2.2 := by
  obtain ⟨G, hG⟩ : ∃ G : Nat → Int, ∀ t, G t = d[t]! := ⟨fun t => d[t]!, fun _ => rfl⟩
  have hcw : ∀ t, t < n → wr.cell? ⟨b, off + t, none⟩ = some (.int .u32 (G t)) := fun t ht => by rw [hG]; exact hS.cell ht
  have cs : wr.cell? ⟨sb, 0, none⟩ = some (.int .i64 s) := by rw [cell_of_row _ _ _ _ _ _ hc]; rfl
  have fs : wr.frozen? ⟨sb, 0, none⟩ = false := frozen_of_row _ _ _ _ _ hc
  have HS := Lib.hid (And.intro hS hc)
  have HG := Lib.hid hG
  clear hS hc hG
  go_enter Tryz.func195, Tryz.ntmps195
  go_wp2_with fail
  go_quiet (first | (go_at_call 136; refine Calls.quiet_of_same (less_any _ _ _)))
  go_wp2_with fail
  · have hq : ltInt (G y) (G x) = true := by assumption
    rw [HG.out, HG.out] at hq
    have e2 : order2 ltInt d x y s = (y, x, s + 1) := by simp [order2, hq]
    rw [e2]
    go_ret2
    exact ⟨rfl, (HS.out.1.drewN _).other hsb _, (HS.out.2.drewN _).set _ _ (by push_cast; rfl)⟩
  · have hq : ltInt (G y) (G x) = false := by assumption
    rw [HG.out, HG.out] at hq
    have e2 : order2 ltInt d x y s = (x, y, s) := by simp [order2, hq]
    rw [e2]
    go_ret2
    exact ⟨rfl, HS.out.1.drewN _, HS.out.2.drewN _⟩
theorem ord2_lt (d : Array Int) {a b n : Nat} (s : Nat) (ha : a < n) (hb : b < n) : (order2 ltInt d a b s).1 < n ∧ (order2 ltInt d a b s).2.1 < n := order2_lt d s ha hb
set_option maxRecDepth 100000 in
theorem median_any (w : World) (b off n cap x y z sb s : Nat) (pre tail : List Value) (d : Array Int) (wr : World) (hS : SR w b off pre tail n d wr) (hx : x < n) (hy : y < n) (hz : z < n) (hn : n ≤ 1073741824) (hsb : w.heap.size ≤ sb) (hc : Cnt wr sb s) (hs : s ≤ 1000) :
    Calls Tryz.prog 170 #[.slice (some ⟨b, off, none⟩) n cap, .int .i64 x, .int .i64 y, .int .i64 z, .pointer (some ⟨sb, 0, none⟩)] wr fun e w' =>
      e = .returned (.int .i64 (median ltInt d x y z s).1) ∧ SR w b off pre tail n d w' ∧ Cnt w' sb (median ltInt d x y z s).2 := by
  have l1 := ord2_lt d s hx hy
  have s1 := order2_swaps d x y s
  have l2 := ord2_lt d (order2 ltInt d x y s).2.2 l1.2 hz
  have s2 := order2_swaps d (order2 ltInt d x y s).2.1 z (order2 ltInt d x y s).2.2
  have l3 := ord2_lt d (order2 ltInt d (order2 ltInt d x y s).2.1 z (order2 ltInt d x y s).2.2).2.2 l1.1 l2.1
  have e := show median ltInt d x y z s = ((order2 ltInt d (order2 ltInt d x y s).1 (order2 ltInt d (order2 ltInt d x y s).2.1 z (order2 ltInt d x y s).2.2).1 (order2 ltInt d (order2 ltInt d x y s).2.1 z (order2 ltInt d x y s).2.2).2.2).2.1, (order2 ltInt d (order2 ltInt d x y s).1 (order2 ltInt d (order2 ltInt d x y s).2.1 z (order2 ltInt d x y s).2.2).1 (order2 ltInt d (order2 ltInt d x y s).2.1 z (order2 ltInt d x y s).2.2).2.2).2.2) from rfl
  have k1 : ∀ wq, SR w b off pre tail n d wq → Cnt wq sb s → _ := fun wq h1 h2 => order2_any w b off n cap x y sb s pre tail d wq h1 hx hy hn hsb h2 (by omega)
  have k2 : ∀ wq, SR w b off pre tail n d wq → Cnt wq sb (order2 ltInt d x y s).2.2 → _ := fun wq h1 h2 => order2_any w b off n cap (order2 ltInt d x y s).2.1 z sb (order2 ltInt d x y s).2.2 pre tail d wq h1 l1.2 hz hn hsb h2 (by omega)
  have k3 : ∀ wq, SR w b off pre tail n d wq → Cnt wq sb (order2 ltInt d (order2 ltInt d x y s).2.1 z (order2 ltInt d x y s).2.2).2.2 → _ := fun wq h1 h2 => order2_any w b off n cap (order2 ltInt d x y s).1 (order2 ltInt d (order2 ltInt d x y s).2.1 z (order2 ltInt d x y s).2.2).1 sb _ pre tail d wq h1 l1.1 l2.1 hn hsb h2 (by omega)
  rw [e]
  generalize order2 ltInt d x y s = r1 at *
  generalize order2 ltInt d r1.2.1 z r1.2.2 = r2 at *
  generalize order2 ltInt d r1.1 r2.1 r2.2.2 = r3 at *
  obtain ⟨a1, b1, c1⟩ := r1
  obtain ⟨a2, b2, c2⟩ := r2
  obtain ⟨a3, b3, c3⟩ := r3
  simp only at *
  have HS := Lib.hid (And.intro hS hc)
  have K1 := Lib.hid k1
  have K2 := Lib.hid k2
  have K3 := Lib.hid k3
  clear hS hc k1 k2 k3 e
  go_enter Tryz.func170, Tryz.ntmps170
  go_wp2_with fail
  refine (K1.out _ HS.out.1 HS.out.2).mono ?_
  rintro e w1 ⟨rfl, h1, h2⟩
  have H1 := Lib.hid (And.intro h1 h2)
  clear h1 h2
  go_wp2_with fail
  refine (K2.out _ H1.out.1 H1.out.2).mono ?_
  rintro e w2 ⟨rfl, h1, h2⟩
  have H2 := Lib.hid (And.intro h1 h2)
  clear h1 h2
  go_wp2_with fail
  refine (K3.out _ H2.out.1 H2.out.2).mono ?_
  rintro e w3 ⟨rfl, h1, h2⟩
  have H3 := Lib.hid (And.intro h1 h2)
  clear h1 h2
  go_wp2_with fail
  go_ret
  exact ⟨rfl, H3.out.1, H3.out.2⟩
set_option maxRecDepth 100000 in
theorem medAdj_any (w : World) (b off n cap x sb s : Nat) (pre tail : List Value) (d : Array Int) (wr : World) (hS : SR w b off pre tail n d wr) (hx0 : 1 ≤ x) (hx : x + 1 < n) (hn : n ≤ 1073741824) (hsb : w.heap.size ≤ sb) (hc : Cnt wr sb s) (hs : s ≤ 1000) :
    Calls Tryz.prog 169 #[.slice (some ⟨b, off, none⟩) n cap, .int .i64 x, .pointer (some ⟨sb, 0, none⟩)] wr fun e w' =>
      e = .returned (.int .i64 (medianAdjacent ltInt d x s).1) ∧ SR w b off pre tail n d w' ∧ Cnt w' sb (medianAdjacent ltInt d x s).2 := by
  have HS := Lib.hid (And.intro hS hc)
  clear hS hc
  go_enter Tryz.func169, Tryz.ntmps169
  go_wp2_with fail
  rw [show ((x : Int) - 1) = ((x - 1 : Nat) : Int) by omega, show ((x : Int) + 1) = ((x + 1 : Nat) : Int) by omega]
  refine (median_any w b off n cap (x - 1) x (x + 1) sb s pre tail d _ HS.out.1 (by omega) (by omega) hx hn hsb HS.out.2 hs).mono ?_
  rintro e w1 ⟨rfl, h1, h2⟩
  have H1 := Lib.hid (And.intro h1 h2)
  clear h1 h2
  go_wp2_with fail
  go_ret
  exact ⟨rfl, H1.out.1, H1.out.2⟩
end Go.Proofs.YthhmcjojnbaiiaaGreatDoor

/- slices.Sort of uint32: choosePivotOrdered. -/
namespace Go.Proofs.YthhmcjojnbaiiaaGreatDoor
open Go Go.RowKit
open Go.Sort (ltInt median medianAdjacent choosePivot choosePivot_eq rawPivot hintOf hintCode medianAdjacent_mem medianAdjacent_count)
theorem hint_cases (s : Nat) : (s = 0 → hintCode (hintOf s) = 1) ∧ (s = 12 → hintCode (hintOf s) = 2) ∧ (s ≠ 0 → s ≠ 12 → hintCode (hintOf s) = 0) :=
  ⟨fun h => by rw [h]; rfl, fun h => by rw [h]; rfl, fun h1 h2 => by unfold hintOf; rw [if_neg h1, if_neg h2]; rfl⟩
theorem SR.alloc {w wr : World} {b off n : Nat} {pre tail : List Value} {dk : Array Int} (h : SR w b off pre tail n dk wr) (o : Obj) : SR w b off pre tail n dk (wr.alloc o) := h.below ((Below.refl _ _).alloc (Nat.le_refl _) o)
/-- What is asked of the whole: the pivot's number and the hint's. -/
def PivPost (w : World) (b off n : Nat) (pre tail : List Value) (d : Array Int) (p s : Nat) (e : Ending) (w' : World) : Prop := e = .returned (.tuple #[.int .i64 p, .int .i64 (hintCode (hintOf s))]) ∧ SR w b off pre tail n d w'
set_option maxRecDepth 100000 in
theorem pivot_any (w : World) (b off n cap lo hi : Nat) (pre tail : List Value) (d : Array Int) (wr : World) (hS : SR w b off pre tail n d wr) (hab : lo < hi) (hb : hi ≤ n) (hn : n ≤ 1073741824) :
    Calls Tryz.prog 133 #[.slice (some ⟨b, off, none⟩) n cap, .int .i64 lo, .int .i64 hi] wr fun e w' =>
      e = .returned (.tuple #[.int .i64 (choosePivot ltInt d lo hi).1, .int .i64 (hintCode (choosePivot ltInt d lo hi).2)]) ∧ SR w b off pre tail n d w' := by
  rw [choosePivot_eq]
  show Calls _ _ _ _ fun e w' => PivPost w b off n pre tail d (rawPivot ltInt d lo hi).1 (rawPivot ltInt d lo hi).2 e w'
  have hbx := heap_alloc_new wr (.cells #[.int .i64 0] 3)
  have hs0 := hS.alloc (.cells #[.int .i64 0] 3)
  have hc0 : Cnt (wr.alloc (.cells #[.int .i64 0] 3)) wr.heap.size 0 := hbx
  have hsb := hS.grown.size
  obtain ⟨I, hI⟩ : ∃ I : Nat, I = lo + (hi - lo) / 4 * 1 := ⟨_, rfl⟩
  obtain ⟨J, hJ⟩ : ∃ J : Nat, J = lo + (hi - lo) / 4 * 2 := ⟨_, rfl⟩
  obtain ⟨K, hK⟩ : ∃ K : Nat, K = lo + (hi - lo) / 4 * 3 := ⟨_, rfl⟩
  have eI : ((lo : Int) + ((hi : Int) - (lo : Int)) / 4) = (I : Int) := by omega
  have eJ : ((lo : Int) + ((hi : Int) - (lo : Int)) / 4 * 2) = (J : Int) := by omega
  have eK : ((lo : Int) + ((hi : Int) - (lo : Int)) / 4 * 3) = (K : Int) := by omega
  have k1 : ∀ (x s : Nat) wq, SR w b off pre tail n d wq → Cnt wq wr.heap.size s → 1 ≤ x → x + 1 < n → s ≤ 1000 → _ := fun x s wq h1 h2 h3 h4 h5 => medAdj_any w b off n cap x wr.heap.size s pre tail d wq h1 h3 h4 hn hsb h2 h5
  have k2 : ∀ (x y z s : Nat) wq, SR w b off pre tail n d wq → Cnt wq wr.heap.size s → x < n → y < n → z < n → s ≤ 1000 → _ := fun x y z s wq h1 h2 hx hy hz h5 => median_any w b off n cap x y z wr.heap.size s pre tail d wq h1 hx hy hz hn hsb h2 h5
  have fin : ∀ (p s : Nat) wq, SR w b off pre tail n d wq → PivPost w b off n pre tail d p s (.returned (.tuple #[.int .i64 p, .int .i64 (hintCode (hintOf s))])) wq := fun p s wq h => ⟨rfl, h⟩
  have H0 := Lib.hid (And.intro hs0 hc0)
  have K1 := Lib.hid k1
  have K2 := Lib.hid k2
  have FIN := Lib.hid fin
  clear hS hs0 hc0 k1 k2 fin
  by_cases h8 : hi - lo ≥ 8
  · have h8z : (8 : Int) ≤ (hi : Int) - lo := by omega
    by_cases h50 : hi - lo ≥ 50
    · have h50z : (50 : Int) ≤ (hi : Int) - lo := by omega
      have m1 := medianAdjacent_mem ltInt d I 0
      have n1 := medianAdjacent_count ltInt d I 0
      obtain ⟨i1, s1, h1⟩ : ∃ i1 s1, medianAdjacent ltInt d I 0 = (i1, s1) := ⟨_, _, rfl⟩
      have m2 := medianAdjacent_mem ltInt d J s1
      have n2 := medianAdjacent_count ltInt d J s1
      obtain ⟨j1, s2, h2⟩ : ∃ j1 s2, medianAdjacent ltInt d J s1 = (j1, s2) := ⟨_, _, rfl⟩
      have m3 := medianAdjacent_mem ltInt d K s2
      have n3 := medianAdjacent_count ltInt d K s2
      obtain ⟨q1, s3, h3⟩ : ∃ q1 s3, medianAdjacent ltInt d K s2 = (q1, s3) := ⟨_, _, rfl⟩
      obtain ⟨p, s, h4⟩ : ∃ p s, median ltInt d i1 j1 q1 s3 = (p, s) := ⟨_, _, rfl⟩
      have hraw : rawPivot ltInt d lo hi = (p, s) := by simp only [rawPivot, if_pos h8, if_pos h50, ← hI, ← hJ, ← hK, h1, h2, h3, h4]
      rw [h1] at m1 n1; rw [h2] at m2 n2; rw [h3] at m3 n3
      simp only [] at m1 m2 m3 n1 n2 n3
      rw [hraw]
      have c1 := fun wq a1 a2 => K1.out I 0 wq a1 a2 (by omega) (by omega) (by omega)
      rw [h1] at c1
      have c2 := fun wq a1 a2 => K1.out J s1 wq a1 a2 (by omega) (by omega) (by omega)
      rw [h2] at c2
      have c3 := fun wq a1 a2 => K1.out K s2 wq a1 a2 (by omega) (by omega) (by omega)
      rw [h3] at c3
      have c4 := fun wq a1 a2 => K2.out i1 j1 q1 s3 wq a1 a2 (by omega) (by omega) (by omega) (by omega)
      rw [h4] at c4
      have C1 := Lib.hid c1
      have C2 := Lib.hid c2
      have C3 := Lib.hid c3
      have C4 := Lib.hid c4
      clear c1 c2 c3 c4 h1 h2 h3 h4 hraw hI hJ hK m1 m2 m3 n1 n2 n3 hbx
      go_enter Tryz.func133, Tryz.ntmps133
      go_wp2_with fail
      refine (C1.out _ H0.out.1 H0.out.2).mono ?_
      rintro e w1 ⟨rfl, g1, g2⟩
      have G1 := Lib.hid (And.intro g1 g2)
      clear g1 g2
      go_wp2_with fail
      refine (C2.out _ G1.out.1 G1.out.2).mono ?_
      rintro e w2 ⟨rfl, g1, g2⟩
      have G2 := Lib.hid (And.intro g1 g2)
      clear g1 g2
      go_wp2_with fail
      refine (C3.out _ G2.out.1 G2.out.2).mono ?_
      rintro e w3 ⟨rfl, g1, g2⟩
      have G3 := Lib.hid (And.intro g1 g2)
      clear g1 g2
      go_wp2_with fail
      refine (C4.out _ G3.out.1 G3.out.2).mono ?_
      rintro e w4 ⟨rfl, g1, g2⟩
      have cs : w4.cell? ⟨wr.heap.size, 0, none⟩ = some (.int .i64 s) := by rw [cell_of_row _ _ _ _ _ _ g2]; rfl
      have G4 := Lib.hid g1
      clear g1 g2
      rcases (show s = 0 ∨ s = 12 ∨ (s ≠ 0 ∧ s ≠ 12) by omega) with z0 | z12 | ⟨z0, z12⟩
      · have b0 : ((s : Int) == 0) = true := by simp; omega
        have FF := FIN.out p s _ G4.out
        rw [(hint_cases s).1 z0] at FF
        have FF' := Lib.hid FF
        clear FF z0
        go_wp2
        go_ret2
        exact FF'.out
      · have b0 : ((s : Int) == 0) = false := by simp; omega
        have b12 : ((s : Int) == 12) = true := by simp; omega
        have FF := FIN.out p s _ G4.out
        rw [(hint_cases s).2.1 z12] at FF
        have FF' := Lib.hid FF
        clear FF z12
        go_wp2
        go_ret2
        exact FF'.out
      · have b0 : ((s : Int) == 0) = false := by simp; omega
        have b12 : ((s : Int) == 12) = false := by simp; omega
        have FF := FIN.out p s _ G4.out
        rw [(hint_cases s).2.2 z0 z12] at FF
        have FF' := Lib.hid FF
        clear FF z0 z12
        go_wp2
        go_ret2
        exact FF'.out
    · have h50z : ¬ (50 : Int) ≤ (hi : Int) - lo := by omega
      obtain ⟨p, s, h4⟩ : ∃ p s, median ltInt d I J K 0 = (p, s) := ⟨_, _, rfl⟩
      have hraw : rawPivot ltInt d lo hi = (p, s) := by simp only [rawPivot, if_pos h8, if_neg h50, ← hI, ← hJ, ← hK, h4]
      rw [hraw]
      have c4 := fun wq a1 a2 => K2.out I J K 0 wq a1 a2 (by omega) (by omega) (by omega) (by omega)
      rw [h4] at c4
      have C4 := Lib.hid c4
      clear c4 h4 hraw hI hJ hK hbx
      go_enter Tryz.func133, Tryz.ntmps133
      go_wp2_with fail
      refine (C4.out _ H0.out.1 H0.out.2).mono ?_
      rintro e w4 ⟨rfl, g1, g2⟩
      have cs : w4.cell? ⟨wr.heap.size, 0, none⟩ = some (.int .i64 s) := by rw [cell_of_row _ _ _ _ _ _ g2]; rfl
      have G4 := Lib.hid g1
      clear g1 g2
      rcases (show s = 0 ∨ s = 12 ∨ (s ≠ 0 ∧ s ≠ 12) by omega) with z0 | z12 | ⟨z0, z12⟩
      · have b0 : ((s : Int) == 0) = true := by simp; omega
        have FF := FIN.out p s _ G4.out
        rw [(hint_cases s).1 z0] at FF
        have FF' := Lib.hid FF
        clear FF z0
        go_wp2
        go_ret2
        exact FF'.out
      · have b0 : ((s : Int) == 0) = false := by simp; omega
        have b12 : ((s : Int) == 12) = true := by simp; omega
        have FF := FIN.out p s _ G4.out
        rw [(hint_cases s).2.1 z12] at FF
        have FF' := Lib.hid FF
        clear FF z12
        go_wp2
        go_ret2
        exact FF'.out
      · have b0 : ((s : Int) == 0) = false := by simp; omega
        have b12 : ((s : Int) == 12) = false := by simp; omega
        have FF := FIN.out p s _ G4.out
        rw [(hint_cases s).2.2 z0 z12] at FF
        have FF' := Lib.hid FF
        clear FF z0 z12
        go_wp2
        go_ret2
        exact FF'.out
  · have h8z : ¬ (8 : Int) ≤ (hi : Int) - lo := by omega
    have hraw : rawPivot ltInt d lo hi = (J, 0) := by simp only [rawPivot, if_neg h8, ← hJ]
    rw [hraw]
    have FF := FIN.out J 0 _ H0.out.1
    rw [(hint_cases 0).1 rfl] at FF
    have FF' := Lib.hid FF
    clear FF hraw hI hJ hK hbx
    go_enter Tryz.func133, Tryz.ntmps133
    go_wp2
    go_ret2
    exact FF'.out
end Go.Proofs.YthhmcjojnbaiiaaGreatDoor

/- slices.Sort of uint32: breakPatternsOrdered. -/
namespace Go.Proofs.YthhmcjojnbaiiaaGreatDoor
open Go Go.RowKit
open Go.Sort (swp ltInt size_swp breakPatterns bitsLen xorNext)
set_option maxRecDepth 100000 in
theorem xnext_any (rb X : Nat) (hX : X < 18446744073709551616) (w : World) (hc : w.cell? ⟨rb, 0, none⟩ = some (.int .u64 X)) (hf : w.frozen? ⟨rb, 0, none⟩ = false) :
    Calls Tryz.prog 168 #[.pointer (some ⟨rb, 0, none⟩)] w fun e w' => e = .returned (.int .u64 (Sort.xorNextN X : Nat)) ∧ w' = (w.setCell ⟨rb, 0, none⟩ (.int .u64 (Sort.xorNextN X : Nat))).drewN 3 := by
  obtain ⟨A, hA⟩ : ∃ A : Nat, A = X ^^^ (X * 8192 % 18446744073709551616) := ⟨_, rfl⟩
  obtain ⟨B, hB⟩ : ∃ B : Nat, B = A ^^^ (A / 128) := ⟨_, rfl⟩
  obtain ⟨C, hC⟩ : ∃ C : Nat, C = B ^^^ (B * 131072 % 18446744073709551616) := ⟨_, rfl⟩
  have lA : A < 18446744073709551616 := by rw [hA]; exact Nat.xor_lt_two_pow (n := 64) (by omega) (by omega)
  have lB : B < 18446744073709551616 := by rw [hB]; exact Nat.xor_lt_two_pow (n := 64) (by omega) (by omega)
  have e1 : bits .xor .u64 (X : Int) (IntKind.u64.wrap ((X : Int) * 8192)) = (A : Int) := by
    rw [IntKind.wrap_u64, show ((X : Int) * 8192 % 18446744073709551616) = ((X * 8192 % 18446744073709551616 : Nat) : Int) by omega, bits_xor_u64_nat _ _ hX (by omega), hA]
  have e2 : bits .xor .u64 (A : Int) ((A : Int) / 128) = (B : Int) := by
    rw [show ((A : Int) / 128) = ((A / 128 : Nat) : Int) by omega, bits_xor_u64_nat _ _ lA (by omega), hB]
  have e3 : bits .xor .u64 (B : Int) (IntKind.u64.wrap ((B : Int) * 131072)) = (C : Int) := by
    rw [IntKind.wrap_u64, show ((B : Int) * 131072 % 18446744073709551616) = ((B * 131072 % 18446744073709551616 : Nat) : Int) by omega, bits_xor_u64_nat _ _ lB (by omega), hC]
  have hv : Sort.xorNextN X = C := by unfold Sort.xorNextN; simp only []; rw [← hA, ← hB, ← hC]
  rw [hv]
  clear hA hB hC hv
  have hss : ∀ v v', (w.setCell ⟨rb, 0, none⟩ v).setCell ⟨rb, 0, none⟩ v' = w.setCell ⟨rb, 0, none⟩ v' := setCell_setCell w rb 0
  go_enter Tryz.func168, Tryz.ntmps168
  go_wp2
  go_region
  all_goals go_wp2
  all_goals go_region
  all_goals go_wp2
  all_goals go_region
  all_goals go_wp2
  go_ret
  exact ⟨rfl, rfl⟩
theorem pow2_any (n : Nat) (hn : n ≤ 1073741824) (w : World) :
    Calls Tryz.prog 167 #[.int .i64 n] w fun e w' => e = .returned (.int .u64 ((1 <<< bitsLen n : Nat) : Int)) ∧ w' = w := by
  have hLen : ∀ w, Calls Tryz.prog 96 #[.int .u64 (n : Int)] w fun e w' => e = .returned (.int .i64 (bitsLen n : Nat)) ∧ w' = w := fun w => by
    have h := Tryz.bits_Len (n : Int) w (by omega) (by omega)
    rwa [Int.toNat_natCast, bitLen_eq _ (by omega)] at h
  have hk : bitsLen n ≤ 62 := (Sort.bitsLen_le_iff n 62).2 (by omega)
  have hp := wrap_two_pow (bitsLen n) hk
  go_enter Tryz.func167, Tryz.ntmps167
  go_wp2_with (first | (go_at_call 96; refine (hLen _).mono ?_; rintro e w' ⟨rfl, rfl⟩))
  go_ret
  exact ⟨rfl, rfl⟩
theorem row_far {w : World} {k b o : Nat} {v : Value} {x : Option Obj} (h : w.heap[k]? = x) (hne : b ≠ k) : (w.setCell ⟨b, o, none⟩ v).heap[k]? = x := by
  rw [← h]
  simp [World.setCell, Array.getElem?_modify, hne]
set_option maxHeartbeats 1000000 in
set_option maxRecDepth 100000 in
theorem brk_go (w : World) (b off n cap lo L : Nat) (pre tail : List Value) (d : Array Int) (wa : World) (hS : SR w b off pre tail n d wa) (hb : lo + L ≤ n) (hn : n ≤ 1073741824) (h8 : 8 ≤ L) :
    Calls Tryz.prog 132 #[.slice (some ⟨b, off, none⟩) n cap, .int .i64 lo, .int .i64 ((lo + L : Nat) : Int)] wa fun e w' => e = .returned (.tuple #[]) ∧ SR w b off pre tail n (breakPatterns d lo (lo + L)) w' := by
  rw [breakPatterns_eq d lo L h8]
  obtain ⟨M, hM⟩ : ∃ M : Nat, M = 1 <<< bitsLen L := ⟨_, rfl⟩
  have hM1 : 1 ≤ M := by rw [hM, Nat.one_shiftLeft]; exact Nat.two_pow_pos _
  have hM2 : M ≤ 2 * L := by rw [hM, Nat.one_shiftLeft]; exact Sort.two_pow_bitsLen_le (by omega)
  have hNP : ∀ w, Calls Tryz.prog 167 #[.int .i64 (L : Int)] w fun e w' => e = .returned (.int .u64 (M : Int)) ∧ w' = w := by rw [hM]; exact fun w => pow2_any L (by omega) w
  rw [← hM]
  clear hM
  have hsz := hS.grown.size
  have hbx := heap_alloc_new wa (.cells #[.int .u64 (L : Int)] 246)
  have hs0 := hS.alloc (.cells #[.int .u64 (L : Int)] 246)
  rw [show ((L : Nat) : Int) = ((UInt64.ofNat L).toNat : Int) by simp; omega] at hbx hs0
  have HST := Lib.hid (And.intro hs0 hbx)
  have HB := Lib.hid (show b < w.heap.size ∧ w.heap.size ≤ wa.heap.size from ⟨hS.lt, hsz⟩)
  have HL := Lib.hid (show ((UInt64.ofNat L).toNat : Int) = (L : Int) by simp; omega)
  clear hS hs0 hbx
  go_enter Tryz.func132, Tryz.ntmps132
  go_wp2_with (first | (go_at_call 167; rw [show ((lo : Int) + (L : Int) - (lo : Int)) = (L : Int) by omega]; refine (hNP _).mono ?_; rintro e w' ⟨rfl, rfl⟩))
  go_loopw [9] (fun vi wq => ∃ (t : Nat) (r : UInt64) (dk : Array Int), vi = .int .i64 ((lo + L / 4 * 2 - 1 + t : Nat) : Int) ∧ t ≤ 3 ∧ SR w b off pre tail n dk wq ∧
      wq.heap[wa.heap.size]? = some (.cells #[.int .u64 (r.toNat : Int)] 246 (0, 0)) ∧
      bpRest lo L M (lo + L / 4 * 2 - 1) (3 - t) t (r, dk) = bpRest lo L M (lo + L / 4 * 2 - 1) 3 0 (UInt64.ofNat L, d)) (fun vi _ => lo + L / 4 * 2 + 3 - (intOf vi).toNat)
  case atStart => exact ⟨0, UInt64.ofNat L, d, by congr 1; omega, by omega, by have h := HST.out.1; rw [HL.out] at h; exact h, by have h := HST.out.2; rw [HL.out] at h ⊢; exact h, rfl⟩
  case round =>
    obtain ⟨t, r, dk, rfl, ht, hsk, hrow, hR⟩ := hrel
    obtain ⟨R, hRr⟩ : ∃ R : Nat, R = r.toNat := ⟨_, rfl⟩
    have lR : R < 18446744073709551616 := by rw [hRr]; exact r.toNat_lt
    obtain ⟨R', hR'⟩ : ∃ R' : Nat, R' = Sort.xorNextN R := ⟨_, rfl⟩
    have lR' : R' < 18446744073709551616 := by rw [hR']; exact Sort.xorNextN_lt R lR
    obtain ⟨O, hO⟩ : ∃ O : Nat, O = R' &&& (M - 1) := ⟨_, rfl⟩
    have lO : O ≤ M - 1 := by rw [hO]; exact Nat.and_le_right
    have eAnd : bits .and .u64 (R' : Int) ((M : Int) - 1) = (O : Int) := by
      rw [show ((M : Int) - 1) = ((M - 1 : Nat) : Int) by omega, bits_and_u64_nat _ _ lR' (by omega), hO]
    obtain ⟨G, hG⟩ : ∃ G : Nat → Int, ∀ t, G t = dk[t]! := ⟨fun t => dk[t]!, fun _ => rfl⟩
    have hcw : ∀ x, x < n → wr.cell? ⟨b, off + x, none⟩ = some (.int .u32 (G x)) := fun x hx => by rw [hG]; exact hsk.cell hx
    have hfw : ∀ x, x < n → wr.frozen? ⟨b, off + x, none⟩ = false := fun x _ => hsk.frozen _
    have hcB : wr.cell? ⟨wa.heap.size, 0, none⟩ = some (.int .u64 (R : Int)) := by rw [cell_of_row _ _ _ _ _ _ hrow, hRr]; rfl
    have hfB : wr.frozen? ⟨wa.heap.size, 0, none⟩ = false := frozen_of_row _ _ _ _ _ hrow
    have hNext : Calls Tryz.prog 168 #[.pointer (some ⟨wa.heap.size, 0, none⟩)] wr fun e w' => e = .returned (.int .u64 (R' : Int)) ∧ w' = (wr.setCell ⟨wa.heap.size, 0, none⟩ (.int .u64 (R' : Int))).drewN 3 := by
      rw [hR']; exact xnext_any _ R lR wr hcB hfB
    have hcw2 : ∀ x, x < n → ((wr.setCell ⟨wa.heap.size, 0, none⟩ (.int .u64 (R' : Int))).drewN 3).cell? ⟨b, off + x, none⟩ = some (.int .u32 (G x)) := fun x hx => by rw [hG]; exact ((hsk.other hsz _).drewN 3).cell hx
    have hfw2 : ∀ x, x < n → ((wr.setCell ⟨wa.heap.size, 0, none⟩ (.int .u64 (R' : Int))).drewN 3).frozen? ⟨b, off + x, none⟩ = false := fun x _ => ((hsk.other hsz _).drewN 3).frozen _
    have hrow2 : ((wr.setCell ⟨wa.heap.size, 0, none⟩ (.int .u64 (R' : Int))).drewN 3).heap[wa.heap.size]? = some (.cells #[.int .u64 (R' : Int)] 246 (0, 0)) := blk_set hrow 0 _
    have HJ := Lib.hid (And.intro ((hsk.other (o := 0) hsz (.int .u64 (R' : Int))).drewN 3) hrow2)
    have HG := Lib.hid hG
    have HR := Lib.hid hR
    have HN := Lib.hid (show R' = (xorNext r).toNat ∧ O = (xorNext r).toNat &&& (M - 1) by
      have e : R' = (xorNext r).toNat := by rw [hR', hRr, Sort.xorNext_toNat]
      exact ⟨e, by rw [hO, e]⟩)
    have HSK := Lib.hid hsk
    clear hG hR hRr hR' hO hsk hrow hrow2
    generalize (wr.setCell ⟨wa.heap.size, 0, none⟩ (.int .u64 (R' : Int))).drewN 3 = w2 at hNext hcw2 hfw2 HJ
    go_wp2_with (first | (go_at_call 168; refine hNext.mono ?_; rintro e w' ⟨rfl, rfl⟩))
    · have hLO : L ≤ O := by omega
      by_cases hEq : lo + L / 4 * 2 - 1 + t = lo + (O - L)
      all_goals
        go_region
        all_goals go_wp2
        go_roundw
        case rel =>
          refine ⟨t + 1, xorNext r, swp dk (lo + L / 4 * 2 - 1 + t) (lo + (O - L)), by first | rfl | (congr 1 <;> omega), by omega, ?_, ?_, ?_⟩
          · (try rw [hEq])
            simp only [HG.out]
            exact (HJ.out.1.drewN 1).swap (by omega) (by omega)
          · rw [← HN.out.1]
            exact row_far (row_far HJ.out.2 (by have := HB.out; omega)) (by have := HB.out; omega)
          · rw [← HR.out, bp_step lo L M _ t r dk (O - L) (by omega) (by rw [← HN.out.2, if_pos (by omega)])]
        case measure => simp [intOf]; omega
    · have hLO : ¬ L ≤ O := by omega
      by_cases hEq : lo + L / 4 * 2 - 1 + t = lo + O
      all_goals
        go_region
        all_goals go_wp2
        go_roundw
        case rel =>
          refine ⟨t + 1, xorNext r, swp dk (lo + L / 4 * 2 - 1 + t) (lo + O), by first | rfl | (congr 1 <;> omega), by omega, ?_, ?_, ?_⟩
          · (try rw [hEq])
            simp only [HG.out]
            exact (HJ.out.1.drewN 1).swap (by omega) (by omega)
          · rw [← HN.out.1]
            exact row_far (row_far HJ.out.2 (by have := HB.out; omega)) (by have := HB.out; omega)
          · rw [← HR.out, bp_step lo L M _ t r dk O (by omega) (by rw [← HN.out.2, if_neg (by omega)])]
        case measure => simp [intOf]; omega
    · obtain rfl : t = 3 := by omega
      go_end0
      exact ⟨rfl, by rw [← HR.out]; exact HSK.out⟩
set_option maxRecDepth 100000 in
theorem brk_any (w : World) (b off n cap lo hi : Nat) (pre tail : List Value) (d : Array Int) (wr : World) (hS : SR w b off pre tail n d wr) (hab : lo ≤ hi) (hb : hi ≤ n) (hn : n ≤ 1073741824) :
    Calls Tryz.prog 132 #[.slice (some ⟨b, off, none⟩) n cap, .int .i64 lo, .int .i64 hi] wr fun e w' => e = .returned (.tuple #[]) ∧ SR w b off pre tail n (breakPatterns d lo hi) w' := by
  obtain ⟨L, rfl⟩ : ∃ L, hi = lo + L := ⟨hi - lo, by omega⟩
  by_cases h8 : 8 ≤ L
  · exact brk_go w b off n cap lo L pre tail d wr hS hb hn h8
  · have hv : breakPatterns d lo (lo + L) = d := by unfold breakPatterns; simp only [Nat.add_sub_cancel_left]; rw [if_neg h8]
    rw [hv]
    have HS := Lib.hid hS
    clear hS
    go_enter Tryz.func132, Tryz.ntmps132
    go_wp2
    go_end0
    exact ⟨rfl, HS.out⟩
end Go.Proofs.YthhmcjojnbaiiaaGreatDoor
