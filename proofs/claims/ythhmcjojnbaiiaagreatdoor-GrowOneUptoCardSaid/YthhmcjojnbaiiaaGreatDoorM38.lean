/- Texts of the proof: S7 S8 S9. -/
import Derived.Test.YthhmcjojnbaiiaaGreatDoorM37
import Derived.Sort.WalkC
import Derived.Sort.WalkC4
import Derived.Sort.WalkA6
set_option linter.all false
/- slices.Sort of uint32: partitionEqualOrdered. (Printed by wip/gen_sp.py.) -/
namespace Go.Proofs.YthhmcjojnbaiiaaGreatDoor
open Go Go.RowKit
open Go.Sort (swp ltInt size_swp)
set_option maxHeartbeats 6400000 in
set_option maxRecDepth 100000 in
theorem partEq_any (w : World) (b off n cap lo hi pivot : Nat) (pre tail : List Value) (d : Array Int) (wa : World) (hS : SR w b off pre tail n d wa) (hap : lo ≤ pivot) (hpb : pivot < hi) (hb : hi ≤ n) (hn : n ≤ 1073741824) :
    Calls Tryz.prog 137 #[.slice (some ⟨b, off, none⟩) n cap, .int .i64 lo, .int .i64 hi, .int .i64 pivot] wa fun e w' =>
      e = .returned (.int .i64 (Sort.partitionEqual ltInt d lo hi pivot).1) ∧ SR w b off pre tail n (Sort.partitionEqual ltInt d lo hi pivot).2 w' := by
  obtain ⟨G, hG⟩ : ∃ G : Nat → Int, ∀ t, G t = d[t]! := ⟨fun t => d[t]!, fun _ => rfl⟩
  have ca : wa.cell? ⟨b, off + lo, none⟩ = some (.int .u32 (G lo)) := by rw [hG]; exact hS.cell (by omega)
  have fa : wa.frozen? ⟨b, off + lo, none⟩ = false := hS.frozen _
  have cp : wa.cell? ⟨b, off + pivot, none⟩ = some (.int .u32 (G pivot)) := by rw [hG]; exact hS.cell (by omega)
  have fp : wa.frozen? ⟨b, off + pivot, none⟩ = false := hS.frozen _
  have hln : lo < n := by omega
  have hpn : pivot < n := by omega
  obtain ⟨v', hy'⟩ := cell?_setCell_some (w := wa) (p := ⟨b, off + lo, none⟩) (x := .int .u32 (G pivot)) (q := ⟨b, off + pivot, none⟩) cp
  have hsw : SR w b off pre tail n (swp d lo pivot) (((wa.setCell ⟨b, off + lo, none⟩ (.int .u32 (G pivot))).setCell ⟨b, off + pivot, none⟩ (.int .u32 (G lo))).drew) := by
    rw [hG, hG]; exact (hS.swap hln hpn).drew
  have HSW := Lib.hid hsw
  clear hG hS hsw
  go_enter Tryz.func137, Tryz.ntmps137
  go_wp2
  go_region
  go_wp2
  go_loopw [9, 10] (fun vi vj wq => ∃ (i j : Nat) (dk : Array Int), vi = .int .i64 i ∧ vj = .int .i64 j ∧ lo < i ∧ i ≤ j + 1 ∧ j < hi ∧ SR w b off pre tail n dk wq ∧ Sort.partEqLoop ltInt lo i j dk = Sort.partEqLoop ltInt lo (lo + 1) (hi - 1) (swp d lo pivot)) (fun vi vj _ => (intOf vj).toNat + 1 - (intOf vi).toNat)
  case atStart => exact ⟨lo + 1, hi - 1, swp d lo pivot, by go_num, by go_num, by omega, by omega, by omega, HSW.out, rfl⟩
  case round =>
    obtain ⟨i, j, dk, rfl, rfl, hai, hij, hjb, hsk, heq⟩ := hrel
    clear ca fa cp fp hy' v' HSW
    obtain ⟨G, hG⟩ : ∃ G : Nat → Int, ∀ t, G t = dk[t]! := ⟨fun t => dk[t]!, fun _ => rfl⟩
    have AG := Lib.hid hG
    have HK := Lib.hid hsk
    have AE := Lib.hid heq
    clear hG hsk heq
    go_wp2
    go_loopw [9] (fun vi w1 => ∃ (i' : Nat), vi = .int .i64 i' ∧ i ≤ i' ∧ i' ≤ j + 1 ∧ SR w b off pre tail n dk w1 ∧ Hid (Sort.scanUp (fun x => !ltInt dk[lo]! x) dk j i' = Sort.scanUp (fun x => !ltInt dk[lo]! x) dk j i)) (fun vi _ => j + 1 - (intOf vi).toNat)
    case atStart => exact ⟨i, rfl, Nat.le_refl _, hij, HK.out, rfl⟩
    case round =>
      obtain ⟨i', rfl, hii, hij', hs1, hsc⟩ := hrel
      have hcw : ∀ t, t < n → wr.cell? ⟨b, off + t, none⟩ = some (.int .u32 (G t)) := fun t ht => by rw [AG.out]; exact hs1.cell ht
      have H1 := Lib.hid hs1
      clear hs1
      by_cases hle : i' ≤ j
      · go_wp2_with fail
        go_big_quiet (first | (go_at_call 136; refine Calls.quiet_of_same (less_any _ _ _)))
        go_wp2
        · have ht : (!ltInt (G lo) (G i')) = true := by assumption
          go_roundw
          case rel => exact ⟨i' + 1, by go_num, by omega, by omega, H1.out.drewN nq, (scanUp_go (fun x => !ltInt dk[lo]! x) dk j i' hle (by rw [← AG.out lo, ← AG.out i']; exact ht)).symm.trans hsc.out⟩
          case measure => simp [intOf]; omega
        · have ht : (!ltInt (G lo) (G i')) = false := by assumption
          have hi2 : Hid (i' = Sort.scanUp (fun x => !ltInt dk[lo]! x) dk j i) := (scanUp_end (fun x => !ltInt dk[lo]! x) dk j i' (Or.inr (by rw [← AG.out lo, ← AG.out i']; exact ht))).symm.trans hsc.out
          clear ht
          have H2 := Lib.hid (H1.out.drewN nq)
          clear hcw H1 hsc
          go_loopw [10] (fun vj w2 => ∃ (j' : Nat), vj = .int .i64 j' ∧ j' ≤ j ∧ i' ≤ j' + 1 ∧ SR w b off pre tail n dk w2 ∧ Hid (Sort.scanDown (fun x => ltInt dk[lo]! x) dk i' j' = Sort.scanDown (fun x => ltInt dk[lo]! x) dk i' j)) (fun vj _ => (intOf vj).toNat)
          case atStart => exact ⟨j, rfl, Nat.le_refl _, hij', H2.out, rfl⟩
          case round =>
            obtain ⟨j', rfl, hjj, hij2, hs2, hsd⟩ := hrel
            have hcw : ∀ t, t < n → wr.cell? ⟨b, off + t, none⟩ = some (.int .u32 (G t)) := fun t ht => by rw [AG.out]; exact hs2.cell ht
            have H3 := Lib.hid hs2
            clear hs2
            by_cases hle2 : i' ≤ j'
            · go_wp2_with fail
              go_big_quiet (first | (go_at_call 136; refine Calls.quiet_of_same (less_any _ _ _)))
              go_wp2
              · have ht : ltInt (G lo) (G j') = true := by assumption
                go_roundw
                case rel => exact ⟨j' - 1, by go_num, by omega, by omega, H3.out.drewN nq, (scanDown_go (fun x => ltInt dk[lo]! x) dk i' j' hle2 (by omega) (by rw [← AG.out lo, ← AG.out j']; exact ht)).symm.trans hsd.out⟩
                case measure => simp [intOf]; omega
              · have ht : ltInt (G lo) (G j') = false := by assumption
                have hj2 : Hid (j' = Sort.scanDown (fun x => ltInt dk[lo]! x) dk i' j) := (scanDown_end (fun x => ltInt dk[lo]! x) dk i' j' (Or.inr (by rw [← AG.out lo, ← AG.out j']; exact ht))).symm.trans hsd.out
                clear hcw hsd ht
                have H4 := Lib.hid (H3.out.drewN nq)
                generalize wr.drewN nq = W3 at H4 ⊢
                have hcw : ∀ t, t < n → W3.cell? ⟨b, off + t, none⟩ = some (.int .u32 (G t)) := fun t ht => by rw [AG.out]; exact H4.out.cell ht
                have hfw : ∀ t, t < n → W3.frozen? ⟨b, off + t, none⟩ = false := fun t _ => H4.out.frozen _
                obtain ⟨v3, hy3⟩ := cell?_setCell_some (w := W3) (p := ⟨b, off + i', none⟩) (x := .int .u32 (G j')) (q := ⟨b, off + j', none⟩) (hcw j' (by omega))
                have hlt3 := scans_lt ltInt lo i j dk (by omega) hi2.out hj2.out hle2
                go_wp2
                go_region
                all_goals go_wp2
                all_goals go_roundw
                case rel =>
                  refine ⟨i' + 1, j' - 1, swp dk i' j', by go_num, by go_num, by omega, by omega, by omega, ?_, ?_⟩
                  · rw [AG.out i', AG.out j']
                    exact (H4.out.drewN 1).swap (by omega) (by omega)
                  · rw [← AE.out]; exact (partEq_go ltInt lo i j dk hi2.out hj2.out (by omega)).symm
                case measure => simp [intOf]; omega
            · go_wp2_with fail
              go_big_quiet (first | (go_at_call 136; refine Calls.quiet_of_same (less_any _ _ _)))
              have hj2 : Hid (j' = Sort.scanDown (fun x => ltInt dk[lo]! x) dk i' j) := (scanDown_end (fun x => ltInt dk[lo]! x) dk i' j' (Or.inl hle2)).symm.trans hsd.out
              clear hcw hsd
              have H4 := Lib.hid (H3.out.drewN nq)
              generalize wr.drewN nq = W3 at H4 ⊢
              have hcw : ∀ t, t < n → W3.cell? ⟨b, off + t, none⟩ = some (.int .u32 (G t)) := fun t ht => by rw [AG.out]; exact H4.out.cell ht
              have hfw : ∀ t, t < n → W3.frozen? ⟨b, off + t, none⟩ = false := fun t _ => H4.out.frozen _
              go_wp2
              go_ret
              have e := partEq_break ltInt lo i j dk hi2.out hj2.out (by omega)
              refine ⟨?_, ?_⟩
              · unfold Sort.partitionEqual; rw [← AE.out, e]; rfl
              · unfold Sort.partitionEqual; rw [← AE.out, e]; exact H4.out
      · go_wp2_with fail
        go_big_quiet (first | (go_at_call 136; refine Calls.quiet_of_same (less_any _ _ _)))
        go_wp2
        have hi2 : Hid (i' = Sort.scanUp (fun x => !ltInt dk[lo]! x) dk j i) := (scanUp_end (fun x => !ltInt dk[lo]! x) dk j i' (Or.inl hle)).symm.trans hsc.out
        have H2 := Lib.hid (H1.out.drewN nq)
        clear hcw H1 hsc
        go_loopw [10] (fun vj w2 => ∃ (j' : Nat), vj = .int .i64 j' ∧ j' ≤ j ∧ i' ≤ j' + 1 ∧ SR w b off pre tail n dk w2 ∧ Hid (Sort.scanDown (fun x => ltInt dk[lo]! x) dk i' j' = Sort.scanDown (fun x => ltInt dk[lo]! x) dk i' j)) (fun vj _ => (intOf vj).toNat)
        case atStart => exact ⟨j, rfl, Nat.le_refl _, hij', H2.out, rfl⟩
        case round =>
          obtain ⟨j', rfl, hjj, hij2, hs2, hsd⟩ := hrel
          have hcw : ∀ t, t < n → wr.cell? ⟨b, off + t, none⟩ = some (.int .u32 (G t)) := fun t ht => by rw [AG.out]; exact hs2.cell ht
          have H3 := Lib.hid hs2
          clear hs2
          by_cases hle2 : i' ≤ j'
          · exfalso; omega
          · go_wp2_with fail
            go_big_quiet (first | (go_at_call 136; refine Calls.quiet_of_same (less_any _ _ _)))
            have hj2 : Hid (j' = Sort.scanDown (fun x => ltInt dk[lo]! x) dk i' j) := (scanDown_end (fun x => ltInt dk[lo]! x) dk i' j' (Or.inl hle2)).symm.trans hsd.out
            clear hcw hsd
            have H4 := Lib.hid (H3.out.drewN nq)
            generalize wr.drewN nq = W3 at H4 ⊢
            have hcw : ∀ t, t < n → W3.cell? ⟨b, off + t, none⟩ = some (.int .u32 (G t)) := fun t ht => by rw [AG.out]; exact H4.out.cell ht
            have hfw : ∀ t, t < n → W3.frozen? ⟨b, off + t, none⟩ = false := fun t _ => H4.out.frozen _
            go_wp2
            go_ret
            have e := partEq_break ltInt lo i j dk hi2.out hj2.out (by omega)
            refine ⟨?_, ?_⟩
            · unfold Sort.partitionEqual; rw [← AE.out, e]; rfl
            · unfold Sort.partitionEqual; rw [← AE.out, e]; exact H4.out
end Go.Proofs.YthhmcjojnbaiiaaGreatDoor

/- slices.Sort of uint32: partitionOrdered. (Printed by wip/gen_sp.py.) -/
namespace Go.Proofs.YthhmcjojnbaiiaaGreatDoor
open Go Go.RowKit
open Go.Sort (swp ltInt size_swp)
set_option maxHeartbeats 12800000 in
set_option maxRecDepth 100000 in
theorem part_any (w : World) (b off n cap lo hi pivot : Nat) (pre tail : List Value) (d : Array Int) (wa : World) (hS : SR w b off pre tail n d wa) (hap : lo ≤ pivot) (hpb : pivot < hi) (hb : hi ≤ n) (hn : n ≤ 1073741824) :
    Calls Tryz.prog 138 #[.slice (some ⟨b, off, none⟩) n cap, .int .i64 lo, .int .i64 hi, .int .i64 pivot] wa fun e w' =>
      e = .returned (.tuple #[.int .i64 (Sort.partition ltInt d lo hi pivot).1, .bool (Sort.partition ltInt d lo hi pivot).2.1]) ∧ SR w b off pre tail n (Sort.partition ltInt d lo hi pivot).2.2 w' := by
  obtain ⟨G, hG⟩ : ∃ G : Nat → Int, ∀ t, G t = d[t]! := ⟨fun t => d[t]!, fun _ => rfl⟩
  have ca : wa.cell? ⟨b, off + lo, none⟩ = some (.int .u32 (G lo)) := by rw [hG]; exact hS.cell (by omega)
  have fa : wa.frozen? ⟨b, off + lo, none⟩ = false := hS.frozen _
  have cp : wa.cell? ⟨b, off + pivot, none⟩ = some (.int .u32 (G pivot)) := by rw [hG]; exact hS.cell (by omega)
  have fp : wa.frozen? ⟨b, off + pivot, none⟩ = false := hS.frozen _
  have hln : lo < n := by omega
  have hpn : pivot < n := by omega
  obtain ⟨v', hy'⟩ := cell?_setCell_some (w := wa) (p := ⟨b, off + lo, none⟩) (x := .int .u32 (G pivot)) (q := ⟨b, off + pivot, none⟩) cp
  have hsw : SR w b off pre tail n (swp d lo pivot) (((wa.setCell ⟨b, off + lo, none⟩ (.int .u32 (G pivot))).setCell ⟨b, off + pivot, none⟩ (.int .u32 (G lo))).drew) := by
    rw [hG, hG]; exact (hS.swap hln hpn).drew
  have HSW := Lib.hid hsw
  clear hG hS hsw
  go_enter Tryz.func138, Tryz.ntmps138
  go_wp2
  go_region
  go_wp2
  clear ca fa cp fp hy' v'
  generalize ((wa.setCell ⟨b, off + lo, none⟩ (.int .u32 (G pivot))).setCell ⟨b, off + pivot, none⟩ (.int .u32 (G lo))).drew = W1 at HSW ⊢
  obtain ⟨dk, hdk⟩ : ∃ dk, dk = swp d lo pivot := ⟨_, rfl⟩
  rw [← hdk] at HSW
  have e1 : ((lo : Int) + 1) = ((lo + 1 : Nat) : Int) := by omega
  have e2 : ((hi : Int) - 1) = ((hi - 1 : Nat) : Int) := by omega
  rw [e1, e2]
  clear e1 e2
  obtain ⟨i, hi'⟩ : ∃ i, i = lo + 1 := ⟨_, rfl⟩
  obtain ⟨j, hj'⟩ : ∃ j, j = hi - 1 := ⟨_, rfl⟩
  rw [← hi', ← hj']
  have hai : lo < i := by omega
  have hij : i ≤ j + 1 := by omega
  have hjb : j < hi := by omega
  have HI := Lib.hid hi'
  have HJ := Lib.hid hj'
  have HDK := Lib.hid hdk
  clear hi' hj' hdk
  obtain ⟨G, hG⟩ : ∃ G : Nat → Int, ∀ t, G t = dk[t]! := ⟨fun t => dk[t]!, fun _ => rfl⟩
  have AG := Lib.hid hG
  have HK := HSW
  clear hG HSW
  go_loopw [10] (fun vi w1 => ∃ (i' : Nat), vi = .int .i64 i' ∧ i ≤ i' ∧ i' ≤ j + 1 ∧ SR w b off pre tail n dk w1 ∧ Hid (Sort.scanUp (fun x => ltInt x dk[lo]!) dk j i' = Sort.scanUp (fun x => ltInt x dk[lo]!) dk j i)) (fun vi _ => j + 1 - (intOf vi).toNat)
  case atStart => exact ⟨i, rfl, Nat.le_refl _, hij, HK.out, rfl⟩
  case round =>
    obtain ⟨i', rfl, hii, hij', hs1, hsc⟩ := hrel
    have hcw : ∀ t, t < n → wr.cell? ⟨b, off + t, none⟩ = some (.int .u32 (G t)) := fun t ht => by rw [AG.out]; exact hs1.cell ht
    have H1 := Lib.hid hs1
    clear hs1
    by_cases hle : i' ≤ j
    · go_wp2_with fail
      go_big_quiet (first | (go_at_call 136; refine Calls.quiet_of_same (less_any _ _ _)))
      go_wp2
      · have ht : ltInt (G i') (G lo) = true := by assumption
        go_roundw
        case rel => exact ⟨i' + 1, by go_num, by omega, by omega, H1.out.drewN nq, (scanUp_go (fun x => ltInt x dk[lo]!) dk j i' hle (by rw [← AG.out lo, ← AG.out i']; exact ht)).symm.trans hsc.out⟩
        case measure => simp [intOf]; omega
      · have ht : ltInt (G i') (G lo) = false := by assumption
        have hi2 : Hid (i' = Sort.scanUp (fun x => ltInt x dk[lo]!) dk j i) := (scanUp_end (fun x => ltInt x dk[lo]!) dk j i' (Or.inr (by rw [← AG.out lo, ← AG.out i']; exact ht))).symm.trans hsc.out
        clear ht
        have H2 := Lib.hid (H1.out.drewN nq)
        clear hcw H1 hsc
        go_loopw [11] (fun vj w2 => ∃ (j' : Nat), vj = .int .i64 j' ∧ j' ≤ j ∧ i' ≤ j' + 1 ∧ SR w b off pre tail n dk w2 ∧ Hid (Sort.scanDown (fun x => !ltInt x dk[lo]!) dk i' j' = Sort.scanDown (fun x => !ltInt x dk[lo]!) dk i' j)) (fun vj _ => (intOf vj).toNat)
        case atStart => exact ⟨j, rfl, Nat.le_refl _, hij', H2.out, rfl⟩
        case round =>
          obtain ⟨j', rfl, hjj, hij2, hs2, hsd⟩ := hrel
          have hcw : ∀ t, t < n → wr.cell? ⟨b, off + t, none⟩ = some (.int .u32 (G t)) := fun t ht => by rw [AG.out]; exact hs2.cell ht
          have H3 := Lib.hid hs2
          clear hs2
          by_cases hle2 : i' ≤ j'
          · go_wp2_with fail
            go_big_quiet (first | (go_at_call 136; refine Calls.quiet_of_same (less_any _ _ _)))
            go_wp2
            · have ht : (!ltInt (G j') (G lo)) = true := by assumption
              go_roundw
              case rel => exact ⟨j' - 1, by go_num, by omega, by omega, H3.out.drewN nq, (scanDown_go (fun x => !ltInt x dk[lo]!) dk i' j' hle2 (by omega) (by rw [← AG.out lo, ← AG.out j']; exact ht)).symm.trans hsd.out⟩
              case measure => simp [intOf]; omega
            · have ht : (!ltInt (G j') (G lo)) = false := by assumption
              have hj2 : Hid (j' = Sort.scanDown (fun x => !ltInt x dk[lo]!) dk i' j) := (scanDown_end (fun x => !ltInt x dk[lo]!) dk i' j' (Or.inr (by rw [← AG.out lo, ← AG.out j']; exact ht))).symm.trans hsd.out
              clear hcw hsd ht
              have H4 := Lib.hid (H3.out.drewN nq)
              generalize wr.drewN nq = W3 at H4 ⊢
              have hcw : ∀ t, t < n → W3.cell? ⟨b, off + t, none⟩ = some (.int .u32 (G t)) := fun t ht => by rw [AG.out]; exact H4.out.cell ht
              have hfw : ∀ t, t < n → W3.frozen? ⟨b, off + t, none⟩ = false := fun t _ => H4.out.frozen _
              obtain ⟨v3, hy3⟩ := cell?_setCell_some (w := W3) (p := ⟨b, off + i', none⟩) (x := .int .u32 (G j')) (q := ⟨b, off + j', none⟩) (hcw j' (by omega))
              have hlt3 := part_scans_lt ltInt lo i j dk (by omega) hi2.out hj2.out hle2
              have AE0 := Lib.hid (part_first_go ltInt d lo hi pivot HI.out HJ.out HDK.out hi2.out hj2.out (by omega))
              have hsw6 := (H4.out.drewN 1).swap (i := i') (j := j') (by omega) (by omega)
              rw [← AG.out i', ← AG.out j'] at hsw6
              have HSW6 := Lib.hid hsw6
              clear hsw6
              have HB0 := Lib.hid (show lo < i' + 1 ∧ i' + 1 ≤ j' - 1 + 1 ∧ j' - 1 < hi by omega)
              go_wp2
              go_region
              all_goals go_wp2
              all_goals (
                go_loopw [10, 11] (fun vi vj wq => ∃ (i j : Nat) (dk' : Array Int), vi = .int .i64 i ∧ vj = .int .i64 j ∧ lo < i ∧ i ≤ j + 1 ∧ j < hi ∧ SR w b off pre tail n dk' wq ∧ Sort.partLoop ltInt lo i j dk' = Sort.partLoop ltInt lo (i' + 1) (j' - 1) (swp dk i' j')) (fun vi vj _ => (intOf vj).toNat + 1 - (intOf vi).toNat)
                case atStart => exact ⟨i' + 1, j' - 1, swp dk i' j', by go_num, by go_num, HB0.out.1, HB0.out.2.1, HB0.out.2.2, HSW6.out, rfl⟩
                case round =>
                  obtain ⟨i, j, dk, rfl, rfl, hai, hij, hjb, hsk, heq⟩ := hrel
                  clear hcw hfw hy3 v3 hi2 hj2 hlt3
                  obtain ⟨G, hG⟩ : ∃ G : Nat → Int, ∀ t, G t = dk[t]! := ⟨fun t => dk[t]!, fun _ => rfl⟩
                  have AG := Lib.hid hG
                  have HK := Lib.hid hsk
                  have AE := Lib.hid heq
                  clear hG hsk heq
                  go_wp2
                  go_loopw [10] (fun vi w1 => ∃ (i' : Nat), vi = .int .i64 i' ∧ i ≤ i' ∧ i' ≤ j + 1 ∧ SR w b off pre tail n dk w1 ∧ Hid (Sort.scanUp (fun x => ltInt x dk[lo]!) dk j i' = Sort.scanUp (fun x => ltInt x dk[lo]!) dk j i)) (fun vi _ => j + 1 - (intOf vi).toNat)
                  case atStart => exact ⟨i, rfl, Nat.le_refl _, hij, HK.out, rfl⟩
                  case round =>
                    obtain ⟨i', rfl, hii, hij', hs1, hsc⟩ := hrel
                    have hcw : ∀ t, t < n → wr.cell? ⟨b, off + t, none⟩ = some (.int .u32 (G t)) := fun t ht => by rw [AG.out]; exact hs1.cell ht
                    have H1 := Lib.hid hs1
                    clear hs1
                    by_cases hle : i' ≤ j
                    · go_wp2_with fail
                      go_big_quiet (first | (go_at_call 136; refine Calls.quiet_of_same (less_any _ _ _)))
                      go_wp2
                      · have ht : ltInt (G i') (G lo) = true := by assumption
                        go_roundw
                        case rel => exact ⟨i' + 1, by go_num, by omega, by omega, H1.out.drewN nq, (scanUp_go (fun x => ltInt x dk[lo]!) dk j i' hle (by rw [← AG.out lo, ← AG.out i']; exact ht)).symm.trans hsc.out⟩
                        case measure => simp [intOf]; omega
                      · have ht : ltInt (G i') (G lo) = false := by assumption
                        have hi2 : Hid (i' = Sort.scanUp (fun x => ltInt x dk[lo]!) dk j i) := (scanUp_end (fun x => ltInt x dk[lo]!) dk j i' (Or.inr (by rw [← AG.out lo, ← AG.out i']; exact ht))).symm.trans hsc.out
                        clear ht
                        have H2 := Lib.hid (H1.out.drewN nq)
                        clear hcw H1 hsc
                        go_loopw [11] (fun vj w2 => ∃ (j' : Nat), vj = .int .i64 j' ∧ j' ≤ j ∧ i' ≤ j' + 1 ∧ SR w b off pre tail n dk w2 ∧ Hid (Sort.scanDown (fun x => !ltInt x dk[lo]!) dk i' j' = Sort.scanDown (fun x => !ltInt x dk[lo]!) dk i' j)) (fun vj _ => (intOf vj).toNat)
                        case atStart => exact ⟨j, rfl, Nat.le_refl _, hij', H2.out, rfl⟩
                        case round =>
                          obtain ⟨j', rfl, hjj, hij2, hs2, hsd⟩ := hrel
                          have hcw : ∀ t, t < n → wr.cell? ⟨b, off + t, none⟩ = some (.int .u32 (G t)) := fun t ht => by rw [AG.out]; exact hs2.cell ht
                          have H3 := Lib.hid hs2
                          clear hs2
                          by_cases hle2 : i' ≤ j'
                          · go_wp2_with fail
                            go_big_quiet (first | (go_at_call 136; refine Calls.quiet_of_same (less_any _ _ _)))
                            go_wp2
                            · have ht : (!ltInt (G j') (G lo)) = true := by assumption
                              go_roundw
                              case rel => exact ⟨j' - 1, by go_num, by omega, by omega, H3.out.drewN nq, (scanDown_go (fun x => !ltInt x dk[lo]!) dk i' j' hle2 (by omega) (by rw [← AG.out lo, ← AG.out j']; exact ht)).symm.trans hsd.out⟩
                              case measure => simp [intOf]; omega
                            · have ht : (!ltInt (G j') (G lo)) = false := by assumption
                              have hj2 : Hid (j' = Sort.scanDown (fun x => !ltInt x dk[lo]!) dk i' j) := (scanDown_end (fun x => !ltInt x dk[lo]!) dk i' j' (Or.inr (by rw [← AG.out lo, ← AG.out j']; exact ht))).symm.trans hsd.out
                              clear hcw hsd ht
                              have H4 := Lib.hid (H3.out.drewN nq)
                              generalize wr.drewN nq = W3 at H4 ⊢
                              have hcw : ∀ t, t < n → W3.cell? ⟨b, off + t, none⟩ = some (.int .u32 (G t)) := fun t ht => by rw [AG.out]; exact H4.out.cell ht
                              have hfw : ∀ t, t < n → W3.frozen? ⟨b, off + t, none⟩ = false := fun t _ => H4.out.frozen _
                              obtain ⟨v3, hy3⟩ := cell?_setCell_some (w := W3) (p := ⟨b, off + i', none⟩) (x := .int .u32 (G j')) (q := ⟨b, off + j', none⟩) (hcw j' (by omega))
                              have hlt3 := part_scans_lt ltInt lo i j dk (by omega) hi2.out hj2.out hle2
                              go_wp2
                              go_region
                              all_goals go_wp2
                              all_goals go_roundw
                              case rel =>
                                refine ⟨i' + 1, j' - 1, swp dk i' j', by go_num, by go_num, by omega, by omega, by omega, ?_, ?_⟩
                                · rw [AG.out i', AG.out j']
                                  exact (H4.out.drewN 1).swap (by omega) (by omega)
                                · rw [← AE.out]; exact (part_go ltInt lo i j dk hi2.out hj2.out (by omega)).symm
                              case measure => simp [intOf]; omega
                          · go_wp2_with fail
                            go_big_quiet (first | (go_at_call 136; refine Calls.quiet_of_same (less_any _ _ _)))
                            have hj2 : Hid (j' = Sort.scanDown (fun x => !ltInt x dk[lo]!) dk i' j) := (scanDown_end (fun x => !ltInt x dk[lo]!) dk i' j' (Or.inl hle2)).symm.trans hsd.out
                            clear hcw hsd
                            have H4 := Lib.hid (H3.out.drewN nq)
                            generalize wr.drewN nq = W3 at H4 ⊢
                            have hcw : ∀ t, t < n → W3.cell? ⟨b, off + t, none⟩ = some (.int .u32 (G t)) := fun t ht => by rw [AG.out]; exact H4.out.cell ht
                            have hfw : ∀ t, t < n → W3.frozen? ⟨b, off + t, none⟩ = false := fun t _ => H4.out.frozen _
                            obtain ⟨v5, hy5⟩ := cell?_setCell_some (w := W3) (p := ⟨b, off + j', none⟩) (x := .int .u32 (G lo)) (q := ⟨b, off + lo, none⟩) (hcw lo (by omega))
                            have hj'n : j' < n := by omega
                            have hlon : lo < n := by omega
                            have hsw5 := (H4.out.drewN 1).swap (i := j') (j := lo) (by omega) (by omega)
                            rw [← AG.out j', ← AG.out lo] at hsw5
                            have HSW5 := Lib.hid hsw5
                            clear hsw5
                            go_wp2
                            go_region
                            all_goals go_wp2
                            all_goals go_ret2
                            have e := part_break ltInt lo i j dk hi2.out hj2.out (by omega)
                            have e2 : Sort.partition ltInt d lo hi pivot = (j', false, swp dk j' lo) := by rw [AE0.out, ← AE.out, e]
                            rw [e2]
                            exact ⟨rfl, HSW5.out⟩
                    · go_wp2_with fail
                      go_big_quiet (first | (go_at_call 136; refine Calls.quiet_of_same (less_any _ _ _)))
                      go_wp2
                      have hi2 : Hid (i' = Sort.scanUp (fun x => ltInt x dk[lo]!) dk j i) := (scanUp_end (fun x => ltInt x dk[lo]!) dk j i' (Or.inl hle)).symm.trans hsc.out
                      have H2 := Lib.hid (H1.out.drewN nq)
                      clear hcw H1 hsc
                      go_loopw [11] (fun vj w2 => ∃ (j' : Nat), vj = .int .i64 j' ∧ j' ≤ j ∧ i' ≤ j' + 1 ∧ SR w b off pre tail n dk w2 ∧ Hid (Sort.scanDown (fun x => !ltInt x dk[lo]!) dk i' j' = Sort.scanDown (fun x => !ltInt x dk[lo]!) dk i' j)) (fun vj _ => (intOf vj).toNat)
                      case atStart => exact ⟨j, rfl, Nat.le_refl _, hij', H2.out, rfl⟩
                      case round =>
                        obtain ⟨j', rfl, hjj, hij2, hs2, hsd⟩ := hrel
                        have hcw : ∀ t, t < n → wr.cell? ⟨b, off + t, none⟩ = some (.int .u32 (G t)) := fun t ht => by rw [AG.out]; exact hs2.cell ht
                        have H3 := Lib.hid hs2
                        clear hs2
                        by_cases hle2 : i' ≤ j'
                        · exfalso; omega
                        · go_wp2_with fail
                          go_big_quiet (first | (go_at_call 136; refine Calls.quiet_of_same (less_any _ _ _)))
                          have hj2 : Hid (j' = Sort.scanDown (fun x => !ltInt x dk[lo]!) dk i' j) := (scanDown_end (fun x => !ltInt x dk[lo]!) dk i' j' (Or.inl hle2)).symm.trans hsd.out
                          clear hcw hsd
                          have H4 := Lib.hid (H3.out.drewN nq)
                          generalize wr.drewN nq = W3 at H4 ⊢
                          have hcw : ∀ t, t < n → W3.cell? ⟨b, off + t, none⟩ = some (.int .u32 (G t)) := fun t ht => by rw [AG.out]; exact H4.out.cell ht
                          have hfw : ∀ t, t < n → W3.frozen? ⟨b, off + t, none⟩ = false := fun t _ => H4.out.frozen _
                          obtain ⟨v5, hy5⟩ := cell?_setCell_some (w := W3) (p := ⟨b, off + j', none⟩) (x := .int .u32 (G lo)) (q := ⟨b, off + lo, none⟩) (hcw lo (by omega))
                          have hj'n : j' < n := by omega
                          have hlon : lo < n := by omega
                          have hsw5 := (H4.out.drewN 1).swap (i := j') (j := lo) (by omega) (by omega)
                          rw [← AG.out j', ← AG.out lo] at hsw5
                          have HSW5 := Lib.hid hsw5
                          clear hsw5
                          go_wp2
                          go_region
                          all_goals go_wp2
                          all_goals go_ret2
                          have e := part_break ltInt lo i j dk hi2.out hj2.out (by omega)
                          have e2 : Sort.partition ltInt d lo hi pivot = (j', false, swp dk j' lo) := by rw [AE0.out, ← AE.out, e]
                          rw [e2]
                          exact ⟨rfl, HSW5.out⟩)
          · go_wp2_with fail
            go_big_quiet (first | (go_at_call 136; refine Calls.quiet_of_same (less_any _ _ _)))
            have hj2 : Hid (j' = Sort.scanDown (fun x => !ltInt x dk[lo]!) dk i' j) := (scanDown_end (fun x => !ltInt x dk[lo]!) dk i' j' (Or.inl hle2)).symm.trans hsd.out
            clear hcw hsd
            have H4 := Lib.hid (H3.out.drewN nq)
            generalize wr.drewN nq = W3 at H4 ⊢
            have hcw : ∀ t, t < n → W3.cell? ⟨b, off + t, none⟩ = some (.int .u32 (G t)) := fun t ht => by rw [AG.out]; exact H4.out.cell ht
            have hfw : ∀ t, t < n → W3.frozen? ⟨b, off + t, none⟩ = false := fun t _ => H4.out.frozen _
            obtain ⟨v5, hy5⟩ := cell?_setCell_some (w := W3) (p := ⟨b, off + j', none⟩) (x := .int .u32 (G lo)) (q := ⟨b, off + lo, none⟩) (hcw lo (by omega))
            have hj'n : j' < n := by omega
            have hlon : lo < n := by omega
            have hsw5 := (H4.out.drewN 1).swap (i := j') (j := lo) (by omega) (by omega)
            rw [← AG.out j', ← AG.out lo] at hsw5
            have HSW5 := Lib.hid hsw5
            clear hsw5
            go_wp2
            go_region
            all_goals go_wp2
            all_goals go_ret2
            have e := part_first_break ltInt d lo hi pivot HI.out HJ.out HDK.out hi2.out hj2.out (by omega)
            rw [e]
            exact ⟨rfl, HSW5.out⟩
    · go_wp2_with fail
      go_big_quiet (first | (go_at_call 136; refine Calls.quiet_of_same (less_any _ _ _)))
      go_wp2
      have hi2 : Hid (i' = Sort.scanUp (fun x => ltInt x dk[lo]!) dk j i) := (scanUp_end (fun x => ltInt x dk[lo]!) dk j i' (Or.inl hle)).symm.trans hsc.out
      have H2 := Lib.hid (H1.out.drewN nq)
      clear hcw H1 hsc
      go_loopw [11] (fun vj w2 => ∃ (j' : Nat), vj = .int .i64 j' ∧ j' ≤ j ∧ i' ≤ j' + 1 ∧ SR w b off pre tail n dk w2 ∧ Hid (Sort.scanDown (fun x => !ltInt x dk[lo]!) dk i' j' = Sort.scanDown (fun x => !ltInt x dk[lo]!) dk i' j)) (fun vj _ => (intOf vj).toNat)
      case atStart => exact ⟨j, rfl, Nat.le_refl _, hij', H2.out, rfl⟩
      case round =>
        obtain ⟨j', rfl, hjj, hij2, hs2, hsd⟩ := hrel
        have hcw : ∀ t, t < n → wr.cell? ⟨b, off + t, none⟩ = some (.int .u32 (G t)) := fun t ht => by rw [AG.out]; exact hs2.cell ht
        have H3 := Lib.hid hs2
        clear hs2
        by_cases hle2 : i' ≤ j'
        · exfalso; omega
        · go_wp2_with fail
          go_big_quiet (first | (go_at_call 136; refine Calls.quiet_of_same (less_any _ _ _)))
          have hj2 : Hid (j' = Sort.scanDown (fun x => !ltInt x dk[lo]!) dk i' j) := (scanDown_end (fun x => !ltInt x dk[lo]!) dk i' j' (Or.inl hle2)).symm.trans hsd.out
          clear hcw hsd
          have H4 := Lib.hid (H3.out.drewN nq)
          generalize wr.drewN nq = W3 at H4 ⊢
          have hcw : ∀ t, t < n → W3.cell? ⟨b, off + t, none⟩ = some (.int .u32 (G t)) := fun t ht => by rw [AG.out]; exact H4.out.cell ht
          have hfw : ∀ t, t < n → W3.frozen? ⟨b, off + t, none⟩ = false := fun t _ => H4.out.frozen _
          obtain ⟨v5, hy5⟩ := cell?_setCell_some (w := W3) (p := ⟨b, off + j', none⟩) (x := .int .u32 (G lo)) (q := ⟨b, off + lo, none⟩) (hcw lo (by omega))
          have hj'n : j' < n := by omega
          have hlon : lo < n := by omega
          have hsw5 := (H4.out.drewN 1).swap (i := j') (j := lo) (by omega) (by omega)
          rw [← AG.out j', ← AG.out lo] at hsw5
          have HSW5 := Lib.hid hsw5
          clear hsw5
          go_wp2
          go_region
          all_goals go_wp2
          all_goals go_ret2
          have e := part_first_break ltInt d lo hi pivot HI.out HJ.out HDK.out hi2.out hj2.out (by omega)
          rw [e]
          exact ⟨rfl, HSW5.out⟩
end Go.Proofs.YthhmcjojnbaiiaaGreatDoor

/- slices.Sort of uint32: partialInsertionSortOrdered. (Printed by wip/gen_pi.py.) -/
namespace Go.Proofs.YthhmcjojnbaiiaaGreatDoor
open Go Go.RowKit
open Go.Sort (swp ltInt size_swp)
set_option maxHeartbeats 6400000 in
set_option maxRecDepth 100000 in
theorem pins_any (w : World) (b off n cap lo hi : Nat) (pre tail : List Value) (d : Array Int) (wa : World) (hS : SR w b off pre tail n d wa) (hab : lo < hi) (hb : hi ≤ n) (hn : n ≤ 1073741824) :
    Calls Tryz.prog 135 #[.slice (some ⟨b, off, none⟩) n cap, .int .i64 lo, .int .i64 hi] wa fun e w' =>
      e = .returned (.bool (Sort.partialInsertionSort ltInt d lo hi).2) ∧ SR w b off pre tail n (Sort.partialInsertionSort ltInt d lo hi).1 w' := by
  have HST := Lib.hid hS
  clear hS
  go_enter Tryz.func135, Tryz.ntmps135
  go_wp2
  go_loopw [7, 8] (fun vi vs wq => ∃ (i s : Nat) (dk : Array Int), vi = .int .i64 i ∧ vs = .int .i64 s ∧ s ≤ 5 ∧ lo < i ∧ i ≤ hi ∧ SR w b off pre tail n dk wq ∧ Sort.partialIns ltInt lo hi (5 - s) i dk = Sort.partialIns ltInt lo hi 5 (lo + 1) d) (fun _ vs _ => 5 - (intOf vs).toNat)
  case atStart => exact ⟨lo + 1, 0, d, by go_num, rfl, by omega, by omega, by omega, HST.out, rfl⟩
  case round =>
    obtain ⟨i, s, dk, rfl, rfl, hs5, hai, hib, hsk, hO⟩ := hrel
    have HO := Lib.hid hO
    have HK := Lib.hid hsk
    clear hO hsk
    by_cases hs : s < 5
    · go_wp2
      go_loopw [7] (fun vi wq => ∃ (k : Nat), vi = .int .i64 k ∧ i ≤ k ∧ k ≤ hi ∧ SR w b off pre tail n dk wq ∧ Sort.scanSorted ltInt dk hi k = Sort.scanSorted ltInt dk hi i) (fun vi _ => hi - (intOf vi).toNat)
      case atStart => exact ⟨i, rfl, Nat.le_refl _, hib, HK.out, rfl⟩
      case round =>
        obtain ⟨k, rfl, hik, hkb, hsk, hSc⟩ := hrel
        obtain ⟨G, hG⟩ : ∃ G : Nat → Int, ∀ t, G t = dk[t]! := ⟨fun t => dk[t]!, fun _ => rfl⟩
        have hcw : ∀ t, t < n → wr.cell? ⟨b, off + t, none⟩ = some (.int .u32 (G t)) := fun t ht => by rw [hG]; exact hsk.cell ht
        have hfw : ∀ t, t < n → wr.frozen? ⟨b, off + t, none⟩ = false := fun t _ => hsk.frozen _
        have HG := Lib.hid hG
        have HJ := Lib.hid hsk
        clear hG hsk
        have HS := Lib.hid hSc
        clear hSc
        go_wp2
        by_cases hkb' : k < hi
        · have hkn : k < n := by omega
          have hkm : k - 1 < n := by omega
          have hkne : ((k : Int) == (hi : Int)) = false := by simp; omega
          by_cases h50 : hi - lo < 50
          · have h50z : (hi : Int) - lo < 50 := by omega
            go_quiet (first | (go_at_call 136; refine Calls.quiet_of_same (less_any _ _ _)))
            go_wp2
            · have hl : ltInt (G k) (G (k - 1)) = false := by
                have h : (!ltInt (G k) (G (k - 1))) = true := by assumption
                simpa using h
              go_roundw
              case rel => exact ⟨k + 1, by go_num, by omega, by omega, HJ.out.drewN nq, by rw [← HS.out, scanSorted_go ltInt dk hi k hkb' (by rw [← HG.out, ← HG.out]; exact hl)]⟩
              case measure => simp [intOf]; omega
            · have hl : ltInt (G k) (G (k - 1)) = true := by
                have h : (!ltInt (G k) (G (k - 1))) = false := by assumption
                simpa using h
              have HKs := Lib.hid (show Sort.scanSorted ltInt dk hi i = k by rw [← HS.out, scanSorted_stop ltInt dk hi k (Or.inr (by rw [← HG.out, ← HG.out]; exact hl))])
              have hv : Sort.partialInsertionSort ltInt d lo hi = (dk, false) := by
                unfold Sort.partialInsertionSort
                rw [← HO.out, pi_short ltInt lo hi s i dk hs (by rw [HKs.out]; omega) (by omega)]
              rw [hv]
              go_ret
              exact ⟨rfl, HJ.out.drewN nq⟩
          · have h50z : ¬ (hi : Int) - lo < 50 := by omega
            go_quiet (first | (go_at_call 136; refine Calls.quiet_of_same (less_any _ _ _)))
            go_wp2
            · have hl : ltInt (G k) (G (k - 1)) = false := by
                have h : (!ltInt (G k) (G (k - 1))) = true := by assumption
                simpa using h
              go_roundw
              case rel => exact ⟨k + 1, by go_num, by omega, by omega, HJ.out.drewN nq, by rw [← HS.out, scanSorted_go ltInt dk hi k hkb' (by rw [← HG.out, ← HG.out]; exact hl)]⟩
              case measure => simp [intOf]; omega
            · have hl : ltInt (G k) (G (k - 1)) = true := by
                have h : (!ltInt (G k) (G (k - 1))) = false := by assumption
                simpa using h
              have HKs := Lib.hid (show Sort.scanSorted ltInt dk hi i = k by rw [← HS.out, scanSorted_stop ltInt dk hi k (Or.inr (by rw [← HG.out, ← HG.out]; exact hl))])
              by_cases hka : k - lo ≥ 2
              · have hkaz : (2 : Int) ≤ (k : Int) - lo := by omega
                by_cases hbk : hi - k ≥ 2
                · have hbkz : (2 : Int) ≤ (hi : Int) - k := by omega
                  go_region
                  have hsw := (HJ.out.drewN (nq + 1)).swap (i := k) (j := k - 1) (by omega) (by omega)
                  rw [← HG.out, ← HG.out] at hsw
                  have HSW := Lib.hid hsw
                  clear hsw hcw hfw
                  go_wp2
                  go_loopw [9] (fun vj wq => ∃ (j : Nat) (dj : Array Int), vj = .int .i64 j ∧ j ≤ k - 1 ∧ SR w b off pre tail n dj wq ∧ Sort.shiftDown ltInt j dj = Sort.shiftDown ltInt (k - 1) (Sort.swp dk k (k - 1))) (fun vj _ => (intOf vj).toNat)
                  case atStart => exact ⟨k - 1, (Sort.swp dk k (k - 1)), by congr 1; omega, Nat.le_refl _, HSW.out, rfl⟩
                  case round =>
                    obtain ⟨j, dj, rfl, hjk, hsj, hDn⟩ := hrel
                    obtain ⟨G, hG⟩ : ∃ G : Nat → Int, ∀ t, G t = dj[t]! := ⟨fun t => dj[t]!, fun _ => rfl⟩
                    have hcw : ∀ t, t < n → wr.cell? ⟨b, off + t, none⟩ = some (.int .u32 (G t)) := fun t ht => by rw [hG]; exact hsj.cell ht
                    have hfw : ∀ t, t < n → wr.frozen? ⟨b, off + t, none⟩ = false := fun t _ => hsj.frozen _
                    have HG := Lib.hid hG
                    have HJ := Lib.hid hsj
                    clear hG hsj
                    have HDn := Lib.hid hDn
                    clear hDn
                    by_cases hj1 : 1 ≤ j
                    · go_wp2
                      go_quiet (first | (go_at_call 136; refine Calls.quiet_of_same (less_any _ _ _)))
                      go_wp2
                      · have hl : ltInt (G j) (G (j - 1)) = false := by
                          have h : (!ltInt (G j) (G (j - 1))) = true := by assumption
                          simpa using h
                        have HD := Lib.hid (show Sort.fixDown ltInt lo k (Sort.swp dk k (k - 1)) = dj by unfold Sort.fixDown; rw [if_pos hka, ← HDn.out, shiftDown_stop ltInt j dj (Or.inr (by rw [← HG.out, ← HG.out]; exact hl))])
                        go_loopw [10] (fun vj wq => ∃ (j : Nat) (du : Array Int), vj = .int .i64 j ∧ k + 1 ≤ j ∧ j ≤ hi ∧ SR w b off pre tail n du wq ∧ Sort.shiftUp ltInt hi j du = Sort.shiftUp ltInt hi (k + 1) dj) (fun vj _ => hi - (intOf vj).toNat)
                        case atStart => exact ⟨k + 1, dj, by go_num, Nat.le_refl _, by omega, HJ.out.drewN nq, rfl⟩
                        case round =>
                          obtain ⟨j, du, rfl, hkj, hjb, hsu, hU⟩ := hrel
                          obtain ⟨G, hG⟩ : ∃ G : Nat → Int, ∀ t, G t = du[t]! := ⟨fun t => du[t]!, fun _ => rfl⟩
                          have hcw : ∀ t, t < n → wr.cell? ⟨b, off + t, none⟩ = some (.int .u32 (G t)) := fun t ht => by rw [hG]; exact hsu.cell ht
                          have hfw : ∀ t, t < n → wr.frozen? ⟨b, off + t, none⟩ = false := fun t _ => hsu.frozen _
                          have HG := Lib.hid hG
                          have HJ := Lib.hid hsu
                          clear hG hsu
                          have HU := Lib.hid hU
                          clear hU
                          by_cases hjh : j < hi
                          · go_wp2
                            go_quiet (first | (go_at_call 136; refine Calls.quiet_of_same (less_any _ _ _)))
                            go_wp2
                            · have hl : ltInt (G j) (G (j - 1)) = false := by
                                have h : (!ltInt (G j) (G (j - 1))) = true := by assumption
                                simpa using h
                              go_roundw
                              case rel =>
                                refine ⟨k, s + 1, du, rfl, by go_num, by omega, by omega, by omega, HJ.out.drewN nq, ?_⟩
                                rw [← HO.out, pi_go ltInt lo hi s i k dk hs HKs.out (by omega) (by omega), HD.out, show Sort.fixUp ltInt hi k dj = du from by unfold Sort.fixUp; rw [if_pos (by omega), ← HU.out, shiftUp_stop ltInt hi j du (Or.inr (by rw [← HG.out, ← HG.out]; exact hl))]]
                              case measure => simp [intOf]; omega
                            · have hl : ltInt (G j) (G (j - 1)) = true := by
                                have h : (!ltInt (G j) (G (j - 1))) = false := by assumption
                                simpa using h
                              go_region
                              all_goals go_wp2
                              go_roundw
                              case rel =>
                                refine ⟨j + 1, Sort.swp du j (j - 1), by go_num, by omega, by omega, ?_, ?_⟩
                                · rw [HG.out, HG.out]
                                  exact (HJ.out.drewN _).swap (by omega) (by omega)
                                · rw [← HU.out, shiftUp_go ltInt hi j du (by omega) (by rw [← HG.out, ← HG.out]; exact hl)]
                              case measure => simp [intOf]; omega
                          · go_wp2
                            go_roundw
                            case rel =>
                              refine ⟨k, s + 1, du, rfl, by go_num, by omega, by omega, by omega, HJ.out, ?_⟩
                              rw [← HO.out, pi_go ltInt lo hi s i k dk hs HKs.out (by omega) (by omega), HD.out, show Sort.fixUp ltInt hi k dj = du from by unfold Sort.fixUp; rw [if_pos (by omega), ← HU.out, shiftUp_stop ltInt hi j du (Or.inl (by omega))]]
                            case measure => simp [intOf]; omega
                      · have hl : ltInt (G j) (G (j - 1)) = true := by
                          have h : (!ltInt (G j) (G (j - 1))) = false := by assumption
                          simpa using h
                        go_region
                        all_goals go_wp2
                        go_roundw
                        case rel =>
                          refine ⟨j - 1, Sort.swp dj j (j - 1), by congr 1; omega, by omega, ?_, ?_⟩
                          · rw [HG.out, HG.out]
                            exact (HJ.out.drewN _).swap (by omega) (by omega)
                          · rw [← HDn.out, shiftDown_go ltInt j dj (by omega) (by rw [← HG.out, ← HG.out]; exact hl)]
                        case measure => simp [intOf]; omega
                    · go_wp2
                      have HD := Lib.hid (show Sort.fixDown ltInt lo k (Sort.swp dk k (k - 1)) = dj by unfold Sort.fixDown; rw [if_pos hka, ← HDn.out, shiftDown_stop ltInt j dj (Or.inl (by omega))])
                      go_loopw [10] (fun vj wq => ∃ (j : Nat) (du : Array Int), vj = .int .i64 j ∧ k + 1 ≤ j ∧ j ≤ hi ∧ SR w b off pre tail n du wq ∧ Sort.shiftUp ltInt hi j du = Sort.shiftUp ltInt hi (k + 1) dj) (fun vj _ => hi - (intOf vj).toNat)
                      case atStart => exact ⟨k + 1, dj, by go_num, Nat.le_refl _, by omega, HJ.out, rfl⟩
                      case round =>
                        obtain ⟨j, du, rfl, hkj, hjb, hsu, hU⟩ := hrel
                        obtain ⟨G, hG⟩ : ∃ G : Nat → Int, ∀ t, G t = du[t]! := ⟨fun t => du[t]!, fun _ => rfl⟩
                        have hcw : ∀ t, t < n → wr.cell? ⟨b, off + t, none⟩ = some (.int .u32 (G t)) := fun t ht => by rw [hG]; exact hsu.cell ht
                        have hfw : ∀ t, t < n → wr.frozen? ⟨b, off + t, none⟩ = false := fun t _ => hsu.frozen _
                        have HG := Lib.hid hG
                        have HJ := Lib.hid hsu
                        clear hG hsu
                        have HU := Lib.hid hU
                        clear hU
                        by_cases hjh : j < hi
                        · go_wp2
                          go_quiet (first | (go_at_call 136; refine Calls.quiet_of_same (less_any _ _ _)))
                          go_wp2
                          · have hl : ltInt (G j) (G (j - 1)) = false := by
                              have h : (!ltInt (G j) (G (j - 1))) = true := by assumption
                              simpa using h
                            go_roundw
                            case rel =>
                              refine ⟨k, s + 1, du, rfl, by go_num, by omega, by omega, by omega, HJ.out.drewN nq, ?_⟩
                              rw [← HO.out, pi_go ltInt lo hi s i k dk hs HKs.out (by omega) (by omega), HD.out, show Sort.fixUp ltInt hi k dj = du from by unfold Sort.fixUp; rw [if_pos (by omega), ← HU.out, shiftUp_stop ltInt hi j du (Or.inr (by rw [← HG.out, ← HG.out]; exact hl))]]
                            case measure => simp [intOf]; omega
                          · have hl : ltInt (G j) (G (j - 1)) = true := by
                              have h : (!ltInt (G j) (G (j - 1))) = false := by assumption
                              simpa using h
                            go_region
                            all_goals go_wp2
                            go_roundw
                            case rel =>
                              refine ⟨j + 1, Sort.swp du j (j - 1), by go_num, by omega, by omega, ?_, ?_⟩
                              · rw [HG.out, HG.out]
                                exact (HJ.out.drewN _).swap (by omega) (by omega)
                              · rw [← HU.out, shiftUp_go ltInt hi j du (by omega) (by rw [← HG.out, ← HG.out]; exact hl)]
                            case measure => simp [intOf]; omega
                        · go_wp2
                          go_roundw
                          case rel =>
                            refine ⟨k, s + 1, du, rfl, by go_num, by omega, by omega, by omega, HJ.out, ?_⟩
                            rw [← HO.out, pi_go ltInt lo hi s i k dk hs HKs.out (by omega) (by omega), HD.out, show Sort.fixUp ltInt hi k dj = du from by unfold Sort.fixUp; rw [if_pos (by omega), ← HU.out, shiftUp_stop ltInt hi j du (Or.inl (by omega))]]
                          case measure => simp [intOf]; omega
                · have hbkz : ¬ (2 : Int) ≤ (hi : Int) - k := by omega
                  go_region
                  have hsw := (HJ.out.drewN (nq + 1)).swap (i := k) (j := k - 1) (by omega) (by omega)
                  rw [← HG.out, ← HG.out] at hsw
                  have HSW := Lib.hid hsw
                  clear hsw hcw hfw
                  go_wp2
                  go_loopw [9] (fun vj wq => ∃ (j : Nat) (dj : Array Int), vj = .int .i64 j ∧ j ≤ k - 1 ∧ SR w b off pre tail n dj wq ∧ Sort.shiftDown ltInt j dj = Sort.shiftDown ltInt (k - 1) (Sort.swp dk k (k - 1))) (fun vj _ => (intOf vj).toNat)
                  case atStart => exact ⟨k - 1, (Sort.swp dk k (k - 1)), by congr 1; omega, Nat.le_refl _, HSW.out, rfl⟩
                  case round =>
                    obtain ⟨j, dj, rfl, hjk, hsj, hDn⟩ := hrel
                    obtain ⟨G, hG⟩ : ∃ G : Nat → Int, ∀ t, G t = dj[t]! := ⟨fun t => dj[t]!, fun _ => rfl⟩
                    have hcw : ∀ t, t < n → wr.cell? ⟨b, off + t, none⟩ = some (.int .u32 (G t)) := fun t ht => by rw [hG]; exact hsj.cell ht
                    have hfw : ∀ t, t < n → wr.frozen? ⟨b, off + t, none⟩ = false := fun t _ => hsj.frozen _
                    have HG := Lib.hid hG
                    have HJ := Lib.hid hsj
                    clear hG hsj
                    have HDn := Lib.hid hDn
                    clear hDn
                    by_cases hj1 : 1 ≤ j
                    · go_wp2
                      go_quiet (first | (go_at_call 136; refine Calls.quiet_of_same (less_any _ _ _)))
                      go_wp2
                      · have hl : ltInt (G j) (G (j - 1)) = false := by
                          have h : (!ltInt (G j) (G (j - 1))) = true := by assumption
                          simpa using h
                        have HD := Lib.hid (show Sort.fixDown ltInt lo k (Sort.swp dk k (k - 1)) = dj by unfold Sort.fixDown; rw [if_pos hka, ← HDn.out, shiftDown_stop ltInt j dj (Or.inr (by rw [← HG.out, ← HG.out]; exact hl))])
                        go_roundw
                        case rel =>
                          refine ⟨k, s + 1, dj, rfl, by go_num, by omega, by omega, by omega, HJ.out.drewN nq, ?_⟩
                          rw [← HO.out, pi_go ltInt lo hi s i k dk hs HKs.out (by omega) (by omega), HD.out, show Sort.fixUp ltInt hi k dj = dj from by unfold Sort.fixUp; rw [if_neg (by omega)]]
                        case measure => simp [intOf]; omega
                      · have hl : ltInt (G j) (G (j - 1)) = true := by
                          have h : (!ltInt (G j) (G (j - 1))) = false := by assumption
                          simpa using h
                        go_region
                        all_goals go_wp2
                        go_roundw
                        case rel =>
                          refine ⟨j - 1, Sort.swp dj j (j - 1), by congr 1; omega, by omega, ?_, ?_⟩
                          · rw [HG.out, HG.out]
                            exact (HJ.out.drewN _).swap (by omega) (by omega)
                          · rw [← HDn.out, shiftDown_go ltInt j dj (by omega) (by rw [← HG.out, ← HG.out]; exact hl)]
                        case measure => simp [intOf]; omega
                    · go_wp2
                      have HD := Lib.hid (show Sort.fixDown ltInt lo k (Sort.swp dk k (k - 1)) = dj by unfold Sort.fixDown; rw [if_pos hka, ← HDn.out, shiftDown_stop ltInt j dj (Or.inl (by omega))])
                      go_roundw
                      case rel =>
                        refine ⟨k, s + 1, dj, rfl, by go_num, by omega, by omega, by omega, HJ.out, ?_⟩
                        rw [← HO.out, pi_go ltInt lo hi s i k dk hs HKs.out (by omega) (by omega), HD.out, show Sort.fixUp ltInt hi k dj = dj from by unfold Sort.fixUp; rw [if_neg (by omega)]]
                      case measure => simp [intOf]; omega
              · have hkaz : ¬ (2 : Int) ≤ (k : Int) - lo := by omega
                by_cases hbk : hi - k ≥ 2
                · have hbkz : (2 : Int) ≤ (hi : Int) - k := by omega
                  go_region
                  have hsw := (HJ.out.drewN (nq + 1)).swap (i := k) (j := k - 1) (by omega) (by omega)
                  rw [← HG.out, ← HG.out] at hsw
                  have HSW := Lib.hid hsw
                  clear hsw hcw hfw
                  go_wp2
                  have HD := Lib.hid (show Sort.fixDown ltInt lo k (Sort.swp dk k (k - 1)) = (Sort.swp dk k (k - 1)) by unfold Sort.fixDown; rw [if_neg (by omega)])
                  go_loopw [10] (fun vj wq => ∃ (j : Nat) (du : Array Int), vj = .int .i64 j ∧ k + 1 ≤ j ∧ j ≤ hi ∧ SR w b off pre tail n du wq ∧ Sort.shiftUp ltInt hi j du = Sort.shiftUp ltInt hi (k + 1) (Sort.swp dk k (k - 1))) (fun vj _ => hi - (intOf vj).toNat)
                  case atStart => exact ⟨k + 1, (Sort.swp dk k (k - 1)), by go_num, Nat.le_refl _, by omega, HSW.out, rfl⟩
                  case round =>
                    obtain ⟨j, du, rfl, hkj, hjb, hsu, hU⟩ := hrel
                    obtain ⟨G, hG⟩ : ∃ G : Nat → Int, ∀ t, G t = du[t]! := ⟨fun t => du[t]!, fun _ => rfl⟩
                    have hcw : ∀ t, t < n → wr.cell? ⟨b, off + t, none⟩ = some (.int .u32 (G t)) := fun t ht => by rw [hG]; exact hsu.cell ht
                    have hfw : ∀ t, t < n → wr.frozen? ⟨b, off + t, none⟩ = false := fun t _ => hsu.frozen _
                    have HG := Lib.hid hG
                    have HJ := Lib.hid hsu
                    clear hG hsu
                    have HU := Lib.hid hU
                    clear hU
                    by_cases hjh : j < hi
                    · go_wp2
                      go_quiet (first | (go_at_call 136; refine Calls.quiet_of_same (less_any _ _ _)))
                      go_wp2
                      · have hl : ltInt (G j) (G (j - 1)) = false := by
                          have h : (!ltInt (G j) (G (j - 1))) = true := by assumption
                          simpa using h
                        go_roundw
                        case rel =>
                          refine ⟨k, s + 1, du, rfl, by go_num, by omega, by omega, by omega, HJ.out.drewN nq, ?_⟩
                          rw [← HO.out, pi_go ltInt lo hi s i k dk hs HKs.out (by omega) (by omega), HD.out, show Sort.fixUp ltInt hi k (Sort.swp dk k (k - 1)) = du from by unfold Sort.fixUp; rw [if_pos (by omega), ← HU.out, shiftUp_stop ltInt hi j du (Or.inr (by rw [← HG.out, ← HG.out]; exact hl))]]
                        case measure => simp [intOf]; omega
                      · have hl : ltInt (G j) (G (j - 1)) = true := by
                          have h : (!ltInt (G j) (G (j - 1))) = false := by assumption
                          simpa using h
                        go_region
                        all_goals go_wp2
                        go_roundw
                        case rel =>
                          refine ⟨j + 1, Sort.swp du j (j - 1), by go_num, by omega, by omega, ?_, ?_⟩
                          · rw [HG.out, HG.out]
                            exact (HJ.out.drewN _).swap (by omega) (by omega)
                          · rw [← HU.out, shiftUp_go ltInt hi j du (by omega) (by rw [← HG.out, ← HG.out]; exact hl)]
                        case measure => simp [intOf]; omega
                    · go_wp2
                      go_roundw
                      case rel =>
                        refine ⟨k, s + 1, du, rfl, by go_num, by omega, by omega, by omega, HJ.out, ?_⟩
                        rw [← HO.out, pi_go ltInt lo hi s i k dk hs HKs.out (by omega) (by omega), HD.out, show Sort.fixUp ltInt hi k (Sort.swp dk k (k - 1)) = du from by unfold Sort.fixUp; rw [if_pos (by omega), ← HU.out, shiftUp_stop ltInt hi j du (Or.inl (by omega))]]
                      case measure => simp [intOf]; omega
                · exfalso; omega
        · obtain rfl : k = hi := by omega
          go_quiet (first | (go_at_call 136; refine Calls.quiet_of_same (less_any _ _ _)))
          go_wp2
          have hv : Sort.partialInsertionSort ltInt d lo k = (dk, true) := by
            unfold Sort.partialInsertionSort
            rw [← HO.out, pi_true ltInt lo k s i dk hs (by rw [← HS.out, scanSorted_stop ltInt dk k k (Or.inl (by omega))])]
          rw [hv]
          go_ret
          exact ⟨rfl, HJ.out.drewN nq⟩
    · obtain rfl : s = 5 := by omega
      have hv : Sort.partialInsertionSort ltInt d lo hi = (dk, false) := by
        unfold Sort.partialInsertionSort
        rw [← HO.out, pi_end]
      go_wp2
      rw [hv]
      go_ret
      exact ⟨rfl, HK.out⟩
end Go.Proofs.YthhmcjojnbaiiaaGreatDoor
