/- Texts of the proof: S10 S11. -/
import Derived.Test.YthhmcjojnbaiiaaGreatDoorM38
import Derived.Sort.Walk13
import Derived.Sort.AssemblyPlain
set_option linter.all false
/- slices.Sort of uint32: pdqsortOrdered. (Printed by wip/gen_pq.py.) -/
namespace Go.Proofs.YthhmcjojnbaiiaaGreatDoor
open Go Go.RowKit
open Go.Sort (swp ltInt size_swp pdq rd hintCode rd_facts rd_dec rd_not rd_pi_yes rd_pi_no rd_lim_le pdq_small pdq_heap pdq_done pdq_eq pdq_left pdq_right round_part round_eq)
theorem swoInt : Sort.SWO ltInt := Sort.swo_ltInt
set_option maxHeartbeats 6400000 in
set_option maxRecDepth 1000000 in
theorem pdq_any (w : World) (b off n cap : Nat) (pre tail : List Value) (hn : n ≤ 1073741824) : ∀ (N lo hi limit : Nat) (d : Array Int) (wa : World), hi - lo < N → SR w b off pre tail n d wa → lo ≤ hi → hi ≤ n → limit ≤ 1073741824 → Sort.Below ltInt lo hi d →
    Calls Tryz.prog 95 #[.slice (some ⟨b, off, none⟩) n cap, .int .i64 lo, .int .i64 hi, .int .i64 limit] wa fun e w' => e = .returned (.tuple #[]) ∧ SR w b off pre tail n (pdq ltInt d lo hi limit true true) w' := by
  intro N
  induction N with
  | zero => intro _ _ _ _ _ h; exact absurd h (Nat.not_lt_zero _)
  | succ N ih =>
    intro lo hi limit d wa hN hS0 hab hb hlimit hBel0
    have HS0 := Lib.hid hS0
    clear hS0
    go_enter Tryz.func95, Tryz.ntmps95
    go_wp2
    go_loopg [1, 2, 3, 8, 9] (hi - lo) (fun k s1 s2 s3 s8 s9 wq => ∃ (a' b' lim : Nat) (wb wp : Bool) (dk : Array Int), s1 = .int .i64 a' ∧ s2 = .int .i64 b' ∧ s3 = .int .i64 lim ∧ s8 = .bool wb ∧ s9 = .bool wp ∧
      a' ≤ b' ∧ b' ≤ n ∧ b' - a' ≤ k ∧ k ≤ hi - lo ∧ lim ≤ limit ∧ Sort.Below ltInt a' b' dk ∧ SR w b off pre tail n dk wq ∧ pdq ltInt dk a' b' lim wb wp = pdq ltInt d lo hi limit true true)
    case atStart => exact ⟨lo, hi, limit, true, true, d, rfl, rfl, rfl, rfl, rfl, hab, hb, Nat.le_refl _, Nat.le_refl _, Nat.le_refl _, hBel0, HS0.out, rfl⟩
    case round =>
      obtain ⟨a', b', lim, wb, wp, dk, rfl, rfl, rfl, rfl, rfl, hab', hb', hk, hkN, hlim, hBel, hAt, heq⟩ := hrel
      have hds := hAt.size
      have A := Lib.hid heq
      have HA := Lib.hid hAt
      clear heq hAt
      by_cases h12 : b' - a' ≤ 12
      · have h12z : (b' : Int) - (a' : Int) ≤ 12 := by omega
        have hc := insSort_any w b off n cap a' b' pre tail dk wr HA.out hab' (by omega) hn
        go_wp2_with (go_at_call 130; refine hc.mono ?_; rintro e w1 ⟨rfl, hw1⟩)
        (try simp only [Exit.inBlock, Exit.then]); refine bodyPost_ret (results_none rfl _ _ _) rfl ?_
        refine ⟨rfl, ?_⟩
        rw [← A.out, pdq_small h12]
        exact hw1
      · have h12z : ¬ ((b' : Int) - (a' : Int) ≤ 12) := by omega
        by_cases hl0 : lim = 0
        · subst hl0
          have hc := heapSort_any w b off n cap a' b' pre tail dk wr HA.out hab' (by omega) hn
          go_wp2_with (go_at_call 131; refine hc.mono ?_; rintro e w1 ⟨rfl, hw1⟩)
          (try simp only [Exit.inBlock, Exit.then]); refine bodyPost_ret (results_none rfl _ _ _) rfl ?_
          refine ⟨rfl, ?_⟩
          rw [← A.out, pdq_heap h12 rfl]
          exact hw1
        · have hl0z : ¬ ((lim : Int) = 0) := by omega
          obtain ⟨s1, B1, hc1, s2, B2, hpv, s3, B3⟩ := rd_facts (limit := lim) (wb := wb) (wp := wp) swoInt Sort.partialInsertionSort_holds Sort.reverseRange_holds (show a' < b' by omega) (show b' ≤ dk.size by omega) hBel
          go_upto_if 35 with fail
          go_cut [3] from 19 (fun s3 wc => s3 = .int .i64 (rd ltInt dk a' b' lim wb wp).lim ∧ SR w b off pre tail n (rd ltInt dk a' b' lim wb wp).d1 wc)
          case first =>
            cases wb
            · have hc := brk_any w b off n cap a' b' pre tail dk wr HA.out hab' (by omega) hn
              go_wp2_with (go_at_call 132; refine hc.mono ?_; rintro e w1 ⟨rfl, hw1⟩)
              go_meet
              case rel =>
                refine ⟨?_, hw1⟩
                show Value.int .i64 ((lim : Int) - 1) = Value.int .i64 ((lim - 1 : Nat) : Int)
                congr 1
                omega
            · go_wp2_with fail
              go_meet
              case rel => exact ⟨rfl, HA.out⟩
          case rest =>
            obtain ⟨rfl, hAt1⟩ := hcut
            have hc17 : Calls Tryz.prog 133 #[.slice (some ⟨b, off, none⟩) n cap, .int .i64 a', .int .i64 b'] wc fun e w' => e = .returned (.tuple #[.int .i64 (rd ltInt dk a' b' lim wb wp).c.1, .int .i64 (hintCode (rd ltInt dk a' b' lim wb wp).c.2)]) ∧ SR w b off pre tail n (rd ltInt dk a' b' lim wb wp).d1 w' :=
              pivot_any w b off n cap a' b' pre tail _ wc hAt1 (by omega) (by omega) hn
            go_upto_if 50 with (go_at_call 133; refine hc17.mono ?_; rintro e w2 ⟨rfl, hAt2⟩)
            go_cut [11, 12] from 19 (fun s11 s12 wc => s11 = .int .i64 (rd ltInt dk a' b' lim wb wp).pivot ∧ s12 = .int .i64 (hintCode (rd ltInt dk a' b' lim wb wp).hint) ∧ SR w b off pre tail n (rd ltInt dk a' b' lim wb wp).d2 wc)
            case first =>
              by_cases hh : (rd ltInt dk a' b' lim wb wp).c.2 = .decreasing
              · have hcode : hintCode (rd ltInt dk a' b' lim wb wp).c.2 = 2 := by rw [hh]; rfl
                obtain ⟨e2, epv, eht⟩ := rd_dec hh
                have hc18 := revRange_any w b off n cap a' b' pre tail _ w2 hAt2 hab' (by omega) hn
                go_wp2_with (go_at_call 134; refine hc18.mono ?_; rintro e w3 ⟨rfl, hw3⟩)
                go_meet
                case rel =>
                  refine ⟨?_, by rw [eht]; rfl, by rw [e2]; exact hw3⟩
                  rw [epv]
                  congr 1
                  omega
              · have hcode : ¬ (hintCode (rd ltInt dk a' b' lim wb wp).c.2 = 2) := fun h => hh (hintCode_two h)
                obtain ⟨e2, epv, eht⟩ := rd_not hh
                go_wp2_with fail
                go_meet
                case rel => exact ⟨by rw [epv], by rw [eht], by rw [e2]; exact hAt2⟩
            case rest =>
              obtain ⟨rfl, rfl, hAt3⟩ := hcut
              go_upto_region 15 with fail
              go_cut [12, 68] from 19 (fun s12 s68 wx => s12 = .int .i64 (hintCode (rd ltInt dk a' b' lim wb wp).hint) ∧ s68 = .bool (wb && wp && decide ((rd ltInt dk a' b' lim wb wp).hint = .increasing)) ∧ wx = wc)
              case first =>
                cases wb <;> cases wp <;> cases hh3 : (rd ltInt dk a' b' lim _ _).hint <;>
                  (have hcode3 := congrArg hintCode hh3
                   simp only [hintCode] at hcode3
                   go_wp2_with fail
                   go_meet
                   exact ⟨by simp [hh3, hintCode], by simp [hh3, hintCode], rfl⟩)
              case rest =>
                obtain ⟨rfl, rfl, rfl⟩ := hcut
                go_upto_if 68 with fail
                go_cut [] from 19 (fun wx => (rd ltInt dk a' b' lim wb wp).pi.2 = false ∧ SR w b off pre tail n (rd ltInt dk a' b' lim wb wp).pi.1 wx)
                case first =>
                  cases h68 : (wb && wp && decide ((rd ltInt dk a' b' lim wb wp).hint = .increasing))
                  · have epi := rd_pi_no h68
                    go_wp2_with fail
                    go_meet
                    case rel => exact ⟨by rw [epi], by rw [epi]; exact hAt3⟩
                  · have epi := rd_pi_yes h68
                    have hc19 := pins_any w b off n cap a' b' pre tail (rd ltInt dk a' b' lim wb wp).d2 wc hAt3 (by omega) (by omega) hn
                    rw [← epi] at hc19
                    go_wp2_with (go_at_call 135; refine hc19.mono ?_; rintro e w4 ⟨rfl, hw4⟩)
                    all_goals first
                      | (have hp2 : (rd ltInt dk a' b' lim wb wp).pi.2 = false := by rw [epi]; assumption
                         go_meet
                         exact ⟨hp2, hw4⟩)
                      | (have hp2 : (rd ltInt dk a' b' lim wb wp).pi.2 = true := by rw [epi]; assumption
                         (try simp only [Exit.inBlock, Exit.then]); refine bodyPost_ret (results_none rfl _ _ _) rfl ?_
                         refine ⟨rfl, ?_⟩
                         rw [← A.out, pdq_done h12 hl0 hp2]
                         exact hw4)
                case rest =>
                  obtain ⟨hp2, hAt5⟩ := hcut
                  have hcw : ∀ t, t < n → wc.cell? ⟨b, off + t, none⟩ = some (.int .u32 (rd ltInt dk a' b' lim wb wp).pi.1[t]!) := fun t ht => hAt5.cell ht
                  go_upto_region 17 with fail
                  go_cut [87] from 19 (fun s87 wx => s87 = .bool (decide (a' > 0) && !ltInt (rd ltInt dk a' b' lim wb wp).pi.1[a' - 1]! (rd ltInt dk a' b' lim wb wp).pi.1[(rd ltInt dk a' b' lim wb wp).pivot]!) ∧ SR w b off pre tail n (rd ltInt dk a' b' lim wb wp).pi.1 wx)
                  case first =>
                    rcases Nat.eq_zero_or_pos a' with ha0 | ha0
                    · have ha0z : decide ((a' : Int) > 0) = false := decide_eq_false (by omega)
                      go_big_quiet (first | (go_at_call 136; refine Calls.quiet_of_same (less_any _ _ _)))
                      go_wp2_with fail
                      go_meet
                      case rel => exact ⟨by simp [ha0], hAt5.drewN nq⟩
                    · have ha0z : (a' : Int) > 0 := by omega
                      go_big_quiet (first | (go_at_call 136; refine Calls.quiet_of_same (less_any _ _ _)))
                      go_wp2_with fail
                      go_meet
                      case rel => exact ⟨by simp [ha0], hAt5.drewN nq⟩
                  case rest =>
                    obtain ⟨rfl, hAt6⟩ := hcut
                    clear hcw
                    have hsz := hAt6.size
                    cases h87 : (decide (a' > 0) && !ltInt (rd ltInt dk a' b' lim wb wp).pi.1[a' - 1]! (rd ltInt dk a' b' lim wb wp).pi.1[(rd ltInt dk a' b' lim wb wp).pivot]!)
                    · obtain ⟨mid, ap, d4, hx⟩ : ∃ mid ap d4, Sort.partition ltInt (rd ltInt dk a' b' lim wb wp).pi.1 a' b' (rd ltInt dk a' b' lim wb wp).pivot = (mid, ap, d4) := ⟨(Sort.partition ltInt (rd ltInt dk a' b' lim wb wp).pi.1 a' b' (rd ltInt dk a' b' lim wb wp).pivot).1, (Sort.partition ltInt (rd ltInt dk a' b' lim wb wp).pi.1 a' b' (rd ltInt dk a' b' lim wb wp).pivot).2.1, (Sort.partition ltInt (rd ltInt dk a' b' lim wb wp).pi.1 a' b' (rd ltInt dk a' b' lim wb wp).pivot).2.2, rfl⟩
                      obtain ⟨r1, r2, r3, r4, r5, r6, r7⟩ := round_part swoInt (Sort.partition_holds ltInt) hpv.1 hpv.2 (show b' ≤ (rd ltInt dk a' b' lim wb wp).pi.1.size by omega) B3 hx
                      have hc22 := part_any w b off n cap a' b' (rd ltInt dk a' b' lim wb wp).pivot pre tail (rd ltInt dk a' b' lim wb wp).pi.1 wc hAt6 hpv.1 hpv.2 (by omega) hn
                      rw [hx] at hc22
                      have X := Lib.hid hx
                      clear hx
                      go_upto_if 113 with (go_at_call 138; refine hc22.mono ?_; rintro e w7 ⟨rfl, hAt7⟩)
                      have hx := X.out
                      have hll : (rd ltInt dk a' b' lim wb wp).lim ≤ 1073741824 := Nat.le_trans (Nat.le_trans rd_lim_le hlim) hlimit
                      have hd4 := hAt7.size
                      by_cases h4 : mid - a' < b' - mid
                      · have h4z : (mid : Int) - (a' : Int) < (b' : Int) - (mid : Int) := by omega
                        have hih := ih a' mid (rd ltInt dk a' b' lim wb wp).lim d4 w7 (by omega) hAt7 (by omega) (by omega) hll r4
                        obtain ⟨pL, sL⟩ := Sort.pdq_sorts ltInt swoInt d4 a' mid (rd ltInt dk a' b' lim wb wp).lim true true (by omega) (by omega) r4
                        go_wp2_with (go_at_call 95; refine hih.mono ?_; rintro e w8 ⟨rfl, hw8⟩)
                        go_roundg (b' - (mid + 1))
                        case measure => omega
                        case rel =>
                          refine ⟨mid + 1, b', (rd ltInt dk a' b' lim wb wp).lim, decide (mid - a' ≥ (b' - a') / 8), ap, pdq ltInt d4 a' mid (rd ltInt dk a' b' lim wb wp).lim true true, by simp, rfl, rfl, ?_, rfl, by omega, by omega, Nat.le_refl _, by omega, Nat.le_trans rd_lim_le hlim, (r6 _ pL sL).1, hw8, ?_⟩
                          · exact congrArg Value.bool (eighth (by omega) (by omega))
                          · rw [← A.out, pdq_left h12 hl0 hp2 h87 (by rw [hx]; exact ⟨r1, r2⟩) (by rw [hx]; exact h4), hx]
                      · have h4z : ¬ ((mid : Int) - (a' : Int) < (b' : Int) - (mid : Int)) := by omega
                        have hih := ih (mid + 1) b' (rd ltInt dk a' b' lim wb wp).lim d4 w7 (by omega) hAt7 (by omega) (by omega) hll r5
                        obtain ⟨pL, sL⟩ := Sort.pdq_sorts ltInt swoInt d4 (mid + 1) b' (rd ltInt dk a' b' lim wb wp).lim true true (by omega) (by omega) r5
                        go_wp2_with (go_at_call 95; refine hih.mono ?_; rintro e w8 ⟨rfl, hw8⟩)
                        go_roundg (mid - a')
                        case measure => omega
                        case rel =>
                          refine ⟨a', mid, (rd ltInt dk a' b' lim wb wp).lim, decide (b' - mid ≥ (b' - a') / 8), ap, pdq ltInt d4 (mid + 1) b' (rd ltInt dk a' b' lim wb wp).lim true true, rfl, rfl, rfl, ?_, rfl, by omega, by omega, Nat.le_refl _, by omega, Nat.le_trans rd_lim_le hlim, (r7 _ pL sL).1, hw8, ?_⟩
                          · exact congrArg Value.bool (eighth (by omega) (by omega))
                          · rw [← A.out, pdq_right h12 hl0 hp2 h87 (by rw [hx]; exact ⟨r1, r2⟩) (by rw [hx]; exact h4), hx]
                    · have h87' := h87
                      simp only [Bool.and_eq_true, decide_eq_true_eq, Bool.not_eq_true'] at h87'
                      obtain ⟨mid, d4, hx⟩ : ∃ mid d4, Sort.partitionEqual ltInt (rd ltInt dk a' b' lim wb wp).pi.1 a' b' (rd ltInt dk a' b' lim wb wp).pivot = (mid, d4) := ⟨(Sort.partitionEqual ltInt (rd ltInt dk a' b' lim wb wp).pi.1 a' b' (rd ltInt dk a' b' lim wb wp).pivot).1, (Sort.partitionEqual ltInt (rd ltInt dk a' b' lim wb wp).pi.1 a' b' (rd ltInt dk a' b' lim wb wp).pivot).2, rfl⟩
                      obtain ⟨r1, r2, r3, r4, _⟩ := round_eq swoInt (Sort.partitionEqual_holds ltInt) h87'.1 hpv.1 hpv.2 (show b' ≤ (rd ltInt dk a' b' lim wb wp).pi.1.size by omega) B3 h87'.2 hx
                      have hc21 := partEq_any w b off n cap a' b' (rd ltInt dk a' b' lim wb wp).pivot pre tail (rd ltInt dk a' b' lim wb wp).pi.1 wc hAt6 hpv.1 hpv.2 (by omega) hn
                      rw [hx] at hc21
                      have X := Lib.hid hx
                      clear hx
                      go_wp2_with (go_at_call 137; refine hc21.mono ?_; rintro e w7 ⟨rfl, hw7⟩)
                      go_roundg (b' - mid)
                      case measure => omega
                      case rel =>
                        have hx := X.out
                        exact ⟨mid, b', (rd ltInt dk a' b' lim wb wp).lim, wb, wp, d4, rfl, rfl, rfl, rfl, rfl, r2, hb', Nat.le_refl _, by omega, Nat.le_trans rd_lim_le hlim, r4, hw7, by rw [← A.out, pdq_eq h12 hl0 hp2 h87 (by rw [hx]; exact ⟨r1, r2⟩), hx]⟩
end Go.Proofs.YthhmcjojnbaiiaaGreatDoor

/- slices.Sort and slices.Compact of uint32, for rows of any length that can be. -/
namespace Go.Proofs.YthhmcjojnbaiiaaGreatDoor
open Go Go.RowKit
open Go.Sort (ltInt pdq bitsLen PermIn SortedIn)

/-- The row that a slice owns, as SR has it. -/
theorem sr_of_own {w : World} {B g cap : Nat} {xs : List Int} (h : w.ownsRow B 22 1 (.slice (some ⟨g, 0, none⟩) xs.length cap) xs.length (xs.map (Value.int .u32))) :
    ∃ tail, SR w g 0 [] tail xs.length xs.toArray w ∧ B ≤ g ∧ xs.length ≤ cap ∧ cap ≤ maxLen ∧ xs.length + tail.length = cap := by
  obtain ⟨h0, h1⟩ := h
  rcases h1 with ⟨h1, _⟩ | ⟨g', cap', cur, hv, hb, hg, hn, hm, hsz, hcur⟩
  · simp at h1
  · simp only [Value.slice.injEq, Option.some.injEq, Addr.mk.injEq, and_true, true_and] at hv
    obtain ⟨rfl, rfl⟩ := hv
    rw [Nat.mul_one] at hcur hsz
    refine ⟨cur.toList.drop xs.length, ⟨by simp, rfl, lt_of_block hg, World.grownBy.refl w (some g), ?_⟩, hb, hn, hm, ?_⟩
    · rw [hg]
      congr 2
      apply Array.ext'
      simp only [List.nil_append]
      rw [← hcur, List.take_append_drop]
    · simp; omega
theorem own_of_sr {w w' : World} {B g cap n : Nat} {tail : List Value} {d : Array Int} (h : SR w g 0 [] tail n d w') (hb : B ≤ g) (hn : n ≤ cap) (hm : cap ≤ maxLen) (ht : n + tail.length = cap) :
    w'.ownsRow B 22 1 (.slice (some ⟨g, 0, none⟩) n cap) n (d.toList.map (Value.int .u32)) := by
  have hs := h.size
  refine ⟨by simp [hs], Or.inr ⟨g, cap, _, rfl, hb, h.row, hn, hm, ?_, ?_⟩⟩
  · simp; omega
  · simp [hs]
theorem pairwise_sorted {d : Array Int} (h : SortedIn ltInt 0 d.size d) : d.toList.Pairwise (· ≤ ·) := by
  rw [List.pairwise_iff_getElem]
  intro i j hi hj hij
  have hi' : i < d.size := by simpa using hi
  have hj' : j < d.size := by simpa using hj
  have := h i j (Nat.zero_le _) hij hj'
  rw [getElem!_pos d i hi', getElem!_pos d j hj'] at this
  simp only [ltInt, decide_eq_false_iff_not] at this
  simp only [Array.getElem_toList]
  omega
set_option maxRecDepth 100000 in
theorem sort_any : SortOk 1073741824 := by
  intro w B g cap xs ho hl _
  obtain ⟨tail, hsr, hb, hn, hm, ht⟩ := sr_of_own ho
  have hsrt := Sort.pdq_sorts ltInt swoInt xs.toArray 0 xs.length (bitsLen xs.length) true true (Nat.zero_le _) (by simp) (Or.inl rfl)
  have hLen : ∀ w, Calls Tryz.prog 96 #[.int .u64 (xs.length : Int)] w fun e w' => e = .returned (.int .i64 (bitsLen xs.length : Nat)) ∧ w' = w := fun w => by
    have h := Tryz.bits_Len (xs.length : Int) w (by omega) (by omega)
    rwa [Int.toNat_natCast, bitLen_eq _ (by omega)] at h
  have hk : bitsLen xs.length ≤ 62 := (Sort.bitsLen_le_iff xs.length 62).2 (by omega)
  have wr : IntKind.u64.wrap (xs.length : Int) = xs.length := by simp [IntKind.wrap, IntKind.bits, IntKind.signed]; omega
  have HS := Lib.hid (And.intro hsr (And.intro hb (And.intro hn (And.intro hm (And.intro ht hsrt)))))
  clear ho hsr hb hn hm ht hsrt
  go_enter Tryz.func63, Tryz.ntmps63
  go_wp2_with (first | (go_at_call 96; refine (hLen _).mono ?_; rintro e w' ⟨rfl, hww⟩; rw [hww]; clear hww))
  refine (pdq_any w g 0 xs.length cap [] tail hl (xs.length + 1) 0 xs.length (bitsLen xs.length) xs.toArray _ (by omega) HS.out.1 (Nat.zero_le _) (Nat.le_refl _) (by omega) (Or.inl rfl)).mono ?_
  rintro e w' ⟨rfl, hw⟩
  have HW := Lib.hid hw
  clear hw
  go_wp2
  go_end0
  have hw := HW.out
  obtain ⟨hsr, hb, hn, hm, ht, hp, hso⟩ := HS.out
  generalize pdq ltInt xs.toArray 0 xs.length (bitsLen xs.length) true true = D at hp hso hw
  have hps := hw.size
  refine ⟨rfl, D.toList, ?_, ?_, own_of_sr hw hb hn hm ht, hw.grown⟩
  · have h3 := hp.2.2
    have h1 : D.extract 0 xs.length = D := by rw [← hps]; simp
    have h2 : (xs.toArray.extract 0 xs.length) = xs.toArray := by simp
    rw [h1, h2] at h3
    exact h3
  · exact pairwise_sorted (by rw [hps]; exact hso)
set_option maxRecDepth 100000 in
theorem compact_any : CompactOk 1073741824 := by
  intro w B g cap xs ho hl hp
  obtain ⟨tail, hsr, hb, hn, hm, ht⟩ := sr_of_own ho
  obtain ⟨G, hG⟩ : ∃ G : Nat → Int, ∀ t, G t = xs.toArray[t]! := ⟨fun t => xs.toArray[t]!, fun _ => rfl⟩
  have hcell : ∀ t, t < xs.length → w.cell? ⟨g, 0 + t, none⟩ = some (.int .u32 (G t)) := fun t ht => by rw [hG]; exact hsr.cell ht
  have hne : ∀ t, t + 1 < xs.length → ¬ G (t + 1) = G t := by
    intro t ht h
    rw [hG, hG, getElem!_pos xs.toArray (t + 1) (by simpa using ht), getElem!_pos xs.toArray t (by simp; omega)] at h
    have := List.pairwise_iff_getElem.1 hp t (t + 1) (by omega) (by omega) (by omega)
    simp at h
    omega
  have HC := Lib.hid (And.intro hcell hne)
  clear ho hsr hb hn hm ht hcell hne hG
  go_enter Tryz.func64, Tryz.ntmps64
  by_cases h2 : xs.length < 2
  · have h2z : (xs.length : Int) < 2 := by omega
    go_wp2
    go_ret
    exact ⟨rfl, 0, rfl⟩
  · have h2z : ¬ (xs.length : Int) < 2 := by omega
    go_wp2
    go_loopw [3] (fun vi wq => ∃ (k : Nat), vi = .int .i64 k ∧ 1 ≤ k ∧ k ≤ xs.length ∧ ∃ q, wq = w.drewN q) (fun vi _ => xs.length - (intOf vi).toNat)
    case atStart => exact ⟨1, rfl, Nat.le_refl _, by omega, 0, rfl⟩
    case round =>
      obtain ⟨k, rfl, hk1, hk, q, hw⟩ := hrel
      have HW := Lib.hid hw
      have hc1 : k < xs.length → wr.cell? ⟨g, k, none⟩ = some (.int .u32 (G k)) := fun h => by rw [hw]; have := HC.out.1 k h; rw [Nat.zero_add] at this; exact this
      have hc0 : k < xs.length → wr.cell? ⟨g, k - 1, none⟩ = some (.int .u32 (G (k - 1))) := fun h => by rw [hw]; have := HC.out.1 (k - 1) (by omega); rw [Nat.zero_add] at this; exact this
      clear hw
      by_cases hlt : k < xs.length
      · have c1 := hc1 hlt
        have c0 := hc0 hlt
        have hk0 : (k : Int) < xs.length := by omega
        have hkm : (k : Int) - 1 < xs.length := by omega
        have hkn : (0 : Int) ≤ (k : Int) - 1 := by omega
        have ekm : ((k : Int) - 1).toNat = k - 1 := by omega
        have hd : (G k == G (k - 1)) = false := by
          have := HC.out.2 (k - 1) (by omega)
          rw [Nat.sub_add_cancel hk1] at this
          simpa using this
        clear hc1 hc0
        go_wp2
        go_quiet (fail)
        go_wp2
        go_roundw
        case rel => exact ⟨k + 1, by go_num, by omega, by omega, q + nq, by rw [HW.out, World.drewN_drewN]⟩
        case measure => simp [intOf]; omega
      · clear hc1 hc0
        go_wp2
        go_ret
        exact ⟨rfl, q, HW.out⟩
end Go.Proofs.YthhmcjojnbaiiaaGreatDoor
