/- Texts of the proof: Tm. -/
import Derived.Test.YtpaohkkhejpgjaaGreatDoorM19
import Derived.Test.YtpaohkkhejpgjaaGreatDoorM20
set_option linter.all false
set_option maxRecDepth 100000
set_option maxHeartbeats 8000000
namespace Go.Proofs.YtpaohkkhejpgjaaGreatDoor
open Go Go.RowKit
theorem jh0 (w : World) (n : Int) (d : ByteArray) (r t : Int) :
 Calls Tryz.prog 111 #[.agg #[.int .u32 n, .string d, .int .i64 r], .int .u32 t] w fun e w' => e = .returned (.int .i64 (cmpI n t)) ∧ Below w.heap.size w w' := by
 go_enter Tryz.func111, Tryz.ntmps111
 go_wp2_with (go_at_call 112; refine (jji _ _ _).mono ?_; rintro e _ ⟨rfl, rfl⟩)
 go_ret
 exact ⟨rfl, (Below.refl _ _).alloc (Nat.le_refl _) _⟩
theorem bsCelM_any (w : World) (v : Value) (xs : List Cel) (t : Int) (hv : Sl celE w v xs) (hso : jdk (xs.map (·.num))) (hlen : xs.length ≤ 4398046511104) :
 Calls Tryz.prog 110 #[v, .int .u32 t, .func (.func 111) #[] #[]] w fun e w' => e = .returned (.tuple #[.int .i64 (ja5 (xs.map (·.num)) t), .bool (jba (xs.map (·.num)) t)]) ∧ Below w.heap.size w w' := by
 obtain ⟨A, c, rfl, hc, hc2, hrow⟩ := hv
 have HR := Lib.hid hrow
 have HS := Lib.hid hso
 clear hrow hso
 go_enter Tryz.func110, Tryz.ntmps110
 go_wp2
 go_loopw [9, 10, 11] (fun vi vj _ wr => ∃ i j : Nat, i ≤ j ∧ j ≤ xs.length ∧ vi = .int .i64 i ∧ vj = .int .i64 j ∧ (∀ k (h : k < xs.length), k < i → xs[k].num < t) ∧ (∀ k (h : k < xs.length), j ≤ k → t ≤ xs[k].num) ∧ Below w.heap.size w wr) (fun vi vj _ _ => (intOf vj).toNat - (intOf vi).toNat)
 case atStart => exact ⟨0, xs.length, Nat.zero_le _, Nat.le_refl _, rfl, rfl, fun k _ h => by omega, fun k h h' => by omega, Below.refl _ _⟩
 case round =>
  obtain ⟨i, j, hij, hj, rfl, rfl, hlo, hhi, hB⟩ := hrel
  by_cases hlt : i < j
  · have hm : (i + j) / 2 < xs.length := by omega
    obtain ⟨b, o, rfl, hat, hwf⟩ := HR.out ((i + j) / 2) hm
    have hb : b < w.heap.size := hat.lt (by simp [celE])
    have hat2 := hat.below hB (Nat.le_refl _)
    have d0 := hat2.cell 0 _ rfl
    have d1 := hat2.cell 1 _ rfl
    have d2 := hat2.cell 2 _ rfl
    have hbr : b < wr.heap.size := Nat.lt_of_lt_of_le hb hB.size
    have HL := Lib.hid (And.intro hlo (And.intro hhi hB))
    clear hlo hhi hB hat hat2 hwf
    simp only [celE, Nat.add_zero] at d0 d1 d2
    by_cases hbl : xs[(i + j) / 2].num < t
    · have hn := jia xs[(i + j) / 2].num t
      rw [decide_eq_true hbl] at hn
      have HBL := Lib.hid (show ∀ k (h : k < xs.length), k < (i + j) / 2 + 1 → xs[k].num < t from fun k hk hki => by have := jea HS.out t k ((i + j) / 2) (by simpa using hk) (by simpa using hm) (by omega) (by simpa using hbl); simpa using this)
      clear hbl
      generalize xs[(i + j) / 2].num = kk at *
      generalize xs[(i + j) / 2].data = kv at *
      generalize xs[(i + j) / 2].refs = kr at *
      go_wp2_with (go_at_call 111; refine (jh0 _ _ _ _ _).mono ?_; rintro e w1 ⟨rfl, hb1⟩)
      refine ⟨⟨(i + j) / 2 + 1, j, by omega, hj, by go_num, rfl, HBL.out, HL.out.2.1, Below.step HL.out.2.2 hb1⟩, ?_⟩
      simp [intOf]; omega
    · have hn := jia xs[(i + j) / 2].num t
      rw [decide_eq_false hbl] at hn
      have HBL := Lib.hid (show ∀ k (h : k < xs.length), (i + j) / 2 ≤ k → t ≤ xs[k].num from fun k hk hki => Int.not_lt.1 fun hh => hbl (by have := jea HS.out t ((i + j) / 2) k (by simpa using hm) (by simpa using hk) hki (by simpa using hh); simpa using this))
      clear hbl
      generalize xs[(i + j) / 2].num = kk at *
      generalize xs[(i + j) / 2].data = kv at *
      generalize xs[(i + j) / 2].refs = kr at *
      go_wp2_with (go_at_call 111; refine (jh0 _ _ _ _ _).mono ?_; rintro e w1 ⟨rfl, hb1⟩)
      refine ⟨⟨i, (i + j) / 2, by omega, by omega, rfl, by go_num, HL.out.1, HBL.out, Below.step HL.out.2.2 hb1⟩, ?_⟩
      simp [intOf]; omega
  · obtain rfl : i = j := by omega
    have hpos : ja5 (xs.map (·.num)) t = i := by
     refine jd0 _ (xs.map (·.num)) i (by simpa using hj) (fun k h hk => ?_) (fun h => ?_)
     · have := hlo k (by simpa using h) hk; simpa using this
     · have := hhi i (by simpa using h) (Nat.le_refl _); simpa using this
    by_cases hi : i < xs.length
    · obtain ⟨b, o, rfl, hat, hwf⟩ := HR.out i hi
      have hb : b < w.heap.size := hat.lt (by simp [celE])
      have hat2 := hat.below hB (Nat.le_refl _)
      have d0 := hat2.cell 0 _ rfl
      have d1 := hat2.cell 1 _ rfl
      have d2 := hat2.cell 2 _ rfl
      have hbr : b < wr.heap.size := Nat.lt_of_lt_of_le hb hB.size
      have hhas : jba (xs.map (·.num)) t = (cmpI xs[i].num t == 0) := by unfold jba hasAt; rw [hpos, List.getElem?_map, List.getElem?_eq_getElem hi, jla]; rfl
      have HL := Lib.hid (And.intro hpos (And.intro hhas hB))
      clear hlo hhi hB hat hat2 hwf hpos hhas
      simp only [celE, Nat.add_zero] at d0 d1 d2
      generalize xs[i].num = kk at *
      generalize xs[i].data = kv at *
      generalize xs[i].refs = kr at *
      go_wp2_with (go_at_call 111; refine (jh0 _ _ _ _ _).mono ?_; rintro e w1 ⟨rfl, hb1⟩)
      go_ret2
      obtain ⟨e1, e2, e3⟩ := HL.out
      exact ⟨by rw [e1, e2]; rfl, Below.step e3 hb1⟩
    · have hhas : jba (xs.map (·.num)) t = false := by unfold jba hasAt; rw [hpos, List.getElem?_eq_none (by rw [List.length_map]; omega)]
      have HL := Lib.hid (And.intro hpos (And.intro hhas hB))
      clear hlo hhi hB hpos hhas
      go_wp2
      go_ret2
      obtain ⟨e1, e2, e3⟩ := HL.out
      exact ⟨by rw [e1, e2]; rfl, e3⟩
theorem jhe (w : World) (v : Value) (xs : List Cel) (t : Int) (hv : Sl celE w v xs) (hso : jdk (xs.map (·.num))) (hlen : xs.length ≤ 4398046511104) :
 Calls Tryz.prog 48 #[v, .int .u32 t] w fun e w' => e = .returned (.tuple #[.int .i64 (ja5 (xs.map (·.num)) t), .bool (jba (xs.map (·.num)) t)]) ∧ Below w.heap.size w w' := by
 have HV := Lib.hid hv
 obtain ⟨A, n, c, rfl⟩ := jax hv
 clear hv
 go_enter Tryz.func48, Tryz.ntmps48
 go_wp2_with (fail)
 go_at_call 110
 refine (bsCelM_any w _ xs t HV.out hso hlen).mono ?_
 rintro e w1 ⟨rfl, hb1⟩
 have HB := Lib.hid hb1
 clear hb1
 go_wp2_with (fail)
 go_ret2
 exact ⟨rfl, HB.out⟩
end Go.Proofs.YtpaohkkhejpgjaaGreatDoor
