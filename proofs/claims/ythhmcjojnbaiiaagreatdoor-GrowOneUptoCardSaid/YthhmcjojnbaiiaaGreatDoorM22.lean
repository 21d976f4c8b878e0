/- Texts of the proof: Op Fc. -/
import Derived.Test.YthhmcjojnbaiiaaGreatDoorM12
import Derived.Test.YthhmcjojnbaiiaaGreatDoorM20
import Derived.Test.YthhmcjojnbaiiaaGreatDoorM18
import Derived.Test.YthhmcjojnbaiiaaGreatDoorM19
import Derived.Test.YthhmcjojnbaiiaaGreatDoorM13
import Derived.Test.YthhmcjojnbaiiaaGreatDoorM21
import Derived.Deep.DeepCutAuto
import Derived.Deep.CutRange
set_option linter.all false
/- Heap: open. -/
namespace Go.Proofs.YthhmcjojnbaiiaaGreatDoor
open Go Go.RowKit
/-- A heap as a value. -/
def HeapV (w : World) (v : Value) (h : Hp) : Prop := ∃ c, v = .agg #[.int .u32 h.size, c] ∧ Sl celE w c h.cells ∧ u32Ok h.size
theorem HeapV.below {B : Nat} {w w' : World} {v : Value} {h : Hp} (hv : HeapV w v h) (hb : Below B w w') (hB : w.heap.size ≤ B) : HeapV w' v h := by
  obtain ⟨c, e, h1, h2⟩ := hv
  exact ⟨c, e, h1.below hb hB, h2⟩
def okNext (h : Hp) (k : Nat) (c : Cel) : Bool := okCel h.size c && (decide (k = 0) || (match h.cells[k - 1]? with | some d => decide (d.num < c.num) | none => true))
theorem risingB_snoc : ∀ (l : List Int) (x : Int), risingB (l ++ [x]) = (risingB l && (match l.getLast? with | some y => decide (y < x) | none => true))
  | [], x => by simp [risingB]
  | [a], x => by simp [risingB]
  | a :: b :: r, x => by
    have ih := risingB_snoc (b :: r) x
    simp only [List.cons_append, risingB] at ih ⊢
    rw [ih, Bool.and_assoc]
    simp
theorem okH_next (h : Hp) (k : Nat) (hk : k < h.cells.length) : okH ⟨h.size, h.cells.take (k + 1)⟩ = (okH ⟨h.size, h.cells.take k⟩ && okNext h k h.cells[k]) := by
  unfold okH okNext
  simp only
  rw [List.take_succ_eq_append_getElem hk, List.all_append, List.map_append, List.map_cons, List.map_nil, risingB_snoc]
  have : (match ((h.cells.take k).map (·.num)).getLast? with | some y => decide (y < h.cells[k].num) | none => true) = (decide (k = 0) || (match h.cells[k - 1]? with | some d => decide (d.num < h.cells[k].num) | none => true)) := by
    by_cases h0 : k = 0
    · subst h0; simp
    · rw [List.getLast?_map, List.getLast?_take, if_neg h0, List.getElem?_eq_getElem (by omega)]
      simp [h0]
  rw [this]
  simp only [List.all_cons, List.all_nil, Bool.and_true]
  cases decide (16 ≤ h.size) <;> cases decide (h.size ≤ 65536) <;> cases (h.cells.take k).all (okCel h.size) <;> cases okCel h.size h.cells[k] <;> cases risingB ((h.cells.take k).map (·.num)) <;> simp
theorem cel_len (k : Cel) (h : celE.wf k) : (Tryz.prog.info? 94).map (·.size) = some (celE.enc k).length := by
  rw [celE.len k h]; kernel_rfl
theorem decN_small (s : ByteArray) : (decN s).items.length ≤ 255 ∧ (decN s).kids.length ≤ 255 ∧ (decN s).vols.length ≤ 255 := by
  unfold decN
  split
  · exact takeT_small _
  · simp [noNode]
theorem zero32_ok : hashOk zero32 := ⟨by decide, fun x hx => by have := List.eq_of_mem_replicate hx; omega⟩
theorem cc0_wf {c : Cel} (h : celE.wf c) (hk : 0 ≤ (decN c.data).kind ∧ (decN c.data).kind ≤ 255) : ccWf (cc0 c) := ⟨zero32_ok, h, decN_small _, hk⟩
set_option maxRecDepth 100000 in
set_option maxHeartbeats 4000000 in
theorem open_any (w : World) (v : Value) (h : Hp) (hv : HeapV w v h) (hmax : h.cells.length ≤ 1073741824) :
    Calls Tryz.prog 41 #[v] w fun e w' => Below w.heap.size w w' ∧
      ((openB h = true ∧ ∃ p pcs, e = .returned (.tuple #[.pointer (some ⟨p, 0, none⟩), .int .i64 0]) ∧ St w.heap.size w' p h.size pcs ∧ pcs.map (·.2) = opened h) ∨
       (openB h = false ∧ e = .returned (.tuple #[.pointer none, .int .i64 7]))) := by
  obtain ⟨cv, rfl, hsl, hsz⟩ := hv
  have HSL := Lib.hid (And.intro hsl hsz)
  obtain ⟨C, cc, rfl, hc1, hc2, hrow⟩ := hsl
  have HR := Lib.hid hrow
  obtain ⟨hs0, hs1⟩ := hsz
  clear hrow
  have hB0 := ((Below.refl w.heap.size w).alloc (Nat.le_refl _) (.cells #[.int .u32 h.size, .slice C h.cells.length cc] 25)).alloc (by simp) (.cells #[.int .u32 h.size, .slice none 0 0, .int .i64 0] 114)
  have HB0 := Lib.hid hB0
  clear hB0
  have hd1 := Lib.hid (show okH ⟨h.size, h.cells.take 0⟩ = (decide (16 ≤ h.size) && decide (h.size ≤ 65536)) by simp [okH, risingB])
  obtain ⟨W0, hW0⟩ : ∃ W0, W0 = (w.alloc (.cells #[.int .u32 h.size, .slice C h.cells.length cc] 25)).alloc (.cells #[.int .u32 h.size, .slice none 0 0, .int .i64 0] 114) := ⟨_, rfl⟩
  have hbx0 : W0.heap[w.heap.size]? = some (.cells #[.int .u32 h.size, .slice C h.cells.length cc] 25 (0, 0)) := by
    rw [hW0, Lib.alloc_old _ _ _ (by simp)]; exact heap_alloc_new _ _
  have hst0 : W0.heap[w.heap.size + 1]? = some (.cells #[.int .u32 h.size, .slice none 0 0, .int .i64 0] 114 (0, 0)) := by
    rw [hW0]; have := heap_alloc_new (w.alloc (.cells #[.int .u32 h.size, .slice C h.cells.length cc] 25)) (.cells #[.int .u32 h.size, .slice none 0 0, .int .i64 0] 114); simpa using this
  rw [← hW0] at HB0
  have HST0 := Lib.hid (show St w.heap.size W0 (w.heap.size + 1) h.size [] from ⟨by omega, ⟨.slice none 0 0, 0, hst0, ⟨rfl, Or.inl ⟨rfl, rfl⟩⟩⟩, fun x hx => by simp at hx, List.nodup_nil, fun x hx => by simp at hx, fun v' g cs t fr hc ho _ => by rw [cell_of_row _ _ _ _ _ _ hst0] at hc; simp at hc; subst hc; cases ho⟩)
  have HBX0 := Lib.hid (And.intro hbx0 hst0)
  have HW0 := Lib.hid hW0
  have b0 : W0.cell? ⟨w.heap.size, 0, none⟩ = some (.int .u32 h.size) := by rw [cell_of_row _ _ _ _ _ _ hbx0]; rfl
  have b1 : W0.cell? ⟨w.heap.size, 1, none⟩ = some (.slice C h.cells.length cc) := by rw [cell_of_row _ _ _ _ _ _ hbx0]; rfl
  clear hbx0 hst0 hW0
  go_enter Tryz.func41, Tryz.ntmps41
  go_upto_region 2 with (fail)
  go_cut [5] (fun c wx => c = .bool (okH ⟨h.size, h.cells.take 0⟩) ∧ wx = W0)
  case first =>
    -- BEGIN 0
    rw [← HW0.out]
    by_cases h16 : 16 ≤ h.size
    · have h16b : decide (h.size ≥ 16) = true := decide_eq_true h16
      have HD := Lib.hid (show okH ⟨h.size, h.cells.take 0⟩ = decide (h.size ≤ 65536) by rw [hd1.out, decide_eq_true h16]; rfl)
      go_wp2_with (fail)
      go_meet
      exact ⟨by rw [HD.out], rfl⟩
    · have h16b : decide (h.size ≥ 16) = false := decide_eq_false h16
      have HD := Lib.hid (show okH ⟨h.size, h.cells.take 0⟩ = false by rw [hd1.out, decide_eq_false h16]; rfl)
      go_wp2_with (fail)
      go_meet
      exact ⟨by rw [HD.out], rfl⟩
    -- END 0
  case rest =>
    obtain ⟨rfl, rfl⟩ := hcut
    clear HW0
    have HPL := Lib.hid (show w.heap.size < w.heap.size + 1 by omega)
    generalize w.heap.size + 1 = p at *
    go_wp2_with (fail)
    go_loopw [5, 6, 7, 8, 9, 33, 34, 35, 36, 37, 38, 39, 40, 41, 42, 43, 44, 45, 46, 47, 48, 49, 50, 51, 52, 53, 54, 55, 56, 57, 58, 59, 60, 61, 62, 63, 64, 65, 66, 67, 68, 69, 70, 71, 72, 73, 74, 75, 76, 77, 78, 79, 80, 81, 82, 83, 84, 85, 86, 87, 88, 89, 90] (fun ok _ _ _ _ i _ _ _ _ _ _ _ _ _ _ _ _ _ _ _ _ _ _ _ _ _ _ _ _ _ _ _ _ _ _ _ _ _ _ _ _ _ _ _ _ _ _ _ _ _ _ _ _ _ _ _ _ _ _ _ _ _ wr => ∃ (k : Nat) (pcs : List (Nat × CC)), k ≤ h.cells.length ∧ i = .int .i64 k ∧ ok = .bool (okH ⟨h.size, h.cells.take k⟩) ∧ St w.heap.size wr p h.size pcs ∧ pcs.map (·.2) = (h.cells.take k).map cc0 ∧ Below w.heap.size w wr ∧ wr.heap[w.heap.size]? = some (.cells #[.int .u32 h.size, .slice C h.cells.length cc] 25 (0, 0))) (fun _ _ _ _ _ i _ _ _ _ _ _ _ _ _ _ _ _ _ _ _ _ _ _ _ _ _ _ _ _ _ _ _ _ _ _ _ _ _ _ _ _ _ _ _ _ _ _ _ _ _ _ _ _ _ _ _ _ _ _ _ _ _ _ => h.cells.length - (intOf i).toNat)
    case atStart => exact ⟨0, [], Nat.zero_le _, rfl, rfl, HST0.out, by simp, HB0.out, HBX0.out.1⟩
    case round =>
      obtain ⟨k, pcs, hk, rfl, rfl, hst, hpc, hB, hbx⟩ := hrel
      by_cases hlt : k < h.cells.length
      · -- BEGIN 2
        have hpl : pcs.length = k := by have := congrArg List.length hpc; simpa [Nat.min_eq_left hk] using this
        obtain ⟨b, o, rfl, hat, hwf⟩ := HR.out k hlt
        have hb : b < w.heap.size := hat.lt (by simp [celE])
        have hatr := hat.below hB (Nat.le_refl _)
        have hbr : b < wr.heap.size := Nat.lt_of_lt_of_le hb hB.size
        have hokn := okH_next h k hlt
        have hpn : pcs.map (·.2) ++ [cc0 h.cells[k]] = (h.cells.take (k + 1)).map cc0 := by rw [hpc, List.take_succ_eq_append_getElem hlt, List.map_append]; rfl
        have hprev : ∀ j (hj : j < h.cells.length), wr.cell? ⟨b, o + j * 3, none⟩ = some (.int .u32 h.cells[j].num) := by
          intro j hj
          obtain ⟨b', o', e, hat', _⟩ := HR.out j hj
          injection e with e; injection e with e1 e2 _
          subst e1 e2
          have := (hat'.below hB (Nat.le_refl _)).cell 0 (.int .u32 h.cells[j].num) rfl
          simpa [celE] using this
        have HP := Lib.hid hprev
        have hbw := hB.size
        have hbl := lt_of_block hbx
        have HG := Lib.hid (And.intro hst (And.intro hpn (And.intro hB hbx)))
        have HOK := Lib.hid (And.intro hokn hpl)
        clear hst hpc hB hbx hat hprev hokn hpn hpl
        have e0 := (hatr.cell 0 (.int .u32 h.cells[k].num) rfl)
        have e1 := (hatr.cell 1 (.string h.cells[k].data) rfl)
        have e2 := (hatr.cell 2 (.int .i64 h.cells[k].refs) rfl)
        simp only [celE, Nat.add_zero] at e0 e1 e2
        have HWF := Lib.hid hwf
        clear hatr hwf
        obtain ⟨c, hc⟩ : ∃ c, h.cells[k] = c := ⟨_, rfl⟩
        have HC := Lib.hid hc
        rw [hc] at HG HOK HWF e0 e1 e2
        clear hc
        obtain ⟨num, data, refs⟩ := c
        generalize hokb : okH ⟨h.size, h.cells.take k⟩ = okb at *
        have HKB := Lib.hid hokb
        clear hokb
        go_wp2_with (fail)
        go_at_call 65
        refine (decode_any _ data HWF.out.2.1).mono ?_
        rintro e w2 ⟨v, rfl, hnv, hnwf, hb2⟩
        have HNW := Lib.hid hnwf
        clear hnwf
        obtain ⟨vi, vk, vv, rfl, hvi, hvk, hvv, hkd0, hkd1⟩ := hnv
        have HV := Lib.hid (And.intro hvi (And.intro hvk hvv))
        obtain ⟨A1, n1, c1, rfl⟩ := sl_slice hvi
        obtain ⟨A2, n2, c2, rfl⟩ := sl_slice hvk
        obtain ⟨A3, n3, c3, rfl⟩ := sl_slice hvv
        clear hvi hvk hvv
        obtain ⟨kd, hkd⟩ : ∃ kd, (decN data).kind = kd := ⟨_, rfl⟩
        have HKD := Lib.hid hkd
        rw [hkd] at hkd0 hkd1 ⊢
        clear hkd
        obtain ⟨w3, hw3⟩ : ∃ w3, w3 = w2.alloc (.cells #[.int .u8 kd, .slice A1 n1 c1, .slice A2 n2 c2, .slice A3 n3 c3] 44) := ⟨_, rfl⟩
        have hb23 : Below wr.heap.size wr w2 := ((Below.refl wr.heap.size wr).alloc (Nat.le_refl _) _).trans (hb2.mono (by simp))
        have hb33 : Below wr.heap.size wr w3 := by rw [hw3]; exact hb23.alloc hb23.size _
        have hcb2 : w2.heap[wr.heap.size]? = some (.cells #[.int .u32 num, .string data, .int .i64 refs] 94 (0, 0)) := (hb2.block _ (by simp)).trans (heap_alloc_new _ _)
        have hcb3 : w3.heap[wr.heap.size]? = some (.cells #[.int .u32 num, .string data, .int .i64 refs] 94 (0, 0)) := by rw [hw3, Lib.alloc_old _ _ _ (lt_of_block hcb2)]; exact hcb2
        have hnb3 : w3.heap[w2.heap.size]? = some (.cells #[.int .u8 kd, .slice A1 n1 c1, .slice A2 n2 c2, .slice A3 n3 c3] 44 (0, 0)) := by rw [hw3]; exact heap_alloc_new _ _
        have hb3B : Below w.heap.size w w3 := HG.out.2.2.1.trans (hb33.mono hbw)
        have hbx3 : w3.heap[w.heap.size]? = some (.cells #[.int .u32 h.size, .slice (some ⟨b, o, none⟩) h.cells.length cc] 25 (0, 0)) := (hb33.block _ hbl).trans HG.out.2.2.2
        have hst3 : St w.heap.size w3 p h.size pcs := HG.out.1.below hb33
        have hw23 : w2.heap.size < w3.heap.size := lt_of_block hnb3
        have q0 : w3.cell? ⟨w.heap.size, 0, none⟩ = some (.int .u32 h.size) := by rw [cell_of_row _ _ _ _ _ _ hbx3]; rfl
        have q1 : w3.cell? ⟨w.heap.size, 1, none⟩ = some (.slice (some ⟨b, o, none⟩) h.cells.length cc) := by rw [cell_of_row _ _ _ _ _ _ hbx3]; rfl
        have q2 : w3.cell? ⟨wr.heap.size, 0, none⟩ = some (.int .u32 num) := by rw [cell_of_row _ _ _ _ _ _ hcb3]; rfl
        have HVV := Lib.hid (And.intro (HV.out.1.below ((Below.refl _ w2).alloc (Nat.le_refl _) (.cells #[.int .u8 kd, .slice A1 n1 c1, .slice A2 n2 c2, .slice A3 n3 c3] 44)) (Nat.le_refl _)) (And.intro (HV.out.2.1.below ((Below.refl _ w2).alloc (Nat.le_refl _) (.cells #[.int .u8 kd, .slice A1 n1 c1, .slice A2 n2 c2, .slice A3 n3 c3] 44)) (Nat.le_refl _)) (HV.out.2.2.below ((Below.refl _ w2).alloc (Nat.le_refl _) (.cells #[.int .u8 kd, .slice A1 n1 c1, .slice A2 n2 c2, .slice A3 n3 c3] 44)) (Nat.le_refl _))))
        rw [← hw3] at HVV
        have H3 := Lib.hid (And.intro hb3B (And.intro hst3 (And.intro hbx3 (And.intro hcb3 (And.intro hnb3 hb33)))))
        have hsz23 := hb23.size
        clear hb2 hb23 hb33 hcb2 hcb3 hnb3 hb3B hbx3 hst3
        go_upto_region 7 with (fail)
        rw [← hw3]
        go_cut [5] (fun c wx => c = .bool (okH ⟨h.size, h.cells.take (k + 1)⟩) ∧ ∃ nq, wx = w3.drewN nq)
        case first =>
          -- BEGIN 1
          clear hw3
          cases okb with
          | false =>
            have HD := Lib.hid (show okH ⟨h.size, h.cells.take (k + 1)⟩ = false by rw [HOK.out.1]; rfl)
            go_quiet (fail)
            go_wp2_with (fail)
            go_meet
            exact ⟨by rw [HD.out], _, rfl⟩
          | true =>
            have HOK1 := Lib.hid (show okH ⟨h.size, h.cells.take (k + 1)⟩ = okNext h k ⟨num, data, refs⟩ by rw [HOK.out.1]; simp)
            cases hdb : decB data with
            | false =>
              have hdeb : (decE data == 0) = false := by unfold decE; rw [hdb]; rfl
              have HD := Lib.hid (show okH ⟨h.size, h.cells.take (k + 1)⟩ = false by rw [HOK1.out]; simp [okNext, okCel, hdb])
              clear hdb
              go_quiet (fail)
              go_wp2_with (fail)
              go_meet
              exact ⟨by rw [HD.out], _, rfl⟩
            | true =>
              have hdeb : (decE data == 0) = true := by unfold decE; rw [hdb]; rfl
              have HDB := Lib.hid hdb
              clear hdb
              by_cases h2 : 2 ≤ num
              · have h2b : decide (num ≥ 2) = true := decide_eq_true h2
                by_cases hsz' : num < h.size
                · have hszb : decide (num < h.size) = true := decide_eq_true hsz'
                  by_cases hk0 : k = 0
                  · have HD := Lib.hid (show okH ⟨h.size, h.cells.take (k + 1)⟩ = true by rw [HOK1.out]; simp [okNext, okCel, HDB.out, h2, hsz', hk0])
                    have hkb : ((k : Int) == 0) = true := by simp [hk0]
                    go_quiet (fail)
                    go_wp2_with (fail)
                    go_meet
                    exact ⟨by rw [HD.out], _, rfl⟩
                  · have hkb : ((k : Int) == 0) = false := by simp [hk0]
                    have hkm : k - 1 < h.cells.length := by omega
                    have q3 : w3.cell? ⟨b, o + (k - 1) * 3, none⟩ = some (.int .u32 h.cells[k - 1].num) := (H3.out.2.2.2.2.2.cell (p := ⟨b, o + (k - 1) * 3, none⟩) hbr).trans (HP.out (k - 1) hkm)
                    have HD0 := Lib.hid (show okH ⟨h.size, h.cells.take (k + 1)⟩ = decide (h.cells[k - 1].num < num) by rw [HOK1.out]; simp [okNext, okCel, HDB.out, h2, hsz', hk0, hkm])
                    generalize h.cells[k - 1].num = pn at *
                    by_cases hpn : pn < num
                    · have hpb : decide (pn < num) = true := decide_eq_true hpn
                      have HD := Lib.hid (show okH ⟨h.size, h.cells.take (k + 1)⟩ = true by rw [HD0.out, hpb])
                      go_quiet (fail)
                      go_wp2_with (fail)
                      go_meet
                      exact ⟨by rw [HD.out], _, rfl⟩
                    · have hpb : decide (pn < num) = false := decide_eq_false hpn
                      have HD := Lib.hid (show okH ⟨h.size, h.cells.take (k + 1)⟩ = false by rw [HD0.out, hpb])
                      go_quiet (fail)
                      go_wp2_with (fail)
                      go_meet
                      exact ⟨by rw [HD.out], _, rfl⟩
                · have hszb : decide (num < h.size) = false := decide_eq_false hsz'
                  have HD := Lib.hid (show okH ⟨h.size, h.cells.take (k + 1)⟩ = false by rw [HOK1.out]; simp [okNext, okCel, hsz'])
                  go_quiet (fail)
                  go_wp2_with (fail)
                  go_meet
                  exact ⟨by rw [HD.out], _, rfl⟩
              · have h2b : decide (num ≥ 2) = false := decide_eq_false h2
                have HD := Lib.hid (show okH ⟨h.size, h.cells.take (k + 1)⟩ = false by rw [HOK1.out]; simp [okNext, okCel, h2])
                go_quiet (fail)
                go_wp2_with (fail)
                go_meet
                exact ⟨by rw [HD.out], _, rfl⟩
          -- END 1
        case rest =>
          obtain ⟨rfl, nq, hwc⟩ := hcut
          have hbq : Below w3.heap.size w3 wc := by rw [hwc]; exact Below.drewN' (Below.refl _ w3) nq
          have hws : wc.heap.size = w3.heap.size := by rw [hwc]; rfl
          have hstW : St w.heap.size wc p h.size pcs := H3.out.2.1.below hbq
          have hBW : Below w.heap.size w wc := H3.out.1.trans (hbq.mono (by have := H3.out.1.size; omega))
          have hbxW : wc.heap[w.heap.size]? = some (.cells #[.int .u32 h.size, .slice (some ⟨b, o, none⟩) h.cells.length cc] 25 (0, 0)) := (hbq.block _ (lt_of_block H3.out.2.2.1)).trans H3.out.2.2.1
          have hcbW : wc.heap[wr.heap.size]? = some (.cells #[.int .u32 num, .string data, .int .i64 refs] 94 (0, 0)) := (hbq.block _ (lt_of_block H3.out.2.2.2.1)).trans H3.out.2.2.2.1
          have hnbW : wc.heap[w2.heap.size]? = some (.cells #[.int .u8 kd, .slice A1 n1 c1, .slice A2 n2 c2, .slice A3 n3 c3] 44 (0, 0)) := (hbq.block _ (lt_of_block H3.out.2.2.2.2.1)).trans H3.out.2.2.2.2.1
          have HVW := Lib.hid (And.intro (HVV.out.1.below hbq (Nat.le_refl _)) (And.intro (HVV.out.2.1.below hbq (Nat.le_refl _)) (HVV.out.2.2.below hbq (Nat.le_refl _))))
          obtain ⟨sv, sa, hsp, hsown⟩ := hstW.row
          have s1 : wc.cell? ⟨p, 1, none⟩ = some sv := by rw [cell_of_row _ _ _ _ _ _ hsp]; rfl
          have t0 : wc.cell? ⟨wr.heap.size, 0, none⟩ = some (.int .u32 num) := by rw [cell_of_row _ _ _ _ _ _ hcbW]; rfl
          have t1 : wc.cell? ⟨wr.heap.size, 1, none⟩ = some (.string data) := by rw [cell_of_row _ _ _ _ _ _ hcbW]; rfl
          have t2 : wc.cell? ⟨wr.heap.size, 2, none⟩ = some (.int .i64 refs) := by rw [cell_of_row _ _ _ _ _ _ hcbW]; rfl
          have m0 : wc.cell? ⟨w2.heap.size, 0, none⟩ = some (.int .u8 kd) := by rw [cell_of_row _ _ _ _ _ _ hnbW]; rfl
          have m1 : wc.cell? ⟨w2.heap.size, 1, none⟩ = some (.slice A1 n1 c1) := by rw [cell_of_row _ _ _ _ _ _ hnbW]; rfl
          have m2 : wc.cell? ⟨w2.heap.size, 2, none⟩ = some (.slice A2 n2 c2) := by rw [cell_of_row _ _ _ _ _ _ hnbW]; rfl
          have m3 : wc.cell? ⟨w2.heap.size, 3, none⟩ = some (.slice A3 n3 c3) := by rw [cell_of_row _ _ _ _ _ _ hnbW]; rfl
          have hwl1 : wr.heap.size < wc.heap.size := lt_of_block hcbW
          have hwl2 : w2.heap.size < wc.heap.size := lt_of_block hnbW
          have hwl3 : p < wc.heap.size := lt_of_block hsp
          have hns := hstW.noStr s1
          have HW := Lib.hid (And.intro hstW (And.intro hBW (And.intro hbxW (And.intro hsp (And.intro hsown hns)))))
          have HNE := Lib.hid (show (¬ p = wr.heap.size) ∧ (¬ p = w2.heap.size) from ⟨fun e => by rw [e, hcbW] at hsp; injection hsp with hsp; injection hsp with _ hsp _; exact absurd hsp (by decide), fun e => by rw [e, hnbW] at hsp; injection hsp with hsp; injection hsp with _ hsp _; exact absurd hsp (by decide)⟩)
          have HJ := Lib.hid (show (∀ (wd : World) (o1 o2 : Obj), (∀ q, q < wc.heap.size + 2 → some q ≠ sv.ownBlock → wd.heap[q]? = ((wc.alloc o1).alloc o2).heap[q]?) → ∀ i, wd.cell? ⟨wr.heap.size, i, none⟩ = wc.cell? ⟨wr.heap.size, i, none⟩) ∧ (∀ (wd : World) (o1 o2 : Obj), (∀ q, q < wc.heap.size + 2 → some q ≠ sv.ownBlock → wd.heap[q]? = ((wc.alloc o1).alloc o2).heap[q]?) → ∀ i, wd.cell? ⟨w2.heap.size, i, none⟩ = wc.cell? ⟨w2.heap.size, i, none⟩) from
            ⟨fun wd o1 o2 hh i => World.cell?_of_block (by have h1 := hh wr.heap.size (by omega) (fun e => own_ne hsown hcbW (by decide) e.symm); rw [show (⟨wr.heap.size, i, none⟩ : Addr).block = wr.heap.size from rfl, h1]; exact push_old wc o1 o2 _ hwl1),
             fun wd o1 o2 hh i => World.cell?_of_block (by have h1 := hh w2.heap.size (by omega) (fun e => own_ne hsown hnbW (by decide) e.symm); rw [show (⟨w2.heap.size, i, none⟩ : Addr).block = w2.heap.size from rfl, h1]; exact push_old wc o1 o2 _ hwl2)⟩)
          clear q0 q1 q2 hw3 hwc hbq hws hstW hBW hbxW hcbW hnbW hsp hsown hns
          have hmx : pcs.length + 1 ≤ 1073741825 := by have := HOK.out.2; omega
          have hne1 : ¬ p = wr.heap.size := fun e => HNE.out.1 e
          have hne2 : ¬ p = w2.heap.size := fun e => HNE.out.2 e
          go_wp2_with (fail)
          rw [ldOp_eq 110 (.tmp 80)]
          go_region_held3 (fun x =>  x.cell? ⟨wr.heap.size, 0, none⟩ = some (.int .u32 num) ∧ x.cell? ⟨wr.heap.size, 1, none⟩ = some (.string data) ∧ x.cell? ⟨wr.heap.size, 2, none⟩ = some (.int .i64 refs) ∧ x.cell? ⟨w2.heap.size, 0, none⟩ = some (.int .u8 kd) ∧ x.cell? ⟨w2.heap.size, 1, none⟩ = some (.slice A1 n1 c1) ∧ x.cell? ⟨w2.heap.size, 2, none⟩ = some (.slice A2 n2 c2) ∧ x.cell? ⟨w2.heap.size, 3, none⟩ = some (.slice A3 n3 c3)) (go_keep) (first
            | (go_loud (refine step_push2 (B := w.heap.size) (w := wc) rfl (.tmp 81) (.tmp 86) rfl rfl sv pcs.length (ptrsV pcs) HW.out.2.2.2.2.1 HW.out.2.2.2.2.2 (ptrs_noStr pcs) (p) _ HW.out.2.2.2.1 s1 hmx (by omega) rfl rfl ?_); intro g cap wd hcd hfd hpd ho2 hns2 hbk hfr2 hbl2 hgt2; have hk1 := HJ.out.1 wd _ _ hbk; have hk2 := HJ.out.2 wd _ _ hbk; have HD := Lib.hid (And.intro hpd (And.intro ho2 (And.intro hns2 (And.intro hbk (And.intro hfr2 (And.intro hbl2 hgt2)))))); clear hpd ho2 hns2 hbk hfr2 hbl2 hgt2))
          all_goals (
            have hfin := St.pushed HW.out.1 HD.out.1 HW.out.2.2.2.2.1 HD.out.2.1 HD.out.2.2.1 HD.out.2.2.2.1 HD.out.2.2.2.2.1 HD.out.2.2.2.2.2.1 (by have := HW.out.2.1.size; exact this) (cc0 ⟨num, data, refs⟩) (by unfold cc0 ccRow; simp only; rw [HKD.out]; rfl) HVW.out.1 HVW.out.2.1 HVW.out.2.2 (cc0_wf HWF.out (by rw [show (decN (Cel.mk num data refs).data).kind = kd from HKD.out]; exact ⟨hkd0, hkd1⟩))
            have hbxf := hfin.2.1.keep HW.out.2.2.1 (by unfold BadT; decide)
            have HF := Lib.hid (And.intro hfin.1 (And.intro (HW.out.2.1.trans hfin.2.2) hbxf))
            clear hfin hbxf hk1 hk2 hcd hfd
            go_wp2_with (fail)
            go_roundw
            case rel =>
              exact ⟨k + 1, pcs ++ [(wc.heap.size, cc0 ⟨num, data, refs⟩)], by omega, by go_num, rfl, HF.out.1, by rw [List.map_append]; exact HG.out.2.1, HF.out.2.1, HF.out.2.2⟩
            case measure => simp [intOf]; omega)
        -- END 2
      · obtain rfl : k = h.cells.length := by omega
        rw [List.take_length] at hpc
        have hokE : okH ⟨h.size, h.cells.take h.cells.length⟩ = okH h := by rw [List.take_length]
        rw [hokE]
        have hpl : pcs.length = h.cells.length := by have := congrArg List.length hpc; simpa using this
        have HE := Lib.hid (And.intro hst (And.intro hpc (And.intro hB hpl)))
        clear hst hpc hB hbx hokE hpl
        cases hok : okH h with
        | false =>
          have HF := Lib.hid (show openB h = false by unfold openB; rw [hok]; rfl)
          clear hok
          go_wp2_with (fail)
          go_ret2
          exact ⟨HE.out.2.2.1, Or.inr ⟨HF.out, rfl⟩⟩
        | true =>
          have HOK := Lib.hid hok
          clear hok
          obtain ⟨sv, s1, hsown⟩ := HE.out.1.field
          obtain ⟨A, cp, rfl, hcp1, hcp2, _⟩ := St.sl hsown
          rw [List.length_map] at s1 hcp1
          have hplt := HE.out.1.plt
          clear hsown
          go_wp2_with (fail)
          go_loopw [11, 98, 99, 100, 101, 102, 103, 104, 105, 106, 107, 108, 109, 110, 111] (fun _ i _ _ _ _ _ _ _ _ _ _ _ _ _ wr => ∃ k : Nat, k ≤ pcs.length ∧ i = .int .i64 k ∧ St w.heap.size wr p h.size (hashed k pcs) ∧ Below w.heap.size w wr ∧ wr.cell? ⟨p, 1, none⟩ = some (.slice A pcs.length cp)) (fun _ i _ _ _ _ _ _ _ _ _ _ _ _ _ _ => pcs.length - (intOf i).toNat)
          case atStart => exact ⟨0, Nat.zero_le _, rfl, by rw [hashed_zero]; exact HE.out.1, HE.out.2.2.1, s1⟩
          case round =>
            obtain ⟨k, hk, rfl, hst, hB, hsv⟩ := hrel
            by_cases hlt : k < pcs.length
            · -- BEGIN 3
              have hown := hst.own hsv
              have hrow := (St.sl hown).len_eq.2.2.2
              have hpl := hst.plt
              obtain ⟨b, o, rfl, hat, _⟩ := hrow k (by rw [List.length_map, hashed_len]; exact hlt)
              have d0 : wr.cell? ⟨b, o + k, none⟩ = some (.pointer (some ⟨pcs[k].1, 0, none⟩)) := by
                have := hat.cell 0 _ rfl
                have e : ((hashed k pcs).map (·.1))[k]'(by rw [List.length_map, hashed_len]; exact hlt) = pcs[k].1 := by simp only [hashed_ptr, List.getElem_map]
                rw [e] at this
                simpa [ptrE] using this
              have hbr : b < wr.heap.size := block_lt_of_cell d0
              have hm := hashed_mem hlt
              have e1 : wr.cell? ⟨pcs[k].1, 1, none⟩ = some (.string pcs[k].2.data) := (hst.cells _ hm).1.data
              have hstep := hashed_step HE.out.1.nodup k hlt
              have HG := Lib.hid (And.intro hst (And.intro hB (And.intro hsv (And.intro hm hstep))))
              have hdl := (hst.wf _ hm).cel.2.1
              clear hst hB hsv hat hown hrow hm hstep
              generalize hx : pcs[k] = x at *
              obtain ⟨q, c⟩ := x
              simp only at d0 e1 HG hdl
              go_wp2_with (fail)
              go_at_call 66
              refine (hash_any _ c.data hdl).mono ?_
              rintro e w2 ⟨rfl, hb2⟩
              have hst2 := HG.out.1.below hb2
              obtain ⟨vi, vk, vv, hcur, _⟩ := (hst2.cells _ HG.out.2.2.2.1).1
              have hset := hst2.setHash HG.out.2.2.2.1 (shaOf c.data.data.toList) (shaOf_ok _) hcur
              rw [HG.out.2.2.2.2] at hset
              have hp1 : w2.cell? ⟨p, 1, none⟩ = some (.slice (some ⟨b, o, none⟩) pcs.length cp) := (hb2.cell (p := ⟨p, 1, none⟩) hpl).trans HG.out.2.2.1
              have hnq : q ≠ p := by
                intro e
                obtain ⟨v', a', hpp, _⟩ := hst2.row
                exact cell_ne (hst2.cells _ HG.out.2.2.2.1).1 hpp (by decide) e
              have hl32 := hash_len (shaOf_ok c.data.data.toList)
              have hone := hashV_one (shaOf c.data.data.toList)
              have H2 := Lib.hid (And.intro hset.1 (And.intro ((HG.out.2.1.trans (hb2.mono HG.out.2.1.size)).trans hset.2.2) (show (w2.setRow q ((ccRow c vi vk vv).toArray.toList.take 7 ++ hashV (shaOf c.data.data.toList) ++ (ccRow c vi vk vv).toArray.toList.drop (7 + (hashV (shaOf c.data.data.toList)).length)).toArray).cell? ⟨p, 1, none⟩ = some (.slice (some ⟨b, o, none⟩) pcs.length cp) from (World.cell?_of_block (heap_setRow_other _ _ _ _ (fun e => hnq e.symm))).trans hp1)))
              have hl40 : (ccRow c vi vk vv).toArray.size = 40 := by simpa using (ccRow_get c vi vk vv (hst2.wf _ HG.out.2.2.2.1).hash.1).1
              have HL := Lib.hid (And.intro hl40 (show (hashV (shaOf c.data.data.toList)).length = 32 by simp [hashV, shaOf_length]))
              clear hst2 hset hp1 hb2 hl40
              rw [show u8s (shaOf c.data.data.toList) = (hashV (shaOf c.data.data.toList)).toArray from rfl]
              generalize hashV (shaOf c.data.data.toList) = hs at *
              generalize (ccRow c vi vk vv).toArray = cur at *
              go_wp2_with ((with_reducible refine probe_storeT 56 ?_); go_loud (refine wpList_store_at rfl 56 (.tmp 110) (.tmp 108) rfl q 7 rfl hs rfl 96 cur hcur (by rw [HL.out.1, HL.out.2]; decide) hone hl32 ?_))
              go_roundw
              case rel =>
                have H3 := H2.out
                simp only [List.append_assoc] at H3
                exact ⟨k + 1, by omega, by go_num, H3.1, H3.2.1, H3.2.2⟩
              case measure => simp [intOf]; omega
              -- END 3
            · obtain rfl : k = pcs.length := by omega
              rw [hashed_all] at hst
              have hcc := hashed_cc1 HE.out.2.1
              have hrl : (pcs.map hashCC).length = pcs.length := by simp
              have hn1 : ccNums (h.cells.map cc1) = h.cells.map (·.num) := by unfold ccNums; rw [List.map_map]; rfl
              have hpw : (ccNums (h.cells.map cc1)).Pairwise (· < ·) := by
                rw [hn1]
                have hk := HOK.out
                unfold okH at hk
                simp only [Bool.and_eq_true] at hk
                exact (rising_pair _).1 hk.2.2
              have hsm : ∀ c ∈ h.cells.map cc1, c.node.kids.length ≤ 255 ∧ c.node.vols.length ≤ 255 := by
                intro c hc
                obtain ⟨e, _, rfl⟩ := List.mem_map.1 hc
                exact ⟨(decN_small e.data).2.1, (decN_small e.data).2.2⟩
              have hOB : openB h = (leadsAll (h.cells.map cc1) && refsOk (opened h)) := by unfold openB; rw [HOK.out]; rfl
              have hOD : opened h = bumps (allKids (h.cells.map cc1)) (h.cells.map cc1) := rfl
              rw [← hrl] at hsv
              have hpn := HE.out.2.2.2
              generalize hrc : pcs.map hashCC = rcs at *
              generalize hc1 : h.cells.map cc1 = cs1 at *
              have hcl : cs1.length = rcs.length := by rw [← hcc, List.length_map]
              have hl0 : ∀ c ∈ h.cells.map cc1, c.led = 0 := by
                intro c hc
                obtain ⟨e, _, rfl⟩ := List.mem_map.1 hc
                rfl
              rw [hc1] at hl0
              have HX := Lib.hid (And.intro hst (And.intro hcc (And.intro hB (And.intro hpw (And.intro hsm (And.intro hOB (And.intro hOD (And.intro hcl hl0))))))))
              have hmr : rcs.length ≤ 1073741824 := by omega
              clear hst hcc hB hn1 hpw hsm hOB hOD hcl hl0 hrc hc1 HE HOK hrl hpn s1 hcp1
              obtain ⟨wx, hwx⟩ : ∃ wx, wx = wr := ⟨wr, rfl⟩
              subst hwx
              have hcp1 : rcs.length ≤ cp := by
                obtain ⟨_, e, _⟩ := (St.sl (HX.out.1.own hsv)).len_eq
                simpa using e
              have hpx := HX.out.1.plt
              go_wp2_with (fail)
              go_loopw [13, 15, 117, 118, 119, 120, 121, 122, 123, 124, 125, 126, 127, 128, 129, 130, 131, 132, 133, 134, 135, 136, 137, 138, 139, 140, 141, 142, 143, 144, 145, 146, 147, 148] (fun _ _ i _ _ _ _ _ _ _ _ _ _ _ _ _ _ _ _ _ _ _ _ _ _ _ _ _ _ _ _ _ _ _ wr => ∃ (k : Nat) (qcs : List (Nat × CC)), k ≤ rcs.length ∧ i = .int .i64 k ∧ St w.heap.size wr p h.size qcs ∧ qcs.map (·.1) = rcs.map (·.1) ∧ qcs.map (·.2) = bumps (allKids (cs1.take k)) cs1 ∧ (∀ c ∈ cs1.take k, leadsE cs1 c.node = 0) ∧ Below w.heap.size w wr ∧ wr.cell? ⟨p, 1, none⟩ = some (.slice A rcs.length cp)) (fun _ _ i _ _ _ _ _ _ _ _ _ _ _ _ _ _ _ _ _ _ _ _ _ _ _ _ _ _ _ _ _ _ _ _ => rcs.length - (intOf i).toNat)
              case atStart => exact ⟨0, rcs, Nat.zero_le _, rfl, HX.out.1, rfl, by rw [List.take_zero]; exact HX.out.2.1, by simp, HX.out.2.2.1, hsv⟩
              case round =>
                obtain ⟨k, qcs, hk, rfl, hst, hptr, hcs, hld, hB, hsv'⟩ := hrel
                have hql : qcs.length = rcs.length := by have := congrArg List.length hptr; simpa using this
                by_cases hlt : k < rcs.length
                · -- BEGIN 4
                  have hrow := (St.sl (hst.own hsv')).len_eq.2.2.2
                  have hkq : k < qcs.length := by omega
                  have hpl := hst.plt
                  obtain ⟨b, o, rfl, hat, _⟩ := hrow k (by rw [List.length_map]; exact hkq)
                  have d0 : wr.cell? ⟨b, o + k, none⟩ = some (.pointer (some ⟨qcs[k].1, 0, none⟩)) := by
                    have := hat.cell 0 _ rfl
                    simpa [ptrE] using this
                  have hbr : b < wr.heap.size := block_lt_of_cell d0
                  have hm : qcs[k] ∈ qcs := List.getElem_mem hkq
                  have hck : k < cs1.length := by have := HX.out.2.2.2.2.2.2.2.1; omega
                  have hnode : qcs[k].2.node = cs1[k].node := by
                    have h1 : (qcs.map (·.2))[k]'(by rw [List.length_map]; exact hkq) = (bumps (allKids (cs1.take k)) cs1)[k]'(by rw [bumps_len]; exact hck) := by simp only [hcs]
                    rw [List.getElem_map] at h1
                    rw [h1]; exact (bumps_get _ _ k _ hck).2.1
                  have hris : Rising (nums qcs) := by rw [nums_cc, hcs, bumps_nums]; exact rising_of_pair HX.out.2.2.2.1
                  have hlq : leadsE (qcs.map (·.2)) cs1[k].node = leadsE cs1 cs1[k].node := by rw [hcs, leadsE_bumps]
                  have htk : cs1.take (k + 1) = cs1.take k ++ [cs1[k]] := List.take_succ_eq_append_getElem hck
                  have hcm : cs1[k] ∈ cs1 := List.getElem_mem hck
                  have hsmk := HX.out.2.2.2.2.1 _ hcm
                  have HG := Lib.hid (And.intro hst (And.intro hptr (And.intro hcs (And.intro hld (And.intro hB (And.intro hsv' (And.intro hql (And.intro hm (And.intro hris (And.intro htk (And.intro hcm hsmk)))))))))))
                  have HLQ := Lib.hid hlq
                  have HND := Lib.hid hnode
                  obtain ⟨A1, n1, c1, A2, n2, c2, A3, n3, c3, y3, y4, y5, y6, hnv⟩ := hst.node hm
                  rw [hnode] at y3 hnv
                  have HNV := Lib.hid hnv
                  clear hst hptr hcs hld hB hsv' hql hm hris htk hcm hsmk hlq hnv hrow hat hnode
                  generalize hxq : qcs[k] = x at *
                  generalize hnn : cs1[k] = cn at *
                  generalize hkd : cn.node.kind = kd at *
                  have HKD := Lib.hid (And.intro hxq (And.intro hnn hkd))
                  clear hxq hnn hkd
                  go_wp2_with (fail)
                  go_at_call 67
                  refine (leads_any w.heap.size wr p h.size qcs _ cn.node HG.out.1 HG.out.2.2.2.2.1.size HG.out.2.2.2.2.2.2.2.2.1 (by have := HG.out.2.2.2.2.2.2.1; omega) HNV.out (by have := HG.out.2.2.2.2.2.2.2.2.2.2.2; omega)).mono ?_
                  rintro e w2 ⟨rfl, hst2, hB2, hF2, hcp2'⟩
                  rw [HLQ.out]
                  rw [HG.out.2.2.2.2.2.1] at hcp2'
                  have hld1 := HG.out.2.2.2.1
                  by_cases h0 : leadsE cs1 cn.node = 0
                  · rw [h0]
                    have H0 := Lib.hid h0
                    clear h0
                    obtain ⟨B1, m1, d1, B2, m2, d2, B3, m3, d3, z3, z4, z5, z6, hnv2⟩ := hst2.node HG.out.2.2.2.2.2.2.2.1
                    have hxn : x.2.node = cn.node := HND.out
                    rw [hxn] at z3 hnv2
                    rw [HKD.out.2.2] at z3 hnv2
                    have HN2 := Lib.hid hnv2
                    have H2 := Lib.hid (And.intro hst2 (And.intro (HG.out.2.2.2.2.1.trans hB2) hF2))
                    clear hst2 hB2 hF2 hnv2 hxn hld1
                    go_wp2_with (fail)
                    go_at_call 68
                    refine (nodeKids_any w2 _ cn.node HN2.out (by have := HG.out.2.2.2.2.2.2.2.2.2.2.2; omega)).mono ?_
                    rintro e wk ⟨r, rfl, ⟨hsl, hown⟩, hbk⟩
                    have hstk := H2.out.1.below hbk
                    have hsvk : wk.cell? ⟨p, 1, none⟩ = some (.slice (some ⟨b, o, none⟩) rcs.length cp) := (hbk.cell (p := ⟨p, 1, none⟩) H2.out.1.plt).trans hcp2'
                    have hBk : Below w.heap.size w wk := H2.out.2.1.trans (hbk.mono H2.out.2.1.size)
                    have hld2 : ∀ t ∈ kidNums cn.node, ∃ c, ccFind cs1 t = some c := by
                      intro t ht
                      obtain ⟨kd', hkd', rfl⟩ := kidNums_named cn.node t ht
                      obtain ⟨c, hc, hcn, _⟩ := (leads_zero HX.out.2.2.2.1 cn.node).1 H0.out kd' hkd'
                      exact ⟨c, (find_uniq HX.out.2.2.2.1).2 ⟨hc, hcn⟩⟩
                    have htl := kidNums_len cn.node HG.out.2.2.2.2.2.2.2.2.2.2.2
                    have hkn : kidNums cn.node = kidNums cn.node := rfl
                    have HTS := Lib.hid (And.intro hld2 htl)
                    have hak : allKids (cs1.take (k + 1)) = allKids (cs1.take k) ++ kidNums cn.node := by
                      rw [HG.out.2.2.2.2.2.2.2.2.2.1]
                      unfold allKids
                      rw [List.flatMap_append]; simp
                    have HAK := Lib.hid hak
                    have hakl : (allKids (cs1.take k)).length ≤ 255 * k := by
                      have := allKids_len (cs1.take k) (fun c hc => HX.out.2.2.2.2.1 c ((List.take_sublist _ _).subset hc))
                      rw [List.length_take] at this
                      omega
                    have HAL := Lib.hid hakl
                    have HW32 := Lib.hid hsl.wf
                    obtain ⟨ra, rc, rfl, hrc1, hrc2, _⟩ := hsl
                    have HK := Lib.hid (And.intro hstk (And.intro hBk hown))
                    have hplk := hstk.plt
                    have HSVK := Lib.hid hsvk
                    clear hstk hsvk hld2 htl hkn hak hakl hbk hcp2' hown y3 y4 y5 y6 z3 z4 z5 z6
                    have hsvk : wk.cell? ⟨p, 1, none⟩ = some (.slice (some ⟨b, o, none⟩) rcs.length cp) := HSVK.out
                    generalize hts : kidNums cn.node = ts at *
                    clear hts hBk
                    go_wp2_with (fail)
                    go_loopw [15, 134, 135, 136, 137, 138, 139, 140, 141, 142, 143, 144, 145, 146, 147] (fun _ i _ _ _ _ _ _ _ _ _ _ _ _ _ wr => ∃ (j : Nat) (scs : List (Nat × CC)), j ≤ ts.length ∧ i = .int .i64 j ∧ St w.heap.size wr p h.size scs ∧ scs.map (·.1) = rcs.map (·.1) ∧ scs.map (·.2) = bumps (allKids (cs1.take k) ++ ts.take j) cs1 ∧ Below w.heap.size w wr ∧ Fr wk wr ∧ wr.cell? ⟨p, 1, none⟩ = some (.slice (some ⟨b, o, none⟩) rcs.length cp)) (fun _ i _ _ _ _ _ _ _ _ _ _ _ _ _ _ => ts.length - (intOf i).toNat)
                    case atStart => exact ⟨0, qcs, Nat.zero_le _, rfl, HK.out.1, HG.out.2.1, by rw [List.take_zero, List.append_nil]; exact HG.out.2.2.1, HK.out.2.1, Fr.refl _, hsvk⟩
                    case round =>
                      obtain ⟨j, scs, hj, rfl, hst, hptr, hcs, hB, hF, hsv'⟩ := hrel
                      by_cases hjt : j < ts.length
                      · -- BEGIN 5
                        have hrow := (u32_sl (hF.own HK.out.2.2 (by unfold BadT; decide)) rfl HW32.out).len_eq.2.2.2
                        obtain ⟨b2, o2, rfl, hat2, hw2⟩ := hrow j hjt
                        have e0 : wr.cell? ⟨b2, o2 + j, none⟩ = some (.int .u32 ts[j]) := by have := hat2.cell 0 _ rfl; simpa [u32E] using this
                        have hbr2 : b2 < wr.heap.size := block_lt_of_cell e0
                        have hsl2 : scs.length = rcs.length := by have := congrArg List.length hptr; simpa using this
                        have hris : Rising (nums scs) := by rw [nums_cc, hcs, bumps_nums]; exact rising_of_pair HX.out.2.2.2.1
                        obtain ⟨c0, hc0⟩ := HTS.out.1 ts[j] (List.getElem_mem hjt)
                        have hcf : ccFind (scs.map (·.2)) ts[j] ≠ none := by
                          rw [hcs, bumps_map, ccFind_map (f := fun c => { c with led := c.led + countL (allKids (cs1.take k) ++ ts.take j) c.num }) (fun _ => rfl), hc0]; simp
                        obtain ⟨y, hco⟩ : ∃ y, cellOf scs ts[j] = some y := by
                          cases hq : cellOf scs ts[j] with
                          | none => exact absurd (cellOf_none hris hq) hcf
                          | some y => exact ⟨y, rfl⟩
                        obtain ⟨hym, hyn⟩ := cellOf_mem hco
                        have htj : (scs.map (·.2)).map (ledUp ts[j]) = bumps (allKids (cs1.take k) ++ ts.take (j + 1)) cs1 := by
                          rw [hcs, bumps_one, List.append_assoc, ← List.take_succ_eq_append_getElem hjt]
                        have hledb : 0 ≤ y.2.led ∧ y.2.led ≤ 1000000000000 := by
                          have hyc : y.2 ∈ bumps (allKids (cs1.take k) ++ ts.take j) cs1 := by rw [← hcs]; exact List.mem_map.2 ⟨y, hym, rfl⟩
                          obtain ⟨d, hd, e⟩ := bumps_mem hyc
                          have h1 : y.2.led = d.led + countL (allKids (cs1.take k) ++ ts.take j) d.num := by rw [e]
                          have h2 := HX.out.2.2.2.2.2.2.2.2 d hd
                          have h3 := countL_le (allKids (cs1.take k) ++ ts.take j) d.num
                          rw [List.length_append, List.length_take] at h3
                          have h4 := HAL.out
                          have h5 := HTS.out.2
                          omega
                        have hstep := led_step hst.nodup hris hym hyn
                        rw [htj] at hstep
                        have HG5 := Lib.hid (And.intro hst (And.intro hptr (And.intro hB (And.intro hF (And.intro hsv' (And.intro hris (And.intro hym hstep)))))))
                        have HCO := Lib.hid hco
                        have hmx2 : scs.length ≤ 1073741824 := by omega
                        have hpl5 := hst.plt
                        clear hst hptr hcs hB hF hsv' hris hym hstep hco hyn htj hcf hc0 hat2 hrow hsl2 hw2
                        generalize ts[j] = t at *
                        go_wp2_with (fail)
                        go_at_call 42
                        refine (at_any w.heap.size wr p h.size scs t HG5.out.1 HG5.out.2.2.2.2.2.1 hmx2).mono ?_
                        rintro e _ ⟨rfl, a, rfl⟩
                        have hask := HG5.out.1.asked a
                        have hfa := Fr.asked HG5.out.1 a
                        rw [HCO.out]
                        have hlc := hask.1.led_cell HG5.out.2.2.2.2.2.2.1
                        have hfz := hask.1.froz HG5.out.2.2.2.2.2.2.1 39
                        have hyb := hask.1.blt HG5.out.2.2.2.2.2.2.1
                        have hset := hask.1.setLed HG5.out.2.2.2.2.2.2.1 (y.2.led + 1)
                        have hyp : ¬ y.1 = p := by
                          intro e
                          obtain ⟨v', a', hpp, _⟩ := hask.1.row
                          exact cell_ne (hask.1.cells _ HG5.out.2.2.2.2.2.2.1).1 hpp (by decide) e
                        have hp1 : ((wr.setCell ⟨p, 2, none⟩ (.int .i64 a)).setCell ⟨y.1, 39, none⟩ (.int .i64 (y.2.led + 1))).cell? ⟨p, 1, none⟩ = some (.slice (some ⟨b, o, none⟩) rcs.length cp) := by
                          rw [World.cell?_of_block (w := wr.setCell ⟨p, 2, none⟩ (.int .i64 a)) (Below.heap_setCell _ _ _ _ (fun e => hyp e.symm))]
                          rw [← HG5.out.2.2.2.2.1]
                          obtain ⟨v9, a9, hp9, _⟩ := HG5.out.1.row
                          rw [cell_of_row _ _ _ _ _ _ (blk_set hp9 2 _), cell_of_row _ _ _ _ _ _ hp9]; rfl
                        have HF5 := Lib.hid (And.intro hset.1 (And.intro ((HG5.out.2.2.1.trans hask.2.2).trans hset.2.2) (And.intro ((HG5.out.2.2.2.1.trans hfa).trans hset.2.1) hp1)))
                        clear hask hfa hset hp1 hyp
                        go_wp2_with (fail)
                        exact ⟨⟨j + 1, _, by omega, by go_num, HF5.out.1, HG5.out.2.2.2.2.2.2.2.2.trans HG5.out.2.1, HG5.out.2.2.2.2.2.2.2.1, HF5.out.2.1, HF5.out.2.2.1, HF5.out.2.2.2⟩, by simp [intOf]; omega⟩
                        -- END 5
                      · obtain rfl : j = ts.length := by omega
                        rw [List.take_length, ← HAK.out] at hcs
                        have HF := Lib.hid (And.intro hst (And.intro hptr (And.intro hcs (And.intro hB hsv'))))
                        have hld3 : ∀ c ∈ cs1.take (k + 1), leadsE cs1 c.node = 0 := by
                          intro c hc
                          rw [HG.out.2.2.2.2.2.2.2.2.2.1] at hc
                          rcases List.mem_append.1 hc with hc | hc
                          · exact HG.out.2.2.2.1 c hc
                          · simp at hc; subst hc; exact H0.out
                        have HL3 := Lib.hid hld3
                        clear hst hptr hcs hB hF hsv' hld3 hsvk
                        go_wp2_with (fail)
                        exact ⟨⟨k + 1, scs, by omega, by go_num, HF.out.1, HF.out.2.1, HF.out.2.2.1, HL3.out, HF.out.2.2.2.1, HF.out.2.2.2.2⟩, by simp [intOf]; omega⟩
                  · have HF := Lib.hid (show openB h = false by
                      rw [HX.out.2.2.2.2.2.1]
                      have : leadsAll cs1 = false := by
                        unfold leadsAll
                        rw [List.all_eq_false]
                        exact ⟨cn, HG.out.2.2.2.2.2.2.2.2.2.2.1, by simpa using h0⟩
                      rw [this]; rfl)
                    have h0b : (leadsE cs1 cn.node != 0) = true := by simpa using h0
                    have H2 := Lib.hid (HG.out.2.2.2.2.1.trans hB2)
                    clear h0 hst2 hB2 hF2 hld1
                    go_wp2_with (fail)
                    go_ret2
                    exact ⟨H2.out, Or.inr ⟨HF.out, rfl⟩⟩
                  -- END 4
                · obtain rfl : k = rcs.length := by omega
                  have hcl := HX.out.2.2.2.2.2.2.2.1
                  rw [List.take_of_length_le (by omega)] at hcs hld
                  rw [← HX.out.2.2.2.2.2.2.1] at hcs
                  have hOB : openB h = refsOk (opened h) := by
                    rw [HX.out.2.2.2.2.2.1]
                    have : leadsAll cs1 = true := by
                      unfold leadsAll
                      rw [List.all_eq_true]
                      intro c hc
                      simpa using hld c hc
                    rw [this]; rfl
                  rw [← hql] at hsv'
                  have HZ := Lib.hid (And.intro hst (And.intro hB (And.intro hcs (And.intro hOB hsv'))))
                  have hcp4 : qcs.length ≤ cp := by omega
                  have hmq : qcs.length ≤ 1073741824 := by omega
                  have hplz := hst.plt
                  obtain ⟨wz, hwz⟩ : ∃ wz, wz = wr := ⟨wr, rfl⟩
                  rw [← hwz] at HZ hplz hsv' ⊢
                  clear hst hptr hcs hld hB hwz hOB hql hcl hsv
                  go_wp2_with (fail)
                  go_loopw [17, 154, 155, 156, 157, 158, 159, 160, 161, 162, 163, 164, 165, 166, 167, 168, 169, 170, 171, 172, 173, 174, 175, 176] (fun _ i _ _ _ _ _ _ _ _ _ _ _ _ _ _ _ _ _ _ _ _ _ _ wr => ∃ k : Nat, k ≤ qcs.length ∧ i = .int .i64 k ∧ (∀ c ∈ (qcs.map (·.2)).take k, c.led ≤ c.refs ∧ c.refs ≤ 16777216) ∧ ∃ nq, wr = wz.drewN nq) (fun _ i _ _ _ _ _ _ _ _ _ _ _ _ _ _ _ _ _ _ _ _ _ _ _ => qcs.length - (intOf i).toNat)
                  case atStart => exact ⟨0, Nat.zero_le _, rfl, by simp, 0, rfl⟩
                  case round =>
                    obtain ⟨k, hk, rfl, hok, nq, rfl⟩ := hrel
                    by_cases hkt : k < qcs.length
                    · have hrow := (St.sl (HZ.out.1.own HZ.out.2.2.2.2)).len_eq.2.2.2
                      obtain ⟨b, o, rfl, hat, _⟩ := hrow k (by rw [List.length_map]; exact hkt)
                      have d0 : (wz.drewN nq).cell? ⟨b, o + k, none⟩ = some (.pointer (some ⟨qcs[k].1, 0, none⟩)) := by
                        have := hat.cell 0 _ rfl
                        simpa [ptrE] using this
                      have hbr : b < (wz.drewN nq).heap.size := block_lt_of_cell d0
                      have hm : qcs[k] ∈ qcs := List.getElem_mem hkt
                      have d1 : (wz.drewN nq).cell? ⟨qcs[k].1, 2, none⟩ = some (.int .i64 qcs[k].2.refs) := HZ.out.1.refs_cell hm
                      have d2 : (wz.drewN nq).cell? ⟨qcs[k].1, 39, none⟩ = some (.int .i64 qcs[k].2.led) := HZ.out.1.led_cell hm
                      have d3 : wz.cell? ⟨qcs[k].1, 2, none⟩ = some (.int .i64 qcs[k].2.refs) := HZ.out.1.refs_cell hm
                      have d4 : wz.cell? ⟨qcs[k].1, 39, none⟩ = some (.int .i64 qcs[k].2.led) := HZ.out.1.led_cell hm
                      have hmo : qcs[k].2 ∈ opened h := by rw [← HZ.out.2.2.1]; exact List.mem_map.2 ⟨_, hm, rfl⟩
                      have htk : (qcs.map (·.2)).take (k + 1) = (qcs.map (·.2)).take k ++ [qcs[k].2] := by rw [List.take_succ_eq_append_getElem (by simpa using hkt)]; simp
                      have HG := Lib.hid (And.intro hok (And.intro hmo htk))
                      clear hok hat hrow hm hmo htk
                      generalize qcs[k] = x at *
                      obtain ⟨q, c⟩ := x
                      simp only at d0 d1 d2 d3 d4 HG
                      by_cases h1 : c.refs < c.led
                      · have HF := Lib.hid (show openB h = false by
                          rw [HZ.out.2.2.2.1]; unfold refsOk; rw [List.all_eq_false]
                          exact ⟨c, HG.out.2.1, by simp; omega⟩)
                        have h1b : decide (c.refs < c.led) = true := decide_eq_true h1
                        clear h1
                        generalize c.refs = rf at *
                        generalize c.led = ld at *
                        go_wp2_with (fail)
                        go_quiet (fail)
                        go_wp2_with (fail)
                        go_ret2
                        exact ⟨Below.drewN' (Below.drewN' HZ.out.2.1 _) _, Or.inr ⟨HF.out, rfl⟩⟩
                      · have h1b : decide (c.refs < c.led) = false := decide_eq_false h1
                        by_cases h2 : c.refs > 16777216
                        · have HF := Lib.hid (show openB h = false by
                            rw [HZ.out.2.2.2.1]; unfold refsOk; rw [List.all_eq_false]
                            exact ⟨c, HG.out.2.1, by simp; omega⟩)
                          have h2b : decide (c.refs > 16777216) = true := decide_eq_true h2
                          clear h1 h2
                          generalize c.refs = rf at *
                          generalize c.led = ld at *
                          go_wp2_with (fail)
                          go_quiet (fail)
                          go_wp2_with (fail)
                          go_ret2
                          exact ⟨Below.drewN' (Below.drewN' HZ.out.2.1 _) _, Or.inr ⟨HF.out, rfl⟩⟩
                        · have h2b : decide (c.refs > 16777216) = false := decide_eq_false h2
                          have HH := Lib.hid (And.intro h1 h2)
                          clear h1 h2
                          go_wp2_with (fail)
                          go_quiet (fail)
                          go_wp2_with (fail)
                          refine ⟨⟨k + 1, by omega, by go_num, ?_, _, rfl⟩, by simp [intOf]; omega⟩
                          intro c' hc'
                          rw [HG.out.2.2] at hc'
                          rcases List.mem_append.1 hc' with hc' | hc'
                          · exact HG.out.1 c' hc'
                          · simp at hc'; subst hc'; have := HH.out; omega
                    · obtain rfl : k = qcs.length := by omega
                      rw [List.take_of_length_le (by simp)] at hok
                      have HF := Lib.hid (show openB h = true by
                        rw [HZ.out.2.2.2.1]; unfold refsOk; rw [List.all_eq_true]
                        intro c hc
                        rw [← HZ.out.2.2.1] at hc
                        have := hok c hc
                        simp; omega)
                      clear hok
                      go_wp2_with (fail)
                      go_ret2
                      exact ⟨Below.drewN' HZ.out.2.1 _, Or.inl ⟨HF.out, p, qcs, rfl, HZ.out.1.below (Below.drewN' (Below.refl _ wz) _), HZ.out.2.2.1⟩⟩
end Go.Proofs.YthhmcjojnbaiiaaGreatDoor

/- Heap: Free, Check, Write. -/
namespace Go.Proofs.YthhmcjojnbaiiaaGreatDoor
open Go Go.RowKit
theorem St.lower {B B' : Nat} {w : World} {p : Nat} {sz : Int} {pcs : List (Nat × CC)} (h : St B w p sz pcs) (hB : B' ≤ B) : St B' w p sz pcs := by
  obtain ⟨v, a, hp, hown⟩ := h.row
  refine ⟨Nat.le_trans hB h.low, ⟨v, a, hp, hown.1, hown.2.imp id ?_⟩, fun x hx => ⟨(h.cells x hx).1, Nat.le_trans hB (h.cells x hx).2⟩, h.nodup, h.wf, h.spare⟩
  rintro ⟨g, cap, cur, h1, h2, h3⟩
  exact ⟨g, cap, cur, h1, Nat.le_trans hB h2, h3⟩
def chkE (h : Hp) : Int := if openB h then 0 else 7
theorem box_heapV {w : World} {c : Value} {h : Hp} (hsl : Sl celE w c h.cells) (hs : u32Ok h.size) : HeapV (w.alloc (.cells #[.int .u32 h.size, c] 25)) (.agg #[.int .u32 h.size, c]) h :=
  ⟨c, rfl, hsl.below ((Below.refl _ w).alloc (Nat.le_refl _) _) (Nat.le_refl _), hs⟩
theorem below_box (w : World) (o : Obj) : Below w.heap.size w (w.alloc o) := (Below.refl _ w).alloc (Nat.le_refl _) o
theorem below_box2 {w w' : World} {o : Obj} (h : Below (w.alloc o).heap.size (w.alloc o) w') : Below w.heap.size w w' := (below_box w o).trans (h.mono (by simp))
set_option maxRecDepth 100000 in
set_option maxHeartbeats 1000000 in
theorem check_any (w : World) (v : Value) (h : Hp) (hv : HeapV w v h) (hmax : h.cells.length ≤ 1073741824) :
    Calls Tryz.prog 35 #[v] w fun e w' => e = .returned (.int .i64 (chkE h)) ∧ Below w.heap.size w w' := by
  obtain ⟨cv, rfl, hsl, hsz⟩ := hv
  have HV := Lib.hid (box_heapV hsl hsz)
  obtain ⟨C, cc, rfl, _⟩ := hsl
  go_enter Tryz.func35, Tryz.ntmps35
  go_wp2_with (fail)
  go_at_call 41
  refine (open_any _ _ h HV.out hmax).mono ?_
  rintro e w1 ⟨hb, h1⟩
  have HB := Lib.hid (below_box2 hb)
  clear hb
  rcases h1 with ⟨ho, p, pcs, rfl, _, _⟩ | ⟨ho, rfl⟩
  · have HO := Lib.hid (show chkE h = 0 by unfold chkE; rw [ho]; rfl)
    clear ho
    go_wp2_with (fail)
    go_ret
    exact ⟨by rw [HO.out]; rfl, HB.out⟩
  · have HO := Lib.hid (show chkE h = 7 by unfold chkE; rw [ho]; rfl)
    clear ho
    go_wp2_with (fail)
    go_ret
    exact ⟨by rw [HO.out]; rfl, HB.out⟩
set_option maxRecDepth 100000 in
set_option maxHeartbeats 1000000 in
theorem free_call (w : World) (v : Value) (h : Hp) (hv : HeapV w v h) (hmax : h.cells.length ≤ 1073741824) :
    Calls Tryz.prog 33 #[v] w fun e w' => e = .returned (.tuple #[.int .i64 (freeS h).1, .int .i64 (freeS h).2]) ∧ Below w.heap.size w w' := by
  obtain ⟨cv, rfl, hsl, hsz⟩ := hv
  have HV := Lib.hid (box_heapV hsl hsz)
  obtain ⟨C, cc, rfl, _⟩ := hsl
  obtain ⟨hs0, hs1⟩ := hsz
  go_enter Tryz.func33, Tryz.ntmps33
  go_wp2_with (fail)
  go_at_call 41
  refine (open_any _ _ h HV.out hmax).mono ?_
  rintro e w1 ⟨hb, h1⟩
  have HB := Lib.hid (below_box2 hb)
  clear hb
  rcases h1 with ⟨ho, p, pcs, rfl, hst, hop⟩ | ⟨ho, rfl⟩
  · have hpl : pcs.length = h.cells.length := by have := congrArg List.length hop; rw [opened_map] at this; simpa using this
    have HF := Lib.hid (show freeS h = (h.size - 2 - (h.cells.length : Int), 0) by unfold freeS; rw [ho]; rfl)
    obtain ⟨sv, s1, hown⟩ := hst.field
    have s0 := hst.size_cell
    obtain ⟨A, cp, rfl, hcp1, hcp2, _⟩ := St.sl hown
    rw [List.length_map] at s1 hcp1
    have hpm : pcs.length ≤ 1073741824 := by omega
    clear ho hop hown hst
    go_wp2_with (fail)
    go_quiet (fail)
    go_wp2_with (fail)
    go_ret2
    refine ⟨?_, Below.drewN' HB.out _⟩
    rw [HF.out]
    rfl
  · have HF := Lib.hid (show freeS h = (0, 7) by unfold freeS; rw [ho]; rfl)
    clear ho
    go_wp2_with (fail)
    go_ret2
    exact ⟨by rw [HF.out]; rfl, HB.out⟩
/-- A writer at block q. -/
def WrAt (w : World) (q p : Nat) : Prop := w.heap[q]? = some (.cells #[.pointer (some ⟨p, 0, none⟩)] 146 (0, 0))
set_option maxRecDepth 100000 in
set_option maxHeartbeats 1000000 in
theorem write_call (w : World) (v : Value) (h : Hp) (hv : HeapV w v h) (hmax : h.cells.length ≤ 1073741824) :
    Calls Tryz.prog 54 #[v] w fun e w' => Below w.heap.size w w' ∧
      ((openB h = true ∧ ∃ q p pcs, e = .returned (.tuple #[.pointer (some ⟨q, 0, none⟩), .int .i64 0]) ∧ WrAt w' q p ∧ St w.heap.size w' p h.size pcs ∧ pcs.map (·.2) = opened h) ∨
       (openB h = false ∧ e = .returned (.tuple #[.pointer none, .int .i64 7]))) := by
  obtain ⟨cv, rfl, hsl, hsz⟩ := hv
  have HV := Lib.hid (box_heapV hsl hsz)
  obtain ⟨C, cc, rfl, _⟩ := hsl
  go_enter Tryz.func54, Tryz.ntmps54
  go_wp2_with (fail)
  go_at_call 41
  refine (open_any _ _ h HV.out hmax).mono ?_
  rintro e w1 ⟨hb, h1⟩
  have HB := Lib.hid (below_box2 hb)
  have hB0 : w.heap.size ≤ (w.alloc (.cells #[.int .u32 h.size, .slice C h.cells.length cc] 25)).heap.size := by simp
  have HB0 := Lib.hid hB0
  clear hb hB0
  rcases h1 with ⟨ho, p, pcs, rfl, hst, hop⟩ | ⟨ho, rfl⟩
  · have HS := Lib.hid (And.intro ho (And.intro (hst.lower HB0.out) hop))
    clear ho hst hop
    go_wp2_with (fail)
    go_ret2
    exact ⟨HB.out.alloc HB.out.size _, Or.inl ⟨HS.out.1, w1.heap.size, p, pcs, rfl, heap_alloc_new _ _, HS.out.2.1.below (below_box w1 _), HS.out.2.2⟩⟩
  · have HO := Lib.hid ho
    clear ho
    go_wp2_with (fail)
    go_ret2
    exact ⟨HB.out, Or.inr ⟨HO.out, rfl⟩⟩
end Go.Proofs.YthhmcjojnbaiiaaGreatDoor
