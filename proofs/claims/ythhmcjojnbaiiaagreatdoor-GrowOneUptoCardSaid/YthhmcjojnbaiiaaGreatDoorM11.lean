/- Texts of the proof: N9. -/
import Derived.Test.YthhmcjojnbaiiaaGreatDoorM8
set_option linter.all false
/- Node.Encode walked. -/
namespace Go.Proofs.YthhmcjojnbaiiaaGreatDoor
open Go Go.RowKit
theorem four_cells {w : World} {g : Nat} {a b c d : Value} {t : TypeId} (h : w.heap[g]? = some (.cells #[a, b, c, d] t (0, 0))) :
    w.cell? ⟨g, 0, none⟩ = some a ∧ w.cell? ⟨g, 1, none⟩ = some b ∧ w.cell? ⟨g, 2, none⟩ = some c ∧ w.cell? ⟨g, 3, none⟩ = some d := by
  refine ⟨?_, ?_, ?_, ?_⟩ <;> (rw [cell_of_row _ _ _ _ _ _ h]; rfl)
theorem mk_fresh (B : Nat) (w : World) (hB : B ≤ w.heap.size) : MkL B w.heap.size [] (w.alloc (.cells #[.pointer none, .slice none 0 0] 200)) :=
  Or.inl ⟨hB, _, heap_alloc_new _ _, ⟨rfl, Or.inl ⟨rfl, rfl⟩⟩, by simp [Value.ownBlock]⟩
theorem write_len (B b g o c : Nat) (bs : List Value) (l : List Value) (n : Nat) (hn : l.length = n) (hl1 : ∀ u ∈ l, u.oneCell' = true) (w : World) (h : Mk B b bs w) (hlen : bs.length + n ≤ 140737488355328) (hBw : B ≤ w.heap.size) (hat : At w g o l) (hgb : g ≠ b) :
    Calls Tryz.prog 123 #[.pointer (some ⟨b, 0, none⟩), .slice (some ⟨g, o, none⟩) n c] w fun e w' => e = .returned (.tuple #[.int .i64 n, .nilIface]) ∧ (Mk B b (bs ++ l) w' ∧ Below B w w' ∧ MkFrame b w w') := by
  subst hn; exact write_any B b g o c bs l hl1 w h hlen hBw hat hgb
theorem mk_join {B b : Nat} {l u : List UInt8} {cs : List Value} {w : World} (h : Mk B b (Lib.byteCells l ++ cs) w) (hu : Lib.byteCells u = cs) : MkL B b (l ++ u) w := by
  unfold MkL; rw [Lib.byteCells_append, hu]; exact h
theorem at_of_block {w : World} {g : Nat} {vs : List Value} {t : TypeId} (h : w.heap[g]? = some (.cells vs.toArray t (0, 0))) (k : Nat) (us : List Value) (hv : vs = vs.take k ++ us) (hk : k ≤ vs.length) : At w g k us := by
  intro i hi
  rw [cell_of_row _ _ _ _ _ _ h, List.getElem?_toArray, hv, List.getElem?_append_right (by simp; omega)]
  simp [Nat.min_eq_left hk, hi]
set_option maxRecDepth 100000 in
set_option maxHeartbeats 4000000 in
theorem encode_any (w : World) (v : Value) (n : Node) (hv : NodeV w v n) (hs : smallN n) :
    Calls Tryz.prog 85 #[v] w fun e w' => e = .returned (.tuple (if nodeErr n = 0 then #[.string ⟨(wholeL (encL n)).toArray⟩, .int .i64 0] else #[.string ByteArray.empty, .int .i64 (nodeErr n)])) ∧ Below w.heap.size w w' := by
  have HV := Lib.hid hv
  have HN := Lib.hid hs
  obtain ⟨va, vb, vc, rfl, ha, hb0, hc0, hk0, hk1⟩ := hv
  have HB := Lib.hid ((Below.refl w.heap.size w).alloc (Nat.le_refl _) (.cells #[.int .u8 n.kind, va, vb, vc] 44))
  obtain ⟨A, ca, rfl, ha1, ha2, hra⟩ := ha
  obtain ⟨B, cb, rfl, hb1, hb2, hrb⟩ := hb0
  obtain ⟨C, cc, rfl, hc1, hc2, hrc⟩ := hc0
  have HR := Lib.hid (And.intro hra (And.intro hrb hrc))
  clear hra hrb hrc hs
  by_cases hne : nodeErr n = 0
  · have hsh : shapedB n = true := by
      unfold nodeErr at hne
      cases h : shapedB n with
      | true => rfl
      | false => rw [h] at hne; simp at hne
    have hsz : sizeF n ≤ 508 := by
      unfold nodeErr at hne
      rw [hsh] at hne
      simp only [if_true] at hne
      split at hne
      · omega
      · omega
    have HBD := Lib.hid (shaped_bounds n hsh)
    have HEL := Lib.hid (show (encL n).length ≤ 508 by rw [encL_length n hsh HR.out.2.1.wf HR.out.2.2.wf]; exact hsz)
    rw [if_pos hne]
    clear hsz hsh
    have HNE := Lib.hid hne
    clear hne
    have hcnt := HBD.out.c0
    have hnb : (w.alloc (.cells #[.int .u8 n.kind, .slice A n.items.length ca, .slice B n.kids.length cb, .slice C n.vols.length cc] 44)).heap[w.heap.size]? = some (.cells #[.int .u8 n.kind, .slice A n.items.length ca, .slice B n.kids.length cb, .slice C n.vols.length cc] 44 (0, 0)) := heap_alloc_new _ _
    go_enter Tryz.func85, Tryz.ntmps85
    go_wp2_with (fail)
    go_at_call 120
    refine (nodeCheck_any _ _ n (HV.out.below HB.out (Nat.le_refl _)) HN.out).mono ?_
    rintro e w1 ⟨rfl, hb1⟩
    rw [HNE.out]
    have HB1 := Lib.hid (Below.step HB.out hb1)
    have hn1 := (hb1.block w.heap.size (by simp)).trans hnb
    have hn2 := (Lib.alloc_old w1 (.cells #[.pointer none, .slice none 0 0] 200) _ (lt_of_block hn1)).trans hn1
    obtain ⟨m0, m1, m2, m3⟩ := four_cells hn2
    have HN2 := Lib.hid hn2
    have hlt1 := lt_of_block hn1
    clear hb1 hnb hn1 hn2
    go_wp2_with (fail)
    have HBm := Lib.hid (HB1.out.alloc HB1.out.size (.cells #[.pointer none, .slice none 0 0] 200))
    go_at_call 121
    refine (mkNumber_any w.heap.size w1.heap.size [] n.kind 1 _ (mk_fresh _ _ HB1.out.size) (by simp) HBm.out.size hk0 (by omega) (by omega) (by omega) (bitLen_one (by omega))).mono ?_
    rintro e w2 ⟨rfl, hm2, hb2, hf2⟩
    have hnw2 := hf2.2 _ _ _ _ (by omega) HN2.out (by decide)
    obtain ⟨p0, p1, p2, p3⟩ := four_cells hnw2
    have HW2 := Lib.hid (And.intro hm2 (And.intro (HBm.out.trans hb2) hnw2))
    clear hm2 hb2 hf2 hnw2 m0 m1 m2 m3
    go_wp2_with (fail)
    go_at_call 121
    refine (mkNumber_any w.heap.size w1.heap.size _ ((n.items.length : Int) + n.kids.length + n.vols.length) 1 w2 HW2.out.1 (by simp [numU_length]) HW2.out.2.1.size (by omega) (by omega) (by omega) (by omega) (bitLen_one (by omega))).mono ?_
    rintro e w3 ⟨rfl, hm3, hb3, hf3⟩
    have hnw3 := hf3.2 _ _ _ _ (by omega) HW2.out.2.2 (by decide)
    obtain ⟨q0, q1, q2, q3⟩ := four_cells hnw3
    have HST := Lib.hid (And.intro (show MkL w.heap.size w1.heap.size (headU n) w3 from hm3) (And.intro (HW2.out.2.1.trans hb3) hnw3))
    have HNB := Lib.hid (Eq.refl w.heap.size)
    have hhd : (headU n).length = 2 := by simp [headU, numU_length]
    clear hm3 hb3 hf3 hnw3 p0 p1 p2 p3 HW2 HB1 HN2 HBm HB
    revert HNB
    generalize hnbv : w.heap.size = nb at *
    intro HNB0
    have HNB := Lib.hid hnbv.symm
    generalize w1.heap.size = mb at *
    clear HNB0 hnbv
    go_wp2_with (fail)
    go_loopw [7, 41, 42, 43, 44, 45, 46, 47, 48, 49, 50, 51, 52, 53] (fun _ i _ _ _ _ _ _ _ _ _ _ _ _ wr => ∃ k : Nat, k ≤ n.items.length ∧ i = .int .i64 k ∧ MkL nb mb (headU n ++ (n.items.take k).flatMap itemU) wr ∧ Below nb w wr ∧ wr.heap[nb]? = some (.cells #[.int .u8 n.kind, .slice A n.items.length ca, .slice B n.kids.length cb, .slice C n.vols.length cc] 44 (0, 0))) (fun _ i _ _ _ _ _ _ _ _ _ _ _ _ _ => n.items.length - (intOf i).toNat)
    case atStart => exact ⟨0, Nat.zero_le _, rfl, by rw [List.take_zero, List.flatMap_nil, List.append_nil]; exact HST.out.1, HST.out.2.1, HST.out.2.2⟩
    case round =>
      obtain ⟨k, hk, rfl, hM, hB, hN⟩ := hrel
      by_cases hlt : k < n.items.length
      · obtain ⟨b, o, rfl, hat, hwf⟩ := HR.out.1 k hlt
        have hb : b < nb := by rw [HNB.out]; exact hat.lt (by simp [itemE])
        have hatr := hat.below hB (by rw [HNB.out]; exact Nat.le_refl _)
        have hbr : b < wr.heap.size := Nat.lt_of_lt_of_le (by rw [← HNB.out]; exact hb) hB.size
        have hst := flat_take itemU n.items k hlt
        have hLb := flat_le itemU 210 n.items (fun x hx => by have := HBD.out.i1 x hx; rw [itemU_length]; unfold itemSz; omega) k
        have hkb : k ≤ 255 := by have := HBD.out.i0; omega
        have hsz := HBD.out.i1 n.items[k] (List.getElem_mem hlt)
        obtain ⟨L, hL⟩ : ∃ L, L = headU n ++ (n.items.take k).flatMap itemU := ⟨_, rfl⟩
        have hLl : L.length ≤ 500000 := by rw [hL]; rw [List.length_append, hhd]; omega
        rw [← hL] at hM
        have HST2 := Lib.hid (And.intro hL hst)
        clear hat hst hLb hL
        generalize n.items[k] = kk at *
        have HK := item_len kk hwf
        have hl := itemE.len kk hwf
        have h1' := itemE.one kk hwf
        have hwf' := hwf
        have v0 : (itemE.enc kk)[0]? = some (.string kk.key) := rfl
        have v1 : (itemE.enc kk)[1]? = some (.string kk.val) := rfl
        have HL := Lib.hid hl
        have HW := Lib.hid hwf
        clear hl
        generalize itemE.enc kk = vs at *
        have n0 : (wr.alloc (.cells vs.toArray 32)).cell? ⟨wr.heap.size, 0, none⟩ = some (.string kk.key) := new_cell 0 _ v0
        have hmlt := hM.lt
        have HM := Lib.hid (Mk.below hM ((Below.refl wr.heap.size wr).alloc (Nat.le_refl _) (.cells vs.toArray 32)))
        have HB := Lib.hid (hB.alloc (by rw [HNB.out]; exact hB.size) (.cells vs.toArray 32))
        have HK0 := Lib.hid (heap_alloc_new wr (.cells vs.toArray 32))
        have HN := Lib.hid ((Lib.alloc_old wr (.cells vs.toArray 32) nb (lt_of_block hN)).trans hN)
        have hnlt := lt_of_block hN
        clear hM hB hN
        go_wp2_with (first | ((with_reducible refine probe_load ?_); refine wpList_load_at rfl 32 (.tmp 43) rfl b (o + k * 2) rfl vs _ hatr Tryz.underlying32 rfl HK ?_) | ((with_reducible refine probe_store ?_); refine wpList_store_new rfl 32 (.tmp 7) (.tmp 44) rfl 32 _ rfl vs rfl (by rw [HL.out]; rfl) h1' HK ?_))
        go_at_call 122
        refine (mkText_any nb mb _ kk.key _ HM.out (by (try simp only [List.length_append, textU_length, numU_length]); omega) (by rw [HNB.out]; exact HB.out.size) (by omega)).mono ?_
        rintro e x0 ⟨rfl, hm0, hb0, hf0⟩
        have HM0 := Lib.hid hm0
        have HB0 := Lib.hid (HB.out.trans hb0)
        have hk0 := hf0.2 _ _ _ _ (by omega) HK0.out (by decide)
        have HK0' := Lib.hid hk0
        have HN0 := Lib.hid (hf0.2 _ _ _ _ (by omega) HN.out (by decide))
        have r0 : x0.cell? ⟨wr.heap.size, 1, none⟩ = some (.string kk.val) := by rw [cell_of_row _ _ _ _ _ _ hk0]; simpa using v1
        clear hm0 hb0 hf0 hk0
        go_wp2_with (fail)
        go_at_call 122
        refine (mkText_any nb mb _ kk.val _ HM0.out (by (try simp only [List.length_append, textU_length, numU_length]); omega) (by rw [HNB.out]; exact HB0.out.size) (by omega)).mono ?_
        rintro e x1 ⟨rfl, hm1, hb1, hf1⟩
        have HM1 := Lib.hid hm1
        have HB1 := Lib.hid (HB0.out.trans hb1)
        have hk1 := hf1.2 _ _ _ _ (by omega) HK0'.out (by decide)
        have HK1' := Lib.hid hk1
        have HN1 := Lib.hid (hf1.2 _ _ _ _ (by omega) HN0.out (by decide))
        clear hm1 hb1 hf1 hk1
        go_wp2
        refine ⟨⟨k + 1, by omega, by go_num, ?_, HB1.out, HN1.out⟩, by simp [intOf]; omega⟩
        rw [HST2.out.2, ← List.append_assoc, ← HST2.out.1]
        have := HM1.out
        simpa only [itemU, List.append_assoc] using this
      · obtain rfl : k = n.items.length := by omega
        rw [List.take_length] at hM
        have HST := Lib.hid (And.intro hM (And.intro hB hN))
        obtain ⟨q0, q1, q2, q3⟩ := four_cells hN
        clear hM hB hN
        have hLi := flat_le itemU 210 n.items (fun x hx => by have := HBD.out.i1 x hx; rw [itemU_length]; unfold itemSz; omega) n.items.length
        rw [List.take_length] at hLi
        have hi0 := HBD.out.i0
        go_wp2
        go_loopw [9, 57, 58, 59, 60, 61, 62, 63, 64, 65, 66, 67, 68, 69, 70, 71, 72, 73, 74, 75, 76] (fun _ i _ _ _ _ _ _ _ _ _ _ _ _ _ _ _ _ _ _ _ wr => ∃ k : Nat, k ≤ n.kids.length ∧ i = .int .i64 k ∧ MkL nb mb (headU n ++ n.items.flatMap itemU ++ (n.kids.take k).flatMap kidU) wr ∧ Below nb w wr ∧ wr.heap[nb]? = some (.cells #[.int .u8 n.kind, .slice A n.items.length ca, .slice B n.kids.length cb, .slice C n.vols.length cc] 44 (0, 0))) (fun _ i _ _ _ _ _ _ _ _ _ _ _ _ _ _ _ _ _ _ _ _ => n.kids.length - (intOf i).toNat)
        case atStart => exact ⟨0, Nat.zero_le _, rfl, by rw [List.take_zero, List.flatMap_nil, List.append_nil]; exact HST.out.1, HST.out.2.1, HST.out.2.2⟩
        case round =>
          obtain ⟨k, hk, rfl, hM, hB, hN⟩ := hrel
          by_cases hlt : k < n.kids.length
          · obtain ⟨b, o, rfl, hat, hwf⟩ := HR.out.2.1 k hlt
            have hb : b < nb := by rw [HNB.out]; exact hat.lt (by simp [kidE])
            have hatr := hat.below hB (by rw [HNB.out]; exact Nat.le_refl _)
            have hbr : b < wr.heap.size := Nat.lt_of_lt_of_le (by rw [← HNB.out]; exact hb) hB.size
            have hst := flat_take kidU n.kids k hlt
            have hLb := flat_le kidU 85 n.kids (fun x hx => by have := HBD.out.k1 x hx; rw [kidU_length x (HR.out.2.1.wf x hx).2.2]; unfold kidSz; omega) k
            have hkb : k ≤ 255 := by have := HBD.out.k0; omega
            have hsz := HBD.out.k1 n.kids[k] (List.getElem_mem hlt)
            obtain ⟨L, hL⟩ : ∃ L, L = headU n ++ n.items.flatMap itemU ++ (n.kids.take k).flatMap kidU := ⟨_, rfl⟩
            have hLl : L.length ≤ 500000 := by rw [hL]; rw [List.length_append, List.length_append, hhd]; omega
            rw [← hL] at hM
            have HST2 := Lib.hid (And.intro hL hst)
            clear hat hst hLb hL
            generalize n.kids[k] = kk at *
            have HK := kid_len kk hwf
            have hl := kidE.len kk hwf
            have h1' := kidE.one kk hwf
            have hwf' := hwf
            have v0 : (kidE.enc kk)[0]? = some (.string kk.key) := rfl
            have v1 : (kidE.enc kk)[1]? = some (.int .u32 kk.num) := rfl
            have vh : kidE.enc kk = (kidE.enc kk).take 2 ++ hashV kk.hash := rfl
            have vhl : (hashV kk.hash).length = 32 := by simp [hashV, hwf.2.2.1]
            have vhc := hashU_cells hwf.2.2
            have hlo1 : 0 ≤ kk.num := by have := hwf; have := this.2.1; unfold u32Ok at this; omega
            have hhi1 : kk.num ≤ 4294967295 := by have := hwf; have := this.2.1; unfold u32Ok at this; omega
            have HL := Lib.hid hl
            have HW := Lib.hid hwf
            clear hl
            generalize kidE.enc kk = vs at *
            have VH := Lib.hid (And.intro vh (And.intro vhl vhc))
            clear vh vhl vhc
            have n0 : (wr.alloc (.cells vs.toArray 58)).cell? ⟨wr.heap.size, 0, none⟩ = some (.string kk.key) := new_cell 0 _ v0
            have hmlt := hM.lt
            have HM := Lib.hid (Mk.below hM ((Below.refl wr.heap.size wr).alloc (Nat.le_refl _) (.cells vs.toArray 58)))
            have HB := Lib.hid (hB.alloc (by rw [HNB.out]; exact hB.size) (.cells vs.toArray 58))
            have HK0 := Lib.hid (heap_alloc_new wr (.cells vs.toArray 58))
            have HN := Lib.hid ((Lib.alloc_old wr (.cells vs.toArray 58) nb (lt_of_block hN)).trans hN)
            have hnlt := lt_of_block hN
            clear hM hB hN
            go_wp2_with (first | ((with_reducible refine probe_load ?_); refine wpList_load_at rfl 58 (.tmp 59) rfl b (o + k * 34) rfl vs _ hatr Tryz.underlying58 rfl HK ?_) | ((with_reducible refine probe_store ?_); refine wpList_store_new rfl 58 (.tmp 9) (.tmp 60) rfl 58 _ rfl vs rfl (by rw [HL.out]; rfl) h1' HK ?_))
            go_at_call 122
            refine (mkText_any nb mb _ kk.key _ HM.out (by (try simp only [List.length_append, textU_length, numU_length]); omega) (by rw [HNB.out]; exact HB.out.size) (by omega)).mono ?_
            rintro e x0 ⟨rfl, hm0, hb0, hf0⟩
            have HM0 := Lib.hid hm0
            have HB0 := Lib.hid (HB.out.trans hb0)
            have hk0 := hf0.2 _ _ _ _ (by omega) HK0.out (by decide)
            have HK0' := Lib.hid hk0
            have HN0 := Lib.hid (hf0.2 _ _ _ _ (by omega) HN.out (by decide))
            have r0 : x0.cell? ⟨wr.heap.size, 1, none⟩ = some (.int .u32 kk.num) := by rw [cell_of_row _ _ _ _ _ _ hk0]; simpa using v1
            clear hm0 hb0 hf0 hk0
            go_wp2_with (fail)
            have hr1 : 0 ≤ kk.num ∧ kk.num ≤ 18446744073709551615 := by have := HW.out; omega
            have hfit1 : Lib.bitLen (kk.num).toNat ≤ 8 * 4 := bitLen_fit 32 (by omega) (by have := HW.out; omega)
            go_at_call 121
            refine (mkNumber_any nb mb _ kk.num 4 _ HM0.out (by (try simp only [List.length_append, textU_length, numU_length]); omega) (by rw [HNB.out]; exact HB0.out.size) hr1.1 hr1.2 (by omega) (by omega) hfit1).mono ?_
            rintro e x1 ⟨rfl, hm1, hb1, hf1⟩
            have HM1 := Lib.hid hm1
            have HB1 := Lib.hid (HB0.out.trans hb1)
            have hk1 := hf1.2 _ _ _ _ (by omega) HK0'.out (by decide)
            have HK1' := Lib.hid hk1
            have HN1 := Lib.hid (hf1.2 _ _ _ _ (by omega) HN0.out (by decide))
            clear hm1 hb1 hf1 hk1
            go_wp2_with (fail)
            refine wp_region_still_tail 5 (by kernel_rfl) (by kernel_rfl) ?_
            simp only [List.take_succ_cons, List.take_zero, List.drop_succ_cons, List.drop_zero]
            change wpStill _ _ (World.drew _) _ _ _
            repeat still_step
            refine wpStill_nil ?_
            change wpList _ _ _ _ _ (World.drew _)
            go_wp2_with (fail)
            go_at_call 123
            refine (write_len nb mb wr.heap.size 2 32 _ (hashV kk.hash) 32 VH.out.2.1 (hashV_one _) x1.drew HM1.out (by rw [Lib.byteCells_length]; (try simp only [List.length_append, textU_length, numU_length]); omega) (by rw [HNB.out]; exact HB1.out.size) (at_of_block HK1'.out 2 _ VH.out.1 (by rw [HL.out]; decide)) (by omega)).mono ?_
            rintro e x2 ⟨rfl, hm2, hb2, hf2⟩
            have HM2 := Lib.hid (mk_join hm2 VH.out.2.2)
            have HB2 := Lib.hid ((HB1.out.drew).trans hb2)
            have HN2 := Lib.hid (hf2.2 _ _ _ _ (by omega) HN1.out (by decide))
            clear hm2 hb2 hf2
            go_wp2
            refine ⟨⟨k + 1, by omega, by go_num, ?_, HB2.out, HN2.out⟩, by simp [intOf]; omega⟩
            rw [HST2.out.2, ← List.append_assoc, ← HST2.out.1]
            have := HM2.out
            simpa only [kidU, List.append_assoc] using this
          · obtain rfl : k = n.kids.length := by omega
            rw [List.take_length] at hM
            have HST := Lib.hid (And.intro hM (And.intro hB hN))
            obtain ⟨q0, q1, q2, q3⟩ := four_cells hN
            clear hM hB hN
            have hLk := flat_le kidU 85 n.kids (fun x hx => by have := HBD.out.k1 x hx; rw [kidU_length x (HR.out.2.1.wf x hx).2.2]; unfold kidSz; omega) n.kids.length
            rw [List.take_length] at hLk
            have hk0' := HBD.out.k0
            go_wp2
            go_loopw [11, 80, 81, 82, 83, 84, 85, 86, 87, 88, 89, 90, 91, 92, 93, 94, 95, 96, 97, 98, 99, 100, 101, 102, 103, 104, 105, 106, 107, 108, 109, 110, 111, 112] (fun _ i _ _ _ _ _ _ _ _ _ _ _ _ _ _ _ _ _ _ _ _ _ _ _ _ _ _ _ _ _ _ _ _ wr => ∃ k : Nat, k ≤ n.vols.length ∧ i = .int .i64 k ∧ MkL nb mb (headU n ++ n.items.flatMap itemU ++ n.kids.flatMap kidU ++ (n.vols.take k).flatMap volU) wr ∧ Below nb w wr ∧ wr.heap[nb]? = some (.cells #[.int .u8 n.kind, .slice A n.items.length ca, .slice B n.kids.length cb, .slice C n.vols.length cc] 44 (0, 0))) (fun _ i _ _ _ _ _ _ _ _ _ _ _ _ _ _ _ _ _ _ _ _ _ _ _ _ _ _ _ _ _ _ _ _ _ => n.vols.length - (intOf i).toNat)
            case atStart => exact ⟨0, Nat.zero_le _, rfl, by rw [List.take_zero, List.flatMap_nil, List.append_nil]; exact HST.out.1, HST.out.2.1, HST.out.2.2⟩
            case round =>
              obtain ⟨k, hk, rfl, hM, hB, hN⟩ := hrel
              by_cases hlt : k < n.vols.length
              · obtain ⟨b, o, rfl, hat, hwf⟩ := HR.out.2.2 k hlt
                have hb : b < nb := by rw [HNB.out]; exact hat.lt (by simp [volE])
                have hatr := hat.below hB (by rw [HNB.out]; exact Nat.le_refl _)
                have hbr : b < wr.heap.size := Nat.lt_of_lt_of_le (by rw [← HNB.out]; exact hb) hB.size
                have hst := flat_take volU n.vols k hlt
                have hLb := flat_le volU 79 n.vols (fun x hx => by have := HBD.out.v1 x hx; rw [volU_length x (HR.out.2.2.wf x hx).2.2.2.2.2]; unfold volSz; omega) k
                have hkb : k ≤ 255 := by have := HBD.out.v0; omega
                have hsz := HBD.out.v1 n.vols[k] (List.getElem_mem hlt)
                obtain ⟨L, hL⟩ : ∃ L, L = headU n ++ n.items.flatMap itemU ++ n.kids.flatMap kidU ++ (n.vols.take k).flatMap volU := ⟨_, rfl⟩
                have hLl : L.length ≤ 500000 := by rw [hL]; rw [List.length_append, List.length_append, List.length_append, hhd]; omega
                rw [← hL] at hM
                have HST2 := Lib.hid (And.intro hL hst)
                clear hat hst hLb hL
                generalize n.vols[k] = kk at *
                have HK := vol_len kk hwf
                have hl := volE.len kk hwf
                have h1' := volE.one kk hwf
                have hwf' := hwf
                have v0 : (volE.enc kk)[0]? = some (.string kk.name) := rfl
                have v1 : (volE.enc kk)[1]? = some (.int .u8 kk.kind) := rfl
                have v2 : (volE.enc kk)[2]? = some (.string kk.src) := rfl
                have v3 : (volE.enc kk)[3]? = some (.int .u64 kk.born) := rfl
                have v4 : (volE.enc kk)[4]? = some (.int .u32 kk.root) := rfl
                have vh : volE.enc kk = (volE.enc kk).take 5 ++ hashV kk.hash := rfl
                have vhl : (hashV kk.hash).length = 32 := by simp [hashV, hwf.2.2.2.2.2.1]
                have vhc := hashU_cells hwf.2.2.2.2.2
                have hlo1 : 0 ≤ kk.kind := by have := hwf; have := this.2.1; omega
                have hhi1 : kk.kind ≤ 255 := by have := hwf; have := this.2.1; omega
                have hlo3 : 0 ≤ kk.born := by have := hwf; have := this.2.2.2.1; omega
                have hhi3 : kk.born ≤ 18446744073709551615 := by have := hwf; have := this.2.2.2.1; omega
                have hlo4 : 0 ≤ kk.root := by have := hwf; have := this.2.2.2.2.1; unfold u32Ok at this; omega
                have hhi4 : kk.root ≤ 4294967295 := by have := hwf; have := this.2.2.2.2.1; unfold u32Ok at this; omega
                have HL := Lib.hid hl
                have HW := Lib.hid hwf
                clear hl
                generalize volE.enc kk = vs at *
                have VH := Lib.hid (And.intro vh (And.intro vhl vhc))
                clear vh vhl vhc
                have n0 : (wr.alloc (.cells vs.toArray 178)).cell? ⟨wr.heap.size, 0, none⟩ = some (.string kk.name) := new_cell 0 _ v0
                have hmlt := hM.lt
                have HM := Lib.hid (Mk.below hM ((Below.refl wr.heap.size wr).alloc (Nat.le_refl _) (.cells vs.toArray 178)))
                have HB := Lib.hid (hB.alloc (by rw [HNB.out]; exact hB.size) (.cells vs.toArray 178))
                have HK0 := Lib.hid (heap_alloc_new wr (.cells vs.toArray 178))
                have HN := Lib.hid ((Lib.alloc_old wr (.cells vs.toArray 178) nb (lt_of_block hN)).trans hN)
                have hnlt := lt_of_block hN
                clear hM hB hN
                go_wp2_with (first | ((with_reducible refine probe_load ?_); refine wpList_load_at rfl 178 (.tmp 82) rfl b (o + k * 37) rfl vs _ hatr Tryz.underlying178 rfl HK ?_) | ((with_reducible refine probe_store ?_); refine wpList_store_new rfl 178 (.tmp 11) (.tmp 83) rfl 178 _ rfl vs rfl (by rw [HL.out]; rfl) h1' HK ?_))
                go_at_call 122
                refine (mkText_any nb mb _ kk.name _ HM.out (by (try simp only [List.length_append, textU_length, numU_length]); omega) (by rw [HNB.out]; exact HB.out.size) (by omega)).mono ?_
                rintro e x0 ⟨rfl, hm0, hb0, hf0⟩
                have HM0 := Lib.hid hm0
                have HB0 := Lib.hid (HB.out.trans hb0)
                have hk0 := hf0.2 _ _ _ _ (by omega) HK0.out (by decide)
                have HK0' := Lib.hid hk0
                have HN0 := Lib.hid (hf0.2 _ _ _ _ (by omega) HN.out (by decide))
                have r0 : x0.cell? ⟨wr.heap.size, 2, none⟩ = some (.string kk.src) := by rw [cell_of_row _ _ _ _ _ _ hk0]; simpa using v2
                clear hm0 hb0 hf0 hk0
                go_wp2_with (fail)
                go_at_call 122
                refine (mkText_any nb mb _ kk.src _ HM0.out (by (try simp only [List.length_append, textU_length, numU_length]); omega) (by rw [HNB.out]; exact HB0.out.size) (by omega)).mono ?_
                rintro e x1 ⟨rfl, hm1, hb1, hf1⟩
                have HM1 := Lib.hid hm1
                have HB1 := Lib.hid (HB0.out.trans hb1)
                have hk1 := hf1.2 _ _ _ _ (by omega) HK0'.out (by decide)
                have HK1' := Lib.hid hk1
                have HN1 := Lib.hid (hf1.2 _ _ _ _ (by omega) HN0.out (by decide))
                have r1 : x1.cell? ⟨wr.heap.size, 1, none⟩ = some (.int .u8 kk.kind) := by rw [cell_of_row _ _ _ _ _ _ hk1]; simpa using v1
                clear hm1 hb1 hf1 hk1
                go_wp2_with (fail)
                have hr2 : 0 ≤ kk.kind ∧ kk.kind ≤ 18446744073709551615 := by have := HW.out; omega
                have hfit2 : Lib.bitLen (kk.kind).toNat ≤ 8 * 1 := bitLen_fit 8 (by omega) (by have := HW.out; omega)
                go_at_call 121
                refine (mkNumber_any nb mb _ kk.kind 1 _ HM1.out (by (try simp only [List.length_append, textU_length, numU_length]); omega) (by rw [HNB.out]; exact HB1.out.size) hr2.1 hr2.2 (by omega) (by omega) hfit2).mono ?_
                rintro e x2 ⟨rfl, hm2, hb2, hf2⟩
                have HM2 := Lib.hid hm2
                have HB2 := Lib.hid (HB1.out.trans hb2)
                have hk2 := hf2.2 _ _ _ _ (by omega) HK1'.out (by decide)
                have HK2' := Lib.hid hk2
                have HN2 := Lib.hid (hf2.2 _ _ _ _ (by omega) HN1.out (by decide))
                have r2 : x2.cell? ⟨wr.heap.size, 3, none⟩ = some (.int .u64 kk.born) := by rw [cell_of_row _ _ _ _ _ _ hk2]; simpa using v3
                clear hm2 hb2 hf2 hk2
                go_wp2_with (fail)
                have hr3 : 0 ≤ kk.born ∧ kk.born ≤ 18446744073709551615 := by have := HW.out; omega
                have hfit3 : Lib.bitLen (kk.born).toNat ≤ 8 * 8 := bitLen_fit 64 (by omega) (by have := HW.out; omega)
                go_at_call 121
                refine (mkNumber_any nb mb _ kk.born 8 _ HM2.out (by (try simp only [List.length_append, textU_length, numU_length]); omega) (by rw [HNB.out]; exact HB2.out.size) hr3.1 hr3.2 (by omega) (by omega) hfit3).mono ?_
                rintro e x3 ⟨rfl, hm3, hb3, hf3⟩
                have HM3 := Lib.hid hm3
                have HB3 := Lib.hid (HB2.out.trans hb3)
                have hk3 := hf3.2 _ _ _ _ (by omega) HK2'.out (by decide)
                have HK3' := Lib.hid hk3
                have HN3 := Lib.hid (hf3.2 _ _ _ _ (by omega) HN2.out (by decide))
                have r3 : x3.cell? ⟨wr.heap.size, 4, none⟩ = some (.int .u32 kk.root) := by rw [cell_of_row _ _ _ _ _ _ hk3]; simpa using v4
                clear hm3 hb3 hf3 hk3
                go_wp2_with (fail)
                have hr4 : 0 ≤ kk.root ∧ kk.root ≤ 18446744073709551615 := by have := HW.out; omega
                have hfit4 : Lib.bitLen (kk.root).toNat ≤ 8 * 4 := bitLen_fit 32 (by omega) (by have := HW.out; omega)
                go_at_call 121
                refine (mkNumber_any nb mb _ kk.root 4 _ HM3.out (by (try simp only [List.length_append, textU_length, numU_length]); omega) (by rw [HNB.out]; exact HB3.out.size) hr4.1 hr4.2 (by omega) (by omega) hfit4).mono ?_
                rintro e x4 ⟨rfl, hm4, hb4, hf4⟩
                have HM4 := Lib.hid hm4
                have HB4 := Lib.hid (HB3.out.trans hb4)
                have hk4 := hf4.2 _ _ _ _ (by omega) HK3'.out (by decide)
                have HK4' := Lib.hid hk4
                have HN4 := Lib.hid (hf4.2 _ _ _ _ (by omega) HN3.out (by decide))
                clear hm4 hb4 hf4 hk4
                go_wp2_with (fail)
                refine wp_region_still_tail 5 (by kernel_rfl) (by kernel_rfl) ?_
                simp only [List.take_succ_cons, List.take_zero, List.drop_succ_cons, List.drop_zero]
                change wpStill _ _ (World.drew _) _ _ _
                repeat still_step
                refine wpStill_nil ?_
                change wpList _ _ _ _ _ (World.drew _)
                go_wp2_with (fail)
                go_at_call 123
                refine (write_len nb mb wr.heap.size 5 32 _ (hashV kk.hash) 32 VH.out.2.1 (hashV_one _) x4.drew HM4.out (by rw [Lib.byteCells_length]; (try simp only [List.length_append, textU_length, numU_length]); omega) (by rw [HNB.out]; exact HB4.out.size) (at_of_block HK4'.out 5 _ VH.out.1 (by rw [HL.out]; decide)) (by omega)).mono ?_
                rintro e x5 ⟨rfl, hm5, hb5, hf5⟩
                have HM5 := Lib.hid (mk_join hm5 VH.out.2.2)
                have HB5 := Lib.hid ((HB4.out.drew).trans hb5)
                have HN5 := Lib.hid (hf5.2 _ _ _ _ (by omega) HN4.out (by decide))
                clear hm5 hb5 hf5
                go_wp2
                refine ⟨⟨k + 1, by omega, by go_num, ?_, HB5.out, HN5.out⟩, by simp [intOf]; omega⟩
                rw [HST2.out.2, ← List.append_assoc, ← HST2.out.1]
                have := HM5.out
                simpa only [volU, List.append_assoc] using this
              · obtain rfl : k = n.vols.length := by omega
                rw [List.take_length] at hM
                have HST := Lib.hid (And.intro hM (And.intro hB hN))
                obtain ⟨q0, q1, q2, q3⟩ := four_cells hN
                clear hM hB hN
                go_wp2_with (fail)
                go_at_call 125
                refine (mkString_any nb mb (encL n) wr HST.out.1 (by intro e; have := congrArg List.length e; unfold encL at this; simp [hhd] at this)).mono ?_
                rintro e y0 ⟨rfl, hy0⟩
                go_wp2_with (fail)
                go_at_call 124
                refine (whole_any y0 ⟨(encL n).toArray⟩ (by show (encL n).toArray.size ≤ 508; simpa using HEL.out)).mono ?_
                rintro e y1 ⟨rfl, hy1⟩
                go_wp2
                go_ret2
                refine ⟨rfl, ?_⟩
                rw [← HNB.out]
                exact (HST.out.2.1.trans hy0).trans (hy1.mono (by rw [HNB.out]; exact Nat.le_trans HST.out.2.1.size hy0.size))
  · have HNE := Lib.hid (show decide (nodeErr n = 0) = false from decide_eq_false hne)
    rw [if_neg hne]
    have hne2 : (nodeErr n != 0) = true := by simpa using hne
    clear hne
    go_enter Tryz.func85, Tryz.ntmps85
    go_wp2_with (go_at_call 120; refine (nodeCheck_any _ _ n (HV.out.below HB.out (Nat.le_refl _)) HN.out).mono ?_; rintro e w1 ⟨rfl, hb1⟩)
    go_ret2
    exact ⟨rfl, Below.step HB.out hb1⟩
end Go.Proofs.YthhmcjojnbaiiaaGreatDoor
