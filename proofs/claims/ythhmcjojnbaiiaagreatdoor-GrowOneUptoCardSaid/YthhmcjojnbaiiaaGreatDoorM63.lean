/- Texts of the proof: Ag Cn Gy. -/
import Derived.Test.YthhmcjojnbaiiaaGreatDoorM61
import Derived.Test.YthhmcjojnbaiiaaGreatDoorM34
import Derived.Test.YthhmcjojnbaiiaaGreatDoorM60
import Derived.Test.YthhmcjojnbaiiaaGreatDoorM64
import Derived.Test.YthhmcjojnbaiiaaGreatDoorM65
import Derived.Test.YthhmcjojnbaiiaaGreatDoorM35
import Derived.Test.YthhmcjojnbaiiaaGreatDoorM39
set_option linter.all false
/- Items: Apply, of whatever changes. -/
namespace Go.Proofs.YthhmcjojnbaiiaaGreatDoor
open Go Go.RowKit
def AgRel (w W1 : World) (l : List Item) (cs : List Change) (L : List Item) (vl vi : Value) (wr : World) : Prop :=
  ∃ (j : Nat) (lj : List Item), j ≤ cs.length ∧ vi = .int .i64 j ∧ itemsOk lj = true ∧ (∀ x ∈ lj, itemE.wf x) ∧ lj.length ≤ l.length + j ∧ L = (cs.drop j).foldl applyOne lj ∧ wr.ownsRow W1.heap.size 32 2 vl lj.length (lj.flatMap itemE.enc) ∧ Below W1.heap.size W1 wr
theorem agRel_mk {w W1 : World} {l : List Item} {cs : List Change} {L : List Item} {vl vi : Value} {wr : World} (j : Nat) (lj : List Item) (h1 : j ≤ cs.length) (h2 : vi = .int .i64 j) (h3 : itemsOk lj = true) (h4 : ∀ x ∈ lj, itemE.wf x) (h5 : lj.length ≤ l.length + j) (h6 : L = (cs.drop j).foldl applyOne lj) (h7 : wr.ownsRow W1.heap.size 32 2 vl lj.length (lj.flatMap itemE.enc)) (h8 : Below W1.heap.size W1 wr) : AgRel w W1 l cs L vl vi wr := ⟨j, lj, h1, h2, h3, h4, h5, h6, h7, h8⟩
theorem applyOne_wf {l : List Item} {c : Change} (h : ∀ x ∈ l, itemE.wf x) (hc : changeE.wf c) : ∀ x ∈ applyOne l c, itemE.wf x := by
  have hy : itemE.wf ⟨c.key, c.val⟩ := ⟨hc.1, hc.2⟩
  intro x hx
  unfold applyOne at hx
  split at hx
  · split at hx
    · rcases List.mem_or_eq_of_mem_set hx with hx | rfl
      · exact h x hx
      · exact hy
    · exact h x ((List.eraseIdx_sublist l _).subset hx)
  · split at hx
    · rename_i hh
      have hp : itemPos l c.key ≤ l.length := posOf_le _ _
      rw [ins_split _ hp] at hx
      rcases List.mem_append.1 hx with hx | hx
      · exact h x ((List.take_sublist _ _).subset hx)
      · rcases List.mem_cons.1 hx with rfl | hx
        · exact hy
        · exact h x ((List.drop_sublist _ _).subset hx)
    · exact h x hx
theorem item_built (k v : ByteArray) : Tryz.prog.built 32 [(0, .string k), (1, .string v)] = some #[.string k, .string v] := by kernel_rfl
/-- The world behind an insert into what the call owns. -/
theorem ag_below {W1 w6 wm w7 : World} {n : Nat} {v : Value} {xs : List Value} (hbl : Below W1.heap.size W1 w6) (hm : Below w6.heap.size w6 wm) (hown : w6.ownsRow W1.heap.size 32 2 v n xs) (hg : wm.grownBy w7 v.ownBlock) : Below W1.heap.size W1 w7 := by
  have hs := hg.size
  have hms := hm.size
  have hbs := hbl.size
  refine ⟨hg.os.trans (hm.os.trans hbl.os), hg.tape.trans (hm.tape.trans hbl.tape), hg.output.trans (hm.output.trans hbl.output), by omega, fun k hk => ?_⟩
  rw [hg.block k (by omega) (fun e => by
    rcases hown.2 with ⟨rfl, _⟩ | ⟨g, c, cur, rfl, hb, _⟩
    · cases e
    · have : k = g := by simpa [Value.ownBlock] using e
      omega), hm.block k (by omega)]
  exact hbl.block k hk
set_option maxRecDepth 100000 in
set_option maxHeartbeats 2000000 in
theorem applyG_any (w : World) (v vc : Value) (l : List Item) (cs : List Change) (hv : Sl itemE w v l) (hvc : Sl changeE w vc cs) (hl : l.length ≤ 1073741824) (hc : cs.length ≤ 1073741824) (hsum : l.length + cs.length ≤ 1073741824) :
    Calls Tryz.prog 50 #[v, vc] w fun e w' => ApplyPost w l cs e w' := by
  have HV := Lib.hid (And.intro hv hvc)
  obtain ⟨A, n, c, rfl⟩ := sl_slice hv
  obtain ⟨A2, n2, c2, rfl⟩ := sl_slice hvc
  have hn2 := (hvc.len_eq).1
  subst hn2
  clear hv hvc
  go_enter Tryz.func50, Tryz.ntmps50
  go_wp2_with (fail)
  go_at_call 29
  refine (itemCheck_any _ _ l HV.out.1).mono ?_
  rintro e w1 ⟨rfl, hb1⟩
  have HB1 := Lib.hid hb1
  clear hb1
  go_wp2_with (fail)
  go_at_call 78
  refine (checkCh_any _ _ cs (HV.out.2.below HB1.out (Nat.le_refl _)) hc).mono ?_
  rintro e w2 ⟨rfl, hb2⟩
  have HB2 := Lib.hid (HB1.out.trans (hb2.mono HB1.out.size))
  clear hb2
  go_wp2_with (fail)
  go_at_call 57
  have hso : Sl errE (w2.alloc (.cells #[.int .i64 (errIf (itemsOk l) 4), .int .i64 (errIf (changesOk cs) 4)] 28)) (.slice (some ⟨w2.heap.size, 0, none⟩) 2 2) [errIf (itemsOk l) 4, errIf (changesOk cs) 4] := by
    refine ⟨_, 2, rfl, Nat.le_refl _, by omega, Row.mk fun k hk => ⟨?_, trivial⟩⟩
    have ha := new_at w2 [.int .i64 (errIf (itemsOk l) 4), .int .i64 (errIf (changesOk cs) 4)] 28
    intro i hi
    have hi0 : i = 0 := by simp [errE] at hi; omega
    subst hi0
    match k, hk with
    | 0, _ => exact ha.cell 0 _ rfl
    | 1, _ => exact ha.cell 1 _ rfl
  refine (or_any _ _ _ hso).mono ?_
  rintro e _ ⟨rfl, rfl⟩
  have HB3 := Lib.hid (HB2.out.alloc HB2.out.size (.cells #[.int .i64 (errIf (itemsOk l) 4), .int .i64 (errIf (changesOk cs) 4)] 28))
  clear hso
  generalize w2.alloc (.cells #[.int .i64 (errIf (itemsOk l) 4), .int .i64 (errIf (changesOk cs) 4)] 28) = w3 at *
  by_cases hbad : itemsOk l = false ∨ changesOk cs = false
  · have HA := Lib.hid (show applyS l cs = ([], 4) by unfold applyS; rw [if_pos hbad])
    have hor : orL [errIf (itemsOk l) 4, errIf (changesOk cs) 4] = 4 := by
      rw [orL_two]
      rcases hbad with h | h
      · rw [h]; rfl
      · rw [h]
        cases itemsOk l <;> rfl
    rw [hor]
    clear hor hbad
    generalize errIf (itemsOk l) 4 = q1 at *
    generalize errIf (changesOk cs) 4 = q2 at *
    go_wp2_with (fail)
    go_ret2
    exact ⟨.slice none 0 0, by rw [HA.out]; rfl, by rw [HA.out]; exact Sl.nil _, HB3.out⟩
  · have hok : itemsOk l = true ∧ changesOk cs = true := by
      refine ⟨?_, ?_⟩
      · cases h : itemsOk l with
        | true => rfl
        | false => exact absurd (Or.inl h) hbad
      · cases h : changesOk cs with
        | true => rfl
        | false => exact absurd (Or.inr h) hbad
    obtain ⟨L, hL⟩ : ∃ L, cs.foldl applyOne l = L := ⟨_, rfl⟩
    have HA := Lib.hid (And.intro (show applyS l cs = (L, 0) by unfold applyS; rw [if_neg hbad, hL]) (And.intro hL hok))
    have hor : orL [errIf (itemsOk l) 4, errIf (changesOk cs) 4] = 0 := by rw [hok.1, hok.2]; rfl
    rw [hor]
    clear hor hbad hok hL
    generalize errIf (itemsOk l) 4 = q1 at *
    generalize errIf (changesOk cs) 4 = q2 at *
    go_wp2_with (fail)
    go_at_call 48
    refine (cloneItem_any w3 _ l (HV.out.1.below HB3.out (Nat.le_refl _)) hl).mono ?_
    rintro e w4 ⟨r, rfl, hown, hb4⟩
    have H4 := Lib.hid (And.intro hown hb4)
    clear hown hb4
    go_wp2_with (fail)
    go_loopw [0, 8, 9, 10, 24, 25, 26, 27, 28, 29, 30, 31, 32, 33, 34, 35, 36, 37, 38, 39, 40, 41, 42, 43, 44, 45, 46, 47, 48, 49, 50, 51, 52, 53, 54, 55, 56, 57, 58, 59, 60, 61, 62, 63, 64, 65, 66] (fun vl _ _ _ vi _ _ _ _ _ _ _ _ _ _ _ _ _ _ _ _ _ _ _ _ _ _ _ _ _ _ _ _ _ _ _ _ _ _ _ _ _ _ _ _ _ _ wr => AgRel w w3 l cs L vl vi wr) (fun _ _ _ _ vi _ _ _ _ _ _ _ _ _ _ _ _ _ _ _ _ _ _ _ _ _ _ _ _ _ _ _ _ _ _ _ _ _ _ _ _ _ _ _ _ _ _ _ => cs.length - (intOf vi).toNat)
    case atStart => exact agRel_mk 0 l (Nat.zero_le _) rfl HA.out.2.2.1 HV.out.1.wf (Nat.le_refl _) (by rw [List.drop_zero]; exact HA.out.2.1.symm) H4.out.1 H4.out.2
    case round =>
      obtain ⟨j, lj, hj, rfl, hokj, hwfj, hlj, hLj, hown, hbl⟩ := hrel
      by_cases hlt : j < cs.length
      · obtain ⟨b, o, rfl, hat, hcw⟩ := (HV.out.2.len_eq).2.2.2 j hlt
        have hdr : cs.drop j = cs[j] :: cs.drop (j + 1) := List.drop_eq_getElem_cons hlt
        have hcB : changeB cs[j] = true := List.all_eq_true.1 HA.out.2.2.2 _ (List.getElem_mem hlt)
        rw [hdr, List.foldl_cons] at hLj
        have hbw : b < w.heap.size := hat.lt (by simp [changeE])
        have hwr : Below w.heap.size w wr := HB3.out.trans (hbl.mono HB3.out.size)
        have hat2 := hat.below hwr (Nat.le_refl _)
        have hok1 := applyOne_ok hokj hcB
        have hwf1 := applyOne_wf hwfj hcw
        have hln1 := applyOne_len lj cs[j]
        generalize cs[j] = ch at *
        obtain ⟨ck, chs, cv⟩ := ch
        have d0 := hat2.cell 0 _ rfl
        have d1 := hat2.cell 1 _ rfl
        have d2 := hat2.cell 2 _ rfl
        simp only [changeE, Nat.add_zero] at d0 d1 d2
        have HJ := Lib.hid (And.intro hokj (And.intro hwfj (And.intro hLj (And.intro hown (And.intro hbl (And.intro hwr (And.intro hok1 (And.intro hwf1 hln1))))))))
        have hbr := hwr.size
        clear hokj hwfj hLj hown hbl hwr hat hat2 hdr hcw hcB hok1 hwf1 hln1
        go_upto_region 8 with (fail)
        have HB5 := Lib.hid (And.intro (heap_alloc_new wr (.cells #[.string ck, .bool chs, .string cv] 55)) (below_box wr (.cells #[.string ck, .bool chs, .string cv] 55)))
        have hlt5 : wr.heap.size < (wr.alloc (.cells #[.string ck, .bool chs, .string cv] 55)).heap.size := by simp
        have hown5 := HJ.out.2.2.2.1.alloc (.cells #[.string ck, .bool chs, .string cv] 55)
        generalize wr.alloc (.cells #[.string ck, .bool chs, .string cv] 55) = w5 at *
        have k0 : w5.cell? ⟨wr.heap.size, 0, none⟩ = some (.string ck) := by rw [cell_of_row _ _ _ _ _ _ HB5.out.1]; rfl
        have k1 : w5.cell? ⟨wr.heap.size, 1, none⟩ = some (.bool chs) := by rw [cell_of_row _ _ _ _ _ _ HB5.out.1]; rfl
        have k2 : w5.cell? ⟨wr.heap.size, 2, none⟩ = some (.string cv) := by rw [cell_of_row _ _ _ _ _ _ HB5.out.1]; rfl
        have hsl5 := own_sl (E := itemE) hown5 rfl HJ.out.2.1
        have HO5 := Lib.hid (And.intro hown5 hsl5)
        obtain ⟨Al, nl, cl, rfl⟩ := sl_slice hsl5
        have hnl := (hsl5.len_eq).1
        subst hnl
        clear hown5 hsl5
        go_wp2_with (fail)
        go_at_call 46
        refine (place_any w5 _ lj ck HO5.out.2 (ok_sorted HJ.out.1) (by omega)).mono ?_
        rintro e w6 ⟨rfl, hb6⟩
        have hb56 := HB5.out.2.trans (hb6.mono HB5.out.2.size)
        have k0' := (hb6.cell (p := ⟨wr.heap.size, 0, none⟩) hlt5).trans k0
        have k1' := (hb6.cell (p := ⟨wr.heap.size, 1, none⟩) hlt5).trans k1
        have k2' := (hb6.cell (p := ⟨wr.heap.size, 2, none⟩) hlt5).trans k2
        have hlt6 : wr.heap.size < w6.heap.size := Nat.lt_of_lt_of_le hlt5 hb6.size
        have hown6 := (Fr.of_below hb6).own HO5.out.1 (by unfold BadT; decide)
        have hw36 : w3.heap.size ≤ w6.heap.size := Nat.le_trans HJ.out.2.2.2.2.1.size hb56.size
        have H6 := Lib.hid (And.intro hown6 (HJ.out.2.2.2.2.1.trans (hb56.mono HJ.out.2.2.2.2.1.size)))
        clear hown6 hb56 hb6 k0 k1 k2
        have hpos : itemPos lj ck ≤ lj.length := posOf_le _ _
        cases hhas : itemHas lj ck with
        | false =>
          cases hch : chs with
          | false =>
            subst hch
            have HS := Lib.hid (show applyOne lj ⟨ck, false, cv⟩ = lj by simp [applyOne, hhas])
            clear hhas
            generalize itemPos lj ck = ip at *
            go_wp2_with (fail)
            exact ⟨agRel_mk (j + 1) lj (by omega) (by go_num) HJ.out.1 HJ.out.2.1 (by omega) (by rw [HJ.out.2.2.1, HS.out]) H6.out.1 H6.out.2, by simp [intOf]; omega⟩
          | true =>
            subst hch
            have HS := Lib.hid (show applyOne lj ⟨ck, true, cv⟩ = lj.insertIdx (itemPos lj ck) ⟨ck, cv⟩ by simp [applyOne, hhas])
            clear hhas
            generalize itemPos lj ck = ip at *
            go_wp2_with (first
              | ((with_reducible refine probe_build 32 ?_); refine wpList_build_cells rfl 32 _ rfl [(0, .string ck), (1, .string cv)] rfl _ (item_built ck cv) ?_))
            go_at_call 80
            have hnb := heap_alloc_new w6 (.cells #[.string ck, .string cv] 32)
            have hbb := below_box w6 (.cells #[.string ck, .string cv] 32)
            refine (insItem_any w3.heap.size _ _ lj.length ip w6.heap.size ⟨ck, cv⟩ lj rfl (H6.out.1.alloc (.cells #[.string ck, .string cv] 32)) HJ.out.2.1 hpos hnb (fun e => by have := H6.out.1.lt _ e; omega) (by omega) (by simp; omega)).mono ?_
            rintro e w7 ⟨g', cap', rfl, hown7, hg7⟩
            have H7 := Lib.hid (And.intro (show w7.ownsRow w3.heap.size 32 2 (.slice (some ⟨g', 0, none⟩) (lj.length + 1) cap') (lj.insertIdx ip ⟨ck, cv⟩).length ((lj.insertIdx ip ⟨ck, cv⟩).flatMap itemE.enc) by rw [List.length_insertIdx_of_le_length hpos]; exact hown7) (ag_below H6.out.2 hbb H6.out.1 hg7))
            clear hown7 hg7 hnb hbb
            go_wp2_with (fail)
            exact ⟨agRel_mk (j + 1) (lj.insertIdx ip ⟨ck, cv⟩) (by omega) (by go_num) (by rw [← HS.out]; exact HJ.out.2.2.2.2.2.2.1) (by rw [← HS.out]; exact HJ.out.2.2.2.2.2.2.2.1) (by rw [List.length_insertIdx_of_le_length hpos]; omega) (by rw [HJ.out.2.2.1, HS.out]) H7.out.1 H7.out.2, by simp [intOf]; omega⟩
        | true =>
          have hip := itemPos_lt hhas
          obtain ⟨gl, cpl, hvl, hg0, hgl⟩ := H6.out.1.form (by omega)
          simp only [Value.slice.injEq, true_and] at hvl
          obtain ⟨hvl1, hvl2⟩ := hvl
          subst hvl1
          subst hvl2
          cases hch : chs with
          | false =>
            subst hch
            have HS := Lib.hid (show applyOne lj ⟨ck, false, cv⟩ = lj.eraseIdx (itemPos lj ck) by simp [applyOne, hhas])
            clear hhas
            generalize itemPos lj ck = ip at *
            go_wp2_with (fail)
            go_at_call 79
            refine (delItem_any w6 w3.heap.size gl cl ip lj H6.out.1 HJ.out.2.1 hip (by omega)).mono ?_
            rintro e w7 ⟨rfl, hown7, hg7⟩
            have hel : (lj.eraseIdx ip).length = lj.length - 1 := by rw [List.length_eraseIdx, if_pos hip]
            have H7 := Lib.hid (And.intro (show w7.ownsRow w3.heap.size 32 2 (.slice (some ⟨gl, 0, none⟩) (lj.length - 1) cl) (lj.eraseIdx ip).length ((lj.eraseIdx ip).flatMap itemE.enc) by rw [hel]; exact hown7) (H6.out.2.grown hg7 H6.out.2.size (fun k hk => by have h9 : gl = k := Option.some.inj hk; omega)))
            have HEL := Lib.hid hel
            clear hown7 hg7 hel
            go_wp2_with (fail)
            exact ⟨agRel_mk (j + 1) (lj.eraseIdx ip) (by omega) (by go_num) (erase_ok HJ.out.1 ip) (fun x hx => HJ.out.2.1 x ((List.eraseIdx_sublist lj ip).subset hx)) (by rw [HEL.out]; omega) (by rw [HJ.out.2.2.1, HS.out]) H7.out.1 H7.out.2, by simp [intOf]; omega⟩
          | true =>
            subst hch
            have hkey : lj[itemPos lj ck].key = ck := by
              have h9 := hhas
              unfold itemHas hasAt at h9
              rw [List.getElem?_eq_getElem hip] at h9
              exact (beqB_iff _ _).1 h9
            have HS := Lib.hid (show applyOne lj ⟨ck, true, cv⟩ = lj.set (itemPos lj ck) ⟨ck, cv⟩ by simp [applyOne, hhas])
            clear hhas
            generalize itemPos lj ck = ip at *
            have hset := set_row H6.out.1 HJ.out.2.1 hip cv
            rw [hkey] at hset
            have hcl := H6.out.1.cells (g := gl) rfl
            have hcell : w6.cell? ⟨gl, ip * 2 + 1, none⟩ = some (.string lj[ip].val) := by
              have hwt : ∀ y ∈ lj.take ip, itemE.wf y := fun y hy => HJ.out.2.1 y ((List.take_sublist _ _).subset hy)
              have htl : ((lj.take ip).flatMap itemE.enc).length = ip * 2 := by rw [flat_length itemE _ hwt, List.length_take, Nat.min_eq_left (by omega)]; rfl
              have h8 : lj.flatMap itemE.enc = (lj.take ip).flatMap itemE.enc ++ ([Value.string lj[ip].key, .string lj[ip].val] ++ (lj.drop (ip + 1)).flatMap itemE.enc) := by
                conv => lhs; rw [← List.take_append_drop ip lj, List.drop_eq_getElem_cons hip, List.flatMap_append, List.flatMap_cons]
                rfl
              have := hcl (ip * 2 + 1) (.string lj[ip].val) (by rw [h8, List.getElem?_append_right (by omega), htl, show ip * 2 + 1 - ip * 2 = 1 by omega]; rfl)
              rw [add_at, Nat.zero_add] at this
              exact this
            have hfro : w6.frozen? ⟨gl, ip * 2 + 1, none⟩ = false := by
              rcases H6.out.1.2 with ⟨h0, _⟩ | ⟨g', cp', cur', h0, _, h3, _⟩
              · cases h0
              · simp only [Value.slice.injEq, Option.some.injEq, Addr.mk.injEq, and_true, true_and] at h0
                obtain ⟨rfl, rfl⟩ := h0
                exact frozen_of_row _ _ _ _ _ h3
            generalize lj[ip].val = ov at *
            have hgk : gl ≠ wr.heap.size := by
              intro e
              have h9 := H6.out.1.2
              rcases h9 with ⟨h0, _⟩ | ⟨g', cp', cur', h0, _, h3, _⟩
              · cases h0
              · simp only [Value.slice.injEq, Option.some.injEq, Addr.mk.injEq, and_true, true_and] at h0
                obtain ⟨rfl, rfl⟩ := h0
                have hlt9 := HJ.out.2.2.2.1.lt gl (by rfl)
                omega
            have H7 := Lib.hid (And.intro hset.1 (H6.out.2.grown hset.2 H6.out.2.size (fun k hk => by have h9 : gl = k := Option.some.inj hk; omega)))
            clear hset hcl hkey
            go_wp2_with (fail)
            exact ⟨agRel_mk (j + 1) (lj.set ip ⟨ck, cv⟩) (by omega) (by go_num) (by rw [← HS.out]; exact HJ.out.2.2.2.2.2.2.1) (by rw [← HS.out]; exact HJ.out.2.2.2.2.2.2.2.1) (by rw [List.length_set]; omega) (by rw [HJ.out.2.2.1, HS.out]) H7.out.1 H7.out.2, by simp [intOf]; omega⟩
      · obtain rfl : j = cs.length := by omega
        rw [List.drop_length, List.foldl_nil] at hLj
        have HE := Lib.hid (And.intro hLj (And.intro hown (And.intro hbl hwfj)))
        clear hLj hown hbl hwfj hokj
        go_wp2_with (fail)
        go_ret2
        refine ⟨u0, by rw [HA.out.1]; rfl, ?_, HB3.out.trans (HE.out.2.2.1.mono HB3.out.size)⟩
        rw [HA.out.1]
        simp only
        rw [HE.out.1]
        exact own_sl (E := itemE) HE.out.2.1 rfl HE.out.2.2.2
end Go.Proofs.YthhmcjojnbaiiaaGreatDoor

/- Grow: Change, of whatever changes (the walk as in Cg). -/
namespace Go.Proofs.YthhmcjojnbaiiaaGreatDoor
open Go Go.RowKit
set_option maxRecDepth 100000 in
set_option maxHeartbeats 2000000 in
theorem changeG_any (K : Nat) (hS : SortOk K) (hC : CompactOk K) (w : World) (v vc : Value) (h : Hp) (root : Int) (cs : List Change) (hv : HeapV w v h) (hvc : Sl changeE w vc cs) (hmax : h.cells.length ≤ 1073741824) (hr : ReadOk K h root) (hal : (allS h root).length ≤ 1073741824) (hc : cs.length ≤ 1073741824) (hsum : (allS h root).length + cs.length ≤ 1073741824) (hml : (applyS (allS h root) cs).1.length ≤ 4194304) :
    Calls Tryz.prog 31 #[v, .int .u32 root, vc] w fun e w' => ChangePost w h root cs e w' := by
  have HVV := Lib.hid hv
  obtain ⟨cv, rfl, hsl, hsz⟩ := hv
  obtain ⟨C, cn, cc, rfl⟩ := sl_slice hsl
  have HVC := Lib.hid hvc
  obtain ⟨A2, n2, c2, rfl⟩ := sl_slice hvc
  clear hsl hvc
  have HRK := Lib.hid hr
  clear hr
  obtain ⟨kz, hkz⟩ : ∃ kz, kidA noKid = kz := ⟨_, rfl⟩
  obtain ⟨W0, hW0⟩ : ∃ W0, W0 = ((w.alloc (.cells #[.int .u32 h.size, .slice C cn cc] 25)).alloc (.cells #[.int .u32 0, .slice none 0 0] 25)).alloc (.cells kz 58) := ⟨_, rfl⟩
  have hbA := below_box w (.cells #[.int .u32 h.size, .slice C cn cc] 25)
  have hbB := hbA.alloc (by simp) (.cells #[.int .u32 0, .slice none 0 0] 25)
  have hO0 : Outs w W0 (w.heap.size + 1) (w.heap.size + 2) #[.int .u32 0, .slice none 0 0] kz := by
    refine ⟨by rw [hW0]; exact hbB.alloc (by simp; omega) _, ?_, ?_⟩
    · rw [hW0, Lib.alloc_old _ _ _ (by simp)]
      have := heap_alloc_new (w.alloc (.cells #[.int .u32 h.size, .slice C cn cc] 25)) (.cells #[.int .u32 0, .slice none 0 0] 25)
      simpa using this
    · rw [hW0]
      have := heap_alloc_new ((w.alloc (.cells #[.int .u32 h.size, .slice C cn cc] 25)).alloc (.cells #[.int .u32 0, .slice none 0 0] 25)) (.cells kz 58)
      simpa using this
  have hin : W0.heap[w.heap.size]? = some (.cells #[.int .u32 h.size, .slice C cn cc] 25 (0, 0)) := by
    rw [hW0, Lib.alloc_old _ _ _ (by simp; omega), Lib.alloc_old _ _ _ (by simp)]; exact heap_alloc_new _ _
  have HKZ := Lib.hid hkz
  have HW0 := Lib.hid hW0
  have HO := Lib.hid (And.intro hO0 hin)
  have hinl := lt_of_block hin
  clear hbA hbB hO0 hW0
  rw [← hkz, kidA_zero] at HW0
  clear hkz
  have i0 : W0.cell? ⟨w.heap.size, 0, none⟩ = some (.int .u32 h.size) := by rw [cell_of_row _ _ _ _ _ _ hin]; rfl
  have i1 : W0.cell? ⟨w.heap.size, 1, none⟩ = some (.slice C cn cc) := by rw [cell_of_row _ _ _ _ _ _ hin]; rfl
  have g1 := kidE.one _ noKid_wf
  have g2 := kid_len _ noKid_wf
  have g3 := kidE.len _ noKid_wf
  have HX := Lib.hid (And.intro g3 (show (kidE.enc noKid).toArray = kz from HKZ.out))
  clear hin g3
  generalize hkw : kidE.enc noKid = kw at *
  clear hkw
  go_enter Tryz.func31, Tryz.ntmps31
  go_upto_region 1 with (fail)
  rw [← HW0.out]
  clear HW0
  go_wp2_with (fail)
  go_at_call 35
  refine (check_any W0 _ h (HVV.out.below HO.out.1.bl (Nat.le_refl _)) hmax).mono ?_
  rintro e w1 ⟨rfl, hb1⟩
  have hO1 := HO.out.1.pure hb1
  have hin1 := (hb1.block _ hinl).trans HO.out.2
  have H1 := Lib.hid (And.intro hO1 hin1)
  have j0 : w1.cell? ⟨w.heap.size, 0, none⟩ = some (.int .u32 h.size) := by rw [cell_of_row _ _ _ _ _ _ hin1]; rfl
  have j1 : w1.cell? ⟨w.heap.size, 1, none⟩ = some (.slice C cn cc) := by rw [cell_of_row _ _ _ _ _ _ hin1]; rfl
  have hin1l := lt_of_block hin1
  clear hb1 hO1 hin1 i0 i1
  cases ho : openB h with
  | false =>
    rw [show chkE h = 7 by unfold chkE; rw [ho]; rfl]
    have HB := Lib.hid (show changeS h root cs = (⟨0, []⟩, noKid, 7) by unfold changeS; rw [if_pos ho])
    clear ho
    have HO2 := Lib.hid (H1.out.1.heap rfl (by omega) (by omega) (.int .u32 0) (.slice none 0 0))
    have HO3 := Lib.hid (HO2.out.1.kid (by rw [← HKZ.out]; exact kidA_size noKid_wf) (by omega) (by omega) kw HX.out.1)
    go_wp2_with (first
      | ((with_reducible refine probe_build 25 ?_); refine wpList_build_cells rfl 25 _ rfl [] rfl _ built_heap0 ?_)
      | ((with_reducible refine probe_build 58 ?_); refine wpList_build_cells rfl 58 _ rfl [] rfl kz (by rw [← HKZ.out]; exact built_kid0') ?_)
      | ((with_reducible refine probe_storeT 25 ?_); refine wpList_store_at rfl 25 (.tmp 6) _ rfl (w.heap.size + 1) 0 rfl [.int .u32 0, .slice none 0 0] rfl 25 _ H1.out.1.hh (by simp) (by intro v hv; simp at hv; rcases hv with rfl | rfl <;> rfl) heap_size ?_)
      | ((with_reducible refine probe_storeT 58 ?_); refine wpList_store_at rfl 58 (.tmp 7) _ rfl (w.heap.size + 2) 0 rfl kw (by rw [HX.out.2]; rfl) 58 kz HO2.out.1.kk (by rw [← HKZ.out, kidA_size noKid_wf, HX.out.1]; decide) g1 g2 ?_))
    refine bodyPost_ret (results_hke rfl _ (w.heap.size + 1) (w.heap.size + 2) _ _ (0, 0) (0, 0) _ rfl rfl HO3.out.1.hh rfl HO3.out.1.kk (by rw [List.size_toArray]; exact HX.out.1)) rfl ⟨.agg #[.int .u32 0, .slice none 0 0], ?_, ?_, ?_, HO3.out.1.bl⟩
    · rw [HB.out, HX.out.2, ← HKZ.out]; rfl
    · rw [HB.out]; exact ⟨_, rfl, Sl.nil _, by unfold u32Ok; simp⟩
    · rw [HB.out]; exact noKid_wf
  | true =>
    rw [show chkE h = 0 by unfold chkE; rw [ho]; rfl]
    have HOB := Lib.hid ho
    clear ho
    go_wp2_with (fail)
    go_at_call 15
    refine (tall_any K hS hC w1 _ h root (HVV.out.below H1.out.1.bl (Nat.le_refl _)) hmax HRK.out).mono ?_
    rintro e w2 ⟨rl, rfl, hsl2, hb2⟩
    have hO2 := H1.out.1.pure hb2
    have hin2 := (hb2.block _ hin1l).trans H1.out.2
    have H2 := Lib.hid (And.intro hO2 (And.intro hin2 hsl2))
    have k0 : w2.cell? ⟨w.heap.size, 0, none⟩ = some (.int .u32 h.size) := by rw [cell_of_row _ _ _ _ _ _ hin2]; rfl
    have k1 : w2.cell? ⟨w.heap.size, 1, none⟩ = some (.slice C cn cc) := by rw [cell_of_row _ _ _ _ _ _ hin2]; rfl
    have hin2l := lt_of_block hin2
    obtain ⟨Al, nl, cl, rfl⟩ := sl_slice hsl2
    clear hb2 hO2 hin2 j0 j1 hsl2
    by_cases hte : topenE h root = 0
    · rw [hte]
      have HTE := Lib.hid hte
      clear hte
      go_wp2_with (fail)
      go_at_call 50
      refine (applyG_any w2 _ _ (allS h root) cs H2.out.2.2 (HVC.out.below H2.out.1.bl (Nat.le_refl _)) hal hc hsum).mono ?_
      rintro e w3 ⟨ra, rfl, hsl3, hb3⟩
      obtain ⟨X, hX⟩ : ∃ X, applyS (allS h root) cs = X := ⟨_, rfl⟩
      rw [hX] at hsl3 hml ⊢
      obtain ⟨La, ea⟩ := X
      simp only at hsl3 hml ⊢
      have hO3 := H2.out.1.pure hb3
      have hin3 := (hb3.block _ hin2l).trans H2.out.2.1
      have H3 := Lib.hid (And.intro hO3 (And.intro hin3 (And.intro hsl3 hX)))
      have l0 : w3.cell? ⟨w.heap.size, 0, none⟩ = some (.int .u32 h.size) := by rw [cell_of_row _ _ _ _ _ _ hin3]; rfl
      have l1 : w3.cell? ⟨w.heap.size, 1, none⟩ = some (.slice C cn cc) := by rw [cell_of_row _ _ _ _ _ _ hin3]; rfl
      obtain ⟨A3, n3, c3, rfl⟩ := sl_slice hsl3
      clear hb3 hO3 hin3 hsl3 hX k0 k1
      by_cases hea : ea = 0
      · subst hea
        have HB := Lib.hid (show changeS h root cs = buildS h La by unfold changeS; rw [if_neg (by rw [HOB.out]; simp), if_neg (by rw [HTE.out]; simp), H3.out.2.2.2, if_neg (by simp)])
        go_wp2_with (fail)
        go_at_call 34
        refine (build_any w3 _ _ h La (HVV.out.below H3.out.1.bl (Nat.le_refl _)) H3.out.2.2.1 hmax hml).mono ?_
        rintro e w4 ⟨r, rfl, hr4, hkw4, hb4⟩
        obtain ⟨cr, rfl, hslr, hsz4⟩ := hr4
        obtain ⟨Cr, nr, ccr, rfl⟩ := sl_slice hslr
        obtain ⟨Y, hY⟩ : ∃ Y, buildS h La = Y := ⟨_, rfl⟩
        rw [hY] at hslr hkw4 hsz4 HB ⊢
        obtain ⟨hY1, kY, eY⟩ := Y
        simp only at hslr hkw4 hsz4 ⊢
        have q1 := kidE.one _ hkw4
        have q2 := kid_len _ hkw4
        have q3 := kidE.len _ hkw4
        have hO4 := H3.out.1.pure hb4
        have HO2 := Lib.hid (hO4.heap rfl (by omega) (by omega) (.int .u32 hY1.size) (.slice Cr nr ccr))
        have HO3 := Lib.hid (HO2.out.1.kid (by rw [← HKZ.out]; exact kidA_size noKid_wf) (by omega) (by omega) (kidE.enc kY) q3)
        have HSL := Lib.hid (sl_cel_off HO2.out.1.kk (by rw [← HKZ.out]; exact kid_noPair noKid) HO3.out.2 (sl_cel_off hO4.hh (heap_noPair _ _ ⟨_, _, _, rfl⟩) HO2.out.2 hslr))
        have HO1 := Lib.hid hO4
        have HQ := Lib.hid (And.intro q3 (And.intro (show (kidE.enc kY).toArray = kidA kY from rfl) (And.intro hkw4 hsz4)))
        clear hO4 hb4 hslr hY q3 hkw4 hsz4
        generalize hkv : kidE.enc kY = kv at *
        generalize hkav : kidA kY = ka at *
        have HKA := Lib.hid (And.intro hkv hkav)
        clear hkv hkav
        go_wp2_with (first
          | ((with_reducible refine probe_storeT 25 ?_); refine wpList_store_at rfl 25 (.tmp 6) _ rfl (w.heap.size + 1) 0 rfl [.int .u32 hY1.size, .slice Cr nr ccr] rfl 25 _ HO1.out.hh (by simp) (by intro v hv; simp at hv; rcases hv with rfl | rfl <;> rfl) heap_size ?_)
          | ((with_reducible refine probe_storeT 58 ?_); refine wpList_store_at rfl 58 (.tmp 7) _ rfl (w.heap.size + 2) 0 rfl kv (by rw [HQ.out.2.1]; rfl) 58 kz HO2.out.1.kk (by rw [← HKZ.out, kidA_size noKid_wf, HQ.out.1]; decide) q1 q2 ?_))
        refine bodyPost_ret (results_hke rfl _ (w.heap.size + 1) (w.heap.size + 2) _ _ (0, 0) (0, 0) _ rfl rfl HO3.out.1.hh rfl HO3.out.1.kk (by rw [List.size_toArray]; exact HQ.out.1)) rfl ⟨.agg #[.int .u32 hY1.size, .slice Cr nr ccr], ?_, ?_, ?_, HO3.out.1.bl⟩
        · rw [HB.out, HQ.out.2.1, ← HKA.out.2]; rfl
        · rw [HB.out]; exact ⟨_, rfl, HSL.out, HQ.out.2.2.2⟩
        · rw [HB.out]; exact HQ.out.2.2.1
      · have hq : (ea != 0) = true := by simpa using hea
        have HB := Lib.hid (show changeS h root cs = (h, noKid, ea) by unfold changeS; rw [if_neg (by rw [HOB.out]; simp), if_neg (by rw [HTE.out]; simp), H3.out.2.2.2, if_pos hea])
        have HOX := Lib.hid H3.out.1
        clear hea
        go_wp2_with (fail)
        go_at_call 51
        refine (own_any _ _ h (HVV.out.below HOX.out.bl (Nat.le_refl _)) hmax).mono ?_
        rintro e wo ⟨r, rfl, hr, hbo⟩
        obtain ⟨cr, rfl, hslr, _⟩ := hr
        obtain ⟨Cr, nr, ccr, rfl⟩ := sl_slice hslr
        have hOo := HOX.out.pure hbo
        have HO2 := Lib.hid (hOo.heap rfl (by omega) (by omega) (.int .u32 h.size) (.slice Cr nr ccr))
        have HO3 := Lib.hid (HO2.out.1.kid (by rw [← HKZ.out]; exact kidA_size noKid_wf) (by omega) (by omega) kw HX.out.1)
        have HSL := Lib.hid (sl_cel_off HO2.out.1.kk (by rw [← HKZ.out]; exact kid_noPair noKid) HO3.out.2 (sl_cel_off hOo.hh (heap_noPair _ _ ⟨_, _, _, rfl⟩) HO2.out.2 hslr))
        have HO1 := Lib.hid hOo
        clear hOo hbo hslr
        go_wp2_with (first
          | ((with_reducible refine probe_build 58 ?_); refine wpList_build_cells rfl 58 _ rfl [] rfl kz (by rw [← HKZ.out]; exact built_kid0') ?_)
          | ((with_reducible refine probe_storeT 25 ?_); refine wpList_store_at rfl 25 (.tmp 6) _ rfl (w.heap.size + 1) 0 rfl [.int .u32 h.size, .slice Cr nr ccr] rfl 25 _ HO1.out.hh (by simp) (by intro v hv; simp at hv; rcases hv with rfl | rfl <;> rfl) heap_size ?_)
          | ((with_reducible refine probe_storeT 58 ?_); refine wpList_store_at rfl 58 (.tmp 7) _ rfl (w.heap.size + 2) 0 rfl kw (by rw [HX.out.2]; rfl) 58 kz HO2.out.1.kk (by rw [← HKZ.out, kidA_size noKid_wf, HX.out.1]; decide) g1 g2 ?_))
        refine bodyPost_ret (results_hke rfl _ (w.heap.size + 1) (w.heap.size + 2) _ _ (0, 0) (0, 0) _ rfl rfl HO3.out.1.hh rfl HO3.out.1.kk (by rw [List.size_toArray]; exact HX.out.1)) rfl ⟨.agg #[.int .u32 h.size, .slice Cr nr ccr], ?_, ?_, ?_, HO3.out.1.bl⟩
        · rw [HB.out, HX.out.2, ← HKZ.out]; rfl
        · rw [HB.out]; exact ⟨_, rfl, HSL.out, hsz⟩
        · rw [HB.out]; exact noKid_wf
    · have HB := Lib.hid (show changeS h root cs = (h, noKid, topenE h root) by unfold changeS; rw [if_neg (by rw [HOB.out]; simp), if_pos hte])
      have hq : (topenE h root != 0) = true := by simpa using hte
      have hq2 : (topenE h root == 0) = false := by simpa using hte
      have HOX := Lib.hid H2.out.1
      clear hte
      generalize topenE h root = te at *
      go_wp2_with (fail)
      go_at_call 51
      refine (own_any _ _ h (HVV.out.below HOX.out.bl (Nat.le_refl _)) hmax).mono ?_
      rintro e wo ⟨r, rfl, hr, hbo⟩
      obtain ⟨cr, rfl, hslr, _⟩ := hr
      obtain ⟨Cr, nr, ccr, rfl⟩ := sl_slice hslr
      have hOo := HOX.out.pure hbo
      have HO2 := Lib.hid (hOo.heap rfl (by omega) (by omega) (.int .u32 h.size) (.slice Cr nr ccr))
      have HO3 := Lib.hid (HO2.out.1.kid (by rw [← HKZ.out]; exact kidA_size noKid_wf) (by omega) (by omega) kw HX.out.1)
      have HSL := Lib.hid (sl_cel_off HO2.out.1.kk (by rw [← HKZ.out]; exact kid_noPair noKid) HO3.out.2 (sl_cel_off hOo.hh (heap_noPair _ _ ⟨_, _, _, rfl⟩) HO2.out.2 hslr))
      have HO1 := Lib.hid hOo
      clear hOo hbo hslr
      go_wp2_with (first
        | ((with_reducible refine probe_build 58 ?_); refine wpList_build_cells rfl 58 _ rfl [] rfl kz (by rw [← HKZ.out]; exact built_kid0') ?_)
        | ((with_reducible refine probe_storeT 25 ?_); refine wpList_store_at rfl 25 (.tmp 6) _ rfl (w.heap.size + 1) 0 rfl [.int .u32 h.size, .slice Cr nr ccr] rfl 25 _ HO1.out.hh (by simp) (by intro v hv; simp at hv; rcases hv with rfl | rfl <;> rfl) heap_size ?_)
        | ((with_reducible refine probe_storeT 58 ?_); refine wpList_store_at rfl 58 (.tmp 7) _ rfl (w.heap.size + 2) 0 rfl kw (by rw [HX.out.2]; rfl) 58 kz HO2.out.1.kk (by rw [← HKZ.out, kidA_size noKid_wf, HX.out.1]; decide) g1 g2 ?_))
      refine bodyPost_ret (results_hke rfl _ (w.heap.size + 1) (w.heap.size + 2) _ _ (0, 0) (0, 0) _ rfl rfl HO3.out.1.hh rfl HO3.out.1.kk (by rw [List.size_toArray]; exact HX.out.1)) rfl ⟨.agg #[.int .u32 h.size, .slice Cr nr ccr], ?_, ?_, ?_, HO3.out.1.bl⟩
      · rw [HB.out, HX.out.2, ← HKZ.out]; rfl
      · rw [HB.out]; exact ⟨_, rfl, HSL.out, hsz⟩
      · rw [HB.out]; exact noKid_wf
end Go.Proofs.YthhmcjojnbaiiaaGreatDoor

/- GrowOne: the walk. -/
namespace Go.Proofs.YthhmcjojnbaiiaaGreatDoor
open Go Go.RowKit
theorem box_old {w4 : World} {hb : Nat} {o x : Obj} (h : w4.heap[hb]? = some x) : (w4.alloc o).heap[hb]? = some x := by
  have hlt : hb < w4.heap.size := by
    rcases Nat.lt_or_ge hb w4.heap.size with hl | hl
    · exact hl
    · rw [Array.getElem?_eq_none hl] at h; cases h
  rw [Lib.alloc_old _ _ _ hlt]; exact h
theorem kid_box {w4 : World} {hb : Nat} {cs r : Array Value} {t : TypeId} (hlt : hb < w4.heap.size) : ((w4.alloc (.cells cs t)).setRow hb r).heap[w4.heap.size]? = some (.cells cs t (0, 0)) :=
  (heap_setRow_other _ _ _ _ (by omega)).trans (heap_alloc_new w4 _)
theorem heap_all (n : Int) (A : Option Addr) (l c : Nat) : (#[Value.int .u32 n, .slice A l c] : Array Value).all (·.oneCell') = true := by
  simp [Value.oneCell']
/-- A heap put into its box, a kid into a new one. -/
structure BoxOk (w w4 W : World) (hb : Nat) (hv ka : Array Value) : Prop where
  hh : W.heap[hb]? = some (.cells hv 25 (0, 0))
  kk : W.heap[w4.heap.size]? = some (.cells ka 58 (0, 0))
  bl : Below w.heap.size w W
  old : ∀ g, g < w4.heap.size → g ≠ hb → W.heap[g]? = w4.heap[g]?
  sl : ∀ v xs, Sl celE w4 v xs → Sl celE W v xs
theorem box_step {w w4 : World} {hb : Nat} {a0 a1 : Int} {C0 C1 : Option Addr} {m0 d0 m1 d1 : Nat} (ka : Array Value) (hbl : Below w.heap.size w w4) (hhb : w.heap.size ≤ hb) (hh : w4.heap[hb]? = some (.cells #[.int .u32 a0, .slice C0 m0 d0] 25 (0, 0))) :
    BoxOk w w4 (((w4.alloc (.cells (kidA noKid) 58)).setRow hb #[.int .u32 a1, .slice C1 m1 d1]).setRow w4.heap.size ka) hb #[.int .u32 a1, .slice C1 m1 d1] ka := by
  have hlt := lt_of_block hh
  have hA := box_old (o := .cells (kidA noKid) 58) hh
  have hk := kid_box (cs := kidA noKid) (t := 58) (r := #[.int .u32 a1, .slice C1 m1 d1]) hlt
  have g1 : (w4.alloc (.cells (kidA noKid) 58)).grownBy ((w4.alloc (.cells (kidA noKid) 58)).setRow hb #[.int .u32 a1, .slice C1 m1 d1]) (some hb) :=
    ⟨rfl, rfl, rfl, by simp [World.setRow], fun k _ hk => heap_setRow_other _ _ _ _ (by simpa using hk)⟩
  have g2 : ((w4.alloc (.cells (kidA noKid) 58)).setRow hb #[.int .u32 a1, .slice C1 m1 d1]).grownBy (((w4.alloc (.cells (kidA noKid) 58)).setRow hb #[.int .u32 a1, .slice C1 m1 d1]).setRow w4.heap.size ka) (some w4.heap.size) :=
    ⟨rfl, rfl, rfl, by simp [World.setRow], fun k _ hk => heap_setRow_other _ _ _ _ (by simpa using hk)⟩
  have hs := hbl.size
  refine ⟨(heap_setRow_other _ _ _ _ (by omega)).trans (heap_setRow_same _ _ _ _ _ hA), heap_setRow_same _ _ _ _ _ hk, ?_, ?_, ?_⟩
  · refine hbl.trans ⟨rfl, rfl, rfl, by simp [World.setRow], fun k hk => ?_⟩
    rw [heap_setRow_other _ _ _ _ (by omega), heap_setRow_other _ _ _ _ (by omega), Lib.alloc_old _ _ _ (by omega)]
  · intro g hg hne
    rw [heap_setRow_other _ _ _ _ (by omega), heap_setRow_other _ _ _ _ hne, Lib.alloc_old _ _ _ hg]
  · intro v xs hsl
    exact sl_cel_off hk (kid_noPair noKid) g2 (sl_cel_off hA (heap_noPair _ _ ⟨_, _, _, rfl⟩) g1 (hsl.below (below_box w4 _) (Nat.le_refl _)))
set_option maxRecDepth 100000 in
set_option maxHeartbeats 4000000 in
theorem growOne_any (w : World) (v va vb : Value) (h : Hp) (a b : List Item) (hv : HeapV w v h) (hva : Sl itemE w va a) (hvb : Sl itemE w vb b) (hmax : h.cells.length ≤ 1073741824) (hma : a.length ≤ 4194304) (hmb : b.length ≤ 4194304) :
    Calls Tryz.prog 12 #[v, va, vb] w fun e w' => e = .returned (.bool true) ∧ Below w.heap.size w w' := by
  have HVV := Lib.hid hv
  obtain ⟨cv, rfl, hsl, hsz⟩ := hv
  obtain ⟨C, cn, cc, rfl⟩ := sl_slice hsl
  have HVA := Lib.hid hva
  obtain ⟨A, ma, ca, rfl⟩ := sl_slice hva
  have HVB := Lib.hid hvb
  obtain ⟨Ab, mb, cb, rfl⟩ := sl_slice hvb
  have hbx := heap_alloc_new w (.cells #[.int .u32 h.size, .slice C cn cc] 25)
  have hbb := below_box w (.cells #[.int .u32 h.size, .slice C cn cc] 25)
  have hla := lt_of_block hbx
  have HA := Lib.hid (And.intro hbb hbx)
  clear hsl hva hvb hbx hbb
  go_enter Tryz.func12, Tryz.ntmps12
  go_upto_region 1 with (fail)
  generalize w.alloc (.cells #[.int .u32 h.size, .slice C cn cc] 25) = wa at *
  go_wp2_with (fail)
  go_at_call 30
  refine (lives_any wa).mono ?_
  rintro e w1 ⟨rfl, hb1⟩
  have hx1 := (hb1.block _ hla).trans HA.out.2
  have b0 : w1.cell? ⟨w.heap.size, 0, none⟩ = some (.int .u32 h.size) := by rw [cell_of_row _ _ _ _ _ _ hx1]; rfl
  have b1 : w1.cell? ⟨w.heap.size, 1, none⟩ = some (.slice C cn cc) := by rw [cell_of_row _ _ _ _ _ _ hx1]; rfl
  have hlb : w.heap.size < w1.heap.size := Nat.lt_of_lt_of_le hla hb1.size
  have H1 := Lib.hid (And.intro (HA.out.1.trans (hb1.mono HA.out.1.size)) hx1)
  clear hb1 hx1
  go_wp2_with (fail)
  go_at_call 34
  refine (build_any w1 _ _ h a (HVV.out.below H1.out.1 (Nat.le_refl _)) (HVA.out.below H1.out.1 (Nat.le_refl _)) hmax hma).mono ?_
  rintro e w4 ⟨r4, rfl, hr4, hk4, hb4⟩
  have hlaw := one_law h a b (by omega) (by omega)
  have hbad := one_bad h a b (by omega) (by omega)
  have hlen1 := build_len h a hmax
  generalize buildS h a = B at *
  obtain ⟨hB, kB, eB⟩ := B
  simp only at hlaw hbad hr4 hk4 hlen1 ⊢
  obtain ⟨cB, rfl, hcB, huB⟩ := hr4
  obtain ⟨CB, mB, dB, rfl⟩ := sl_slice hcB
  have hnum : (kidA kB)[1]? = some (.int .u32 kB.num) := rfl
  have hs4 := kidA_size hk4
  have ha4 := kidA_all hk4
  have hl4 := hk4.2.2.1
  have HQ1 := Lib.hid (fun W => kid_eq_refl kB hl4 W)
  generalize hka1 : kidA kB = ka1 at *
  have KA1 := Lib.hid (And.intro hs4 (And.intro ha4 (And.intro hnum hka1)))
  have HLAW := Lib.hid (And.intro hlaw (And.intro hbad hlen1))
  have hx4 := (hb4.block _ hlb).trans H1.out.2
  have hlb4 : w.heap.size < w4.heap.size := Nat.lt_of_lt_of_le hlb hb4.size
  have H4 := Lib.hid (And.intro hcB (And.intro huB (And.intro (H1.out.1.trans (hb4.mono H1.out.1.size)) hx4)))
  clear hs4 ha4 hk4 hl4 hlaw hbad hlen1 hcB huB hb4 b0 b1 hnum hka1 hx4
  go_upto_region 4 with (first
    | ((with_reducible refine probe_storeT 25 ?_); (refine wpList_store_row rfl 25 (.tmp 3) _ rfl w.heap.size #[.int .u32 hB.size, .slice CB mB dB] rfl rfl 25 _ (box_old H4.out.2.2.2) (by rw [heap_size]; rfl) rfl (heap_all _ _ _ _) ?_))
    | ((with_reducible refine probe_storeT 58 ?_); (refine wpList_store_row rfl 58 (.tmp 7) _ rfl w4.heap.size ka1 rfl rfl 58 _ (kid_box hlb4) (by rw [kid_size, KA1.out.1]) (by rw [KA1.out.1]; rfl) KA1.out.2.1 ?_)))
  obtain ⟨w5, hw5⟩ : ∃ w5, w5 = ((w4.alloc (.cells (kidA noKid) 58)).setRow w.heap.size #[.int .u32 hB.size, .slice CB mB dB]).setRow w4.heap.size ka1 := ⟨_, rfl⟩
  have hbo5 := box_step (w := w) (w4 := w4) (a1 := hB.size) (C1 := CB) (m1 := mB) (d1 := dB) ka1 H4.out.2.2.1 (Nat.le_refl _) H4.out.2.2.2
  rw [← hw5] at hbo5
  rw [kidA_zero] at hw5
  rw [← hw5]
  clear hw5
  have f0 : w5.cell? ⟨w.heap.size, 0, none⟩ = some (.int .u32 hB.size) := by rw [cell_of_row _ _ _ _ _ _ hbo5.hh]; rfl
  have f1 : w5.cell? ⟨w.heap.size, 1, none⟩ = some (.slice CB mB dB) := by rw [cell_of_row _ _ _ _ _ _ hbo5.hh]; rfl
  have hl5 := lt_of_block hbo5.hh
  have hl5k := lt_of_block hbo5.kk
  have H5 := Lib.hid (And.intro (show HeapV w5 (.agg #[.int .u32 hB.size, .slice CB mB dB]) hB from ⟨_, rfl, hbo5.sl _ _ H4.out.1, H4.out.2.1⟩) (And.intro hbo5.bl (And.intro hbo5.hh hbo5.kk)))
  clear hbo5
  go_wp2_with (fail)
  go_at_call 34
  refine (build_any w5 _ _ hB b H5.out.1 (HVB.out.below H5.out.2.1 (Nat.le_refl _)) HLAW.out.2.2 hmb).mono ?_
  rintro e w6 ⟨r6, rfl, hr6, hk6, hb6⟩
  have hlaw := HLAW.out.1
  have hbad := HLAW.out.2.1
  have hlen2 := build_len hB b HLAW.out.2.2
  clear HLAW
  generalize buildS hB b = B2 at *
  obtain ⟨hB2, kB2, eB2⟩ := B2
  simp only at hlaw hbad hr6 hk6 hlen2 ⊢
  obtain ⟨cB2, rfl, hcB2, huB2⟩ := hr6
  obtain ⟨CB2, mB2, dB2, rfl⟩ := sl_slice hcB2
  have hnum : (kidA kB2)[1]? = some (.int .u32 kB2.num) := rfl
  have hs6 := kidA_size hk6
  have ha6 := kidA_all hk6
  have hl6 := hk6.2.2.1
  have HQ2 := Lib.hid (fun W => kid_eq_refl kB2 hl6 W)
  generalize hka2 : kidA kB2 = ka2 at *
  have KA2 := Lib.hid (And.intro hs6 (And.intro ha6 (And.intro hnum hka2)))
  have HLAW := Lib.hid (And.intro hlaw (And.intro hbad hlen2))
  have hx6 := (hb6.block _ hl5).trans H5.out.2.2.1
  have hy6 := (hb6.block _ hl5k).trans H5.out.2.2.2
  have hlb6 : w.heap.size < w6.heap.size := Nat.lt_of_lt_of_le hl5 hb6.size
  have hlk6 : w4.heap.size < w6.heap.size := Nat.lt_of_lt_of_le hl5k hb6.size
  have H6 := Lib.hid (And.intro hcB2 (And.intro huB2 (And.intro (H5.out.2.1.trans (hb6.mono H5.out.2.1.size)) (And.intro hx6 hy6))))
  clear hs6 ha6 hk6 hl6 hlaw hbad hlen2 hcB2 huB2 hb6 f0 f1 hnum hka2 hx6 hy6
  go_upto_region 5 with (first
    | ((with_reducible refine probe_storeT 25 ?_); (refine wpList_store_row rfl 25 (.tmp 3) _ rfl w.heap.size #[.int .u32 hB2.size, .slice CB2 mB2 dB2] rfl rfl 25 _ (box_old H6.out.2.2.2.1) (by rw [heap_size]; rfl) rfl (heap_all _ _ _ _) ?_))
    | ((with_reducible refine probe_storeT 58 ?_); (refine wpList_store_row rfl 58 (.tmp 9) _ rfl w6.heap.size ka2 rfl rfl 58 _ (kid_box hlb6) (by rw [kid_size, KA2.out.1]) (by rw [KA2.out.1]; rfl) KA2.out.2.1 ?_)))
  obtain ⟨w7, hw7⟩ : ∃ w7, w7 = ((w6.alloc (.cells (kidA noKid) 58)).setRow w.heap.size #[.int .u32 hB2.size, .slice CB2 mB2 dB2]).setRow w6.heap.size ka2 := ⟨_, rfl⟩
  have hbo7 := box_step (w := w) (w4 := w6) (a1 := hB2.size) (C1 := CB2) (m1 := mB2) (d1 := dB2) ka2 H6.out.2.2.1 (Nat.le_refl _) H6.out.2.2.2.1
  rw [← hw7] at hbo7
  rw [kidA_zero] at hw7
  rw [← hw7]
  clear hw7
  have hl7 := lt_of_block hbo7.hh
  have hl7k := lt_of_block hbo7.kk
  have hy7 := (hbo7.old w4.heap.size hlk6 (by omega)).trans H6.out.2.2.2.2
  have hl7j := lt_of_block hy7
  have H7 := Lib.hid (And.intro (show HeapV w7 (.agg #[.int .u32 hB2.size, .slice CB2 mB2 dB2]) hB2 from ⟨_, rfl, hbo7.sl _ _ H6.out.1, H6.out.2.1⟩) (And.intro hbo7.bl (And.intro hbo7.hh (And.intro hbo7.kk hy7))))
  clear hbo7 hy7
  go_wp2_with (fail)
  go_at_call 36
  refine (diff_any w7 _ _ a b (HVA.out.below H7.out.2.1 (Nat.le_refl _)) (HVB.out.below H7.out.2.1 (Nat.le_refl _)) (by omega)).mono ?_
  rintro e w8 ⟨r8, rfl, hr8, hb8⟩
  have hx8 := (hb8.block _ hl7).trans H7.out.2.2.1
  have hk8 := (hb8.block _ hl7k).trans H7.out.2.2.2.1
  have hj8 := (hb8.block _ hl7j).trans H7.out.2.2.2.2
  obtain ⟨A8, n8, c8, rfl⟩ := sl_slice hr8
  have H8 := Lib.hid (And.intro (H7.out.1.below hb8 (Nat.le_refl _)) (And.intro (H7.out.2.1.trans (hb8.mono H7.out.2.1.size)) (And.intro hx8 (And.intro hk8 (And.intro hj8 hr8)))))
  have hl8 := lt_of_block hx8
  have hl8k := lt_of_block hk8
  have hl8j := lt_of_block hj8
  clear hb8 hx8 hk8 hj8 hr8
  go_wp2_with (fail)
  go_at_call 36
  refine (diff_any w8 _ _ b a (HVB.out.below H8.out.2.1 (Nat.le_refl _)) (HVA.out.below H8.out.2.1 (Nat.le_refl _)) (by omega)).mono ?_
  rintro e w9 ⟨r9, rfl, hr9, hb9⟩
  have hx9 := (hb9.block _ hl8).trans H8.out.2.2.1
  have hk9 := (hb9.block _ hl8k).trans H8.out.2.2.2.1
  have hj9 := (hb9.block _ hl8j).trans H8.out.2.2.2.2.1
  obtain ⟨A9, n9, c9, rfl⟩ := sl_slice hr9
  have H9 := Lib.hid (And.intro (H8.out.1.below hb9 (Nat.le_refl _)) (And.intro (H8.out.2.1.trans (hb9.mono H8.out.2.1.size)) (And.intro hx9 (And.intro hk9 (And.intro hj9 (And.intro (H8.out.2.2.2.2.2.below hb9 (Nat.le_refl _)) hr9))))))
  have g0 : w9.cell? ⟨w.heap.size, 0, none⟩ = some (.int .u32 hB2.size) := by rw [cell_of_row _ _ _ _ _ _ hx9]; rfl
  have g1 : w9.cell? ⟨w.heap.size, 1, none⟩ = some (.slice CB2 mB2 dB2) := by rw [cell_of_row _ _ _ _ _ _ hx9]; rfl
  have g2 : w9.cell? ⟨w4.heap.size, 1, none⟩ = some (.int .u32 kB.num) := by rw [cell_of_row _ _ _ _ _ _ hj9]; exact KA1.out.2.2.1
  have hl9 := lt_of_block hx9
  have hl9k := lt_of_block hk9
  have hl9j := lt_of_block hj9
  clear hb9 hx9 hk9 hj9 hr9
  by_cases hok : eB = 0 ∧ eB2 = 0
  · obtain ⟨rfl, rfl⟩ := hok
    have OK := Lib.hid (HLAW.out.1 rfl rfl)
    have hlen2 := HLAW.out.2.2
    clear HLAW
    rw [OK.out.ea, OK.out.eb]
    go_wp2_with (fail)
    go_at_call 31
    refine (changeG_any 1073741824 sort_any compact_any w9 _ _ hB2 kB.num (diffS a b) H9.out.1 H9.out.2.2.2.2.2.1 hlen2 OK.out.ra.read (by rw [OK.out.ra.all]; omega) (by have := diffS_len a b; omega) (by rw [OK.out.ra.all]; have := diffS_len a b; omega) (by rw [OK.out.ta]; exact hmb)).mono ?_
    rintro e w10 ⟨r10, rfl, hr10, hk10, hb10⟩
    rw [OK.out.there] at hr10 hk10 ⊢
    simp only at hr10 hk10 ⊢
    rw [KA2.out.2.2.2]
    obtain ⟨c10, rfl, hc10, hu10⟩ := hr10
    obtain ⟨C10, m10, d10, rfl⟩ := sl_slice hc10
    have hx10 := (hb10.block _ hl9).trans H9.out.2.2.1
    have hk210 := (hb10.block _ hl9k).trans H9.out.2.2.2.1
    have hk110 := (hb10.block _ hl9j).trans H9.out.2.2.2.2.1
    have hm10 := lt_of_block hx10
    have hm10k := lt_of_block hk210
    have hm10j := lt_of_block hk110
    have H10 := Lib.hid (And.intro hc10 (And.intro hu10 (And.intro (H9.out.2.1.trans (hb10.mono H9.out.2.1.size)) (And.intro hx10 (And.intro hk210 (And.intro hk110 (And.intro (H9.out.1.below hb10 (Nat.le_refl _)) (H9.out.2.2.2.2.2.2.below hb10 (Nat.le_refl _)))))))))
    clear hc10 hu10 hk10 hb10 hx10 hk210 hk110 g0 g1 g2
    go_upto_region 10 with (
      ((with_reducible refine probe_storeT 58 ?_); (refine wpList_store_row rfl 58 (.tmp 16) _ rfl (w10.heap.size + 1) ka2 rfl rfl 58 _ (two_new w10 _ _ _ _) (by rw [kid_size, KA2.out.1]) (by rw [KA2.out.1]; rfl) KA2.out.2.1 ?_)))
    obtain ⟨w11, hw11⟩ : ∃ w11, w11 = ((w10.alloc (.cells #[.int .u32 hB2.size, .slice C10 m10 d10] 25)).alloc (.cells (kidA noKid) 58)).setRow (w10.heap.size + 1) ka2 := ⟨_, rfl⟩
    obtain ⟨hbw11, hhw11, hkw11⟩ := two_boxes (w1 := w10) (z2 := kidA noKid) (h := #[.int .u32 hB2.size, .slice C10 m10 d10]) (k := ka2)
    rw [← hw11] at hbw11 hhw11 hkw11
    rw [kidA_zero] at hw11
    rw [← hw11]
    clear hw11
    have i0 : w11.cell? ⟨w10.heap.size, 0, none⟩ = some (.int .u32 hB2.size) := by rw [cell_of_row _ _ _ _ _ _ hhw11]; rfl
    have i1 : w11.cell? ⟨w10.heap.size, 1, none⟩ = some (.slice C10 m10 d10) := by rw [cell_of_row _ _ _ _ _ _ hhw11]; rfl
    have i2 : w11.cell? ⟨w10.heap.size + 1, 1, none⟩ = some (.int .u32 kB2.num) := by rw [cell_of_row _ _ _ _ _ _ hkw11]; exact KA2.out.2.2.1
    have hx11 := (hbw11.block _ hm10).trans H10.out.2.2.2.1
    have hk211 := (hbw11.block _ hm10k).trans H10.out.2.2.2.2.1
    have hk111 := (hbw11.block _ hm10j).trans H10.out.2.2.2.2.2.1
    have hn11 := lt_of_block hx11
    have hn11k := lt_of_block hk211
    have hn11j := lt_of_block hk111
    have hn11h := lt_of_block hhw11
    have hn11z := lt_of_block hkw11
    have H11 := Lib.hid (And.intro (show HeapV w11 (.agg #[.int .u32 hB2.size, .slice C10 m10 d10]) hB2 from ⟨_, rfl, H10.out.1.below hbw11 (Nat.le_refl _), H10.out.2.1⟩) (And.intro (H10.out.2.2.1.trans (hbw11.mono H10.out.2.2.1.size)) (And.intro hx11 (And.intro hk211 (And.intro hk111 (And.intro (H10.out.2.2.2.2.2.2.1.below hbw11 (Nat.le_refl _)) (And.intro (H10.out.2.2.2.2.2.2.2.below hbw11 (Nat.le_refl _)) (And.intro hhw11 hkw11))))))))
    clear hbw11 hx11 hk211 hk111 hhw11 hkw11
    go_wp2_with (fail)
    go_at_call 31
    refine (changeG_any 1073741824 sort_any compact_any w11 _ _ hB2 kB2.num (diffS b a) H11.out.1 H11.out.2.2.2.2.2.2.1 hlen2 OK.out.rb.read (by rw [OK.out.rb.all]; omega) (by have := diffS_len b a; omega) (by rw [OK.out.rb.all]; have := diffS_len b a; omega) (by rw [OK.out.tb]; exact hma)).mono ?_
    rintro e w12 ⟨r12, rfl, hr12, hk12, hb12⟩
    rw [OK.out.back] at hr12 hk12 ⊢
    simp only at hr12 hk12 ⊢
    rw [KA1.out.2.2.2]
    obtain ⟨c12, rfl, hc12, hu12⟩ := hr12
    obtain ⟨C12, m12, d12, rfl⟩ := sl_slice hc12
    have hx12 := (hb12.block _ hn11).trans H11.out.2.2.1
    have hk212 := (hb12.block _ hn11k).trans H11.out.2.2.2.1
    have hk112 := (hb12.block _ hn11j).trans H11.out.2.2.2.2.1
    have hh12 := (hb12.block _ hn11h).trans H11.out.2.2.2.2.2.2.2.1
    have hz12 := (hb12.block _ hn11z).trans H11.out.2.2.2.2.2.2.2.2
    have ho12 := lt_of_block hx12
    have ho12k := lt_of_block hk212
    have ho12j := lt_of_block hk112
    have ho12h := lt_of_block hh12
    have ho12z := lt_of_block hz12
    have H12 := Lib.hid (And.intro hc12 (And.intro hu12 (And.intro (H11.out.2.1.trans (hb12.mono H11.out.2.1.size)) (And.intro (H11.out.1.below hb12 (Nat.le_refl _)) (H11.out.2.2.2.2.2.1.below hb12 (Nat.le_refl _))))))
    have H12b := Lib.hid (And.intro hx12 (And.intro hk212 (And.intro hk112 (And.intro hh12 hz12))))
    clear hc12 hu12 hk12 hb12 hx12 hk212 hk112 hh12 hz12 i0 i1 i2
    go_upto_region 11 with (
      ((with_reducible refine probe_storeT 58 ?_); (refine wpList_store_row rfl 58 (.tmp 19) _ rfl (w12.heap.size + 1) ka1 rfl rfl 58 _ (two_new w12 _ _ _ _) (by rw [kid_size, KA1.out.1]) (by rw [KA1.out.1]; rfl) KA1.out.2.1 ?_)))
    obtain ⟨w13, hw13⟩ : ∃ w13, w13 = ((w12.alloc (.cells #[.int .u32 hB2.size, .slice C12 m12 d12] 25)).alloc (.cells (kidA noKid) 58)).setRow (w12.heap.size + 1) ka1 := ⟨_, rfl⟩
    obtain ⟨hbw13, hhw13, hkw13⟩ := two_boxes (w1 := w12) (z2 := kidA noKid) (h := #[.int .u32 hB2.size, .slice C12 m12 d12]) (k := ka1)
    rw [← hw13] at hbw13 hhw13 hkw13
    rw [kidA_zero] at hw13
    rw [← hw13]
    clear hw13
    have hx13 := (hbw13.block _ ho12).trans H12b.out.1
    have hk213 := (hbw13.block _ ho12k).trans H12b.out.2.1
    have hk113 := (hbw13.block _ ho12j).trans H12b.out.2.2.1
    have hh13 := (hbw13.block _ ho12h).trans H12b.out.2.2.2.1
    have hz13 := (hbw13.block _ ho12z).trans H12b.out.2.2.2.2
    have j0 : w13.cell? ⟨w.heap.size, 0, none⟩ = some (.int .u32 hB2.size) := by rw [cell_of_row _ _ _ _ _ _ hx13]; rfl
    have j1 : w13.cell? ⟨w.heap.size, 1, none⟩ = some (.slice CB2 mB2 dB2) := by rw [cell_of_row _ _ _ _ _ _ hx13]; rfl
    have k0 : w13.cell? ⟨w10.heap.size, 0, none⟩ = some (.int .u32 hB2.size) := by rw [cell_of_row _ _ _ _ _ _ hh13]; rfl
    have k1 : w13.cell? ⟨w10.heap.size, 1, none⟩ = some (.slice C10 m10 d10) := by rw [cell_of_row _ _ _ _ _ _ hh13]; rfl
    have l0 : w13.cell? ⟨w12.heap.size, 0, none⟩ = some (.int .u32 hB2.size) := by rw [cell_of_row _ _ _ _ _ _ hhw13]; rfl
    have l1 : w13.cell? ⟨w12.heap.size, 1, none⟩ = some (.slice C12 m12 d12) := by rw [cell_of_row _ _ _ _ _ _ hhw13]; rfl
    have hat1 : At w13 (w10.heap.size + 1) 0 ka2.toList := at_block (t := 58) (fr := (0, 0)) (by rw [Array.toArray_toList]; exact hz13)
    have hat2 : At w13 w6.heap.size 0 ka2.toList := at_block (t := 58) (fr := (0, 0)) (by rw [Array.toArray_toList]; exact hk213)
    have hat3 : At w13 (w12.heap.size + 1) 0 ka1.toList := at_block (t := 58) (fr := (0, 0)) (by rw [Array.toArray_toList]; exact hkw13)
    have hat4 : At w13 w4.heap.size 0 ka1.toList := at_block (t := 58) (fr := (0, 0)) (by rw [Array.toArray_toList]; exact hk113)
    have hksz1 : (Tryz.prog.info? 58).map (·.size) = some ka1.toList.length := by rw [kid_size, Array.length_toList, KA1.out.1]
    have hksz2 : (Tryz.prog.info? 58).map (·.size) = some ka2.toList.length := by rw [kid_size, Array.length_toList, KA2.out.1]
    have hkq1 : ∀ W, (binOp .eql 58 (.agg ka1) (.agg ka1)).run Tryz.prog W = .ok (.bool true) W := HQ1.out
    have hkq2 : ∀ W, (binOp .eql 58 (.agg ka2) (.agg ka2)).run Tryz.prog W = .ok (.bool true) W := HQ2.out
    have hp13 := lt_of_block hx13
    have hp13h := lt_of_block hh13
    have hp13i := lt_of_block hhw13
    have H13 := Lib.hid (And.intro (show HeapV w13 (.agg #[.int .u32 hB2.size, .slice C12 m12 d12]) hB2 from ⟨_, rfl, H12.out.1.below hbw13 (Nat.le_refl _), H12.out.2.1⟩) (And.intro (H12.out.2.2.1.trans (hbw13.mono H12.out.2.2.1.size)) (And.intro (H12.out.2.2.2.1.below hbw13 (Nat.le_refl _)) (H12.out.2.2.2.2.below hbw13 (Nat.le_refl _)))))
    clear hbw13 hx13 hk213 hk113 hh13 hz13 hhw13 hkw13
    go_wp2_with (first
      | ((with_reducible refine probe_loadT 58 ?_); go_loud (refine wpList_load_arrw rfl 58 (.tmp 16) rfl (w10.heap.size + 1) 0 rfl ka2.toList _ hat1 Tryz.underlying58 rfl hksz2 ka2 (by simp) ?_))
      | ((with_reducible refine probe_loadT 58 ?_); go_loud (refine wpList_load_arrw rfl 58 (.tmp 9) rfl w6.heap.size 0 rfl ka2.toList _ hat2 Tryz.underlying58 rfl hksz2 ka2 (by simp) ?_))
      | ((with_reducible refine probe_loadT 58 ?_); go_loud (refine wpList_load_arrw rfl 58 (.tmp 19) rfl (w12.heap.size + 1) 0 rfl ka1.toList _ hat3 Tryz.underlying58 rfl hksz1 ka1 (by simp) ?_))
      | ((with_reducible refine probe_loadT 58 ?_); go_loud (refine wpList_load_arrw rfl 58 (.tmp 7) rfl w4.heap.size 0 rfl ka1.toList _ hat4 Tryz.underlying58 rfl hksz1 ka1 (by simp) ?_)))
    go_at_call 37
    refine (hsame_any w13 _ _ hB2 H13.out.2.2.2 H13.out.2.2.1 hlen2).mono ?_
    rintro e w14 ⟨rfl, hb14⟩
    have k0' := (hb14.cell (p := ⟨w10.heap.size, 0, none⟩) hp13h).trans k0
    have k1' := (hb14.cell (p := ⟨w10.heap.size, 1, none⟩) hp13h).trans k1
    have l0' := (hb14.cell (p := ⟨w12.heap.size, 0, none⟩) hp13i).trans l0
    have l1' := (hb14.cell (p := ⟨w12.heap.size, 1, none⟩) hp13i).trans l1
    have H14 := Lib.hid (And.intro (H13.out.2.2.1.below hb14 (Nat.le_refl _)) (And.intro (H13.out.1.below hb14 (Nat.le_refl _)) (H13.out.2.1.trans (hb14.mono H13.out.2.1.size))))
    clear hb14 j0 j1 k0 k1 l0 l1 hat1 hat2 hat3 hat4 hkq1 hkq2
    go_wp2_with (fail)
    go_at_call 37
    refine (hsame_any w14 _ _ hB2 H14.out.1 H14.out.2.1 hlen2).mono ?_
    rintro e w15 ⟨rfl, hb15⟩
    have H15 := Lib.hid (H14.out.2.2.trans (hb15.mono H14.out.2.2.size))
    clear hb15
    go_wp2_with (fail)
    go_ret
    exact ⟨rfl, H15.out⟩
  · have hbad := HLAW.out.2.1
    clear HLAW
    generalize diffE a b = q1 at *
    generalize diffE b a = q2 at *
    by_cases he1 : eB = 0
    · have he2 : eB2 ≠ 0 := fun e => hok ⟨he1, e⟩
      subst he1
      have hq2 : (eB2 != 0) = true := by simpa using he2
      clear hok hbad he2
      go_wp2_with (fail)
      go_ret
      exact ⟨rfl, H9.out.2.1⟩
    · have hq1 : (eB != 0) = true := by simpa using he1
      clear hok hbad he1
      go_wp2_with (fail)
      go_ret
      exact ⟨rfl, H9.out.2.1⟩
end Go.Proofs.YthhmcjojnbaiiaaGreatDoor
