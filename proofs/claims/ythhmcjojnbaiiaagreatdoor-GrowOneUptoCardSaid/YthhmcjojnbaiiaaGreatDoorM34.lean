/- Texts of the proof: To Cg Li Sm. -/
import Derived.Test.YthhmcjojnbaiiaaGreatDoorM30
import Derived.Test.YthhmcjojnbaiiaaGreatDoorM31
import Derived.Test.YthhmcjojnbaiiaaGreatDoorM33
set_option linter.all false
/- Tree: open, All. -/
namespace Go.Proofs.YthhmcjojnbaiiaaGreatDoor
open Go Go.RowKit
def readS (h : Hp) (root : Int) : Nat × RdS := downS h.cells h.cells.length root ⟨[], [], false⟩
def topenE (h : Hp) (root : Int) : Int :=
  if openB h = false then 7 else if root = 0 then 0 else if (nodeAt h.cells root).2 = false then 5 else if (readS h root).2.bad = true ∨ itemsOk (readS h root).2.items = false then 9 else 0
def topenI (h : Hp) (root : Int) : List Item := if root = 0 then [] else (readS h root).2.items
def topenL (h : Hp) (root : Int) : Nat := if root = 0 then 0 else (readS h root).1
def topenK (h : Hp) (root : Int) : List Int := if root = 0 then [] else (readS h root).2.blocks
theorem open_rising {h : Hp} (ho : openB h = true) : Rising (h.cells.map (·.num)) := by
  unfold openB okH at ho
  simp only [Bool.and_eq_true, decide_eq_true_eq] at ho
  exact rising_of_pair ((rising_pair _).1 ho.1.2.2)
/-- The reader that tree.open hands out. -/
def TopenPost (w : World) (h : Hp) (root : Int) (e : Ending) (w' : World) : Prop :=
  Below w.heap.size w w' ∧ ((topenE h root = 0 ∧ ∃ (w0 : World) (rp : Nat) (C bv iv : Value) (ks : List Int), w.heap.size ≤ w0.heap.size ∧ e = .returned (.tuple #[.pointer (some ⟨rp, 0, none⟩), .int .i64 (topenL h root), .int .i64 0]) ∧ RdAt w0 w' rp C bv iv h.cells ⟨ks, topenI h root, false⟩ ∧ ks.Perm (topenK h root) ∧ ks.Pairwise (· ≤ ·)) ∨
    (topenE h root ≠ 0 ∧ e = .returned (.tuple #[.pointer none, .int .i64 0, .int .i64 (topenE h root)])))
section
variable {w0 w w' : World} {rp : Nat} {C bv iv : Value} {cs : List Cel} {r : RdS}
theorem RdAt.sorted (h : RdAt w0 w rp C bv iv cs r) {ys : List Int} (hl : ys.length = r.blocks.length) (hown : w'.ownsRow w0.heap.size 22 1 bv r.blocks.length (ys.map (Value.int .u32))) (hg : w.grownBy w' bv.ownBlock) : RdAt w0 w' rp C bv iv cs { r with blocks := ys } := by
  obtain ⟨m, hm⟩ := h.blk
  have hm2 := (hg.block rp (lt_of_block hm) (fun e => own_ne h.ob hm (by decide) e.symm)).trans hm
  have hoi : w'.ownsRow w0.heap.size 32 2 iv r.items.length (r.items.flatMap itemE.enc) := by
    refine h.oi.kept hg ?_
    cases hbv : bv.ownBlock with
    | none =>
      cases hiv : iv.ownBlock with
      | none => exact Or.inl rfl
      | some g => exact Or.inr (by simp)
    | some g =>
      refine Or.inr fun e => ?_
      rcases h.ob.2 with ⟨rfl, _⟩ | ⟨g', _, cur, rfl, _, hb, _⟩
      · cases hbv
      · simp [Value.ownBlock] at hbv
        subst hbv
        exact own_ne h.oi hb (by decide) e
  exact ⟨h.low, h.bl.grown hg h.bl.size (fun k hk => (h.ob.lt k hk).1), h.src, ⟨m, hm2⟩, by simp only; rw [hl]; exact hown, hoi, h.wf⟩
theorem RdAt.same (h : RdAt w0 w rp C bv iv cs r) : RdAt w0 (w.setCell ⟨rp, 1, none⟩ bv) rp C bv iv cs r := by
  obtain ⟨m, hm⟩ := h.blk
  have hg : w.grownBy (w.setCell ⟨rp, 1, none⟩ bv) (some rp) := grown_set (World.grownBy.refl w (some rp)) 1 _
  exact ⟨h.low, h.bl.setCell (p := ⟨rp, 1, none⟩) h.low _, h.src, ⟨m, blk_set hm 1 _⟩, own_keep h.ob hg hm (by decide), own_keep h.oi hg hm (by decide), h.wf⟩
end
theorem built_rd (A : Option Addr) (n c : Nat) : Tryz.prog.built 87 [(0, .slice A n c)] = some #[.slice A n c, .slice none 0 0, .slice none 0 0, .bool false, .int .u64 0] := by kernel_rfl
set_option maxRecDepth 100000 in
set_option maxHeartbeats 2000000 in
theorem topen_any (K : Nat) (hS : SortOk K) (hC : CompactOk K) (w : World) (v : Value) (h : Hp) (root : Int) (hv : HeapV w v h) (hmax : h.cells.length ≤ 1073741824) (hil : (readS h root).2.items.length ≤ 1073741824) (hbl : (readS h root).2.blocks.length ≤ 1073741824) (hK : (topenK h root).length ≤ K) (hkd : (topenK h root).Nodup) (hku : ∀ x ∈ topenK h root, u32Ok x) (hkp : root ≠ 0 → openB h = true → (readS h root).2.bad = false → (readS h root).2.blocks ≠ []) :
    Calls Tryz.prog 40 #[v, .int .u32 root] w fun e w' => TopenPost w h root e w' := by
  have HVV := Lib.hid hv
  obtain ⟨cv, rfl, hsl, hsz⟩ := hv
  obtain ⟨C, cn, cc, rfl⟩ := sl_slice hsl
  have HK := Lib.hid (And.intro hil (And.intro hbl (And.intro hK (And.intro hkd (And.intro hku hkp)))))
  have hbx := heap_alloc_new w (.cells #[.int .u32 h.size, .slice C cn cc] 25)
  have HB0 := Lib.hid (And.intro hbx (below_box w (.cells #[.int .u32 h.size, .slice C cn cc] 25)))
  have hcl : cn = h.cells.length := (hsl.len_eq).1
  clear hsl hil hbl hK hkd hku hkp hbx
  subst hcl
  go_enter Tryz.func40, Tryz.ntmps40
  go_wp2_with (fail)
  go_at_call 35
  refine (check_any _ _ h (HVV.out.below HB0.out.2 (Nat.le_refl _)) hmax).mono ?_
  rintro e w1 ⟨rfl, hb1⟩
  have hB1 : Below w.heap.size w w1 := HB0.out.2.trans (hb1.mono (by simp))
  have hb11 := (hb1.block w.heap.size (by simp)).trans HB0.out.1
  have HB1 := Lib.hid (And.intro hb11 hB1)
  have hcC : w1.cell? ⟨w.heap.size, 1, none⟩ = some (.slice C h.cells.length cc) := by rw [cell_of_row _ _ _ _ _ _ hb11]; rfl
  have hlw1 := lt_of_block hb11
  clear hb1 hB1 hb11
  cases ho : openB h with
  | false =>
    rw [show chkE h = 7 by unfold chkE; rw [ho]; rfl]
    have HT := Lib.hid (show topenE h root = 7 by unfold topenE; rw [if_pos ho])
    clear ho
    go_wp2_with (fail)
    refine bodyPost_ret (v := .tuple #[.pointer none, .int .i64 0, .int .i64 7]) (by simp [results, Tryz.results40, go_sem]) rfl ⟨HB1.out.2, Or.inr ⟨by rw [HT.out]; decide, by rw [HT.out]⟩⟩
  | true =>
    rw [show chkE h = 0 by unfold chkE; rw [ho]; rfl]
    have HO := Lib.hid ho
    clear ho
    by_cases hr0 : root = 0
    · have hq : (root == 0) = true := by simpa using hr0
      have HT := Lib.hid (show topenE h root = 0 by unfold topenE; rw [if_neg (by rw [HO.out]; simp), if_pos hr0])
      have HT2 := Lib.hid (And.intro (show topenI h root = [] by unfold topenI; rw [if_pos hr0]) (And.intro (show topenL h root = 0 by unfold topenL; rw [if_pos hr0]) (show topenK h root = [] by unfold topenK; rw [if_pos hr0])))
      clear hr0
      go_wp2_with (first
        | ((with_reducible refine probe_build 87 ?_); refine wpList_build_cells rfl 87 _ rfl [(0, .slice C h.cells.length cc)] rfl _ (built_rd C h.cells.length cc) ?_))
      refine bodyPost_ret (v := .tuple #[.pointer (some ⟨w1.heap.size, 0, none⟩), .int .i64 0, .int .i64 0]) (by simp [results, Tryz.results40, go_sem]) rfl ⟨HB1.out.2.alloc HB1.out.2.size _, Or.inl ⟨HT.out, w1, w1.heap.size, .slice C h.cells.length cc, .slice none 0 0, .slice none 0 0, [], HB1.out.2.size, ?_, ?_, ?_, List.Pairwise.nil⟩⟩
      · rw [HT2.out.2.1]; rfl
      · rw [HT2.out.1]
        have hsl : Sl celE w1 (.slice C h.cells.length cc) h.cells := by
          obtain ⟨cv, he, hsl, _⟩ := HVV.out
          simp only [Value.agg.injEq, Array.mk.injEq, List.cons.injEq, and_true, true_and] at he
          subst he
          exact hsl.below HB1.out.2 (Nat.le_refl _)
        exact ⟨Nat.le_refl _, below_box w1 _, hsl, ⟨0, heap_alloc_new _ _⟩, World.ownsRow_nil _ _ _ _, World.ownsRow_nil _ _ _ _, fun x hx => by cases hx⟩
      · rw [HT2.out.2.2]
    · have hq : (root == 0) = false := by simpa using hr0
      have hsl : Sl celE w1 (.slice C h.cells.length cc) h.cells := by
        obtain ⟨cv, he, hsl, _⟩ := HVV.out
        simp only [Value.agg.injEq, Array.mk.injEq, List.cons.injEq, and_true, true_and] at he
        subst he
        exact hsl.below HB1.out.2 (Nat.le_refl _)
      have HT := Lib.hid (show topenE h root = if (nodeAt h.cells root).2 = false then 5 else if (readS h root).2.bad = true ∨ itemsOk (readS h root).2.items = false then 9 else 0 by unfold topenE; rw [if_neg (by rw [HO.out]; simp), if_neg hr0])
      have HT2 := Lib.hid (And.intro (show topenI h root = (readS h root).2.items by unfold topenI; rw [if_neg hr0]) (And.intro (show topenL h root = (readS h root).1 by unfold topenL; rw [if_neg hr0]) (And.intro (show topenK h root = (readS h root).2.blocks by unfold topenK; rw [if_neg hr0]) hr0)))
      have hrd2 : RdAt w1 (w1.alloc (.cells #[.slice C h.cells.length cc, .slice none 0 0, .slice none 0 0, .bool false, .int .u64 0] 87)) w1.heap.size (.slice C h.cells.length cc) (.slice none 0 0) (.slice none 0 0) h.cells ⟨[], [], false⟩ :=
        ⟨Nat.le_refl _, below_box w1 _, hsl, ⟨0, heap_alloc_new _ _⟩, World.ownsRow_nil _ _ _ _, World.ownsRow_nil _ _ _ _, fun x hx => by cases hx⟩
      have HRD := Lib.hid (And.intro hrd2 hsl)
      clear hr0 hrd2 hsl
      go_wp2_with (first
        | ((with_reducible refine probe_build 87 ?_); refine wpList_build_cells rfl 87 _ rfl [(0, .slice C h.cells.length cc)] rfl _ (built_rd C h.cells.length cc) ?_))
      go_at_call 61
      refine (rnode_any w1 _ w1.heap.size _ _ _ h.cells ⟨[], [], false⟩ root HRD.out.1 (open_rising HO.out) hmax).mono ?_
      rintro e w3 ⟨v, rfl, hnf, hr3, hs3⟩
      obtain ⟨⟨va, vb, vc, rfl, ha, hb, hc, hk0, hk1⟩, hfv⟩ := hnf
      obtain ⟨A1, n1, c1, rfl⟩ := sl_slice ha
      obtain ⟨A2, n2, c2, rfl⟩ := sl_slice hb
      obtain ⟨A3, n3, c3, rfl⟩ := sl_slice hc
      obtain ⟨nd, hnd⟩ : ∃ nd, nodeAt h.cells root = nd := ⟨_, rfl⟩
      obtain ⟨n, isn⟩ := nd
      rw [hnd] at HT ⊢
      simp only at HT ⊢
      have hr4 := hr3.below (below_box w3 (.cells #[.int .u8 n.kind, .slice A1 n1 c1, .slice A2 n2 c2, .slice A3 n3 c3] 44))
      have hB4 : Below w.heap.size w (w3.alloc (.cells #[.int .u8 n.kind, .slice A1 n1 c1, .slice A2 n2 c2, .slice A3 n3 c3] 44)) := HB1.out.2.trans (hr4.bl.mono HB1.out.2.size)
      have H4 := Lib.hid (And.intro hr4 hB4)
      clear ha hb hc hk0 hk1 hfv hnd hr3 hs3 hr4 hB4
      generalize n.kind = kd at *
      cases isn with
      | false =>
        have HE := Lib.hid (show topenE h root = 5 by rw [HT.out, if_pos rfl])
        go_wp2_with (first
          | ((with_reducible refine probe_storeT 44 ?_); refine wpList_store_new rfl 44 (.tmp 9) (.tmp 28) rfl 44 _ rfl [.int .u8 kd, .slice A1 n1 c1, .slice A2 n2 c2, .slice A3 n3 c3] rfl rfl (node_cells_one' _ _ _ _ _ _ _ _ _ _) node_size ?_))
        refine bodyPost_ret (v := .tuple #[.pointer none, .int .i64 0, .int .i64 5]) (by simp [results, Tryz.results40, go_sem]) rfl ⟨H4.out.2, Or.inr ⟨by rw [HE.out]; decide, by rw [HE.out]⟩⟩
      | true =>
        have HT3 := Lib.hid (show topenE h root = if (readS h root).2.bad = true ∨ itemsOk (readS h root).2.items = false then 9 else 0 by rw [HT.out, if_neg (by simp)])
        go_upto_region 8 with (first
          | ((with_reducible refine probe_storeT 44 ?_); refine wpList_store_new rfl 44 (.tmp 9) (.tmp 28) rfl 44 _ rfl [.int .u8 kd, .slice A1 n1 c1, .slice A2 n2 c2, .slice A3 n3 c3] rfl rfl (node_cells_one' _ _ _ _ _ _ _ _ _ _) node_size ?_))
        generalize w3.alloc (.cells #[.int .u8 kd, .slice A1 n1 c1, .slice A2 n2 c2, .slice A3 n3 c3] 44) = w4 at *
        have d1 : w4.cell? ⟨w.heap.size, 1, none⟩ = some (.slice C h.cells.length cc) := (H4.out.1.bl.cell (p := ⟨w.heap.size, 1, none⟩) hlw1).trans hcC
        clear hcC
        go_wp2_with (fail)
        go_at_call 62
        refine (down_any w1 w1.heap.size _ h.cells (open_rising HO.out) hmax h.cells.length w4 _ _ ⟨[], [], false⟩ root hmax H4.out.1 rfl HK.out.1 HK.out.2.1).mono ?_
        rintro e w5 ⟨bv, iv, rfl, hr5, hs5⟩
        have hX : downS h.cells h.cells.length root ⟨[], [], false⟩ = readS h root := rfl
        rw [hX] at hr5 ⊢
        have HKP := Lib.hid (fun hb => HK.out.2.2.2.2.2 HT2.out.2.2.2 HO.out hb)
        obtain ⟨X, hXX⟩ : ∃ X, readS h root = X := ⟨_, rfl⟩
        rw [hXX] at hr5 HT2 HT3 HKP ⊢
        obtain ⟨lx, rx⟩ := X
        simp only at hr5 HT2 HT3 HKP ⊢
        have hB5 : Below w.heap.size w w5 := HB1.out.2.trans (hr5.bl.mono HB1.out.2.size)
        obtain ⟨m5, hm5⟩ := hr5.blk
        have q3 : w5.cell? ⟨w1.heap.size, 3, none⟩ = some (.bool rx.bad) := by rw [cell_of_row _ _ _ _ _ _ hm5]; rfl
        have q2 : w5.cell? ⟨w1.heap.size, 2, none⟩ = some iv := by rw [cell_of_row _ _ _ _ _ _ hm5]; rfl
        have hrl5 := hr5.lt
        have H5 := Lib.hid (And.intro hr5 hB5)
        clear hX hXX hr5 hs5 hB5 hm5 d1
        cases hbx : rx.bad with
        | true =>
          rw [hbx] at q3
          have HE := Lib.hid (show topenE h root = 9 by rw [HT3.out, if_pos (Or.inl hbx)])
          clear hbx
          go_wp2_with (fail)
          refine bodyPost_ret (v := .tuple #[.pointer none, .int .i64 0, .int .i64 9]) (by simp [results, Tryz.results40, go_sem]) rfl ⟨H5.out.2, Or.inr ⟨by rw [HE.out]; decide, by rw [HE.out]⟩⟩
        | false =>
          rw [hbx] at q3
          have HBX := Lib.hid hbx
          clear hbx
          go_wp2_with (fail)
          go_at_call 29
          refine (itemCheck_any _ _ rx.items (own_sl (E := itemE) H5.out.1.oi rfl H5.out.1.wf)).mono ?_
          rintro e w6 ⟨rfl, hb6⟩
          cases hok : itemsOk rx.items with
          | false =>
            rw [show errIf false 4 = 4 from rfl]
            have HE := Lib.hid (show topenE h root = 9 by rw [HT3.out, if_pos (Or.inr hok)])
            have HB6 := Lib.hid (H5.out.2.trans (hb6.mono H5.out.2.size))
            clear hok hb6
            go_wp2_with (fail)
            refine bodyPost_ret (v := .tuple #[.pointer none, .int .i64 0, .int .i64 9]) (by simp [results, Tryz.results40, go_sem]) rfl ⟨HB6.out, Or.inr ⟨by rw [HE.out]; decide, by rw [HE.out]⟩⟩
          | true =>
            rw [show errIf true 4 = 0 from rfl]
            have HE := Lib.hid (show topenE h root = 0 by rw [HT3.out, if_neg (by rw [HBX.out, hok]; simp)])
            have hr6 := H5.out.1.below hb6
            obtain ⟨m6, hm6⟩ := hr6.blk
            have hlb : 0 < rx.blocks.length := List.length_pos_iff.2 (HKP.out HBX.out)
            obtain ⟨gb, cpb, hbv, _, _⟩ := hr6.ob.form hlb
            subst hbv
            have p1 : w6.cell? ⟨w1.heap.size, 1, none⟩ = some (.slice (some ⟨gb, 0, none⟩) rx.blocks.length cpb) := by rw [cell_of_row _ _ _ _ _ _ hm6]; rfl
            have hrl6 := hr6.lt
            have H6 := Lib.hid hr6
            clear hok hb6 hr6 hm6 q2 q3
            go_wp2_with (fail)
            go_at_call 63
            refine (hS w6 w1.heap.size gb cpb rx.blocks H6.out.ob (by have := HK.out.2.2.1; rw [HT2.out.2.2.1] at this; exact this) (by have := HK.out.2.2.2.2.1; rw [HT2.out.2.2.1] at this; exact this)).mono ?_
            rintro e w7 ⟨rfl, ys, hperm, hpw, hown, hg7⟩
            have hyl := hperm.length_eq
            have hr7 := H6.out.sorted hyl hown hg7
            have hnd : ys.Nodup := hperm.nodup_iff.2 (by have := HK.out.2.2.2.1; rw [HT2.out.2.2.1] at this; exact this)
            have hlt7 : ys.Pairwise (· < ·) := by
              refine (hpw.and hnd).imp ?_
              rintro a b ⟨h1, h2⟩
              omega
            obtain ⟨m7, hm7⟩ := hr7.blk
            have p7 : w7.cell? ⟨w1.heap.size, 1, none⟩ = some (.slice (some ⟨gb, 0, none⟩) rx.blocks.length cpb) := by rw [cell_of_row _ _ _ _ _ _ hm7]; rfl
            have f7 := frozen_of_row w7 w1.heap.size 1 _ _ hm7
            have hrl7 := hr7.lt
            have H7 := Lib.hid (And.intro hr7 (And.intro hperm (And.intro hpw hlt7)))
            clear hr7 hperm hpw hlt7 hnd hown hg7 hm7 p1
            go_wp2_with (fail)
            go_at_call 64
            have hc7 := hC w7 w1.heap.size gb cpb ys (by have h9 := H7.out.1.ob; rw [← hyl] at h9; exact h9) (by have := HK.out.2.2.1; rw [HT2.out.2.2.1] at this; omega) H7.out.2.2.2
            rw [hyl] at hc7
            refine hc7.mono ?_
            rintro e _ ⟨rfl, q, rfl⟩
            have HY := Lib.hid hyl
            clear hyl hc7
            go_wp2_with (fail)
            have hrf := (H7.out.1.below (Below.drewN' (Below.refl _ w7) q)).same
            refine bodyPost_ret (v := .tuple #[.pointer (some ⟨w1.heap.size, 0, none⟩), .int .i64 lx, .int .i64 0]) (by simp [results, Tryz.results40, go_sem]) rfl ⟨HB1.out.2.trans (hrf.bl.mono HB1.out.2.size), Or.inl ⟨HE.out, w1, w1.heap.size, .slice C h.cells.length cc, .slice (some ⟨gb, 0, none⟩) rx.blocks.length cpb, iv, ys, HB1.out.2.size, ?_, ?_, ?_, H7.out.2.2.1⟩⟩
            · rw [HT2.out.2.1]
            · rw [HT2.out.1]
              have h9 := hrf
              rw [HBX.out] at h9
              exact h9
            · rw [HT2.out.2.2.1]; exact H7.out.2.1
/-- What is asked of a tree that is read. -/
structure ReadOk (K : Nat) (h : Hp) (root : Int) : Prop where
  il : (readS h root).2.items.length ≤ 1073741824
  bl : (readS h root).2.blocks.length ≤ 1073741824
  few : (topenK h root).length ≤ K
  nd : (topenK h root).Nodup
  u32 : ∀ x ∈ topenK h root, u32Ok x
  ne : root ≠ 0 → openB h = true → (readS h root).2.bad = false → (readS h root).2.blocks ≠ []
def allS (h : Hp) (root : Int) : List Item := if topenE h root = 0 then topenI h root else []
def TallPost (w : World) (h : Hp) (root : Int) (e : Ending) (w' : World) : Prop := ∃ r, e = .returned (.tuple #[r, .int .i64 (topenE h root)]) ∧ Sl itemE w' r (allS h root) ∧ Below w.heap.size w w'
set_option maxRecDepth 100000 in
set_option maxHeartbeats 1000000 in
theorem tall_any (K : Nat) (hS : SortOk K) (hC : CompactOk K) (w : World) (v : Value) (h : Hp) (root : Int) (hv : HeapV w v h) (hmax : h.cells.length ≤ 1073741824) (hr : ReadOk K h root) :
    Calls Tryz.prog 15 #[v, .int .u32 root] w fun e w' => TallPost w h root e w' := by
  have HVV := Lib.hid hv
  obtain ⟨cv, rfl, hsl, hsz⟩ := hv
  obtain ⟨C, cn, cc, rfl⟩ := sl_slice hsl
  have HB := Lib.hid (below_box w (.cells #[.int .u32 h.size, .slice C cn cc] 25))
  clear hsl
  go_enter Tryz.func15, Tryz.ntmps15
  go_wp2_with (fail)
  go_at_call 40
  refine (topen_any K hS hC _ _ h root (HVV.out.below HB.out (Nat.le_refl _)) hmax hr.il hr.bl hr.few hr.nd hr.u32 hr.ne).mono ?_
  rintro e w1 ⟨hb1, h1⟩
  have HB1 := Lib.hid (HB.out.trans (hb1.mono (by simp)))
  clear hb1
  rcases h1 with ⟨he, w0, rp, C', bv, iv, ks, hle, rfl, hrd, _⟩ | ⟨he, rfl⟩
  · obtain ⟨m, hm⟩ := hrd.blk
    have c2 : w1.cell? ⟨rp, 2, none⟩ = some iv := by rw [cell_of_row _ _ _ _ _ _ hm]; rfl
    have hrl := hrd.lt
    have HR := Lib.hid (And.intro he hrd)
    clear he hrd hm
    go_wp2_with (fail)
    go_ret2
    refine ⟨iv, by rw [HR.out.1]; rfl, ?_, HB1.out⟩
    unfold allS
    rw [if_pos HR.out.1]
    exact own_sl (E := itemE) HR.out.2.oi rfl HR.out.2.wf
  · have HR := Lib.hid he
    have hq : (topenE h root != 0) = true := by simpa using he
    clear he
    generalize hte : topenE h root = te at *
    have HTE := Lib.hid hte
    clear hte
    go_wp2_with (fail)
    go_ret2
    refine ⟨.slice none 0 0, by rw [HTE.out]; rfl, ?_, HB1.out⟩
    unfold allS
    rw [HTE.out, if_neg HR.out]
    exact Sl.nil _
end Go.Proofs.YthhmcjojnbaiiaaGreatDoor

/- Grow: Change, where keys are taken out. -/
namespace Go.Proofs.YthhmcjojnbaiiaaGreatDoor
open Go Go.RowKit
def changeS (h : Hp) (root : Int) (cs : List Change) : Hp × Kid × Int :=
  if openB h = false then (⟨0, []⟩, noKid, 7)
  else if topenE h root ≠ 0 then (h, noKid, topenE h root)
  else if (applyS (allS h root) cs).2 ≠ 0 then (h, noKid, (applyS (allS h root) cs).2)
  else buildS h (applyS (allS h root) cs).1
def ChangePost (w : World) (h : Hp) (root : Int) (cs : List Change) (e : Ending) (w' : World) : Prop :=
  ∃ r, e = .returned (.tuple #[r, .agg (kidA (changeS h root cs).2.1), .int .i64 (changeS h root cs).2.2]) ∧ HeapV w' r (changeS h root cs).1 ∧ kidE.wf (changeS h root cs).2.1 ∧ Below w.heap.size w w'
set_option maxRecDepth 100000 in
set_option maxHeartbeats 2000000 in
theorem change_any (K : Nat) (hS : SortOk K) (hC : CompactOk K) (w : World) (v vc : Value) (h : Hp) (root : Int) (cs : List Change) (hv : HeapV w v h) (hvc : Sl changeE w vc cs) (hmax : h.cells.length ≤ 1073741824) (hr : ReadOk K h root) (hal : (allS h root).length ≤ 1073741824) (hc : cs.length ≤ 1073741824) (hdel : ∀ c ∈ cs, c.has = false) (hml : (applyS (allS h root) cs).1.length ≤ 4194304) :
    Calls Tryz.prog 31 #[v, .int .u32 root, vc] w fun e w' => ChangePost w h root cs e w' := by
  have HVV := Lib.hid hv
  obtain ⟨cv, rfl, hsl, hsz⟩ := hv
  obtain ⟨C, cn, cc, rfl⟩ := sl_slice hsl
  have HVC := Lib.hid (And.intro hvc hdel)
  obtain ⟨A2, n2, c2, rfl⟩ := sl_slice hvc
  clear hsl hvc hdel
  have HRK := Lib.hid hr
  clear hr
  obtain ⟨kz, hkz⟩ : ∃ kz, kidA noKid = kz := ⟨_, rfl⟩
  obtain ⟨W0, hW0⟩ : ∃ W0, W0 = ((w.alloc (.cells #[.int .u32 h.size, .slice C cn cc] 25)).alloc (.cells #[.int .u32 0, .slice none 0 0] 25)).alloc (.cells kz 58) := ⟨_, rfl⟩
  have hbA := below_box w (.cells #[.int .u32 h.size, .slice C cn cc] 25)
  have hbB := hbA.alloc (by simp) (.cells #[.int .u32 0, .slice none 0 0] 25)
  have hO0 : Outs w W0 (w.heap.size + 1) (w.heap.size + 2) #[.int .u32 0, .slice none 0 0] kz := by
    refine ⟨by rw [hW0]; exact hbB.alloc (by simp; omega) _, ?_, ?_⟩
    · rw [hW0, Lib.alloc_old _ _ _ (by simp)]
      have := heap_alloc_new (w.alloc (.cells #[.int .u32 h.size, .slice C cn cc] 25)) (.cells #[.int .u32 0, .slice none 0 0] 25)
      simpa using this
    · rw [hW0]
      have := heap_alloc_new ((w.alloc (.cells #[.int .u32 h.size, .slice C cn cc] 25)).alloc (.cells #[.int .u32 0, .slice none 0 0] 25)) (.cells kz 58)
      simpa using this
  have hin : W0.heap[w.heap.size]? = some (.cells #[.int .u32 h.size, .slice C cn cc] 25 (0, 0)) := by
    rw [hW0, Lib.alloc_old _ _ _ (by simp; omega), Lib.alloc_old _ _ _ (by simp)]; exact heap_alloc_new _ _
  have HKZ := Lib.hid hkz
  have HW0 := Lib.hid hW0
  have HO := Lib.hid (And.intro hO0 hin)
  have hinl := lt_of_block hin
  clear hbA hbB hO0 hW0
  rw [← hkz, kidA_zero] at HW0
  clear hkz
  have i0 : W0.cell? ⟨w.heap.size, 0, none⟩ = some (.int .u32 h.size) := by rw [cell_of_row _ _ _ _ _ _ hin]; rfl
  have i1 : W0.cell? ⟨w.heap.size, 1, none⟩ = some (.slice C cn cc) := by rw [cell_of_row _ _ _ _ _ _ hin]; rfl
  have g1 := kidE.one _ noKid_wf
  have g2 := kid_len _ noKid_wf
  have g3 := kidE.len _ noKid_wf
  have HX := Lib.hid (And.intro g3 (show (kidE.enc noKid).toArray = kz from HKZ.out))
  clear hin g3
  generalize hkw : kidE.enc noKid = kw at *
  clear hkw
  go_enter Tryz.func31, Tryz.ntmps31
  go_upto_region 1 with (fail)
  rw [← HW0.out]
  clear HW0
  go_wp2_with (fail)
  go_at_call 35
  refine (check_any W0 _ h (HVV.out.below HO.out.1.bl (Nat.le_refl _)) hmax).mono ?_
  rintro e w1 ⟨rfl, hb1⟩
  have hO1 := HO.out.1.pure hb1
  have hin1 := (hb1.block _ hinl).trans HO.out.2
  have H1 := Lib.hid (And.intro hO1 hin1)
  have j0 : w1.cell? ⟨w.heap.size, 0, none⟩ = some (.int .u32 h.size) := by rw [cell_of_row _ _ _ _ _ _ hin1]; rfl
  have j1 : w1.cell? ⟨w.heap.size, 1, none⟩ = some (.slice C cn cc) := by rw [cell_of_row _ _ _ _ _ _ hin1]; rfl
  have hin1l := lt_of_block hin1
  clear hb1 hO1 hin1 i0 i1
  cases ho : openB h with
  | false =>
    rw [show chkE h = 7 by unfold chkE; rw [ho]; rfl]
    have HB := Lib.hid (show changeS h root cs = (⟨0, []⟩, noKid, 7) by unfold changeS; rw [if_pos ho])
    clear ho
    have HO2 := Lib.hid (H1.out.1.heap rfl (by omega) (by omega) (.int .u32 0) (.slice none 0 0))
    have HO3 := Lib.hid (HO2.out.1.kid (by rw [← HKZ.out]; exact kidA_size noKid_wf) (by omega) (by omega) kw HX.out.1)
    go_wp2_with (first
      | ((with_reducible refine probe_build 25 ?_); refine wpList_build_cells rfl 25 _ rfl [] rfl _ built_heap0 ?_)
      | ((with_reducible refine probe_build 58 ?_); refine wpList_build_cells rfl 58 _ rfl [] rfl kz (by rw [← HKZ.out]; exact built_kid0') ?_)
      | ((with_reducible refine probe_storeT 25 ?_); refine wpList_store_at rfl 25 (.tmp 6) _ rfl (w.heap.size + 1) 0 rfl [.int .u32 0, .slice none 0 0] rfl 25 _ H1.out.1.hh (by simp) (by intro v hv; simp at hv; rcases hv with rfl | rfl <;> rfl) heap_size ?_)
      | ((with_reducible refine probe_storeT 58 ?_); refine wpList_store_at rfl 58 (.tmp 7) _ rfl (w.heap.size + 2) 0 rfl kw (by rw [HX.out.2]; rfl) 58 kz HO2.out.1.kk (by rw [← HKZ.out, kidA_size noKid_wf, HX.out.1]; decide) g1 g2 ?_))
    refine bodyPost_ret (results_hke rfl _ (w.heap.size + 1) (w.heap.size + 2) _ _ (0, 0) (0, 0) _ rfl rfl HO3.out.1.hh rfl HO3.out.1.kk (by rw [List.size_toArray]; exact HX.out.1)) rfl ⟨.agg #[.int .u32 0, .slice none 0 0], ?_, ?_, ?_, HO3.out.1.bl⟩
    · rw [HB.out, HX.out.2, ← HKZ.out]; rfl
    · rw [HB.out]; exact ⟨_, rfl, Sl.nil _, by unfold u32Ok; simp⟩
    · rw [HB.out]; exact noKid_wf
  | true =>
    rw [show chkE h = 0 by unfold chkE; rw [ho]; rfl]
    have HOB := Lib.hid ho
    clear ho
    go_wp2_with (fail)
    go_at_call 15
    refine (tall_any K hS hC w1 _ h root (HVV.out.below H1.out.1.bl (Nat.le_refl _)) hmax HRK.out).mono ?_
    rintro e w2 ⟨rl, rfl, hsl2, hb2⟩
    have hO2 := H1.out.1.pure hb2
    have hin2 := (hb2.block _ hin1l).trans H1.out.2
    have H2 := Lib.hid (And.intro hO2 (And.intro hin2 hsl2))
    have k0 : w2.cell? ⟨w.heap.size, 0, none⟩ = some (.int .u32 h.size) := by rw [cell_of_row _ _ _ _ _ _ hin2]; rfl
    have k1 : w2.cell? ⟨w.heap.size, 1, none⟩ = some (.slice C cn cc) := by rw [cell_of_row _ _ _ _ _ _ hin2]; rfl
    have hin2l := lt_of_block hin2
    obtain ⟨Al, nl, cl, rfl⟩ := sl_slice hsl2
    clear hb2 hO2 hin2 j0 j1 hsl2
    by_cases hte : topenE h root = 0
    · rw [hte]
      have HTE := Lib.hid hte
      clear hte
      go_wp2_with (fail)
      go_at_call 50
      refine (apply_any w2 _ _ (allS h root) cs H2.out.2.2 (HVC.out.1.below H2.out.1.bl (Nat.le_refl _)) hal hc HVC.out.2).mono ?_
      rintro e w3 ⟨ra, rfl, hsl3, hb3⟩
      obtain ⟨X, hX⟩ : ∃ X, applyS (allS h root) cs = X := ⟨_, rfl⟩
      rw [hX] at hsl3 hml ⊢
      obtain ⟨La, ea⟩ := X
      simp only at hsl3 hml ⊢
      have hO3 := H2.out.1.pure hb3
      have hin3 := (hb3.block _ hin2l).trans H2.out.2.1
      have H3 := Lib.hid (And.intro hO3 (And.intro hin3 (And.intro hsl3 hX)))
      have l0 : w3.cell? ⟨w.heap.size, 0, none⟩ = some (.int .u32 h.size) := by rw [cell_of_row _ _ _ _ _ _ hin3]; rfl
      have l1 : w3.cell? ⟨w.heap.size, 1, none⟩ = some (.slice C cn cc) := by rw [cell_of_row _ _ _ _ _ _ hin3]; rfl
      obtain ⟨A3, n3, c3, rfl⟩ := sl_slice hsl3
      clear hb3 hO3 hin3 hsl3 hX k0 k1
      by_cases hea : ea = 0
      · subst hea
        have HB := Lib.hid (show changeS h root cs = buildS h La by unfold changeS; rw [if_neg (by rw [HOB.out]; simp), if_neg (by rw [HTE.out]; simp), H3.out.2.2.2, if_neg (by simp)])
        go_wp2_with (fail)
        go_at_call 34
        refine (build_any w3 _ _ h La (HVV.out.below H3.out.1.bl (Nat.le_refl _)) H3.out.2.2.1 hmax hml).mono ?_
        rintro e w4 ⟨r, rfl, hr4, hkw4, hb4⟩
        obtain ⟨cr, rfl, hslr, hsz4⟩ := hr4
        obtain ⟨Cr, nr, ccr, rfl⟩ := sl_slice hslr
        obtain ⟨Y, hY⟩ : ∃ Y, buildS h La = Y := ⟨_, rfl⟩
        rw [hY] at hslr hkw4 hsz4 HB ⊢
        obtain ⟨hY1, kY, eY⟩ := Y
        simp only at hslr hkw4 hsz4 ⊢
        have q1 := kidE.one _ hkw4
        have q2 := kid_len _ hkw4
        have q3 := kidE.len _ hkw4
        have hO4 := H3.out.1.pure hb4
        have HO2 := Lib.hid (hO4.heap rfl (by omega) (by omega) (.int .u32 hY1.size) (.slice Cr nr ccr))
        have HO3 := Lib.hid (HO2.out.1.kid (by rw [← HKZ.out]; exact kidA_size noKid_wf) (by omega) (by omega) (kidE.enc kY) q3)
        have HSL := Lib.hid (sl_cel_off HO2.out.1.kk (by rw [← HKZ.out]; exact kid_noPair noKid) HO3.out.2 (sl_cel_off hO4.hh (heap_noPair _ _ ⟨_, _, _, rfl⟩) HO2.out.2 hslr))
        have HO1 := Lib.hid hO4
        have HQ := Lib.hid (And.intro q3 (And.intro (show (kidE.enc kY).toArray = kidA kY from rfl) (And.intro hkw4 hsz4)))
        clear hO4 hb4 hslr hY q3 hkw4 hsz4
        generalize hkv : kidE.enc kY = kv at *
        generalize hkav : kidA kY = ka at *
        have HKA := Lib.hid (And.intro hkv hkav)
        clear hkv hkav
        go_wp2_with (first
          | ((with_reducible refine probe_storeT 25 ?_); refine wpList_store_at rfl 25 (.tmp 6) _ rfl (w.heap.size + 1) 0 rfl [.int .u32 hY1.size, .slice Cr nr ccr] rfl 25 _ HO1.out.hh (by simp) (by intro v hv; simp at hv; rcases hv with rfl | rfl <;> rfl) heap_size ?_)
          | ((with_reducible refine probe_storeT 58 ?_); refine wpList_store_at rfl 58 (.tmp 7) _ rfl (w.heap.size + 2) 0 rfl kv (by rw [HQ.out.2.1]; rfl) 58 kz HO2.out.1.kk (by rw [← HKZ.out, kidA_size noKid_wf, HQ.out.1]; decide) q1 q2 ?_))
        refine bodyPost_ret (results_hke rfl _ (w.heap.size + 1) (w.heap.size + 2) _ _ (0, 0) (0, 0) _ rfl rfl HO3.out.1.hh rfl HO3.out.1.kk (by rw [List.size_toArray]; exact HQ.out.1)) rfl ⟨.agg #[.int .u32 hY1.size, .slice Cr nr ccr], ?_, ?_, ?_, HO3.out.1.bl⟩
        · rw [HB.out, HQ.out.2.1, ← HKA.out.2]; rfl
        · rw [HB.out]; exact ⟨_, rfl, HSL.out, HQ.out.2.2.2⟩
        · rw [HB.out]; exact HQ.out.2.2.1
      · have hq : (ea != 0) = true := by simpa using hea
        have HB := Lib.hid (show changeS h root cs = (h, noKid, ea) by unfold changeS; rw [if_neg (by rw [HOB.out]; simp), if_neg (by rw [HTE.out]; simp), H3.out.2.2.2, if_pos hea])
        have HOX := Lib.hid H3.out.1
        clear hea
        go_wp2_with (fail)
        go_at_call 51
        refine (own_any _ _ h (HVV.out.below HOX.out.bl (Nat.le_refl _)) hmax).mono ?_
        rintro e wo ⟨r, rfl, hr, hbo⟩
        obtain ⟨cr, rfl, hslr, _⟩ := hr
        obtain ⟨Cr, nr, ccr, rfl⟩ := sl_slice hslr
        have hOo := HOX.out.pure hbo
        have HO2 := Lib.hid (hOo.heap rfl (by omega) (by omega) (.int .u32 h.size) (.slice Cr nr ccr))
        have HO3 := Lib.hid (HO2.out.1.kid (by rw [← HKZ.out]; exact kidA_size noKid_wf) (by omega) (by omega) kw HX.out.1)
        have HSL := Lib.hid (sl_cel_off HO2.out.1.kk (by rw [← HKZ.out]; exact kid_noPair noKid) HO3.out.2 (sl_cel_off hOo.hh (heap_noPair _ _ ⟨_, _, _, rfl⟩) HO2.out.2 hslr))
        have HO1 := Lib.hid hOo
        clear hOo hbo hslr
        go_wp2_with (first
          | ((with_reducible refine probe_build 58 ?_); refine wpList_build_cells rfl 58 _ rfl [] rfl kz (by rw [← HKZ.out]; exact built_kid0') ?_)
          | ((with_reducible refine probe_storeT 25 ?_); refine wpList_store_at rfl 25 (.tmp 6) _ rfl (w.heap.size + 1) 0 rfl [.int .u32 h.size, .slice Cr nr ccr] rfl 25 _ HO1.out.hh (by simp) (by intro v hv; simp at hv; rcases hv with rfl | rfl <;> rfl) heap_size ?_)
          | ((with_reducible refine probe_storeT 58 ?_); refine wpList_store_at rfl 58 (.tmp 7) _ rfl (w.heap.size + 2) 0 rfl kw (by rw [HX.out.2]; rfl) 58 kz HO2.out.1.kk (by rw [← HKZ.out, kidA_size noKid_wf, HX.out.1]; decide) g1 g2 ?_))
        refine bodyPost_ret (results_hke rfl _ (w.heap.size + 1) (w.heap.size + 2) _ _ (0, 0) (0, 0) _ rfl rfl HO3.out.1.hh rfl HO3.out.1.kk (by rw [List.size_toArray]; exact HX.out.1)) rfl ⟨.agg #[.int .u32 h.size, .slice Cr nr ccr], ?_, ?_, ?_, HO3.out.1.bl⟩
        · rw [HB.out, HX.out.2, ← HKZ.out]; rfl
        · rw [HB.out]; exact ⟨_, rfl, HSL.out, hsz⟩
        · rw [HB.out]; exact noKid_wf
    · have HB := Lib.hid (show changeS h root cs = (h, noKid, topenE h root) by unfold changeS; rw [if_neg (by rw [HOB.out]; simp), if_pos hte])
      have hq : (topenE h root != 0) = true := by simpa using hte
      have hq2 : (topenE h root == 0) = false := by simpa using hte
      have HOX := Lib.hid H2.out.1
      clear hte
      generalize topenE h root = te at *
      go_wp2_with (fail)
      go_at_call 51
      refine (own_any _ _ h (HVV.out.below HOX.out.bl (Nat.le_refl _)) hmax).mono ?_
      rintro e wo ⟨r, rfl, hr, hbo⟩
      obtain ⟨cr, rfl, hslr, _⟩ := hr
      obtain ⟨Cr, nr, ccr, rfl⟩ := sl_slice hslr
      have hOo := HOX.out.pure hbo
      have HO2 := Lib.hid (hOo.heap rfl (by omega) (by omega) (.int .u32 h.size) (.slice Cr nr ccr))
      have HO3 := Lib.hid (HO2.out.1.kid (by rw [← HKZ.out]; exact kidA_size noKid_wf) (by omega) (by omega) kw HX.out.1)
      have HSL := Lib.hid (sl_cel_off HO2.out.1.kk (by rw [← HKZ.out]; exact kid_noPair noKid) HO3.out.2 (sl_cel_off hOo.hh (heap_noPair _ _ ⟨_, _, _, rfl⟩) HO2.out.2 hslr))
      have HO1 := Lib.hid hOo
      clear hOo hbo hslr
      go_wp2_with (first
        | ((with_reducible refine probe_build 58 ?_); refine wpList_build_cells rfl 58 _ rfl [] rfl kz (by rw [← HKZ.out]; exact built_kid0') ?_)
        | ((with_reducible refine probe_storeT 25 ?_); refine wpList_store_at rfl 25 (.tmp 6) _ rfl (w.heap.size + 1) 0 rfl [.int .u32 h.size, .slice Cr nr ccr] rfl 25 _ HO1.out.hh (by simp) (by intro v hv; simp at hv; rcases hv with rfl | rfl <;> rfl) heap_size ?_)
        | ((with_reducible refine probe_storeT 58 ?_); refine wpList_store_at rfl 58 (.tmp 7) _ rfl (w.heap.size + 2) 0 rfl kw (by rw [HX.out.2]; rfl) 58 kz HO2.out.1.kk (by rw [← HKZ.out, kidA_size noKid_wf, HX.out.1]; decide) g1 g2 ?_))
      refine bodyPost_ret (results_hke rfl _ (w.heap.size + 1) (w.heap.size + 2) _ _ (0, 0) (0, 0) _ rfl rfl HO3.out.1.hh rfl HO3.out.1.kk (by rw [List.size_toArray]; exact HX.out.1)) rfl ⟨.agg #[.int .u32 h.size, .slice Cr nr ccr], ?_, ?_, ?_, HO3.out.1.bl⟩
      · rw [HB.out, HX.out.2, ← HKZ.out]; rfl
      · rw [HB.out]; exact ⟨_, rfl, HSL.out, hsz⟩
      · rw [HB.out]; exact noKid_wf
end Go.Proofs.YthhmcjojnbaiiaaGreatDoor

/- Plain: what the law's first question answers (lives). -/
namespace Go.Proofs.YthhmcjojnbaiiaaGreatDoor
open Go Go.RowKit
def ia : Item := ⟨⟨#[97]⟩, ⟨#[49]⟩⟩
def ib : Item := ⟨⟨#[98]⟩, ⟨#[50]⟩⟩
def cb : Change := ⟨⟨#[98]⟩, false, ⟨#[]⟩⟩
def n1 : Node := ⟨1, [ia, ib], [], []⟩
def n2 : Node := ⟨1, [ia], [], []⟩
theorem bl_ab : bl ⟨#[97]⟩ ⟨#[98]⟩ = true := by rw [bl_eq]; decide
theorem bl_ba : bl ⟨#[98]⟩ ⟨#[97]⟩ = false := by rw [bl_eq]; decide
theorem bl_bb : bl ⟨#[98]⟩ ⟨#[98]⟩ = false := by rw [bl_eq]; decide
theorem right_ab (a b : UInt8) : rightB ⟨#[a]⟩ ⟨#[b]⟩ = true := by
  unfold rightB
  rw [ByteArray.toList_eq]
  rfl
theorem ok_ab : itemsOk [ia, ib] = true := by
  unfold itemsOk ia ib
  simp only [List.all_cons, List.all_nil, right_ab, sortedB, bl_ab]
  rfl
theorem ok_a : itemsOk [ia] = true := by
  unfold itemsOk ia
  simp only [List.all_cons, List.all_nil, right_ab, sortedB]
  rfl
theorem leaves_ab : leavesL [ia, ib] = [n1] := by
  unfold leavesL n1
  rw [levelGo, if_pos ⟨⟨by simp, by decide⟩, last_one _ _⟩]
  rfl
theorem leaves_a : leavesL [ia] = [n2] := rfl
theorem node_ok {l : List Item} {n : Node} (h : itemsOk l = true) (hne : l ≠ []) (hl : leavesL l = [n]) : nodeErr n = 0 ∧ nodeWf n := by
  have h1 := (leaves_ok l h hne []).1.ok n (by rw [hl]; simp)
  exact ⟨h1.1, h1.2.1⟩
theorem ok1 : nodeErr n1 = 0 ∧ nodeWf n1 := node_ok ok_ab (by simp) leaves_ab
theorem ok2 : nodeErr n2 = 0 ∧ nodeWf n2 := node_ok ok_a (by simp) leaves_a
theorem put_leaf {sz : Int} {cs : List CC} {n : Node} (hn : nodeErr n = 0) (hk : n.kids = [] ∧ n.vols = []) (hix : cs[dataIx (cs.map (·.data)) (wholeB n)]? = none) (hf : freeNum (ccNums cs) < sz) :
    putS sz cs n = (⟨ByteArray.empty, freeNum (ccNums cs), shaOf (wholeB n).data.toList⟩, 0, insCC (newCC (freeNum (ccNums cs)) n) cs) := by
  have hl : leadsE cs n = 0 := by unfold leadsE namedK; rw [hk.1, hk.2]; rfl
  have hkn : kidNums n = [] := by unfold kidNums; rw [hk.1, hk.2]; split <;> simp
  rw [putS_kid hn hl, hix]
  simp only
  rw [if_neg (by simpa using hf), hkn]
  rfl
theorem raise_leaf {sz : Int} {cs : List CC} {l : List Item} {n : Node} (hl : leavesL l = [n]) (h0 : (putS sz cs n).2.1 = 0) : raiseS (putS sz) cs l = (bare { (putS sz cs n).1 with key := keyOf n }, 0, (putS sz cs n).2.2) := by
  unfold raiseS
  rw [hl]
  refine raise_one _ (s2 := (putS sz cs n).2.2) ?_ (by omega)
  rw [putAll_cons, if_neg (by rw [h0]; simp)]
  rfl
def cs1 : List CC := [newCC 2 n1]
def cs2 : List CC := [newCC 2 n1, newCC 3 n2]
def h0 : Hp := ⟨16, []⟩
def h1 : Hp := heapOf 16 cs1
def h2 : Hp := heapOf 16 cs2
theorem good0 : Good 16 [] := ⟨by omega, by omega, (fun c hc => by cases hc), List.Pairwise.nil, (fun c hc => by cases hc), (fun c hc => by cases hc)⟩
theorem put1 : putS 16 [] n1 = (⟨ByteArray.empty, 2, shaOf (wholeB n1).data.toList⟩, 0, cs1) := put_leaf ok1.1 ⟨rfl, rfl⟩ rfl (by decide)
theorem good1 : Good 16 cs1 := by
  rcases put_good (n := n1) good0 ok1.1 ok1.2 rfl with h | ⟨_, h⟩
  · rw [put1] at h; simp at h
  · rw [put1] at h; exact h.good
theorem whole_ne : beqB (wholeB n1) (wholeB n2) = false := by
  rw [← Bool.not_eq_true, beqB_iff]
  intro e
  have e1 := (dec_enc n1 ok1.1 ok1.2).2
  have e2 := (dec_enc n2 ok2.1 ok2.2).2
  unfold wholeB at e
  rw [e, e2] at e1
  have := congrArg (fun n => n.items.length) e1
  simp [n1, n2] at this
theorem put2 : putS 16 cs1 n2 = (⟨ByteArray.empty, 3, shaOf (wholeB n2).data.toList⟩, 0, cs2) := by
  refine (put_leaf ok2.1 ⟨rfl, rfl⟩ ?_ (by decide)).trans rfl
  have : dataIx (cs1.map (·.data)) (wholeB n2) = 1 := by
    unfold dataIx cs1 newCC
    simp [whole_ne]
  rw [this]
  rfl
theorem good2 : Good 16 cs2 := by
  rcases put_good (n := n2) good1 ok2.1 ok2.2 rfl with h | ⟨_, h⟩
  · rw [put2] at h; simp at h
  · rw [put2] at h; exact h.good
theorem open0 : openB h0 = true ∧ opened h0 = [] := ⟨rfl, rfl⟩
theorem open1 : openB h1 = true ∧ opened h1 = cs1 := ⟨(open_good good1).2, (open_good good1).1⟩
theorem open2 : openB h2 = true ∧ opened h2 = cs2 := ⟨(open_good good2).2, (open_good good2).1⟩
theorem build1 : buildS h0 [ia, ib] = (h1, ⟨ByteArray.empty, 2, shaOf (wholeB n1).data.toList⟩, 0) := by
  unfold buildS
  rw [if_neg (by rw [open0.1]; simp), if_neg (by rw [ok_ab]; simp), if_neg (by simp), open0.2, show h0.size = 16 from rfl, raise_leaf leaves_ab (by rw [put1]), put1]
  rfl
theorem build2 : buildS h1 [ia] = (h2, ⟨ByteArray.empty, 3, shaOf (wholeB n2).data.toList⟩, 0) := by
  unfold buildS
  rw [if_neg (by rw [open1.1]; simp), if_neg (by rw [ok_a]; simp), if_neg (by simp), open1.2, show h1.size = 16 from rfl, raise_leaf leaves_a (by rw [put2]), put2]
  rfl
theorem build3 : buildS h1 [] = (h1, noKid, 0) := by
  unfold buildS
  rw [if_neg (by rw [open1.1]; simp), if_neg (by decide), if_pos rfl]
theorem need1 : needS [ia, ib] = (1, 0) := by
  unfold needS
  rw [if_neg (by rw [ok_ab]; simp), if_neg (by simp)]
  unfold raiseS
  rw [leaves_ab]
  rfl
theorem apply1 : applyS [ia, ib] [cb] = ([ia], 0) := by
  unfold applyS
  rw [if_neg (by
    rw [ok_ab]
    unfold changesOk changeB cb
    simp only [List.all_cons, List.all_nil]
    unfold rightB
    simp only [ByteArray.toList_eq]
    decide)]
  have hp : itemPos [ia, ib] ⟨#[98]⟩ = 1 := by
    unfold itemPos posOf ia ib
    simp [bl_ab, bl_bb]
  have hh : itemHas [ia, ib] ⟨#[98]⟩ = true := by
    unfold itemHas
    rw [hp]
    show beqB ⟨#[98]⟩ ⟨#[98]⟩ = true
    exact (beqB_iff _ _).2 rfl
  have ha : applyOne [ia, ib] cb = [ia] := by
    unfold applyOne cb
    simp only [hh, hp, if_true]
    rfl
  rw [List.foldl_cons, ha]
  rfl
theorem node_at1 : nodeAt h1.cells 2 = (n1, true) := by
  have hc : celAt h1.cells 2 = some (celOf (newCC 2 n1)) := rfl
  unfold nodeAt
  rw [hc]
  have h9 := dec_enc n1 ok1.1 ok1.2
  have hd : (celOf (newCC 2 n1)).data = ⟨(wholeL (encL n1)).toArray⟩ := rfl
  simp only [hd, h9.1, h9.2]
theorem node_at2 : nodeAt h2.cells 3 = (n2, true) := by
  have hc : celAt h2.cells 3 = some (celOf (newCC 3 n2)) := rfl
  unfold nodeAt
  rw [hc]
  have h9 := dec_enc n2 ok2.1 ok2.2
  have hd : (celOf (newCC 3 n2)).data = ⟨(wholeL (encL n2)).toArray⟩ := rfl
  simp only [hd, h9.1, h9.2]
theorem read1 : readS h1 2 = (1, ⟨[2], [ia, ib], false⟩) := by
  show downS h1.cells 1 2 ⟨[], [], false⟩ = _
  unfold downS
  rw [node_at1]
  rfl
theorem read2 : readS h2 3 = (1, ⟨[3], [ia], false⟩) := by
  show downS h2.cells 2 3 ⟨[], [], false⟩ = _
  unfold downS
  rw [node_at2]
  rfl
theorem topen1 : topenE h1 2 = 0 := by
  unfold topenE
  rw [if_neg (by rw [open1.1]; simp), if_neg (by simp), if_neg (by rw [node_at1]; simp), if_neg (by rw [read1]; simp [ok_ab])]
theorem topen2 : topenE h2 3 = 0 := by
  unfold topenE
  rw [if_neg (by rw [open2.1]; simp), if_neg (by simp), if_neg (by rw [node_at2]; simp), if_neg (by rw [read2]; simp [ok_a])]
theorem all1 : allS h1 2 = [ia, ib] := by
  unfold allS topenI
  rw [if_pos topen1, if_neg (by simp), read1]
theorem all2 : allS h2 3 = [ia] := by
  unfold allS topenI
  rw [if_pos topen2, if_neg (by simp), read2]
theorem small_le (n : Nat) (h : n < 3) : n ≤ 1073741824 := by omega
theorem rok1 : ReadOk 1 h1 2 := by
  have hk : topenK h1 2 = [2] := by unfold topenK; rw [if_neg (by simp), read1]
  exact ⟨(by have e : (readS h1 2).2.items.length = 2 := (by rw [read1]; rfl); rw [e]; exact small_le _ (by omega)), (by have e : (readS h1 2).2.blocks.length = 1 := (by rw [read1]; rfl); rw [e]; exact small_le _ (by omega)), by rw [hk]; simp, by rw [hk]; simp, by rw [hk]; intro x hx; rw [List.mem_singleton.1 hx]; unfold u32Ok; omega, fun _ _ _ => by rw [read1]; simp⟩
theorem rok2 : ReadOk 1 h2 3 := by
  have hk : topenK h2 3 = [3] := by unfold topenK; rw [if_neg (by simp), read2]
  exact ⟨(by have e : (readS h2 3).2.items.length = 1 := (by rw [read2]; rfl); rw [e]; exact small_le _ (by omega)), (by have e : (readS h2 3).2.blocks.length = 1 := (by rw [read2]; rfl); rw [e]; exact small_le _ (by omega)), by rw [hk]; simp, by rw [hk]; simp, by rw [hk]; intro x hx; rw [List.mem_singleton.1 hx]; unfold u32Ok; omega, fun _ _ _ => by rw [read2]; simp⟩
theorem change1 : changeS h1 2 [cb] = (h2, ⟨ByteArray.empty, 3, shaOf (wholeB n2).data.toList⟩, 0) := by
  unfold changeS
  rw [if_neg (by rw [open1.1]; simp), if_neg (by rw [topen1]; simp), all1, apply1, if_neg (by simp), build2]
end Go.Proofs.YthhmcjojnbaiiaaGreatDoor

/- The document's Same: of two slices that read alike. -/
namespace Go.Proofs.YthhmcjojnbaiiaaGreatDoor
open Go Go.RowKit
set_option maxRecDepth 100000 in
set_option maxHeartbeats 1000000 in
theorem same_any (w : World) (va vb : Value) (l : List Item) (ha : Sl itemE w va l) (hb : Sl itemE w vb l) (hl : l.length ≤ 1073741824) :
    Calls Tryz.prog 17 #[va, vb] w fun e w' => e = .returned (.bool true) ∧ ∃ q, w' = w.drewN q := by
  obtain ⟨A, c, rfl, hc1, hc2, hra⟩ := ha
  obtain ⟨B, d, rfl, hd1, hd2, hrb⟩ := hb
  have HR := Lib.hid (And.intro hra hrb)
  clear hra hrb
  go_enter Tryz.func17, Tryz.ntmps17
  go_wp2_with (fail)
  go_loopw [5, 13, 14, 15, 16, 17, 18, 19, 20, 21, 22, 23, 24, 25] (fun _ vi _ _ _ _ _ _ _ _ _ _ _ _ wr => ∃ j q : Nat, j ≤ l.length ∧ vi = .int .i64 j ∧ wr = w.drewN q) (fun _ vi _ _ _ _ _ _ _ _ _ _ _ _ _ => l.length - (intOf vi).toNat)
  case atStart => exact ⟨0, 0, Nat.zero_le _, rfl, rfl⟩
  case round =>
    obtain ⟨j, q, hj, rfl, rfl⟩ := hrel
    by_cases hlt : j < l.length
    · obtain ⟨b1, o1, rfl, hat1, hwf⟩ := HR.out.1 j hlt
      obtain ⟨b2, o2, rfl, hat2, _⟩ := HR.out.2 j hlt
      obtain ⟨d0, d1⟩ := hat1.pair
      obtain ⟨e0, e1⟩ := hat2.pair
      have hb1 := block_lt_of_cell d0
      have hb2 := block_lt_of_cell e0
      simp only [itemE] at d0 d1 e0 e1
      clear hat1 hat2 hwf
      generalize l[j].key = kk at *
      generalize l[j].val = kv at *
      have hk : (kk.toList == kk.toList) = true := by simp
      have hv : (kv.toList == kv.toList) = true := by simp
      go_wp2_with (fail)
      go_quiet (fail)
      go_wp2_with (fail)
      exact ⟨⟨j + 1, _, by omega, by go_num, rfl⟩, by simp [intOf]; omega⟩
    · go_wp2_with (fail)
      go_ret
      exact ⟨rfl, q, rfl⟩
end Go.Proofs.YthhmcjojnbaiiaaGreatDoor
