/- Texts of the proof: Do Ts. -/
import Derived.Test.YthhmcjojnbaiiaaGreatDoorM28
import Derived.Deep.RegionLaw
import Derived.Deep.AppendLies
import Derived.Test.YthhmcjojnbaiiaaGreatDoorM29
import Derived.BigRegion
import Derived.Test.YthhmcjojnbaiiaaGreatDoorShelf
set_option linter.all false
/- Tree: the reader's walk down. -/
namespace Go.Proofs.YthhmcjojnbaiiaaGreatDoor
open Go Go.RowKit
theorem u32_info2 : (Tryz.prog.info? 22).map (fun i => (i.zero.map (fun z => z.cells.size), i.size, i.bytes)) = some (some 1, 1, 4) := by kernel_rfl
section
variable {w0 w w' : World} {rp : Nat} {C bv iv : Value} {cs : List Cel} {r : RdS}
theorem blk_ne {w : World} {a b : Nat} {xs ys : Array Value} {t u : TypeId} {fr fr' : Nat × Nat} (h : w.heap[a]? = some (.cells xs t fr)) (k : w.heap[b]? = some (.cells ys u fr')) (ht : t ≠ u) : a ≠ b := by
  intro e
  subst e
  rw [h] at k
  injection k with k
  injection k with _ k _
  exact ht k
/-- One cell of the reader's block is written: the rows stand. -/
theorem RdAt.setBad (h : RdAt w0 w rp C bv iv cs r) (b : Bool) : RdAt w0 (w.setCell ⟨rp, 3, none⟩ (.bool b)) rp C bv iv cs { r with bad := b } ∧ Rs rp w bv iv (w.setCell ⟨rp, 3, none⟩ (.bool b)) bv iv := by
  obtain ⟨m, hm⟩ := h.blk
  have hg : w.grownBy (w.setCell ⟨rp, 3, none⟩ (.bool b)) (some rp) := grown_set (World.grownBy.refl w (some rp)) 3 _
  exact ⟨⟨h.low, h.bl.setCell (p := ⟨rp, 3, none⟩) h.low _, h.src, ⟨m, blk_set hm 3 _⟩, own_keep h.ob hg hm (by decide), own_keep h.oi hg hm (by decide), h.wf⟩,
    ⟨hg.os, hg.tape, hg.output, hg.size, fun b hb n1 _ _ => hg.block b hb (by simpa using n1), fun _ h => Or.inl h, fun _ h => Or.inl h⟩⟩
/-- A block was pushed, its row stored. -/
theorem RdAt.pushB (h : RdAt w0 w rp C bv iv cs r) {wd : World} {v' : Value} {num : Int} {o1 : Obj} (hown : wd.ownsRow w0.heap.size 22 1 v' (r.blocks.length + 1) (r.blocks.map (Value.int .u32) ++ [.int .u32 num])) (hg : (w.alloc o1).grownBy wd bv.ownBlock) :
    RdAt w0 (wd.setCell ⟨rp, 1, none⟩ v') rp C v' iv cs { r with blocks := r.blocks ++ [num] } ∧ ((∀ g, v'.ownBlock = some g → bv.ownBlock = some g ∨ w.heap.size ≤ g) → Rs rp w bv iv (wd.setCell ⟨rp, 1, none⟩ v') v' iv) := by
  obtain ⟨m, hm⟩ := h.blk
  have hm1 := (Lib.alloc_old w o1 _ (lt_of_block hm)).trans hm
  have hm2 := (hg.block rp (lt_of_block hm1) (fun e => own_ne (h.ob.alloc o1) hm1 (by decide) e.symm)).trans hm1
  have hoi : wd.ownsRow w0.heap.size 32 2 iv r.items.length (r.items.flatMap itemE.enc) := by
    refine (h.oi.alloc o1).kept hg ?_
    cases hbv : bv.ownBlock with
    | none =>
      cases hiv : iv.ownBlock with
      | none => exact Or.inl rfl
      | some g => exact Or.inr (by simp)
    | some g =>
      refine Or.inr fun e => ?_
      rcases h.ob.2 with ⟨rfl, _⟩ | ⟨g', _, cur, rfl, _, hb, _⟩
      · cases hbv
      · simp [Value.ownBlock] at hbv
        subst hbv
        exact own_ne h.oi hb (by decide) e
  have hs := grown_set (World.grownBy.refl wd (some rp)) 1 v'
  have hbl : Below w0.heap.size w0 wd := (h.bl.alloc h.bl.size o1).grown hg (by have := h.bl.size; simp; omega) (fun k hk => (h.ob.lt k hk).1)
  refine ⟨⟨h.low, hbl.setCell (p := ⟨rp, 1, none⟩) h.low _, h.src, ⟨m, blk_set hm2 1 _⟩, ?_, own_keep hoi hs hm2 (by decide), h.wf⟩, fun hv => ⟨hs.os.trans hg.os, hs.tape.trans hg.tape, hs.output.trans hg.output, Nat.le_trans (by simp) (Nat.le_trans hg.size hs.size), fun b hb n1 n2 _ => ?_, hv, fun _ h => Or.inl h⟩⟩
  · have := own_keep hown hs hm2 (by decide)
    simpa using this
  · have hlt : b < (w.alloc o1).heap.size := by simp; omega
    rw [hs.block b (Nat.lt_of_lt_of_le hlt hg.size) (by simpa using n1), hg.block b hlt n2]
    exact Lib.alloc_old w o1 b hb
/-- Items were added, their row stored. -/
theorem RdAt.pushI (h : RdAt w0 w rp C bv iv cs r) {wd : World} {v' : Value} {xs : List Item} (hx : ∀ x ∈ xs, itemE.wf x) (hown : wd.ownsRow w0.heap.size 32 2 v' (r.items.length + xs.length) (r.items.flatMap itemE.enc ++ xs.flatMap itemE.enc)) (hg : w.grownBy wd iv.ownBlock) :
    RdAt w0 (wd.setCell ⟨rp, 2, none⟩ v') rp C bv v' cs { r with items := r.items ++ xs } ∧ ((∀ g, v'.ownBlock = some g → iv.ownBlock = some g ∨ w.heap.size ≤ g) → Rs rp w bv iv (wd.setCell ⟨rp, 2, none⟩ v') bv v') := by
  obtain ⟨m, hm⟩ := h.blk
  have hm2 := (hg.block rp (lt_of_block hm) (fun e => own_ne h.oi hm (by decide) e.symm)).trans hm
  have hob : wd.ownsRow w0.heap.size 22 1 bv r.blocks.length (r.blocks.map (Value.int .u32)) := by
    refine h.ob.kept hg ?_
    cases hiv : iv.ownBlock with
    | none =>
      cases hbv : bv.ownBlock with
      | none => exact Or.inl rfl
      | some g => exact Or.inr (by simp)
    | some g =>
      refine Or.inr fun e => ?_
      rcases h.oi.2 with ⟨rfl, _⟩ | ⟨g', _, cur, rfl, _, hb, _⟩
      · cases hiv
      · simp [Value.ownBlock] at hiv
        subst hiv
        exact own_ne h.ob hb (by decide) e
  have hs := grown_set (World.grownBy.refl wd (some rp)) 2 v'
  have hbl : Below w0.heap.size w0 wd := h.bl.grown hg h.bl.size (fun k hk => (h.oi.lt k hk).1)
  refine ⟨⟨h.low, hbl.setCell (p := ⟨rp, 2, none⟩) h.low _, h.src, ⟨m, blk_set hm2 2 _⟩, own_keep hob hs hm2 (by decide), ?_, fun x hx' => ?_⟩, fun hv => ⟨hs.os.trans hg.os, hs.tape.trans hg.tape, hs.output.trans hg.output, Nat.le_trans hg.size hs.size, fun b hb n1 _ n3 => ?_, fun _ h => Or.inl h, hv⟩⟩
  · have := own_keep hown hs hm2 (by decide)
    simpa [List.flatMap_append] using this
  · rcases List.mem_append.1 hx' with h1 | h1
    · exact h.wf x h1
    · exact hx x h1
  · rw [hs.block b (Nat.lt_of_lt_of_le hb hg.size) (by simpa using n1), hg.block b hb n3]
end
theorem Rs.fresh {rp : Nat} {w w' : World} {bv iv b' i' : Value} (h : Rs rp w bv iv w' b' i') {B : Nat} (hrp : rp < B) (hb : ∀ g, bv.ownBlock = some g → g < B) (hi : ∀ g, iv.ownBlock = some g → g < B) : ∀ b, B ≤ b → b < w.heap.size → w'.heap[b]? = w.heap[b]? := fun b hB hlt =>
  h.block b hlt (by omega) (fun e => by have := hb b e.symm; omega) (fun e => by have := hi b e.symm; omega)
def DownPost (w0 w : World) (rp : Nat) (C bv iv : Value) (cs : List Cel) (x : Nat × RdS) (e : Ending) (w' : World) : Prop :=
  ∃ bv' iv', e = .returned (.int .i64 x.1) ∧ RdAt w0 w' rp C bv' iv' cs x.2 ∧ Rs rp w bv iv w' bv' iv'
def DoRel (w0 w2 : World) (rp : Nat) (C bv iv : Value) (cs : List Cel) (R : Nat × RdS) (m : Nat) (kids : List Kid) (vi vl : Value) (wr : World) : Prop :=
  ∃ (j lv : Nat) (r' : RdS) (bv' iv' : Value), j ≤ kids.length ∧ vi = .int .i64 j ∧ vl = .int .i64 lv ∧ R = downKids (downS cs m) (kids.drop j) j lv r' ∧ r'.bad = false ∧ lv ≤ 1073741824 ∧ RdAt w0 wr rp C bv' iv' cs r' ∧ Rs rp w2 bv iv wr bv' iv'
theorem doRel_mk {w0 w2 : World} {rp : Nat} {C bv iv : Value} {cs : List Cel} {R : Nat × RdS} {m : Nat} {kids : List Kid} {vi vl : Value} {wr : World} (j lv : Nat) (r' : RdS) (bv' iv' : Value) (h1 : j ≤ kids.length) (h2 : vi = .int .i64 j) (h3 : vl = .int .i64 lv) (h4 : R = downKids (downS cs m) (kids.drop j) j lv r') (h5 : r'.bad = false) (h6 : lv ≤ 1073741824) (h7 : RdAt w0 wr rp C bv' iv' cs r') (h8 : Rs rp w2 bv iv wr bv' iv') :
    DoRel w0 w2 rp C bv iv cs R m kids vi vl wr := ⟨j, lv, r', bv', iv', h1, h2, h3, h4, h5, h6, h7, h8⟩
set_option maxRecDepth 100000 in
set_option maxHeartbeats 4000000 in
theorem down_any (w0 : World) (rp : Nat) (C : Value) (cs : List Cel) (hris : Rising (cs.map (·.num))) (hlen : cs.length ≤ 1073741824) : ∀ (most : Nat) (w : World) (bv iv : Value) (r : RdS) (num : Int), most ≤ 1073741824 → RdAt w0 w rp C bv iv cs r → r.bad = false → (downS cs most num r).2.items.length ≤ 1073741824 → (downS cs most num r).2.blocks.length ≤ 1073741824 →
    Calls Tryz.prog 62 #[.pointer (some ⟨rp, 0, none⟩), .int .u32 num, .int .i64 most] w fun e w' => DownPost w0 w rp C bv iv cs (downS cs most num r) e w' := by
  intro most
  induction most with
  | zero =>
    intro w bv iv r num hm h hbad hil hbl
    have H0 := Lib.hid (And.intro h (And.intro hbad (And.intro hil hbl)))
    have hrl := h.lt
    clear h hbad hil hbl
    have HD := Lib.hid (show downS cs 0 num r = (0, { r with bad := true }) from rfl)
    rw [show ((0 : Nat) : Int) = 0 from rfl]
    go_enter Tryz.func62, Tryz.ntmps62
    go_wp2_with (fail)
    go_at_call 61
    refine (rnode_any w0 w rp C bv iv cs r num H0.out.1 hris hlen).mono ?_
    rintro e w1 ⟨v, rfl, hnf, hr1, hs1⟩
    have HNF := Lib.hid hnf
    obtain ⟨⟨va, vb, vc, rfl, ha, hb, hc, hk0, hk1⟩, hfv⟩ := hnf
    obtain ⟨A1, n1, c1, rfl⟩ := sl_slice ha
    obtain ⟨A2, n2, c2, rfl⟩ := sl_slice hb
    obtain ⟨A3, n3, c3, rfl⟩ := sl_slice hc
    obtain ⟨nd, hnd⟩ : ∃ nd, nodeAt cs num = nd := ⟨_, rfl⟩
    obtain ⟨n, isn⟩ := nd
    rw [hnd] at HNF ha hb hc hk0 hk1 ⊢
    simp only at HNF ha hb hc hk0 hk1 ⊢
    have HND := Lib.hid hnd
    have H1 := Lib.hid (And.intro hr1 hs1)
    have hr2 := hr1.below (below_box w1 (.cells #[.int .u8 n.kind, .slice A1 n1 c1, .slice A2 n2 c2, .slice A3 n3 c3] 44))
    have hs2 := hs1.trans (Rs.of_below (below_box w1 (.cells #[.int .u8 n.kind, .slice A1 n1 c1, .slice A2 n2 c2, .slice A3 n3 c3] 44)))
    have H2 := Lib.hid (And.intro hr2 hs2)
    have hw1 : w.heap.size ≤ w1.heap.size := hs1.size
    generalize hkd : n.kind = kd at *
    have HKD := Lib.hid hkd
    clear hnd hkd hr1 hs1 hr2 hs2 ha hb hc hfv
    have hb7 := heap_alloc_new w1 (.cells #[.int .u8 kd, .slice A1 n1 c1, .slice A2 n2 c2, .slice A3 n3 c3] 44)
    have hb12 := below_box w1 (.cells #[.int .u8 kd, .slice A1 n1 c1, .slice A2 n2 c2, .slice A3 n3 c3] 44)
    have HB7 := Lib.hid (And.intro hb7 hb12)
    clear hb7 hb12
    go_upto_region 2 with (first
        | ((with_reducible refine probe_storeT 44 ?_); refine wpList_store_new rfl 44 (.tmp 7) (.tmp 18) rfl 44 _ rfl [.int .u8 kd, .slice A1 n1 c1, .slice A2 n2 c2, .slice A3 n3 c3] rfl rfl (node_cells_one' _ _ _ _ _ _ _ _ _ _) node_size ?_))
    generalize w1.alloc (.cells #[.int .u8 kd, .slice A1 n1 c1, .slice A2 n2 c2, .slice A3 n3 c3] 44) = w2 at *
    obtain ⟨m2, hm2⟩ := H2.out.1.blk
    have d3 : w2.cell? ⟨rp, 3, none⟩ = some (.bool r.bad) := by rw [cell_of_row _ _ _ _ _ _ hm2]; rfl
    have f3 := frozen_of_row _ rp 3 _ _ hm2
    have hrl1 : rp < w1.heap.size := Nat.lt_of_lt_of_le hrl hw1
    have d1 : w2.cell? ⟨rp, 1, none⟩ = some bv := by rw [cell_of_row _ _ _ _ _ _ hm2]; rfl
    have HM2 := Lib.hid hm2
    have y0 : w2.cell? ⟨w1.heap.size, 0, none⟩ = some (.int .u8 kd) := by rw [cell_of_row _ _ _ _ _ _ HB7.out.1]; rfl
    have y1 : w2.cell? ⟨w1.heap.size, 1, none⟩ = some (.slice A1 n1 c1) := by rw [cell_of_row _ _ _ _ _ _ HB7.out.1]; rfl
    have y2 : w2.cell? ⟨w1.heap.size, 2, none⟩ = some (.slice A2 n2 c2) := by rw [cell_of_row _ _ _ _ _ _ HB7.out.1]; rfl
    clear hm2
    cases isn with
    | false =>
      go_wp2_with (fail)
      go_ret
      have hsb := H2.out.1.setBad true
      refine ⟨bv, iv, ?_, ?_, H2.out.2.trans hsb.2⟩
      · rw [HD.out]; rfl
      · rw [HD.out]; exact hsb.1
    | true =>
      go_wp2_with (fail)
      go_ret
      have hsb := H2.out.1.setBad true
      refine ⟨bv, iv, ?_, ?_, H2.out.2.trans hsb.2⟩
      · rw [HD.out]; rfl
      · rw [HD.out]; exact hsb.1
  | succ m ih =>
    intro w bv iv r num hm h hbad hil hbl
    obtain ⟨i0, z0, hi, hz0, hz1, hz2, hzs⟩ := info_open u32_info2
    obtain ⟨j0, yz, hj, hy0, hy1, hy2, hys⟩ := info_open item_info
    have H0 := Lib.hid (And.intro h (And.intro hbad (And.intro hil (And.intro hbl ih))))
    have hrl := h.lt
    clear h hbad hil hbl ih
    go_enter Tryz.func62, Tryz.ntmps62
    go_wp2_with (fail)
    go_at_call 61
    refine (rnode_any w0 w rp C bv iv cs r num H0.out.1 hris hlen).mono ?_
    rintro e w1 ⟨v, rfl, hnf, hr1, hs1⟩
    have HNF := Lib.hid hnf
    obtain ⟨⟨va, vb, vc, rfl, ha, hb, hc, hk0, hk1⟩, hfv⟩ := hnf
    obtain ⟨A1, n1, c1, rfl⟩ := sl_slice ha
    obtain ⟨A2, n2, c2, rfl⟩ := sl_slice hb
    obtain ⟨A3, n3, c3, rfl⟩ := sl_slice hc
    obtain ⟨nd, hnd⟩ : ∃ nd, nodeAt cs num = nd := ⟨_, rfl⟩
    obtain ⟨n, isn⟩ := nd
    rw [hnd] at HNF ha hb hc hk0 hk1 ⊢
    simp only at HNF ha hb hc hk0 hk1 ⊢
    have HND := Lib.hid hnd
    have H1 := Lib.hid (And.intro hr1 hs1)
    have hr2 := hr1.below (below_box w1 (.cells #[.int .u8 n.kind, .slice A1 n1 c1, .slice A2 n2 c2, .slice A3 n3 c3] 44))
    have hs2 := hs1.trans (Rs.of_below (below_box w1 (.cells #[.int .u8 n.kind, .slice A1 n1 c1, .slice A2 n2 c2, .slice A3 n3 c3] 44)))
    have H2 := Lib.hid (And.intro hr2 hs2)
    have hw1 : w.heap.size ≤ w1.heap.size := hs1.size
    generalize hkd : n.kind = kd at *
    have HKD := Lib.hid hkd
    clear hnd hkd hr1 hs1 hr2 hs2 ha hb hc hfv
    have hb7 := heap_alloc_new w1 (.cells #[.int .u8 kd, .slice A1 n1 c1, .slice A2 n2 c2, .slice A3 n3 c3] 44)
    have hb12 := below_box w1 (.cells #[.int .u8 kd, .slice A1 n1 c1, .slice A2 n2 c2, .slice A3 n3 c3] 44)
    have HB7 := Lib.hid (And.intro hb7 hb12)
    clear hb7 hb12
    go_upto_region 2 with (first
        | ((with_reducible refine probe_storeT 44 ?_); refine wpList_store_new rfl 44 (.tmp 7) (.tmp 18) rfl 44 _ rfl [.int .u8 kd, .slice A1 n1 c1, .slice A2 n2 c2, .slice A3 n3 c3] rfl rfl (node_cells_one' _ _ _ _ _ _ _ _ _ _) node_size ?_))
    generalize w1.alloc (.cells #[.int .u8 kd, .slice A1 n1 c1, .slice A2 n2 c2, .slice A3 n3 c3] 44) = w2 at *
    obtain ⟨m2, hm2⟩ := H2.out.1.blk
    have d3 : w2.cell? ⟨rp, 3, none⟩ = some (.bool r.bad) := by rw [cell_of_row _ _ _ _ _ _ hm2]; rfl
    have f3 := frozen_of_row _ rp 3 _ _ hm2
    have hrl1 : rp < w1.heap.size := Nat.lt_of_lt_of_le hrl hw1
    have d1 : w2.cell? ⟨rp, 1, none⟩ = some bv := by rw [cell_of_row _ _ _ _ _ _ hm2]; rfl
    have HM2 := Lib.hid hm2
    have y0 : w2.cell? ⟨w1.heap.size, 0, none⟩ = some (.int .u8 kd) := by rw [cell_of_row _ _ _ _ _ _ HB7.out.1]; rfl
    have y1 : w2.cell? ⟨w1.heap.size, 1, none⟩ = some (.slice A1 n1 c1) := by rw [cell_of_row _ _ _ _ _ _ HB7.out.1]; rfl
    have y2 : w2.cell? ⟨w1.heap.size, 2, none⟩ = some (.slice A2 n2 c2) := by rw [cell_of_row _ _ _ _ _ _ HB7.out.1]; rfl
    clear hm2
    cases isn with
    | false =>
      have HD := Lib.hid (show downS cs (m + 1) num r = (0, { r with bad := true }) by unfold downS; rw [HND.out, if_pos (Or.inl rfl)])
      go_wp2_with (fail)
      go_ret
      have hsb := H2.out.1.setBad true
      refine ⟨bv, iv, ?_, ?_, H2.out.2.trans hsb.2⟩
      · rw [HD.out]; rfl
      · rw [HD.out]; exact hsb.1
    | true =>
      have HK := Lib.hid (show (n.kind = 1 ∧ n.items ≠ []) ∨ (n.kind = 2 ∧ n.kids ≠ []) ∨ n.kind = 3 from by have h9 := nodeAt_kinds (cs := cs) (t := num); rw [HND.out] at h9; exact h9 rfl)
      have hmq : ((m : Int) + 1 == 0) = false := by simp; omega
      by_cases hk3 : kd = 3
      · have HD := Lib.hid (show downS cs (m + 1) num r = (0, { r with bad := true }) by unfold downS; rw [HND.out, if_pos (Or.inr (HKD.out.trans hk3))])
        have hkq : (kd == 3) = true := by simpa using hk3
        go_wp2_with (fail)
        go_ret
        have hsb := H2.out.1.setBad true
        refine ⟨bv, iv, ?_, ?_, H2.out.2.trans hsb.2⟩
        · rw [HD.out]; rfl
        · rw [HD.out]; exact hsb.1
      · have hkq : (kd == 3) = false := by simpa using hk3
        have hgr := downS_grows cs (m + 1) num r
        have hbl1 : r.blocks.length ≤ 1073741824 := Nat.le_trans hgr.2.1 H0.out.2.2.2.1
        have hil1 : r.items.length ≤ 1073741824 := Nat.le_trans hgr.1 H0.out.2.2.1
        have hw02 := H2.out.1.bl.size
        have hone : ∀ u ∈ [Value.int .u32 num], u.oneCell' = true := by intro u hu; rw [List.mem_singleton.1 hu]; rfl
        have HONE := Lib.hid hone
        have hrl2 := H2.out.1.lt
        clear hgr hone
        go_upto_region 6 with (first
          | (at_builtin; go_loud (refine wpList_append_lies (w := w2.alloc (.cells #[.int .u32 num] 22)) rfl (.tmp 38) (.tmp 40) 33 rfl w0.heap.size 22 i0 z0 1 4 Tryz.underlying33 hi hz0 hz1 hz2 hzs (by decide) bv r.blocks.length _ rfl (H2.out.1.ob.alloc (.cells #[.int .u32 num] 22)) ⟨w2.heap.size, 0, none⟩ 1 1 [.int .u32 num] rfl rfl (fun j u hj => by rw [add_at, Nat.zero_add]; exact new_cell (w := w2) (vs := [.int .u32 num]) (t := 22) j u hj) HONE.out (by decide) (by unfold maxLen; omega) (by omega) (by simp; omega) (w2.heap.size + 1) (by simp) ?_); intro g cap wd ho2 hg2 hgh hglt; have hmd := (hg2.block rp (by simp; omega) (fun e => own_ne (H2.out.1.ob.alloc (.cells #[.int .u32 num] 22)) ((Lib.alloc_old w2 (.cells #[.int .u32 num] 22) _ hrl2).trans HM2.out) (by decide) e.symm)).trans ((Lib.alloc_old w2 (.cells #[.int .u32 num] 22) _ hrl2).trans HM2.out); have e1 : wd.cell? ⟨rp, 1, none⟩ = some bv := (by rw [cell_of_row _ _ _ _ _ _ hmd]; rfl); have e1f := frozen_of_row wd rp 1 _ _ hmd; have HOW := Lib.hid (And.intro ho2 (And.intro hg2 hgh)); clear ho2 hg2 hgh hmd))
        have hpb := H2.out.1.pushB HOW.out.1 HOW.out.2.1
        have hr5 := hpb.1
        have hs5 := hpb.2 (fun g' hg' => by
          rcases HOW.out.2.2 with h9 | h9
          · exact Or.inl (h9.trans hg')
          · have h8 : g = g' := Option.some.inj hg'
            exact Or.inr (by omega))
        generalize wd.setCell ⟨rp, 1, none⟩ (.slice (some ⟨g, 0, none⟩) (r.blocks.length + 1) cap) = w5 at *
        have hfr5 := hs5.fresh (B := w.heap.size) hrl (fun g' hg' => (H0.out.1.ob.lt _ hg').2) (fun g' hg' => (H0.out.1.oi.lt _ hg').2)
        have hnf5 := HNF.out.keep (w' := w5) (fun b hb' hlt => (hfr5 b hb' (Nat.lt_of_lt_of_le hlt HB7.out.2.size)).trans (HB7.out.2.block b hlt))
        have hb75 := (hfr5 w1.heap.size hw1 (lt_of_block HB7.out.1)).trans HB7.out.1
        have z0 : w5.cell? ⟨w1.heap.size, 0, none⟩ = some (.int .u8 kd) := by rw [cell_of_row _ _ _ _ _ _ hb75]; rfl
        have z1 : w5.cell? ⟨w1.heap.size, 1, none⟩ = some (.slice A1 n1 c1) := by rw [cell_of_row _ _ _ _ _ _ hb75]; rfl
        have z2 : w5.cell? ⟨w1.heap.size, 2, none⟩ = some (.slice A2 n2 c2) := by rw [cell_of_row _ _ _ _ _ _ hb75]; rfl
        obtain ⟨m5, hm5⟩ := hr5.blk
        have t2 : w5.cell? ⟨rp, 2, none⟩ = some iv := by rw [cell_of_row _ _ _ _ _ _ hm5]; rfl
        have H5 := Lib.hid (And.intro hr5 (And.intro hs5 (And.intro hnf5 (And.intro hb75 hm5))))
        have hrl5 := hr5.lt
        clear hpb hr5 hs5 hfr5 hnf5 hb75 hm5 d1 y0 y1 y2 d3 f3 e1 e1f
        by_cases hk1 : kd = 1
        · have hne : n.items ≠ [] := by
            rcases HK.out with ⟨_, h9⟩ | ⟨h9, _⟩ | h9
            · exact h9
            · have := HKD.out; omega
            · have := HKD.out; omega
          have HD := Lib.hid (show downS cs (m + 1) num r = (1, { r with blocks := r.blocks ++ [num], items := r.items ++ n.items }) by
            unfold downS
            rw [HND.out, if_neg (by simp only [Bool.true_eq_false, false_or]; rw [HKD.out]; exact hk3), if_pos (by rw [HKD.out]; exact hk1)])
          have hil2 := H0.out.2.2.1
          rw [HD.out] at hil2
          simp only [List.length_append] at hil2
          obtain ⟨va5, vb5, vc5, he5, ha5, _⟩ := H5.out.2.2.1.1
          simp only [Value.agg.injEq, Array.mk.injEq, List.cons.injEq, and_true] at he5
          obtain ⟨_, rfl, rfl, rfl⟩ := he5
          obtain ⟨ln, lc1, lc2, hrow⟩ := ha5.len_eq
          obtain ⟨b5, o5, rfl, hb5l⟩ := hrow.addr hne
          have hfl := flat_length itemE n.items ha5.wf
          have HA := Lib.hid (And.intro hfl (And.intro (flat_one itemE n.items ha5.wf) (And.intro (fun j u hj => row_flat hrow j u hj) ha5.wf)))
          have hpos := List.length_pos_iff.2 hne
          have hkq1 : (kd == 1) = true := by simpa using hk1
          subst ln
          clear ha5 hrow hfl
          go_wp2_with (fail)
          go_region_law ((refine step_append_lies (w := w5.drew) rfl (.tmp 51) (.tmp 53) 27 rfl w0.heap.size 32 j0 yz 2 32 Tryz.underlying27 hj hy0 hy1 hy2 hys (by decide) iv r.items.length _ (by simp [Act.eval, Act.put]) (H5.out.1.oi.drew) ⟨b5, o5, none⟩ n.items.length c1 (n.items.flatMap itemE.enc) (by simp [Act.eval, Act.put]) HA.out.1 (fun j u hj => by rw [add_at]; exact HA.out.2.2.1 j u hj) HA.out.2.1 hpos (by unfold maxLen; omega) (by omega) H5.out.1.bl.size w5.heap.size rfl ?_; intro g6 cap6 wd6 ho6 hg6 hgh6 hgl6; have hmd6 := (hg6.block rp hrl5 (fun e => own_ne H5.out.1.oi H5.out.2.2.2.2 (by decide) e.symm)).trans (show w5.drew.heap[rp]? = _ from H5.out.2.2.2.2); have e2 : wd6.cell? ⟨rp, 2, none⟩ = some iv := (by rw [cell_of_row _ _ _ _ _ _ hmd6]; rfl); have e2f := frozen_of_row wd6 rp 2 _ _ hmd6; have HO6 := Lib.hid (And.intro ho6 (And.intro (show w5.grownBy wd6 iv.ownBlock from ⟨hg6.os, hg6.tape, hg6.output, hg6.size, hg6.block⟩) hgh6)); clear ho6 hg6 hgh6 hgl6 hmd6))
          all_goals (
            go_wp2_with (fail)
            go_ret
            have hpi := H5.out.1.pushI HA.out.2.2.2 HO6.out.1 HO6.out.2.1
            have hsi := hpi.2 (fun g' hg' => by
              rcases HO6.out.2.2 with h9 | h9
              · exact Or.inl (h9.trans hg')
              · have h8 : g6 = g' := Option.some.inj hg'
                exact Or.inr (by omega))
            refine ⟨_, _, ?_, ?_, (H2.out.2.trans H5.out.2.1).trans hsi⟩
            · rw [HD.out]; rfl
            · rw [HD.out]; exact hpi.1)
        · have hk2 : kd = 2 ∧ n.kids ≠ [] := by
            rcases HK.out with ⟨h9, _⟩ | ⟨h9, h8⟩ | h9
            · have := HKD.out; omega
            · exact ⟨by have := HKD.out; omega, h8⟩
            · have := HKD.out; omega
          have hkq1 : (kd == 1) = false := by simpa using hk1
          obtain ⟨R, hR⟩ : ∃ R, downS cs (m + 1) num r = R := ⟨_, rfl⟩
          have hRd : R = downKids (downS cs m) n.kids 0 0 { r with blocks := r.blocks ++ [num] } := by
            rw [← hR]
            conv => lhs; unfold downS
            rw [HND.out, if_neg (by simp only [Bool.true_eq_false, false_or]; rw [HKD.out]; exact hk3), if_neg (by rw [HKD.out]; exact hk1)]
          have hil2 := H0.out.2.2.1
          have hbl2 := H0.out.2.2.2.1
          rw [hR] at hil2 hbl2
          have HRR := Lib.hid hR
          have HR := Lib.hid (And.intro hRd (And.intro hil2 (And.intro hbl2 hk2.2)))
          obtain ⟨vb5, hsk⟩ : ∃ vb5, vb5 = Value.slice A2 n2 c2 ∧ Sl kidE w5 vb5 n.kids := by
            obtain ⟨va5, vb5, vc5, he5, _, hb5, _⟩ := H5.out.2.2.1.1
            simp only [Value.agg.injEq, Array.mk.injEq, List.cons.injEq, and_true] at he5
            exact ⟨_, he5.2.2.1.symm, hb5⟩
          obtain ⟨rfl, hsk⟩ := hsk
          obtain ⟨ln, lc1, lc2, _⟩ := hsk.len_eq
          subst ln
          clear hR hRd hil2 hbl2 hk2 hsk
          go_wp2_with (fail)
          go_loopw [6, 9, 10, 11, 12, 13, 60, 61, 62, 63, 64, 65, 66, 67, 68, 69, 70, 71, 72, 73, 74, 75, 76, 77, 78, 79, 80, 81, 82, 83, 84, 85, 86, 87, 88, 89, 90, 91, 92, 93, 94, 95, 96, 97, 98, 99, 100, 101, 102, 103, 104, 105, 106, 107, 108, 109, 110] (fun _ vl _ _ _ _ vi _ _ _ _ _ _ _ _ _ _ _ _ _ _ _ _ _ _ _ _ _ _ _ _ _ _ _ _ _ _ _ _ _ _ _ _ _ _ _ _ _ _ _ _ _ _ _ _ _ _ wr => DoRel w0 w2 rp C bv iv cs R m n.kids vi vl wr) (fun _ _ _ _ _ _ vi _ _ _ _ _ _ _ _ _ _ _ _ _ _ _ _ _ _ _ _ _ _ _ _ _ _ _ _ _ _ _ _ _ _ _ _ _ _ _ _ _ _ _ _ _ _ _ _ _ _ _ => n.kids.length - (intOf vi).toNat)
          case atStart => exact doRel_mk 0 0 { r with blocks := r.blocks ++ [num] } _ _ (Nat.zero_le _) rfl rfl (by rw [List.drop_zero]; exact HR.out.1) H0.out.2.1 (Nat.zero_le _) H5.out.1 H5.out.2.1
          case round =>
            obtain ⟨j, lv, r', bv', iv', hj, rfl, rfl, hRj, hbad, hlv, hrd, hrs⟩ := hrel
            by_cases hlt : j < n.kids.length
            · have hfr := hrs.fresh (B := w.heap.size) hrl (fun g' hg' => (H0.out.1.ob.lt _ hg').2) (fun g' hg' => (H0.out.1.oi.lt _ hg').2)
              obtain ⟨va5, vb5, vc5, he5, _, hb5, _⟩ := (HNF.out.keep (w' := wr) (fun b hb' hlt => (hfr b hb' (Nat.lt_of_lt_of_le hlt HB7.out.2.size)).trans (HB7.out.2.block b hlt))).1
              simp only [Value.agg.injEq, Array.mk.injEq, List.cons.injEq, and_true] at he5
              obtain ⟨-, -, rfl, -⟩ := he5
              obtain ⟨b2, o2, rfl, hat, hkw⟩ := (hb5.len_eq).2.2.2 j hlt
              have hdr : n.kids.drop j = n.kids[j] :: n.kids.drop (j + 1) := List.drop_eq_getElem_cons hlt
              rw [hdr] at hRj
              generalize n.kids[j] = kj at *
              have hRj2 : R = if kidBad kj r'.items.length j lv (downS cs m kj.num r') then (0, { (downS cs m kj.num r').2 with bad := true }) else downKids (downS cs m) (n.kids.drop (j + 1)) (j + 1) (downS cs m kj.num r').1 (downS cs m kj.num r').2 := hRj
              have hgx := downS_grows cs m kj.num r'
              have hxl : (downS cs m kj.num r').2.items.length ≤ 1073741824 ∧ (downS cs m kj.num r').2.blocks.length ≤ 1073741824 := by
                have h8 := HR.out.2.1
                have h9 := HR.out.2.2.1
                rw [hRj2] at h8 h9
                split at h8
                · rename_i hb9
                  rw [if_pos hb9] at h9
                  exact ⟨h8, h9⟩
                · rename_i hb9
                  rw [if_neg hb9] at h9
                  have h7 := (downKids_grows (fun t r => downS_grows cs m t r) (n.kids.drop (j + 1)) (j + 1) (downS cs m kj.num r').1 (downS cs m kj.num r').2).1
                  exact ⟨Nat.le_trans h7.1 h8, Nat.le_trans h7.2 h9⟩
              have hkl := kid_len kj hkw
              have hkn := kidE.len kj hkw
              have h1' := kidE.one kj hkw
              have hb2l : b2 < wr.heap.size := hat.lt (by simp [kidE])
              have HJ := Lib.hid (And.intro hRj2 (And.intro hbad (And.intro hrd (And.intro hrs (And.intro hxl hgx)))))
              have hrdl := hrd.lt
              have HKJ := Lib.hid (And.intro hkn (show (kidE.enc kj).toArray = kidA kj from rfl))
              obtain ⟨kv, hkv⟩ : ∃ kv, kidE.enc kj = kv := ⟨_, rfl⟩
              obtain ⟨ka, hka⟩ : ∃ ka, kidA kj = ka := ⟨_, rfl⟩
              rw [hkv] at hat hkl h1' HKJ
              rw [hka] at HKJ
              have HKA := Lib.hid (And.intro hkv hka)
              simp only [show kidE.sz = 34 from rfl] at hat
              clear hRj hRj2 hbad hrd hrs hxl hgx hkn hkv hka hkw hdr hb5 hfr
              go_upto_region 13 with (first
                | ((with_reducible refine probe_loadT 58 ?_); refine wpList_load_arr rfl 58 (.tmp 63) rfl b2 (o2 + j * 34) rfl kv _ hat Tryz.underlying58 rfl hkl ka HKJ.out.2 ?_)
                | ((with_reducible refine probe_storeT 58 ?_); refine wpList_store_new rfl 58 (.tmp 11) (.tmp 64) rfl 58 _ rfl kv (by rw [HKJ.out.2]; rfl) (by rw [HKJ.out.1]; rfl) h1' hkl ?_; rw [HKJ.out.2]))
              have HB6 := Lib.hid (And.intro (heap_alloc_new wr (.cells ka 58)) (below_box wr (.cells ka 58)))
              have hrd6 := HJ.out.2.2.1.below HB6.out.2
              have hlt6 : wr.heap.size < (wr.alloc (.cells ka 58)).heap.size := by simp
              generalize wr.alloc (.cells ka 58) = w6 at *
              obtain ⟨m6, hm6⟩ := hrd6.blk
              have k0 : w6.cell? ⟨wr.heap.size, 0, none⟩ = some (.string kj.key) := by rw [cell_of_row _ _ _ _ _ _ HB6.out.1, ← HKA.out.2]; exact kidA_key0 kj
              have k1 : w6.cell? ⟨wr.heap.size, 1, none⟩ = some (.int .u32 kj.num) := by rw [cell_of_row _ _ _ _ _ _ HB6.out.1, ← HKA.out.2]; exact kidA_num kj
              obtain ⟨Ai, ci, rfl⟩ : ∃ Ai ci, iv' = .slice Ai r'.items.length ci := by
                rcases hrd6.oi.2 with ⟨h8, h9⟩ | ⟨g', cp', cur', h8, _⟩
                · exact ⟨none, 0, by rw [h8, h9]⟩
                · exact ⟨_, _, h8⟩
              have k2 : w6.cell? ⟨rp, 2, none⟩ = some (.slice Ai r'.items.length ci) := by rw [cell_of_row _ _ _ _ _ _ hm6]; rfl
              have hrl6 := hrd6.lt
              have H6 := Lib.hid hrd6
              clear hrd6 hm6
              go_wp2_with (fail)
              go_at_call 62
              refine (H0.out.2.2.2.2 w6 bv' _ r' kj.num (by omega) H6.out HJ.out.2.1 HJ.out.2.2.2.2.1.1 HJ.out.2.2.2.2.1.2).mono ?_
              rintro e w7 ⟨bv2, iv2, rfl, hr7, hs7⟩
              obtain ⟨X, hX⟩ : ∃ X, downS cs m kj.num r' = X := ⟨_, rfl⟩
              rw [hX] at HJ hr7 ⊢
              have hlm := downS_le cs m kj.num r'
              rw [hX] at hlm
              have HLM := Lib.hid hlm
              clear hlm
              obtain ⟨lx, rx⟩ := X
              simp only at HJ hr7 ⊢
              have hfr7 := hs7.fresh (B := wr.heap.size) hrdl (fun g' hg' => (HJ.out.2.2.1.ob.lt _ hg').2) (fun g' hg' => (HJ.out.2.2.1.oi.lt _ hg').2)
              have hb11 := (hfr7 wr.heap.size (Nat.le_refl _) hlt6).trans HB6.out.1
              obtain ⟨m7, hm7⟩ := hr7.blk
              have q0 : w7.cell? ⟨wr.heap.size, 0, none⟩ = some (.string kj.key) := by rw [cell_of_row _ _ _ _ _ _ hb11, ← HKA.out.2]; exact kidA_key0 kj
              have q3 : w7.cell? ⟨rp, 3, none⟩ = some (.bool rx.bad) := by rw [cell_of_row _ _ _ _ _ _ hm7]; rfl
              have q3f := frozen_of_row _ rp 3 _ _ hm7
              have q2 : w7.cell? ⟨rp, 2, none⟩ = some iv2 := by rw [cell_of_row _ _ _ _ _ _ hm7]; rfl
              have hrs7 := ((HJ.out.2.2.2.1.trans (Rs.of_below HB6.out.2)).trans hs7)
              have hrl7 := hr7.lt
              have H7 := Lib.hid (And.intro hr7 hrs7)
              clear hfr7 hm7 hr7 hrs7 hs7 hX k0 k1 k2 hat hb11
              cases hbx : rx.bad with
              | true =>
                rw [hbx] at q3
                have HRR2 := Lib.hid (show downS cs (m + 1) num r = (0, { rx with bad := true }) by
                  rw [HRR.out, HJ.out.1, if_pos (by unfold kidBad; simp only; rw [hbx]; rfl)])
                clear hbx
                go_wp2_with (fail)
                go_region
                all_goals (
                  go_wp2_with (fail)
                  go_ret
                  have hsb := H7.out.1.setBad true
                  have hdr := (Below.refl (w7.setCell ⟨rp, 3, none⟩ (.bool true)).heap.size (w7.setCell ⟨rp, 3, none⟩ (.bool true))).drew
                  refine ⟨bv2, _, ?_, ?_, ((H2.out.2.trans H7.out.2).trans hsb.2).trans (Rs.of_below hdr)⟩
                  · rw [HRR2.out]; rfl
                  · rw [HRR2.out]; exact hsb.1.below hdr)
              | false =>
                rw [hbx] at q3
                have hgx : r'.items.length < rx.items.length := HJ.out.2.2.2.2.2.2.2 hbx
                have HBX := Lib.hid (And.intro (show ({ rx with bad := false } : RdS) = rx by cases rx; simp only at hbx; subst hbx; rfl) hbx)
                have HLX := Lib.hid (show lx ≤ 1073741824 from Nat.le_trans (show lx ≤ m from HLM.out) (by omega))
                obtain ⟨g2, cp2, hiv2, hg20, hg2l⟩ := H7.out.1.oi.form (by omega)
                subst hiv2
                have hkc : w7.cell? ⟨g2, r'.items.length * 2, none⟩ = some (.string (keyAt rx.items r'.items.length)) := by
                  have hc := H7.out.1.oi.cells (g := g2) rfl (r'.items.length * 2) (.string (keyAt rx.items r'.items.length)) (by
                    have := flat_getElem itemE rx.items H7.out.1.wf r'.items.length hgx 0 (by decide)
                    simp only [show itemE.sz = 2 from rfl, Nat.add_zero] at this
                    rw [this]
                    unfold keyAt
                    rw [List.getElem?_eq_getElem hgx]
                    rfl)
                  rw [add_at, Nat.zero_add] at hc
                  exact hc
                have hkb : ∀ v, beqB (keyAt rx.items r'.items.length) kj.key = v → kidBad kj r'.items.length j lv (lx, rx) = (!v || (decide (0 < j) && decide (lx ≠ lv))) := fun v hv => by
                  unfold kidBad
                  simp only
                  rw [hbx, hv]
                  rfl
                have HKB := Lib.hid hkb
                have hatl : (r'.items.length : Int) < rx.items.length := by omega
                clear hkb hbx
                cases hbq : beqB (keyAt rx.items r'.items.length) kj.key with
                | false =>
                  have hbq2 : ((keyAt rx.items r'.items.length).toList == kj.key.toList) = false := hbq
                  have HRR2 := Lib.hid (show downS cs (m + 1) num r = (0, { rx with bad := true }) by
                    rw [HRR.out, HJ.out.1, if_pos (by rw [HKB.out _ hbq]; rfl)])
                  clear hbq
                  generalize keyAt rx.items r'.items.length = kx at *
                  go_wp2_with (fail)
                  go_region
                  all_goals (
                    go_wp2_with (fail)
                    go_ret
                    have hsb := H7.out.1.setBad true
                    have hdr := (Below.refl (w7.setCell ⟨rp, 3, none⟩ (.bool true)).heap.size (w7.setCell ⟨rp, 3, none⟩ (.bool true))).drew
                    refine ⟨bv2, _, ?_, ?_, ((H2.out.2.trans H7.out.2).trans hsb.2).trans (Rs.of_below hdr)⟩
                    · rw [HRR2.out]; rfl
                    · rw [HRR2.out]; exact hsb.1.below hdr)
                | true =>
                  have hbq2 : ((keyAt rx.items r'.items.length).toList == kj.key.toList) = true := hbq
                  have HB3 := Lib.hid (HKB.out _ hbq)
                  clear hbq
                  generalize keyAt rx.items r'.items.length = kx at *
                  by_cases hj0 : j = 0
                  · have hg0 : decide (0 < (j : Int)) = false := by simp; omega
                    have hg1 : decide (0 < j) = false := by simp; omega
                    have HRR2 := Lib.hid (show R = downKids (downS cs m) (n.kids.drop (j + 1)) (j + 1) lx rx by
                      rw [HJ.out.1, if_neg (by rw [HB3.out, hg1]; simp)])
                    clear hj0
                    go_wp2_with (fail)
                    go_region
                    all_goals (
                      go_wp2_with (fail)
                      have hsb := H7.out.1.setBad false
                      rw [HBX.out.1] at hsb
                      have hdr := (Below.refl (w7.setCell ⟨rp, 3, none⟩ (.bool false)).heap.size (w7.setCell ⟨rp, 3, none⟩ (.bool false))).drew
                      exact ⟨doRel_mk (j + 1) lx rx bv2 _ (by omega) (by go_num) rfl HRR2.out HBX.out.2 HLX.out (hsb.1.below hdr) ((H7.out.2.trans hsb.2).trans (Rs.of_below hdr)), by simp [intOf]; omega⟩)
                  · have hg0 : decide (0 < (j : Int)) = true := by simp; omega
                    have hg1 : decide (0 < j) = true := by simp; omega
                    by_cases hll : lx = lv
                    · have hl0 : ((lx : Int) != (lv : Int)) = false := by simp [hll]
                      have HRR2 := Lib.hid (show R = downKids (downS cs m) (n.kids.drop (j + 1)) (j + 1) lx rx by
                        rw [HJ.out.1, if_neg (by rw [HB3.out, hll]; simp)])
                      clear hll
                      go_wp2_with (fail)
                      go_region
                      all_goals (
                        go_wp2_with (fail)
                        have hsb := H7.out.1.setBad false
                        rw [HBX.out.1] at hsb
                        have hdr := (Below.refl (w7.setCell ⟨rp, 3, none⟩ (.bool false)).heap.size (w7.setCell ⟨rp, 3, none⟩ (.bool false))).drew
                        exact ⟨doRel_mk (j + 1) lx rx bv2 _ (by omega) (by go_num) rfl HRR2.out HBX.out.2 HLX.out (hsb.1.below hdr) ((H7.out.2.trans hsb.2).trans (Rs.of_below hdr)), by simp [intOf]; omega⟩)
                    · have hl0 : ((lx : Int) != (lv : Int)) = true := by simp; omega
                      have HRR2 := Lib.hid (show downS cs (m + 1) num r = (0, { rx with bad := true }) by
                        rw [HRR.out, HJ.out.1, if_pos (by rw [HB3.out, hg1, decide_eq_true hll]; rfl)])
                      clear hll
                      go_wp2_with (fail)
                      go_region
                      all_goals (
                        go_wp2_with (fail)
                        go_ret
                        have hsb := H7.out.1.setBad true
                        have hdr := (Below.refl (w7.setCell ⟨rp, 3, none⟩ (.bool true)).heap.size (w7.setCell ⟨rp, 3, none⟩ (.bool true))).drew
                        refine ⟨bv2, _, ?_, ?_, ((H2.out.2.trans H7.out.2).trans hsb.2).trans (Rs.of_below hdr)⟩
                        · rw [HRR2.out]; rfl
                        · rw [HRR2.out]; exact hsb.1.below hdr)
            · obtain rfl : j = n.kids.length := by omega
              rw [List.drop_length] at hRj
              have hRe : R = (lv + 1, r') := hRj
              have HE := Lib.hid (And.intro (HRR.out.trans hRe) (And.intro hrd hrs))
              clear hRj hRe hrd hrs
              go_wp2_with (fail)
              go_ret
              refine ⟨bv', iv', ?_, ?_, H2.out.2.trans HE.out.2.2⟩
              · rw [HE.out.1]; rfl
              · rw [HE.out.1]; exact HE.out.2.1
end Go.Proofs.YthhmcjojnbaiiaaGreatDoor

/- Tree: what is asked of slices.Sort and slices.Compact of block numbers; both for one at most. -/
namespace Go.Proofs.YthhmcjojnbaiiaaGreatDoor
open Go Go.RowKit
def SortOk (K : Nat) : Prop := ∀ (w : World) (B g cap : Nat) (xs : List Int), w.ownsRow B 22 1 (.slice (some ⟨g, 0, none⟩) xs.length cap) xs.length (xs.map (Value.int .u32)) → xs.length ≤ K → (∀ x ∈ xs, u32Ok x) →
  Calls Tryz.prog 63 #[.slice (some ⟨g, 0, none⟩) xs.length cap] w fun e w' => e = .returned (.tuple #[]) ∧ ∃ ys : List Int, ys.Perm xs ∧ ys.Pairwise (· ≤ ·) ∧ w'.ownsRow B 22 1 (.slice (some ⟨g, 0, none⟩) xs.length cap) xs.length (ys.map (Value.int .u32)) ∧ w.grownBy w' (some g)
/-- Of a list with no two alike beside each other. -/
def CompactOk (K : Nat) : Prop := ∀ (w : World) (B g cap : Nat) (xs : List Int), w.ownsRow B 22 1 (.slice (some ⟨g, 0, none⟩) xs.length cap) xs.length (xs.map (Value.int .u32)) → xs.length ≤ K → xs.Pairwise (· < ·) →
  Calls Tryz.prog 64 #[.slice (some ⟨g, 0, none⟩) xs.length cap] w fun e w' => e = .returned (.slice (some ⟨g, 0, none⟩) xs.length cap) ∧ ∃ q, w' = w.drewN q
theorem ins_one (v : Value) (n : Nat) (hn : n ≤ 1) (w : World) : Calls Tryz.prog 130 #[v, .int .i64 0, .int .i64 n] w fun e w' => e = .returned (.tuple #[]) ∧ w = w' := by
  go_enter Tryz.func130, Tryz.ntmps130
  go_wp2
  go_loop [6] (fun u => u = .int .i64 1) (fun _ => 0)
  case atStart => rfl
  case round =>
    subst hrel
    go_wp2
    go_end0
    exact ⟨rfl, rfl⟩
set_option maxRecDepth 100000 in
theorem pdq_one (v : Value) (n : Nat) (l : Int) (hn : n ≤ 1) (w : World) : Calls Tryz.prog 95 #[v, .int .i64 0, .int .i64 n, .int .i64 l] w fun e w' => e = .returned (.tuple #[]) ∧ w = w' := by
  have h12 : (n : Int) ≤ 12 := by omega
  have h12' : n ≤ 12 := by omega
  go_enter Tryz.func95, Tryz.ntmps95
  go_wp2
  go_loop [1, 2] (fun a b => a = .int .i64 0 ∧ b = .int .i64 n) (fun _ _ => 0)
  case atStart => exact ⟨rfl, rfl⟩
  case round =>
    obtain ⟨rfl, rfl⟩ := hrel
    go_wp2_with (go_at_call 130; refine (ins_one _ n hn _).mono ?_; rintro e w' ⟨rfl, rfl⟩)
    exact bodyPost_ret (v := .tuple #[]) (by simp [results, Tryz.results95, go_sem]) rfl ⟨rfl, rfl⟩
theorem sort_one : SortOk 1 := by
  intro w B g cap xs ho hl _
  have HO := Lib.hid ho
  have wr : IntKind.u64.wrap (xs.length : Int) = xs.length := by simp [IntKind.wrap, IntKind.bits, IntKind.signed]; omega
  clear ho
  go_enter Tryz.func63, Tryz.ntmps63
  go_wp2_with (first | (go_at_call 96; refine (Tryz.bits_Len _ _ (by omega) (by omega)).mono ?_; rintro e w' ⟨rfl, rfl⟩) | (go_at_call 95; refine (pdq_one _ xs.length _ hl _).mono ?_; rintro e w' ⟨rfl, rfl⟩))
  go_end0
  refine ⟨rfl, xs, List.Perm.refl _, ?_, HO.out, World.grownBy.refl _ _⟩
  match xs, hl with
  | [], _ => exact List.Pairwise.nil
  | [x], _ => exact List.pairwise_singleton _ _
theorem compact_one : CompactOk 1 := by
  intro w B g cap xs ho hl _
  clear ho
  go_enter Tryz.func64, Tryz.ntmps64
  go_wp2
  go_ret
  exact ⟨rfl, 0, rfl⟩
end Go.Proofs.YthhmcjojnbaiiaaGreatDoor
