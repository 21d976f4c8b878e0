/- Texts of the proof: Ic Dl Ap. -/
import Derived.Test.YthhmcjojnbaiiaaGreatDoorM24
import Derived.Test.YthhmcjojnbaiiaaGreatDoorM4
import Derived.Test.YthhmcjojnbaiiaaGreatDoorM16
import Derived.Test.YthhmcjojnbaiiaaGreatDoorM25
import Derived.Deep.RegionLaw
import Derived.Lib.SliceRun
set_option linter.all false
/- Items: slices.Clone, CheckChanges. -/
namespace Go.Proofs.YthhmcjojnbaiiaaGreatDoor
open Go Go.RowKit
set_option maxRecDepth 100000 in
set_option maxHeartbeats 1000000 in
theorem cloneItem_any (w : World) (v : Value) (xs : List Item) (hv : Sl itemE w v xs) (hmax : xs.length ≤ 1073741824) :
    Calls Tryz.prog 48 #[v] w fun e w' => ∃ r, e = .returned r ∧ w'.ownsRow w.heap.size 32 2 r xs.length (xs.flatMap itemE.enc) ∧ Below w.heap.size w w' := by
  obtain ⟨i0, z0, hi, hz0, hz1, hz2, hzs⟩ := info_open item_info
  obtain ⟨A, c, rfl, hc1, hc2, hrow⟩ := hv
  have HR := Lib.hid hrow
  cases A with
  | none =>
    have hx : xs = [] := by
      cases xs with
      | nil => rfl
      | cons x r => obtain ⟨b, o, e, _⟩ := hrow 0 (by simp); cases e
    subst hx
    clear hrow
    have hnil := run_eql_nil w 27 32 none 0 c Tryz.underlying27
    go_enter Tryz.func48, Tryz.ntmps48
    go_wp2_with (fail)
    go_ret
    exact ⟨_, rfl, World.ownsRow_nil _ _ _ _, Below.refl _ _⟩
  | some a =>
    clear hrow
    have hnil := run_eql_nil w 27 32 (some a) xs.length c Tryz.underlying27
    go_enter Tryz.func48, Tryz.ntmps48
    have hfl := flat_length itemE xs HR.out.wf
    have HN := Lib.hid (show ∀ j u, (xs.flatMap itemE.enc)[j]? = some u → (w.alloc (.cells #[] 32)).cell? (a.add j) = some u from by
      intro j u hj
      have hne : xs ≠ [] := by intro e; subst e; simp at hj
      obtain ⟨b, o, e, hlt⟩ := HR.out.addr hne
      injection e with e
      subst e
      rw [add_at]
      have := row_flat HR.out j u hj
      exact (World.cell?_of_block (Lib.alloc_old w _ b hlt)).trans this)
    have HF := Lib.hid (And.intro hfl (flat_one itemE xs HR.out.wf))
    clear hfl
    go_wp2_with (at_builtin; refine wpList_append_own _ rfl (.tmp 5) (.tmp 6) 27 rfl w.heap.size 32 i0 z0 2 32 Tryz.underlying27 hi hz0 hz1 hz2 hzs (by decide) _ 0 [] rfl (World.ownsRow_made w #[] 0 (Nat.le_refl _) (by unfold maxLen; omega) rfl) a xs.length c (xs.flatMap itemE.enc) rfl HF.out.1 HN.out HF.out.2 (by unfold maxLen; omega) (by omega) (by simp) ?_; intro v' w2 hown hgrow _)
    go_ret
    exact ⟨_, rfl, by have h9 := hown; simp only [Nat.zero_add, List.nil_append] at h9; exact h9, (below_box w _).grown hgrow (by simp) (fun q hq => Nat.le_of_eq (Option.some.inj (hq : some w.heap.size = some q)))⟩
def changeB (c : Change) : Bool := rightB c.key c.val && (c.has || c.val.toList.isEmpty)
def changesOk (cs : List Change) : Bool := cs.all changeB
set_option maxRecDepth 100000 in
set_option maxHeartbeats 1000000 in
theorem checkCh_any (w : World) (v : Value) (cs : List Change) (hv : Sl changeE w v cs) (hmax : cs.length ≤ 1073741824) :
    Calls Tryz.prog 78 #[v] w fun e w' => e = .returned (.int .i64 (errIf (changesOk cs) 4)) ∧ Below w.heap.size w w' := by
  obtain ⟨A, c, rfl, hc, hc2, hrow⟩ := hv
  have HR := Lib.hid hrow
  clear hrow
  go_enter Tryz.func78, Tryz.ntmps78
  go_wp2
  go_loopw [2, 4, 7, 8, 9, 10, 11, 12, 13, 14, 15, 16, 17, 18, 19, 20, 21, 22, 23, 24, 25, 26, 27] (fun _ _ i _ _ _ _ _ _ _ _ _ _ _ _ _ _ _ _ _ _ _ _ wr => ∃ k : Nat, k ≤ cs.length ∧ i = .int .i64 k ∧ (∀ j (h : j < cs.length), j < k → changeB cs[j] = true) ∧ Below w.heap.size w wr) (fun _ _ i _ _ _ _ _ _ _ _ _ _ _ _ _ _ _ _ _ _ _ _ _ => cs.length - (intOf i).toNat)
  case atStart => exact ⟨0, Nat.zero_le _, rfl, fun j _ hj => by omega, Below.refl _ _⟩
  case round =>
    obtain ⟨k, hk, rfl, hok, hB⟩ := hrel
    have HO := Lib.hid hok
    have HB := Lib.hid hB
    by_cases hlt : k < cs.length
    · obtain ⟨b, o, rfl, hat, hwf⟩ := HR.out k hlt
      have hb : b < w.heap.size := hat.lt (by simp [changeE])
      have hat2 := hat.below hB (Nat.le_refl _)
      have d0 := hat2.cell 0 _ rfl
      have d1 := hat2.cell 1 _ rfl
      have d2 := hat2.cell 2 _ rfl
      have hbr : b < wr.heap.size := Nat.lt_of_lt_of_le hb hB.size
      have hno : changeB cs[k] = false → changesOk cs = false := fun h => by
        rw [← Bool.not_eq_true]
        intro hh
        rw [List.all_eq_true.1 hh _ (List.getElem_mem hlt)] at h
        cases h
      have HN := Lib.hid hno
      have HC := Lib.hid (show changeB cs[k] = (rightB cs[k].key cs[k].val && (cs[k].has || cs[k].val.toList.isEmpty)) from rfl)
      clear hok hB hat hat2 hno hwf
      have HK := Lib.hid (show ∀ j (h : j < cs.length), j < k + 1 → changeB cs[k] = true → changeB cs[j] = true from fun j h hj h1 => by
        rcases Nat.lt_succ_iff_lt_or_eq.1 hj with h2 | h2
        · exact HO.out j h h2
        · subst h2; exact h1)
      generalize changeB cs[k] = cb at *
      generalize cs[k].key = kk at *
      generalize cs[k].val = kv at *
      generalize cs[k].has = kh at *
      simp only [changeE, Nat.add_zero] at d0 d1 d2
      cases hr : rightB kk kv with
      | false =>
        go_wp2_with (go_at_call 49; refine (itemRight_f _ _ _ hr).mono ?_; rintro e w1 ⟨rfl, rfl⟩)
        go_ret
        refine ⟨?_, HB.out.alloc HB.out.size _⟩
        rw [HN.out (by rw [HC.out, hr]; rfl)]; rfl
      | true =>
        cases kh with
        | true =>
          go_wp2_with (go_at_call 49; refine (itemRight_t _ _ _ hr).mono ?_; rintro e w1 ⟨rfl, rfl⟩)
          refine ⟨⟨k + 1, by omega, by go_num, fun j h hj => HK.out j h hj (by rw [HC.out, hr]; rfl), HB.out.alloc HB.out.size _⟩, by simp [intOf]; omega⟩
        | false =>
          cases he : kv.toList.isEmpty with
          | true =>
            have he2 : kv.toList = [] := by simpa using he
            go_wp2_with (go_at_call 49; refine (itemRight_t _ _ _ hr).mono ?_; rintro e w1 ⟨rfl, rfl⟩)
            refine ⟨⟨k + 1, by omega, by go_num, fun j h hj => HK.out j h hj (by rw [HC.out, hr, he]; rfl), HB.out.alloc HB.out.size _⟩, by simp [intOf]; omega⟩
          | false =>
            have he2 : ¬ kv.toList = [] := by simpa using he
            go_wp2_with (go_at_call 49; refine (itemRight_t _ _ _ hr).mono ?_; rintro e w1 ⟨rfl, rfl⟩)
            go_ret
            refine ⟨?_, HB.out.alloc HB.out.size _⟩
            rw [HN.out (by rw [HC.out, hr, he]; rfl)]; rfl
    · have hall : changesOk cs = true := List.all_eq_true.2 fun x hx => by
        obtain ⟨j, hj, rfl⟩ := List.getElem_of_mem hx
        exact hok j hj (by omega)
      have HA := Lib.hid hall
      clear hall hok hB
      go_wp2
      go_ret
      exact ⟨by rw [HA.out]; rfl, HB.out⟩
end Go.Proofs.YthhmcjojnbaiiaaGreatDoor

/- Items: slices.Delete of one. -/
namespace Go.Proofs.YthhmcjojnbaiiaaGreatDoor
open Go Go.RowKit Go.Lib
theorem zero_item (w : World) : (zeroValue 32).run Tryz.prog w = .ok (.agg #[.string ⟨#[]⟩, .string ⟨#[]⟩]) w := by kernel_rfl
/-- clear of one item. -/
theorem run_clear_item (w : World) (ty : TypeId) (b o c : Nat) (hc : ∀ j, j < 2 → (w.cell? ⟨b, o + j, none⟩).isSome = true) (hf : ∀ j, j < 2 → w.frozen? ⟨b, o + j, none⟩ = false) :
    (Builtin.clear_ #[27] ty #[.slice (some ⟨b, o, none⟩) 1 c]).run Tryz.prog w = .ok (.tuple #[]) (w.setCells b o [.string ⟨#[]⟩, .string ⟨#[]⟩]) := by
  have hst := run_storeCells_cells (P := Tryz.prog) b o [.string ⟨#[]⟩, .string ⟨#[]⟩] 0 w (by simpa using hc) (by simpa using hf) (by intro v hv'; simp at hv'; rw [hv']; rfl)
  simp only [Nat.add_zero] at hst
  have hzc : (Builtin.zeroCells (Value.agg #[.string ⟨#[]⟩, .string ⟨#[]⟩]).cells 1).toList = [.string ⟨#[]⟩, .string ⟨#[]⟩] := by kernel_rfl
  simp [Builtin.clear_, run_underlying Tryz.underlying27, zero_item, hzc, hst]
/-- One element of a row taken out, the last place cleared: what is left is a row. -/
theorem del_row {w : World} {base g cap i n : Nat} {l : List Item} (hn : l.length = n) (ho : w.ownsRow base 32 2 (.slice (some ⟨g, 0, none⟩) n cap) n (l.flatMap itemE.enc)) (hwf : ∀ x ∈ l, itemE.wf x) (hi : i < n) (z : List Value) :
    ((w.setCells g (i * 2) ((l.drop (i + 1)).flatMap itemE.enc)).setCells g ((n - 1) * 2) z).ownsRow base 32 2 (.slice (some ⟨g, 0, none⟩) (n - 1) cap) (n - 1) ((l.eraseIdx i).flatMap itemE.enc) ∧ w.grownBy ((w.setCells g (i * 2) ((l.drop (i + 1)).flatMap itemE.enc)).setCells g ((n - 1) * 2) z) (some g) := by
  obtain ⟨hl0, h2⟩ := ho
  rcases h2 with ⟨h0, _⟩ | ⟨g', cap', cur, h0, hb, hg, hr, hc, hcur, ht⟩
  · cases h0
  · simp only [Value.slice.injEq, Option.some.injEq, Addr.mk.injEq, and_true, true_and] at h0
    obtain ⟨rfl, rfl⟩ := h0
    have hwd : ∀ x ∈ l.drop (i + 1), itemE.wf x := fun x hx => hwf x ((List.drop_sublist _ _).subset hx)
    have hnl : ((l.drop (i + 1)).flatMap itemE.enc).length = (n - (i + 1)) * 2 := by rw [flat_length itemE _ hwd, List.length_drop, hn]; rfl
    have her : l.eraseIdx i = l.take i ++ l.drop (i + 1) := List.eraseIdx_eq_take_drop_succ l i
    have hwt : ∀ x ∈ l.take i, itemE.wf x := fun x hx => hwf x ((List.take_sublist _ _).subset hx)
    have htl : ((l.take i).flatMap itemE.enc).length = i * 2 := by rw [flat_length itemE _ hwt, List.length_take, hn, Nat.min_eq_left (by omega)]; rfl
    obtain ⟨c1, a1, a2, a3, a4⟩ := setCells_row g ((l.drop (i + 1)).flatMap itemE.enc) (i * 2) w cur _ hg
    obtain ⟨c2, b1, b2, b3, b4⟩ := setCells_row g z ((n - 1) * 2) _ c1 _ a1
    have hel : ((l.eraseIdx i).flatMap itemE.enc).length = (n - 1) * 2 := by
      rw [her, List.flatMap_append, List.length_append, htl, hnl]; omega
    refine ⟨⟨hel, Or.inr ⟨g, cap, c2, rfl, hb, b1, by omega, hc, by rw [b2, a2]; exact hcur, ?_⟩⟩, grown_trans a4 b4⟩
    apply List.ext_getElem?
    intro j
    by_cases hj : j < (n - 1) * 2
    · rw [List.getElem?_take, if_pos hj, Array.getElem?_toList, b3 j, if_neg (by omega), a3 j, her, List.flatMap_append]
      by_cases hj1 : j < i * 2
      · rw [if_neg (by omega), List.getElem?_append_left (by omega)]
        have h9 : cur[j]? = (l.flatMap itemE.enc)[j]? := by rw [← ht, List.getElem?_take, if_pos (by omega), Array.getElem?_toList]
        rw [h9]
        have h8 : l.flatMap itemE.enc = (l.take i).flatMap itemE.enc ++ (l.drop i).flatMap itemE.enc := by rw [← List.flatMap_append, List.take_append_drop]
        rw [h8, List.getElem?_append_left (by omega)]
      · rw [if_pos (by rw [hnl, hcur]; omega), List.getElem?_append_right (by omega), htl]
    · rw [List.getElem?_eq_none (by rw [List.length_take, Array.length_toList, b2, a2, hcur]; omega), List.getElem?_eq_none (by omega)]
set_option maxRecDepth 100000 in
set_option maxHeartbeats 2000000 in
theorem delItem_any (w : World) (base g cap i : Nat) (l : List Item) (ho : w.ownsRow base 32 2 (.slice (some ⟨g, 0, none⟩) l.length cap) l.length (l.flatMap itemE.enc)) (hwf : ∀ x ∈ l, itemE.wf x) (hi : i < l.length) (hmax : l.length ≤ 1073741824) :
    Calls Tryz.prog 79 #[.slice (some ⟨g, 0, none⟩) l.length cap, .int .i64 i, .int .i64 (i + 1)] w fun e w' => e = .returned (.slice (some ⟨g, 0, none⟩) (l.length - 1) cap) ∧
      w'.ownsRow base 32 2 (.slice (some ⟨g, 0, none⟩) (l.length - 1) cap) (l.length - 1) ((l.eraseIdx i).flatMap itemE.enc) ∧ w.grownBy w' (some g) := by
  obtain ⟨i0, z0, hi0, hz0, hz1, hz2, hzs⟩ := info_open item_info
  have hcap : l.length ≤ cap ∧ cap ≤ 9223372036854775807 := by
    rcases ho.2 with ⟨h0, _⟩ | ⟨g', cp', cur', h0, _, _, h4, h5, _⟩
    · cases h0
    · injection h0 with _ _ h0; subst h0; exact ⟨h4, by unfold maxLen at h5; omega⟩
  obtain ⟨hc1, hc2⟩ := hcap
  have hcl := ho.cells (g := g) rfl
  have hrow : ∃ cur, w.heap[g]? = some (.cells cur 32 (0, 0)) ∧ cur.size = cap * 2 := by
    rcases ho.2 with ⟨h0, _⟩ | ⟨g', cp', cur', h0, _, h3, _, _, h6, _⟩
    · cases h0
    · simp only [Value.slice.injEq, Option.some.injEq, Addr.mk.injEq, and_true, true_and] at h0
      obtain ⟨rfl, rfl⟩ := h0
      exact ⟨cur', h3, h6⟩
  obtain ⟨cur, hcur, hcs⟩ := hrow
  have hwd : ∀ x ∈ l.drop (i + 1), itemE.wf x := fun x hx => hwf x ((List.drop_sublist _ _).subset hx)
  have hnl : ((l.drop (i + 1)).flatMap itemE.enc).length = (l.length - (i + 1)) * 2 := by rw [flat_length itemE _ hwd, List.length_drop]; rfl
  have hng : ∀ j u, ((l.drop (i + 1)).flatMap itemE.enc)[j]? = some u → w.cell? ⟨g, (i + 1) * 2 + j, none⟩ = some u := by
    intro j u hj
    have h8 : l.flatMap itemE.enc = (l.take (i + 1)).flatMap itemE.enc ++ (l.drop (i + 1)).flatMap itemE.enc := by rw [← List.flatMap_append, List.take_append_drop]
    have hwt : ∀ x ∈ l.take (i + 1), itemE.wf x := fun x hx => hwf x ((List.take_sublist _ _).subset hx)
    have htl : ((l.take (i + 1)).flatMap itemE.enc).length = (i + 1) * 2 := by rw [flat_length itemE _ hwt, List.length_take, Nat.min_eq_left (by omega)]; rfl
    have := hcl ((i + 1) * 2 + j) u (by rw [h8, List.getElem?_append_right (by omega), htl, Nat.add_sub_cancel_left]; exact hj)
    rw [add_at, Nat.zero_add] at this
    exact this
  have hfin := del_row rfl ho.drew hwf hi [.string ⟨#[]⟩, .string ⟨#[]⟩]
  have h1c := flat_one itemE _ hwd
  obtain ⟨news, hnews⟩ : ∃ news, (l.drop (i + 1)).flatMap itemE.enc = news := ⟨_, rfl⟩
  rw [hnews] at hnl hng hfin h1c
  have hspare : ∀ j, j < news.length → (w.drew.cell? ⟨g, 0 + i * 2 + j, none⟩).isSome = true ∧ w.drew.frozen? ⟨g, 0 + i * 2 + j, none⟩ = false := by
    intro j hj
    have hg' : w.drew.heap[g]? = some (.cells cur 32 (0, 0)) := hcur
    refine ⟨?_, frozen_of_row _ _ _ _ _ hg'⟩
    rw [cell_of_row _ _ _ _ _ _ hg']
    simp only [Array.getElem?_eq_getElem (show 0 + i * 2 + j < cur.size by omega), Option.isSome_some]
  obtain ⟨A, hA, hnA⟩ : ∃ A : Addr, (if cap = i + 1 then some (⟨g, 0, none⟩ : Addr) else some ⟨g, (i + 1) * 2, none⟩) = some A ∧ Hid (∀ j u, news[j]? = some u → w.drew.cell? (A.add j) = some u) := by
    by_cases h : cap = i + 1
    · refine ⟨⟨g, 0, none⟩, by simp [h], Lib.hid fun j u hu => ?_⟩
      have h0 : news.length = 0 := by omega
      rw [List.length_eq_zero_iff.1 h0] at hu
      simp at hu
    · refine ⟨⟨g, (i + 1) * 2, none⟩, by simp [h], Lib.hid fun j u hu => ?_⟩
      rw [add_at]
      exact hng j u hu
  have HO := Lib.hid (And.intro hnl (And.intro hfin (And.intro hspare (And.intro h1c (And.intro hcur hcs)))))
  clear ho hwf hnews hwd hnl hng hfin h1c hspare hcl hcur
  generalize hn : l.length = n at *
  have HN := Lib.hid hn
  clear hn
  have hic : i ≤ cap := by omega
  have hic1 : i + 1 ≤ cap := by omega
  have hwr : IntKind.i64.wrap ((i : Int) + 1) = (i : Int) + 1 := by rw [IntKind.wrap_i64]; omega
  have hp0 : (0 : Int) ≤ (i : Int) + 1 := by omega
  have hp1 : (i : Int) + 1 ≤ (n : Int) := by omega
  have hp2 : ((i : Int) + 1).toNat = i + 1 := by omega
  have hq : ((i : Int) == (i : Int) + 1) = false := by simp; omega
  go_enter Tryz.func79, Tryz.ntmps79
  go_wp2_with (fail)
  go_region_law (refine step_append_room rfl (.tmp 22) (.tmp 25) 27 rfl 32 i0 2 Tryz.underlying27 hi0 hz1 g 0 i cap (by simp [Act.eval, Act.put]) A (n - (i + 1)) (cap - (i + 1)) news (by simp [Act.eval, Act.put]) HO.out.1 hnA.out HO.out.2.2.2.1 (by omega) HO.out.2.2.1 ?_)
  have hsum : i + (n - (i + 1)) = n - 1 := by omega
  have hsub : n - (n - 1) = 1 := by omega
  have hcne : ¬ cap = n - 1 := by omega
  have hb1 : (0 : Int) ≤ ((n - 1 : Nat) : Int) := by omega
  have hb2 : ((n - 1 : Nat) : Int) ≤ (n : Int) := by omega
  have hb3 : n - 1 ≤ n := by omega
  have hclr : ∀ ty, (Builtin.clear_ #[27] ty #[.slice (some ⟨g, (n - 1) * 2, none⟩) 1 (cap - (n - 1))]).run Tryz.prog (w.drew.setCells g (i * 2) news) = .ok (.tuple #[]) ((w.drew.setCells g (i * 2) news).setCells g ((n - 1) * 2) [.string ⟨#[]⟩, .string ⟨#[]⟩]) := fun ty => by
    obtain ⟨c1, a1, a2, _, _⟩ := setCells_row g news (i * 2) w.drew cur 32 HO.out.2.2.2.2.1
    refine run_clear_item _ ty g ((n - 1) * 2) _ (fun j hj => ?_) (fun j hj => frozen_of_row _ _ _ _ _ a1)
    rw [cell_of_row _ _ _ _ _ _ a1]
    have := HO.out.2.2.2.2.2
    simp only [Array.getElem?_eq_getElem (show (n - 1) * 2 + j < c1.size by omega), Option.isSome_some]
  go_wp2_with (fail)
  go_ret
  refine ⟨rfl, ?_⟩
  have h9 := HO.out.2.1
  exact ⟨h9.1, h9.2.os, h9.2.tape, h9.2.output, h9.2.size, h9.2.block⟩
end Go.Proofs.YthhmcjojnbaiiaaGreatDoor

/- Items: Apply, of changes that take keys out. -/
namespace Go.Proofs.YthhmcjojnbaiiaaGreatDoor
open Go Go.RowKit
def applyOne (l : List Item) (c : Change) : List Item :=
  if itemHas l c.key then (if c.has then l.set (itemPos l c.key) ⟨c.key, c.val⟩ else l.eraseIdx (itemPos l c.key)) else (if c.has then l.insertIdx (itemPos l c.key) ⟨c.key, c.val⟩ else l)
def applyS (l : List Item) (cs : List Change) : List Item × Int := if itemsOk l = false ∨ changesOk cs = false then ([], 4) else (cs.foldl applyOne l, 0)
theorem itemPos_lt {l : List Item} {t : ByteArray} (h : itemHas l t = true) : itemPos l t < l.length := by
  unfold itemHas hasAt at h
  split at h
  · rename_i x hx
    exact (List.getElem?_eq_some_iff.1 hx).1
  · cases h
theorem erase_ok {l : List Item} (h : itemsOk l = true) (i : Nat) : itemsOk (l.eraseIdx i) = true := by
  obtain ⟨hk, hv⟩ := (items_iff l).1 h
  have hs := List.eraseIdx_sublist l i
  exact (items_iff _).2 ⟨hk.sub (hs.map _), fun x hx => hv x (hs.subset hx)⟩
theorem ok_sorted {l : List Item} (h : itemsOk l = true) : sortedB l = true := by
  unfold itemsOk at h
  rw [Bool.and_eq_true] at h
  exact h.2
def ApplyPost (w : World) (l : List Item) (cs : List Change) (e : Ending) (w' : World) : Prop :=
  ∃ r, e = .returned (.tuple #[r, .int .i64 (applyS l cs).2]) ∧ Sl itemE w' r (applyS l cs).1 ∧ Below w.heap.size w w'
def ApRel (w W1 : World) (cs : List Change) (L : List Item) (vl vi : Value) (wr : World) : Prop :=
  ∃ (j : Nat) (lj : List Item), j ≤ cs.length ∧ vi = .int .i64 j ∧ itemsOk lj = true ∧ (∀ x ∈ lj, itemE.wf x) ∧ lj.length ≤ 1073741824 ∧ L = (cs.drop j).foldl applyOne lj ∧ wr.ownsRow W1.heap.size 32 2 vl lj.length (lj.flatMap itemE.enc) ∧ Below W1.heap.size W1 wr
theorem apRel_mk {w W1 : World} {cs : List Change} {L : List Item} {vl vi : Value} {wr : World} (j : Nat) (lj : List Item) (h1 : j ≤ cs.length) (h2 : vi = .int .i64 j) (h3 : itemsOk lj = true) (h4 : ∀ x ∈ lj, itemE.wf x) (h5 : lj.length ≤ 1073741824) (h6 : L = (cs.drop j).foldl applyOne lj) (h7 : wr.ownsRow W1.heap.size 32 2 vl lj.length (lj.flatMap itemE.enc)) (h8 : Below W1.heap.size W1 wr) : ApRel w W1 cs L vl vi wr := ⟨j, lj, h1, h2, h3, h4, h5, h6, h7, h8⟩
theorem change_len : (Tryz.prog.info? 55).map (·.size) = some 3 := by kernel_rfl
set_option maxRecDepth 100000 in
set_option maxHeartbeats 2000000 in
theorem apply_any (w : World) (v vc : Value) (l : List Item) (cs : List Change) (hv : Sl itemE w v l) (hvc : Sl changeE w vc cs) (hl : l.length ≤ 1073741824) (hc : cs.length ≤ 1073741824) (hdel : ∀ c ∈ cs, c.has = false) :
    Calls Tryz.prog 50 #[v, vc] w fun e w' => ApplyPost w l cs e w' := by
  have HV := Lib.hid (And.intro hv (And.intro hvc hdel))
  obtain ⟨A, n, c, rfl⟩ := sl_slice hv
  obtain ⟨A2, n2, c2, rfl⟩ := sl_slice hvc
  have hn2 := (hvc.len_eq).1
  subst hn2
  clear hv hvc hdel
  go_enter Tryz.func50, Tryz.ntmps50
  go_wp2_with (fail)
  go_at_call 29
  refine (itemCheck_any _ _ l HV.out.1).mono ?_
  rintro e w1 ⟨rfl, hb1⟩
  have HB1 := Lib.hid hb1
  clear hb1
  go_wp2_with (fail)
  go_at_call 78
  refine (checkCh_any _ _ cs (HV.out.2.1.below HB1.out (Nat.le_refl _)) hc).mono ?_
  rintro e w2 ⟨rfl, hb2⟩
  have HB2 := Lib.hid (HB1.out.trans (hb2.mono HB1.out.size))
  clear hb2
  go_wp2_with (fail)
  go_at_call 57
  have hso : Sl errE (w2.alloc (.cells #[.int .i64 (errIf (itemsOk l) 4), .int .i64 (errIf (changesOk cs) 4)] 28)) (.slice (some ⟨w2.heap.size, 0, none⟩) 2 2) [errIf (itemsOk l) 4, errIf (changesOk cs) 4] := by
    refine ⟨_, 2, rfl, Nat.le_refl _, by omega, Row.mk fun k hk => ⟨?_, trivial⟩⟩
    have ha := new_at w2 [.int .i64 (errIf (itemsOk l) 4), .int .i64 (errIf (changesOk cs) 4)] 28
    intro i hi
    have hi0 : i = 0 := by simp [errE] at hi; omega
    subst hi0
    match k, hk with
    | 0, _ => exact ha.cell 0 _ rfl
    | 1, _ => exact ha.cell 1 _ rfl
  refine (or_any _ _ _ hso).mono ?_
  rintro e _ ⟨rfl, rfl⟩
  have HB3 := Lib.hid (HB2.out.alloc HB2.out.size (.cells #[.int .i64 (errIf (itemsOk l) 4), .int .i64 (errIf (changesOk cs) 4)] 28))
  clear hso
  generalize w2.alloc (.cells #[.int .i64 (errIf (itemsOk l) 4), .int .i64 (errIf (changesOk cs) 4)] 28) = w3 at *
  by_cases hbad : itemsOk l = false ∨ changesOk cs = false
  · have HA := Lib.hid (show applyS l cs = ([], 4) by unfold applyS; rw [if_pos hbad])
    have hor : orL [errIf (itemsOk l) 4, errIf (changesOk cs) 4] = 4 := by
      rw [orL_two]
      rcases hbad with h | h
      · rw [h]; rfl
      · rw [h]
        cases itemsOk l <;> rfl
    rw [hor]
    clear hor hbad
    generalize errIf (itemsOk l) 4 = q1 at *
    generalize errIf (changesOk cs) 4 = q2 at *
    go_wp2_with (fail)
    go_ret2
    exact ⟨.slice none 0 0, by rw [HA.out]; rfl, by rw [HA.out]; exact Sl.nil _, HB3.out⟩
  · have hok : itemsOk l = true ∧ changesOk cs = true := by
      refine ⟨?_, ?_⟩
      · cases h : itemsOk l with
        | true => rfl
        | false => exact absurd (Or.inl h) hbad
      · cases h : changesOk cs with
        | true => rfl
        | false => exact absurd (Or.inr h) hbad
    obtain ⟨L, hL⟩ : ∃ L, cs.foldl applyOne l = L := ⟨_, rfl⟩
    have HA := Lib.hid (And.intro (show applyS l cs = (L, 0) by unfold applyS; rw [if_neg hbad, hL]) (And.intro hL hok))
    have hor : orL [errIf (itemsOk l) 4, errIf (changesOk cs) 4] = 0 := by rw [hok.1, hok.2]; rfl
    rw [hor]
    clear hor hbad hok hL
    generalize errIf (itemsOk l) 4 = q1 at *
    generalize errIf (changesOk cs) 4 = q2 at *
    go_wp2_with (fail)
    go_at_call 48
    refine (cloneItem_any w3 _ l (HV.out.1.below HB3.out (Nat.le_refl _)) hl).mono ?_
    rintro e w4 ⟨r, rfl, hown, hb4⟩
    have H4 := Lib.hid (And.intro hown hb4)
    clear hown hb4
    go_wp2_with (fail)
    go_loopw [0, 8, 9, 10, 24, 25, 26, 27, 28, 29, 30, 31, 32, 33, 34, 35, 36, 37, 38, 39, 40, 41, 42, 43, 44, 45, 46, 47, 48, 49, 50, 51, 52, 53, 54, 55, 56, 57, 58, 59, 60, 61, 62, 63, 64, 65, 66] (fun vl _ _ _ vi _ _ _ _ _ _ _ _ _ _ _ _ _ _ _ _ _ _ _ _ _ _ _ _ _ _ _ _ _ _ _ _ _ _ _ _ _ _ _ _ _ _ wr => ApRel w w3 cs L vl vi wr) (fun _ _ _ _ vi _ _ _ _ _ _ _ _ _ _ _ _ _ _ _ _ _ _ _ _ _ _ _ _ _ _ _ _ _ _ _ _ _ _ _ _ _ _ _ _ _ _ _ => cs.length - (intOf vi).toNat)
    case atStart => exact apRel_mk 0 l (Nat.zero_le _) rfl HA.out.2.2.1 HV.out.1.wf hl (by rw [List.drop_zero]; exact HA.out.2.1.symm) H4.out.1 H4.out.2
    case round =>
      obtain ⟨j, lj, hj, rfl, hokj, hwfj, hlj, hLj, hown, hbl⟩ := hrel
      by_cases hlt : j < cs.length
      · obtain ⟨b, o, rfl, hat, hcw⟩ := (HV.out.2.1.len_eq).2.2.2 j hlt
        have hdr : cs.drop j = cs[j] :: cs.drop (j + 1) := List.drop_eq_getElem_cons hlt
        have hnh := HV.out.2.2 _ (List.getElem_mem hlt)
        rw [hdr, List.foldl_cons] at hLj
        have hbw : b < w.heap.size := hat.lt (by simp [changeE])
        have hwr : Below w.heap.size w wr := HB3.out.trans (hbl.mono HB3.out.size)
        have hat2 := hat.below hwr (Nat.le_refl _)
        generalize cs[j] = ch at *
        obtain ⟨ck, chs, cv⟩ := ch
        simp only at hnh
        subst hnh
        have d0 := hat2.cell 0 _ rfl
        have d1 := hat2.cell 1 _ rfl
        have d2 := hat2.cell 2 _ rfl
        simp only [changeE, Nat.add_zero] at d0 d1 d2
        have HJ := Lib.hid (And.intro hokj (And.intro hwfj (And.intro hLj (And.intro hown (And.intro hbl hwr)))))
        have hbr := hwr.size
        clear hokj hwfj hLj hown hbl hwr hat hat2 hdr hcw
        go_upto_region 8 with (fail)
        have HB5 := Lib.hid (And.intro (heap_alloc_new wr (.cells #[.string ck, .bool false, .string cv] 55)) (below_box wr (.cells #[.string ck, .bool false, .string cv] 55)))
        have hlt5 : wr.heap.size < (wr.alloc (.cells #[.string ck, .bool false, .string cv] 55)).heap.size := by simp
        have hown5 := HJ.out.2.2.2.1.alloc (.cells #[.string ck, .bool false, .string cv] 55)
        generalize wr.alloc (.cells #[.string ck, .bool false, .string cv] 55) = w5 at *
        have k0 : w5.cell? ⟨wr.heap.size, 0, none⟩ = some (.string ck) := by rw [cell_of_row _ _ _ _ _ _ HB5.out.1]; rfl
        have k1 : w5.cell? ⟨wr.heap.size, 1, none⟩ = some (.bool false) := by rw [cell_of_row _ _ _ _ _ _ HB5.out.1]; rfl
        have hsl5 := own_sl (E := itemE) hown5 rfl HJ.out.2.1
        have HO5 := Lib.hid (And.intro hown5 hsl5)
        obtain ⟨Al, nl, cl, rfl⟩ := sl_slice hsl5
        have hnl := (hsl5.len_eq).1
        subst hnl
        clear hown5 hsl5
        go_wp2_with (fail)
        go_at_call 46
        refine (place_any w5 _ lj ck HO5.out.2 (ok_sorted HJ.out.1) (by omega)).mono ?_
        rintro e w6 ⟨rfl, hb6⟩
        have hb56 := HB5.out.2.trans (hb6.mono HB5.out.2.size)
        have k0' := (hb6.cell (p := ⟨wr.heap.size, 0, none⟩) hlt5).trans k0
        have k1' := (hb6.cell (p := ⟨wr.heap.size, 1, none⟩) hlt5).trans k1
        have hlt6 : wr.heap.size < w6.heap.size := Nat.lt_of_lt_of_le hlt5 hb6.size
        have hown6 := (Fr.of_below hb6).own HO5.out.1 (by unfold BadT; decide)
        have H6 := Lib.hid (And.intro hown6 (HJ.out.2.2.2.2.1.trans (hb56.mono HJ.out.2.2.2.2.1.size)))
        clear hown6 hb56 hb6 k0 k1
        cases hhas : itemHas lj ck with
        | false =>
          have HS := Lib.hid (show applyOne lj ⟨ck, false, cv⟩ = lj by unfold applyOne; simp only; rw [if_neg (by rw [hhas]; simp), if_neg (by simp)])
          clear hhas
          generalize itemPos lj ck = ip at *
          go_wp2_with (fail)
          exact ⟨apRel_mk (j + 1) lj (by omega) (by go_num) HJ.out.1 HJ.out.2.1 hlj (by rw [HJ.out.2.2.1, HS.out]) H6.out.1 H6.out.2, by simp [intOf]; omega⟩
        | true =>
          have hip := itemPos_lt hhas
          have HS := Lib.hid (show applyOne lj ⟨ck, false, cv⟩ = lj.eraseIdx (itemPos lj ck) by unfold applyOne; simp only; rw [if_pos hhas, if_neg (by simp)])
          clear hhas
          generalize itemPos lj ck = ip at *
          obtain ⟨gl, cpl, hvl, hg0, hgl⟩ := H6.out.1.form (by omega)
          simp only [Value.slice.injEq, true_and] at hvl
          obtain ⟨hvl1, hvl2⟩ := hvl
          subst hvl1
          subst hvl2
          go_wp2_with (fail)
          go_at_call 79
          refine (delItem_any w6 w3.heap.size gl cl ip lj H6.out.1 HJ.out.2.1 hip hlj).mono ?_
          rintro e w7 ⟨rfl, hown7, hg7⟩
          have hel : (lj.eraseIdx ip).length = lj.length - 1 := by rw [List.length_eraseIdx, if_pos hip]
          have H7 := Lib.hid (And.intro (show w7.ownsRow w3.heap.size 32 2 (.slice (some ⟨gl, 0, none⟩) (lj.length - 1) cl) (lj.eraseIdx ip).length ((lj.eraseIdx ip).flatMap itemE.enc) by rw [hel]; exact hown7) (H6.out.2.grown hg7 H6.out.2.size (fun k hk => by have h9 : gl = k := Option.some.inj hk; omega)))
          have HEL := Lib.hid hel
          clear hown7 hg7 hel
          go_wp2_with (fail)
          exact ⟨apRel_mk (j + 1) (lj.eraseIdx ip) (by omega) (by go_num) (erase_ok HJ.out.1 ip) (fun x hx => HJ.out.2.1 x ((List.eraseIdx_sublist lj ip).subset hx)) (by rw [HEL.out]; omega) (by rw [HJ.out.2.2.1, HS.out]) H7.out.1 H7.out.2, by simp [intOf]; omega⟩
      · obtain rfl : j = cs.length := by omega
        rw [List.drop_length, List.foldl_nil] at hLj
        have HE := Lib.hid (And.intro hLj (And.intro hown (And.intro hbl hwfj)))
        clear hLj hown hbl hwfj hokj
        go_wp2_with (fail)
        go_ret2
        refine ⟨u0, by rw [HA.out.1]; rfl, ?_, HB3.out.trans (HE.out.2.2.1.mono HB3.out.size)⟩
        rw [HA.out.1]
        simp only
        rw [HE.out.1]
        exact own_sl (E := itemE) HE.out.2.1 rfl HE.out.2.2.2
end Go.Proofs.YthhmcjojnbaiiaaGreatDoor
