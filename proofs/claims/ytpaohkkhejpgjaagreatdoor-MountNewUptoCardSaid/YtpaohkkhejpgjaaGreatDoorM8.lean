/- Texts of the proof: Ad. -/
import Derived.Test.YtpaohkkhejpgjaaGreatDoorM7
import Derived.Test.YtpaohkkhejpgjaaGreatDoorRows
import Derived.Below
import Derived.DataShut
import Derived.ChangeSame
import Derived.ChangeArms
import Derived.WideShapes
import Derived.OpenShut
import Derived.Deep.Slices
import Derived.Deep.Strs
import Derived.Lib.SmallJoins
set_option linter.all false
set_option maxRecDepth 100000
set_option maxHeartbeats 8000000
namespace Go.Proofs.YtpaohkkhejpgjaaGreatDoor
open Go Go.RowKit Go.WideShapes Go.ChangeShapes Go.Deep Go.Joins
theorem cells_below {W W' : World} (hb : Below W.heap.size W W') {base : Nat} {a : Addr} {n : Nat} {cs : List Value} (h : W.cells? base a n = some cs) : W'.cells? base a n = some cs := by
 obtain ⟨h0, h1, h2⟩ := World.cells?_some h
 refine World.cells?_of_each h0 h1 (fun i hi => ?_)
 have h3 := h2 i hi
 have h4 : cs[i]? = some (cs[i]'(by omega)) := List.getElem?_eq_getElem (by omega)
 rw [h4] at h3 ⊢
 rw [hb.cell (World.block_lt_of_cell? W _ h3)]
 exact h3
section
variable {H : Type} {enc : TypeId × Value → H} {P : Program}
theorem bulk_mem {d : DataW H} {l : List (DataW H)} (h : d ∈ l) : Rows.uptoBulk d ≤ Rows.uptoBulkAll l := by
 induction l with
 | nil => cases h
 | cons x r ih =>
  simp only [Rows.uptoBulkAll]
  cases List.mem_cons.1 h with
  | inl e => subst e; omega
  | inr e => have := ih e; omega
theorem bulk_one (d : DataW H) : 1 ≤ Rows.uptoBulk d := by
 cases d with
 | lit l => cases l <;> simp [Rows.uptoBulk]
 | nil => simp [Rows.uptoBulk]
 | ptr d => simp [Rows.uptoBulk]
 | slice elems spare => simp [Rows.uptoBulk]
 | agg parts => simp [Rows.uptoBulk]
 | iface t d => simp [Rows.uptoBulk]
 | map entries => simp [Rows.uptoBulk]
 | held h => simp [Rows.uptoBulk]
theorem bulk_length (l : List (DataW H)) : l.length ≤ Rows.uptoBulkAll l := by
 induction l with
 | nil => simp [Rows.uptoBulkAll]
 | cons x r ih => have := bulk_one x; simp only [Rows.uptoBulkAll, List.length_cons]; omega
def ElemR {α : Type} (enc : TypeId × Value → H) (P : Program) (E : Enc α) (e : TypeId) : Prop :=
 ∀ (W : World) (base : Nat) (sp : Nat → Bool) (held : Bool) (n : Nat) (cs : List Value) (y : DataW H × List MemPlace), DataW.trod enc P W base sp held n e cs = some y → Rows.uptoBulk y.1 ≤ 1048576 →
  (∃ x : α, E.wf x ∧ cs = E.enc x) ∧ y.2 = [] ∧ ∀ (W' : World) (base' : Nat) (sp' : Nat → Bool) (held' : Bool), ∃ m, DataW.trod enc P W' base' sp' held' m e cs = some y
def SlRd {α : Type} (enc : TypeId × Value → H) (P : Program) (E : Enc α) (t : TypeId) (W : World) (v : Value) (y : DataW H × List MemPlace) : Prop :=
 (∃ xs, Sl E W v xs ∧ xs.length ≤ 1048576) ∧ ∀ W', Below W.heap.size W W' → ∀ sp : Nat → Bool, (∀ p ∈ y.2, sp p.block = true) → ∃ n, DataW.trod enc P W' 0 sp true n t [v] = some y
theorem slice_read {α : Type} [Inhabited α] {E : Enc α} {t e : TypeId} {W : World} {fuel : Nat} {cs : List Value} {y : DataW H × List MemPlace} (ht : P.underlying t = some (.slice e)) (hc : P.cellsOf e = E.sz) (hE : ElemR enc P E e)
 (h : DataW.trod enc P W 0 (fun _ => true) true fuel t cs = some y) (hy : Rows.uptoBulk y.1 ≤ 1048576) : ∃ v, cs = [v] ∧ SlRd enc P E t W v y := by
 rcases open_slice ht h with ⟨rfl, rfl⟩ | ⟨a, len, cap, m, n, D, Pl, rfl, hb, hl, hm, hmm, rfl, hx⟩
 · refine ⟨_, rfl, ⟨[], ⟨none, 0, rfl, Nat.le_refl _, by omega, fun k hk => absurd hk (Nat.not_lt_zero _)⟩, Nat.zero_le _⟩, fun W' _ sp _ => ⟨1, ?_⟩⟩
   simp [DataW.trod, ht]
 · obtain rfl : m = cap := hmm
   rw [hc] at hx
   have hbD : ∀ i, i < m → Rows.uptoBulk (D i) ≤ 1048576 := by
    intro i hi
    simp only [Rows.uptoBulk] at hy
    by_cases h1 : i < len
    · have := bulk_mem (show D i ∈ (List.range len).map D from List.mem_map.2 ⟨i, List.mem_range.2 h1, rfl⟩)
      omega
    · have := bulk_mem (show D i ∈ (List.range (m - len)).map fun j => D (len + j) from List.mem_map.2 ⟨i - len, List.mem_range.2 (by omega), by rw [show len + (i - len) = i by omega]⟩)
      omega
   have hlen : len ≤ 1048576 := by
    simp only [Rows.uptoBulk] at hy
    have := bulk_length ((List.range len).map D)
    rw [List.length_map, List.length_range] at this
    omega
   obtain ⟨X, hX⟩ := choose_lt (α := α) (p := fun i x => E.wf x ∧ W.cells? 0 (a.add (i * E.sz)) E.sz = some (E.enc x)) (fun i hi => by
    obtain ⟨cs', h1, h2⟩ := hx i hi
    obtain ⟨⟨x, w1, w2⟩, _⟩ := hE _ _ _ _ _ _ _ h2 (hbD i hi)
    exact ⟨x, w1, w2 ▸ h1⟩)
   have hPl : ∀ i, i < m → Pl i = [] := fun i hi => by
    obtain ⟨cs', h1, h2⟩ := hx i hi
    exact (hE _ _ _ _ _ _ _ h2 (hbD i hi)).2.1
   refine ⟨_, rfl, ⟨(List.range len).map X, ⟨some a, m, by simp, by simpa using hl, by unfold maxLen at hm; omega, fun k hk => ?_⟩, by simpa using hlen⟩, fun W' hB sp hsp => ?_⟩
   · have hk' : k < len := by simpa using hk
     obtain ⟨w1, w2⟩ := hX k (by omega)
     obtain ⟨_, h1, h2⟩ := World.cells?_some w2
     have hpos := E.pos
     have hspot : a.spot = none := by
      obtain ⟨_, h1, h2⟩ := World.cells?_some (hX 0 (by omega)).2
      have h3 := h2 0 hpos
      rw [List.getElem?_eq_getElem (by omega : 0 < (E.enc (X 0)).length)] at h3
      have := World.cell?_spot h3
      simpa [Addr.add] using this
     obtain ⟨b, o, s⟩ := a
     obtain rfl : s = none := hspot
     refine ⟨b, o, rfl, fun i hi => ?_, by simpa using w1⟩
     simp only [List.getElem_map, List.getElem_range] at hi ⊢
     have h3 := h2 i (by omega)
     rw [List.getElem?_eq_getElem hi] at h3
     rw [← h3]
     simp only [add_plain]
   · by_cases hs : sp a.block = true
     · refine shut_slice_whole_cells ht hb hl hm hs D Pl (fun i hi => ?_)
       rw [hc]
       obtain ⟨cs', h1, h2⟩ := hx i hi
       obtain ⟨_, _, h3⟩ := hE _ _ _ _ _ _ _ h2 (hbD i hi)
       obtain ⟨k, hk⟩ := h3 W' 0 sp true
       exact ⟨cs', k, cells_below hB h1, hk⟩
     · obtain rfl : m = 0 := by
        rcases Nat.eq_zero_or_pos m with h0 | h0
        · exact h0
        · exfalso
          refine hs (hsp (.cell a.block (a.off + 0)) (List.mem_append_left _ (List.mem_map.2 ⟨0, List.mem_range.2 ?_, rfl⟩)))
          have := E.pos
          rw [hc]
          exact Nat.mul_pos h0 this
       obtain rfl : len = 0 := by omega
       have := shut_slice_cells (enc := enc) (w := W') (base := 0) (spare := sp) (held := true) ht hb hl hm (by simpa using hs) D Pl (fun i hi => absurd hi (Nat.not_lt_zero _))
       simpa using this
end
instance : Inhabited Blk := ⟨⟨0, ByteArray.empty⟩⟩
theorem str_read {H : Type} {enc : TypeId × Value → H} {P : Program} {W : World} {base : Nat} {sp : Nat → Bool} {held : Bool} {n : Nat} {t : TypeId} {cs : List Value} {y : DataW H × List MemPlace} (ht : P.underlying t = some .string)
 (h : DataW.trod enc P W base sp held n t cs = some y) (hy : Rows.uptoBulk y.1 ≤ 1048576) :
 ∃ s : ByteArray, cs = [.string s] ∧ y.2 = [] ∧ strOk s ∧ ∀ (W' : World) (base' : Nat) (sp' : Nat → Bool) (held' : Bool) (m : Nat), DataW.trod enc P W' base' sp' held' (m + 1) t cs = some y := by
 obtain ⟨s, rfl, rfl, h1⟩ := DataW.trod_string ht h
 refine ⟨s, rfl, rfl, ?_, fun W' base' sp' held' m => by simp [DataW.trod, ht, h1]⟩
 simp only [Rows.uptoBulk] at hy
 have : s.data.toList.length = s.size := by simp
 unfold strOk
 omega
theorem int_read {H : Type} {enc : TypeId × Value → H} {P : Program} {W : World} {base : Nat} {sp : Nat → Bool} {held : Bool} {n : Nat} {t : TypeId} {k : IntKind} {cs : List Value} {y : DataW H × List MemPlace} (ht : P.underlying t = some (.int k))
 (h : DataW.trod enc P W base sp held n t cs = some y) :
 ∃ z : Int, cs = [.int k z] ∧ y.2 = [] ∧ (Lit.int k z).wf = true ∧ ∀ (W' : World) (base' : Nat) (sp' : Nat → Bool) (held' : Bool) (m : Nat), DataW.trod enc P W' base' sp' held' (m + 1) t cs = some y := by
 obtain ⟨z, rfl, rfl, h1⟩ := DataW.trod_int ht h
 exact ⟨z, rfl, rfl, h1, fun W' base' sp' held' m => by simp [DataW.trod, ht, h1]⟩
theorem bool_read {H : Type} {enc : TypeId × Value → H} {P : Program} {W : World} {base : Nat} {sp : Nat → Bool} {held : Bool} {n : Nat} {t : TypeId} {cs : List Value} {y : DataW H × List MemPlace} (ht : P.underlying t = some .bool)
 (h : DataW.trod enc P W base sp held n t cs = some y) :
 ∃ z : Bool, cs = [.bool z] ∧ y.2 = [] ∧ ∀ (W' : World) (base' : Nat) (sp' : Nat → Bool) (held' : Bool) (m : Nat), DataW.trod enc P W' base' sp' held' (m + 1) t cs = some y := by
 obtain ⟨z, rfl, rfl⟩ := DataW.trod_bool ht h
 exact ⟨z, rfl, rfl, fun W' base' sp' held' m => by simp [DataW.trod, ht]⟩
theorem array5 {α : Type} {cs : Array α} (h : cs.size = 5) : ∃ c0 c1 c2 c3 c4, cs = #[c0, c1, c2, c3, c4] := by
 obtain ⟨l⟩ := cs
 match l, h with
 | [c0, c1, c2, c3, c4], _ => exact ⟨c0, c1, c2, c3, c4, rfl⟩
theorem len2 {α : Type} {cs : List α} (h : cs.length = 2) : ∃ c0 c1, cs = [c0, c1] := by
 match cs, h with
 | [c0, c1], _ => exact ⟨c0, c1, rfl⟩
section
variable {H : Type} {enc : TypeId × Value → H} {P : Program} {w : World} {base : Nat} {spare : Nat → Bool} {held : Bool}
theorem trod_struct5 {t : TypeId} {f0 f1 f2 f3 f4 : Field} {fuel : Nat} {cs : List Value} {x : DataW H × List MemPlace} (ht : P.underlying t = some (.struct #[f0, f1, f2, f3, f4])) (h : DataW.trod enc P w base spare held fuel t cs = some x) :
 ∃ y0 y1 y2 y3 y4 n, x = (.agg [y0.1, y1.1, y2.1, y3.1, y4.1], y0.2 ++ (y1.2 ++ (y2.2 ++ (y3.2 ++ y4.2)))) ∧ cs.length = P.cellsOf t ∧ DataW.trod enc P w base spare held n f0.type ((cs.drop f0.offset).take (P.cellsOf f0.type)) = some y0 ∧
  DataW.trod enc P w base spare held n f1.type ((cs.drop f1.offset).take (P.cellsOf f1.type)) = some y1 ∧ DataW.trod enc P w base spare held n f2.type ((cs.drop f2.offset).take (P.cellsOf f2.type)) = some y2 ∧
  DataW.trod enc P w base spare held n f3.type ((cs.drop f3.offset).take (P.cellsOf f3.type)) = some y3 ∧ DataW.trod enc P w base spare held n f4.type ((cs.drop f4.offset).take (P.cellsOf f4.type)) = some y4 := by
 obtain ⟨xs, n, _, rfl, hl, hlen, hf⟩ := DataW.trod_struct ht h
 match xs, hlen with
 | [y0, y1, y2, y3, y4], _ => exact ⟨y0, y1, y2, y3, y4, n, by simp, hl, by simpa using hf 0 f0 rfl, by simpa using hf 1 f1 rfl, by simpa using hf 2 f2 rfl, by simpa using hf 3 f3 rfl, by simpa using hf 4 f4 rfl⟩
theorem jk7 {t : TypeId} {f0 f1 f2 f3 f4 : Field} {n : Nat} {cs : List Value} {y0 y1 y2 y3 y4 : DataW H × List MemPlace} (ht : P.underlying t = some (.struct #[f0, f1, f2, f3, f4])) (hl : cs.length = P.cellsOf t)
 (h0 : DataW.trod enc P w base spare held n f0.type ((cs.drop f0.offset).take (P.cellsOf f0.type)) = some y0) (h1 : DataW.trod enc P w base spare held n f1.type ((cs.drop f1.offset).take (P.cellsOf f1.type)) = some y1)
 (h2 : DataW.trod enc P w base spare held n f2.type ((cs.drop f2.offset).take (P.cellsOf f2.type)) = some y2) (h3 : DataW.trod enc P w base spare held n f3.type ((cs.drop f3.offset).take (P.cellsOf f3.type)) = some y3) (h4 : DataW.trod enc P w base spare held n f4.type ((cs.drop f4.offset).take (P.cellsOf f4.type)) = some y4) :
 DataW.trod enc P w base spare held (n + 1) t cs = some (.agg [y0.1, y1.1, y2.1, y3.1, y4.1], y0.2 ++ (y1.2 ++ (y2.2 ++ (y3.2 ++ y4.2)))) := by
 have := trod_struct_mk (enc := enc) (w := w) (base := base) (spare := spare) (held := held) (n := n) (xs := [y0, y1, y2, y3, y4]) ht hl (by simp [h0, h1, h2, h3, h4])
 simpa using this
theorem open_agg5 {r : Reach} {b0 : Nat} {t : TypeId} {f0 f1 f2 f3 f4 : Field} {v : Value} {d : DataW H} {p : List MemPlace} (hs : P.underlying t = some (.struct #[f0, f1, f2, f3, f4])) (hone : oneCellFields P #[f0, f1, f2, f3, f4] = true) (hC : P.cellsOf t = 5)
 (hv : Value.okWide P w r b0 t v) (h : DataW.Trod enc P w base spare held t v d p) :
 ∃ (v0 v1 v2 v3 v4 : Value) (y0 y1 y2 y3 y4 : DataW H × List MemPlace) (n : Nat), v = .agg #[v0, v1, v2, v3, v4] ∧ d = .agg [y0.1, y1.1, y2.1, y3.1, y4.1] ∧ p = y0.2 ++ (y1.2 ++ (y2.2 ++ (y3.2 ++ y4.2))) ∧
  DataW.trod enc P w base spare held n f0.type [v0] = some y0 ∧ DataW.trod enc P w base spare held n f1.type [v1] = some y1 ∧ DataW.trod enc P w base spare held n f2.type [v2] = some y2 ∧ DataW.trod enc P w base spare held n f3.type [v3] = some y3 ∧ DataW.trod enc P w base spare held n f4.type [v4] = some y4 := by
 obtain ⟨cs, rfl, hsz⟩ := okWide_struct hs hv
 obtain ⟨c0, c1, c2, c3, c4, rfl⟩ := array5 (hsz.trans hC)
 obtain ⟨fuel, hf⟩ := h
 obtain ⟨y0, y1, y2, y3, y4, n, hx, _, h0, h1, h2, h3, h4⟩ := trod_struct5 hs hf
 obtain ⟨o0, k0⟩ := hone_of hone 0 f0 rfl
 obtain ⟨o1, k1⟩ := hone_of hone 1 f1 rfl
 obtain ⟨o2, k2⟩ := hone_of hone 2 f2 rfl
 obtain ⟨o3, k3⟩ := hone_of hone 3 f3 rfl
 obtain ⟨o4, k4⟩ := hone_of hone 4 f4 rfl
 simp only [Prod.mk.injEq] at hx
 exact ⟨c0, c1, c2, c3, c4, y0, y1, y2, y3, y4, n, rfl, hx.1, hx.2, by simpa [Value.cells, o0, k0] using h0, by simpa [Value.cells, o1, k1] using h1, by simpa [Value.cells, o2, k2] using h2, by simpa [Value.cells, o3, k3] using h3, by simpa [Value.cells, o4, k4] using h4⟩
theorem shut_agg5 {t : TypeId} {f0 f1 f2 f3 f4 : Field} {v0 v1 v2 v3 v4 : Value} {y0 y1 y2 y3 y4 : DataW H × List MemPlace} (hs : P.underlying t = some (.struct #[f0, f1, f2, f3, f4])) (hone : oneCellFields P #[f0, f1, f2, f3, f4] = true) (hC : P.cellsOf t = 5)
 (t0 : ∃ n, DataW.trod enc P w base spare held n f0.type [v0] = some y0) (t1 : ∃ n, DataW.trod enc P w base spare held n f1.type [v1] = some y1) (t2 : ∃ n, DataW.trod enc P w base spare held n f2.type [v2] = some y2) (t3 : ∃ n, DataW.trod enc P w base spare held n f3.type [v3] = some y3) (t4 : ∃ n, DataW.trod enc P w base spare held n f4.type [v4] = some y4) :
 DataW.Trod enc P w base spare held t (.agg #[v0, v1, v2, v3, v4]) (.agg [y0.1, y1.1, y2.1, y3.1, y4.1]) (y0.2 ++ (y1.2 ++ (y2.2 ++ (y3.2 ++ y4.2)))) := by
 obtain ⟨n0, t0⟩ := t0
 obtain ⟨n1, t1⟩ := t1
 obtain ⟨n2, t2⟩ := t2
 obtain ⟨n3, t3⟩ := t3
 obtain ⟨n4, t4⟩ := t4
 obtain ⟨o0, k0⟩ := hone_of hone 0 f0 rfl
 obtain ⟨o1, k1⟩ := hone_of hone 1 f1 rfl
 obtain ⟨o2, k2⟩ := hone_of hone 2 f2 rfl
 obtain ⟨o3, k3⟩ := hone_of hone 3 f3 rfl
 obtain ⟨o4, k4⟩ := hone_of hone 4 f4 rfl
 have ts := jk7 (enc := enc) (w := w) (base := base) (spare := spare) (held := held) (n := n0 + n1 + n2 + n3 + n4) (cs := [v0, v1, v2, v3, v4]) hs (by simp [hC])
  (by simpa [o0, k0] using DataW.trod_le (show n0 ≤ n0 + n1 + n2 + n3 + n4 by omega) t0) (by simpa [o1, k1] using DataW.trod_le (show n1 ≤ n0 + n1 + n2 + n3 + n4 by omega) t1)
  (by simpa [o2, k2] using DataW.trod_le (show n2 ≤ n0 + n1 + n2 + n3 + n4 by omega) t2) (by simpa [o3, k3] using DataW.trod_le (show n3 ≤ n0 + n1 + n2 + n3 + n4 by omega) t3) (by simpa [o4, k4] using DataW.trod_le (show n4 ≤ n0 + n1 + n2 + n3 + n4 by omega) t4)
 exact ⟨_, by simpa [Value.cells] using ts⟩
end
theorem jkr : Tryz.prog.cellsOf 160 = 2 := by kernel_rfl
theorem cellsDev : Tryz.prog.cellsOf 25 = 5 := by kernel_rfl
theorem cellsStr : Tryz.prog.cellsOf 9 = 1 := by kernel_rfl
theorem cellsU32 : Tryz.prog.cellsOf 22 = 1 := by kernel_rfl
theorem blk_elem {H : Type} (enc : TypeId × Value → H) : ElemR enc Tryz.prog blkE 160 := by
 intro W base sp held n cs y h hy
 obtain ⟨y0, y1, n', rfl, hl, h0, h1⟩ := trod_struct2 Tryz.underlying160 h
 simp only [Rows.uptoBulk, Rows.uptoBulkAll] at hy
 obtain ⟨z, e0, p0, k0, r0⟩ := int_read Tryz.underlying22 h0
 obtain ⟨v, e1, p1, k1, r1⟩ := str_read Tryz.underlying9 h1 (by omega)
 rw [jkr] at hl
 obtain ⟨c0, c1, rfl⟩ := len2 hl
 have e0' : [c0] = [Value.int .u32 z] := by rw [← e0, cellsU32]; rfl
 have e1' : [c1] = [Value.string v] := by rw [← e1, cellsStr]; rfl
 obtain rfl : c0 = .int .u32 z := by simpa using e0'
 obtain rfl : c1 = .string v := by simpa using e1'
 have kz : 0 ≤ z ∧ z ≤ 4294967295 := by have := k0; simp [Lit.wf, IntKind.min, IntKind.max, IntKind.signed, IntKind.bits] at this; omega
 refine ⟨⟨⟨z, v⟩, ⟨kz, k1⟩, rfl⟩, by simp [p0, p1], fun W' base' sp' held' => ⟨0 + 1 + 1, ?_⟩⟩
 exact trod_struct2_mk Tryz.underlying160 (by rw [jkr]; rfl) (r0 W' base' sp' held' 0) (r1 W' base' sp' held' 0)
theorem dev_read {H : Type} {enc : TypeId × Value → H} {W : World} {r : Reach} {b0 : Nat} {v : Value} {d : DataW H} {p : List MemPlace} (hv : Value.okWide Tryz.prog W r b0 25 v)
 (h : DataW.Trod enc Tryz.prog W 0 (fun _ => true) true 25 v d p) (hd : Rows.uptoBulk d ≤ 1048576) :
 (∃ dv : Dv, DevV W v dv ∧ dv.blocks.length ≤ 1048576 ∧ dv.waits.length ≤ 1048576) ∧ ∀ W', Below W.heap.size W W' → ∀ sp : Nat → Bool, (∀ q ∈ p, sp q.block = true) → DataW.Trod enc Tryz.prog W' 0 sp true 25 v d p := by
 obtain ⟨v0, v1, v2, v3, v4, y0, y1, y2, y3, y4, n, rfl, rfl, rfl, h0, h1, h2, h3, h4⟩ := open_agg5 Tryz.underlying25 (by kernel_rfl) cellsDev hv h
 simp only [Rows.uptoBulk, Rows.uptoBulkAll] at hd
 obtain ⟨z, e0, p0, k0, r0⟩ := int_read Tryz.underlying22 h0
 obtain ⟨c, e1, ⟨xs, hsl, hlen⟩, r1⟩ := slice_read (E := blkE) Tryz.underlying23 jkr (blk_elem enc) h1 (by omega)
 obtain ⟨c2, e2, ⟨xs2, hsl2, hlen2⟩, r2⟩ := slice_read (E := blkE) Tryz.underlying23 jkr (blk_elem enc) h2 (by omega)
 obtain ⟨dn, e3, p3, r3⟩ := bool_read Tryz.underlying4 h3
 obtain ⟨fu, e4, p4, k4, r4⟩ := int_read Tryz.underlying3 h4
 obtain rfl : v0 = .int .u32 z := by simpa using e0
 obtain rfl : v1 = c := by simpa using e1
 obtain rfl : v2 = c2 := by simpa using e2
 obtain rfl : v3 = .bool dn := by simpa using e3
 obtain rfl : v4 = .int .i64 fu := by simpa using e4
 have kz : 0 ≤ z ∧ z ≤ 4294967295 := by have := k0; simp [Lit.wf, IntKind.min, IntKind.max, IntKind.signed, IntKind.bits] at this; omega
 have kf : -9223372036854775808 ≤ fu ∧ fu ≤ 9223372036854775807 := by have := k4; simp [Lit.wf, IntKind.min, IntKind.max, IntKind.signed, IntKind.bits] at this; omega
 refine ⟨⟨⟨z, xs, xs2, dn, fu⟩, ⟨_, _, rfl, hsl, hsl2, kz, kf⟩, hlen, hlen2⟩, fun W' hB sp hsp => ?_⟩
 exact shut_agg5 Tryz.underlying25 (by kernel_rfl) cellsDev ⟨1, r0 W' 0 sp true 0⟩ (r1 W' hB sp (fun q hq => hsp q (by simp [hq]))) (r2 W' hB sp (fun q hq => hsp q (by simp [hq]))) ⟨1, r3 W' 0 sp true 0⟩ ⟨1, r4 W' 0 sp true 0⟩
end Go.Proofs.YtpaohkkhejpgjaaGreatDoor
