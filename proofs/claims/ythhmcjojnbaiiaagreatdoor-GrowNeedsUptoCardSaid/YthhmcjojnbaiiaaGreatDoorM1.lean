/- Texts of the proof: B0. -/
import Derived.Test.YthhmcjojnbaiiaaGreatDoorProg
import Derived.WalkKit
import Derived.Handy
import Derived.WalkLawsBesides
import Derived.WalkSpells
import Derived.Lib.Hide
import Derived.Deep.QuietTactic
import Derived.BigQuiet
import Derived.StillTailTactics
import Derived.Deep.LoopGhost
import Derived.Deep.DeepCutAuto
import Derived.Deep.RegionHeld3
import Derived.Deep.RegionWith
set_option linter.all false
/- Words on memory for this seat's walks: cells in a row, slices that read as lists, laws for whole structs loaded and stored. -/
namespace Go.Proofs.YthhmcjojnbaiiaaGreatDoor
open Go Go.RowKit

/-- The values vs lie in block b from cell o on. -/
def At (w : World) (b o : Nat) (vs : List Value) : Prop := ∀ i (h : i < vs.length), w.cell? ⟨b, o + i, none⟩ = some vs[i]

theorem At.nil (w : World) (b o : Nat) : At w b o [] := fun i h => by simp at h
theorem At.cell {w : World} {b o : Nat} {vs : List Value} (h : At w b o vs) (i : Nat) (v : Value) (hv : vs[i]? = some v) : w.cell? ⟨b, o + i, none⟩ = some v := by
  obtain ⟨hi, rfl⟩ := List.getElem?_eq_some_iff.1 hv
  exact h i hi
theorem At.lt {w : World} {b o : Nat} {vs : List Value} (h : At w b o vs) (hv : vs ≠ []) : b < w.heap.size := by
  have h0 : 0 < vs.length := List.length_pos_iff.2 hv
  exact block_lt_of_cell (h 0 h0)
theorem At.below {B : Nat} {w w' : World} {b o : Nat} {vs : List Value} (h : At w b o vs) (hb : Below B w w') (hB : w.heap.size ≤ B) : At w' b o vs := by
  intro i hi
  have := h i hi
  rw [hb.cell (p := ⟨b, o + i, none⟩) (by have := block_lt_of_cell this; simp at this; show b < B; omega)]
  exact this
theorem At.append {w : World} {b o : Nat} {vs us : List Value} (h : At w b o vs) (k : At w b (o + vs.length) us) : At w b o (vs ++ us) := by
  intro i hi
  rw [List.getElem_append]
  split
  · exact h i ‹_›
  · have := k (i - vs.length) (by simp at hi; omega)
    rw [← this]; congr 2; omega
theorem At.left {w : World} {b o : Nat} {vs us : List Value} (h : At w b o (vs ++ us)) : At w b o vs := by
  intro i hi
  have := h i (by simp; omega)
  rwa [List.getElem_append_left hi] at this
theorem At.right {w : World} {b o : Nat} {vs us : List Value} (h : At w b o (vs ++ us)) : At w b (o + vs.length) us := by
  intro i hi
  have := h (vs.length + i) (by simp; omega)
  rw [List.getElem_append_right (by omega)] at this
  simpa [Nat.add_assoc] using this

/-- How one element lies in cells. -/
structure Enc (α : Type) where
  sz : Nat
  enc : α → List Value
  wf : α → Prop
  len : ∀ x, wf x → (enc x).length = sz
  one : ∀ x, wf x → ∀ u ∈ enc x, u.oneCell' = true
  pos : 0 < sz

/-- Elements in a row from address A on. -/
def Row {α : Type} (E : Enc α) (w : World) (A : Option Addr) (xs : List α) : Prop :=
  ∀ k (h : k < xs.length), ∃ b o, A = some ⟨b, o, none⟩ ∧ At w b (o + k * E.sz) (E.enc xs[k]) ∧ E.wf xs[k]

/-- A slice that reads as a list. -/
def Sl {α : Type} (E : Enc α) (w : World) (v : Value) (xs : List α) : Prop :=
  ∃ A c, v = .slice A xs.length c ∧ xs.length ≤ c ∧ c ≤ 9223372036854775807 ∧ Row E w A xs

section
variable {α : Type} {E : Enc α} {w w' : World} {A : Option Addr} {xs : List α} {v : Value} {B : Nat}
theorem Row.below (h : Row E w A xs) (hb : Below B w w') (hB : w.heap.size ≤ B) : Row E w' A xs := fun k hk =>
  let ⟨b, o, e, h1, h2⟩ := h k hk
  ⟨b, o, e, h1.below hb hB, h2⟩
theorem Sl.below (h : Sl E w v xs) (hb : Below B w w') (hB : w.heap.size ≤ B) : Sl E w' v xs :=
  let ⟨A, c, e, h1, h2, h3⟩ := h
  ⟨A, c, e, h1, h2, h3.below hb hB⟩
theorem Row.nil (w : World) (A : Option Addr) : Row E w A [] := fun k h => by simp at h
theorem Sl.nil (w : World) : Sl E w (.slice none 0 0) [] := ⟨none, 0, rfl, Nat.le_refl _, by omega, Row.nil _ _⟩
theorem Row.wf (h : Row E w A xs) : ∀ x ∈ xs, E.wf x := by
  intro x hx
  obtain ⟨k, hk, rfl⟩ := List.getElem_of_mem hx
  obtain ⟨_, _, _, _, h2⟩ := h k hk
  exact h2
theorem Sl.wf (h : Sl E w v xs) : ∀ x ∈ xs, E.wf x := by
  obtain ⟨_, _, _, _, _, h3⟩ := h
  exact h3.wf
theorem Row.at_ {b o : Nat} (h : Row E w (some ⟨b, o, none⟩) xs) (k : Nat) (hk : k < xs.length) : At w b (o + k * E.sz) (E.enc xs[k]) := by
  obtain ⟨b', o', e, h1, _⟩ := h k hk
  injection e with e; injection e with e1 e2 _
  subst e1 e2
  exact h1
theorem Row.addr (h : Row E w A xs) (hne : xs ≠ []) : ∃ b o, A = some ⟨b, o, none⟩ ∧ b < w.heap.size := by
  have h0 : 0 < xs.length := List.length_pos_iff.2 hne
  obtain ⟨b, o, e, h1, h2⟩ := h 0 h0
  refine ⟨b, o, e, h1.lt ?_⟩
  intro hn
  have := E.len _ h2
  rw [hn] at this
  have := E.pos
  simp at *; omega
theorem Row.mk {b o : Nat} (h : ∀ k (hk : k < xs.length), At w b (o + k * E.sz) (E.enc xs[k]) ∧ E.wf xs[k]) : Row E w (some ⟨b, o, none⟩) xs := fun k hk => ⟨b, o, rfl, h k hk⟩

/-- From a row of the call's own. -/
theorem flat_getElem (E : Enc α) : ∀ (xs : List α), (∀ x ∈ xs, E.wf x) → ∀ k (hk : k < xs.length) i, i < E.sz → (xs.flatMap E.enc)[k * E.sz + i]? = (E.enc xs[k])[i]?
  | [], _, k, hk, _, _ => by simp at hk
  | x :: xs, hw, 0, _, i, hi => by
    have hx := E.len x (hw x (by simp))
    simp only [List.flatMap_cons, Nat.zero_mul, Nat.zero_add, List.getElem_cons_zero]
    rw [List.getElem?_append_left (by omega)]
  | x :: xs, hw, k + 1, hk, i, hi => by
    have hx := E.len x (hw x (by simp))
    have ih := flat_getElem E xs (fun y hy => hw y (by simp [hy])) k (by simpa using hk) i hi
    simp only [List.flatMap_cons, List.getElem_cons_succ]
    rw [List.getElem?_append_right (by rw [hx, Nat.succ_mul]; omega), hx]
    rw [← ih]; congr 1; rw [Nat.succ_mul]; omega
theorem flat_length (E : Enc α) (xs : List α) (hw : ∀ x ∈ xs, E.wf x) : (xs.flatMap E.enc).length = xs.length * E.sz := by
  induction xs with
  | nil => simp
  | cons x xs ih =>
    have hx := E.len x (hw x (by simp))
    simp only [List.flatMap_cons, List.length_append, List.length_cons, hx, ih (fun y hy => hw y (by simp [hy])), Nat.succ_mul]; omega
theorem flat_one (E : Enc α) (xs : List α) (hw : ∀ x ∈ xs, E.wf x) : ∀ u ∈ xs.flatMap E.enc, u.oneCell' = true := by
  intro u hu
  obtain ⟨x, hx, hu⟩ := List.mem_flatMap.1 hu
  exact E.one x (hw x hx) u hu
theorem own_sl {base n : Nat} {e : TypeId} (h : w.ownsRow base e E.sz v n (xs.flatMap E.enc)) (hn : n = xs.length) (hw : ∀ x ∈ xs, E.wf x) : Sl E w v xs := by
  subst hn
  obtain ⟨h1, h2⟩ := h
  rcases h2 with ⟨rfl, h0⟩ | ⟨g, cap, cur, rfl, hg, hh, hr, hc, hcur, ht⟩
  · have : xs = [] := List.length_eq_zero_iff.1 h0
    subst this
    exact Sl.nil w
  · refine ⟨_, _, rfl, hr, by unfold maxLen at hc; omega, Row.mk (fun k hk => ⟨?_, hw _ (List.getElem_mem hk)⟩)⟩
    intro i hi
    have hsz := E.len _ (hw _ (List.getElem_mem hk))
    have hk1 : k * E.sz + E.sz ≤ xs.length * E.sz := by rw [← Nat.succ_mul]; exact Nat.mul_le_mul_right _ hk
    have := flat_getElem E xs hw k hk i (by omega)
    rw [cell_of_row w g _ cur e (0, 0) hh, Nat.zero_add, ← Array.getElem?_toList]
    rw [← ht, List.getElem?_take, if_pos (by omega)] at this
    rw [this, List.getElem?_eq_getElem]
theorem Sl.len_eq {n c : Nat} (h : Sl E w (.slice A n c) xs) : n = xs.length ∧ xs.length ≤ c ∧ c ≤ 9223372036854775807 ∧ Row E w A xs := by
  obtain ⟨A', c', e, h1, h2, h3⟩ := h
  injection e with e1 e2 e3
  subst e1 e2 e3
  exact ⟨rfl, h1, h2, h3⟩
/-- A cut of a row. -/
theorem Row.drop {b o : Nat} (h : Row E w (some ⟨b, o, none⟩) xs) (i : Nat) : Row E w (some ⟨b, o + i * E.sz, none⟩) (xs.drop i) := by
  refine Row.mk fun k hk => ?_
  have hk' : i + k < xs.length := by simp at hk; omega
  obtain ⟨b', o', e, h1, h2⟩ := h (i + k) hk'
  injection e with e; injection e with e1 e2 _
  subst e1 e2
  rw [List.getElem_drop]
  exact ⟨by rw [Nat.add_mul, ← Nat.add_assoc] at h1; exact h1, h2⟩
theorem Row.take (h : Row E w A xs) (i : Nat) : Row E w A (xs.take i) := fun k hk => by
  have hk' : k < xs.length := by simp at hk; omega
  obtain ⟨b, o, e, h1, h2⟩ := h k hk'
  rw [List.getElem_take]
  exact ⟨b, o, e, h1, h2⟩
end

/-! Whole structs loaded. -/
section
variable {P : Program}
theorem add_at (b o i : Nat) : (⟨b, o, none⟩ : Addr).add i = ⟨b, o + i, none⟩ := by unfold Addr.add; split <;> simp_all
theorem run_loadVar_at (w : World) (b o : Nat) (ty : TypeId) (vs : List Value) (d : TypeDesc) (hat : At w b o vs)
    (hu : P.underlying ty = some d) (hd : (match d with | .struct _ | .array _ _ => true | _ => false) = true) (hi : (P.info? ty).map (·.size) = some vs.length) :
    (loadVar ty ⟨b, o, none⟩).run P w = .ok (.agg vs.toArray) w := by
  have hl : (loadCells ⟨b, o, none⟩ vs.length).run P w = .ok vs.toArray w :=
    run_loadCells_list (P := P) w ⟨b, o, none⟩ vs (fun j v hv => by rw [add_at]; exact hat.cell j v hv)
  cases hq : P.info? ty with
  | none => simp [hq] at hi
  | some i =>
    have hs : i.size = vs.length := by simpa [hq] using hi
    have hagg : (isAgg ty).run P w = .ok true w := by
      unfold isAgg
      rw [Sem.run_bind, run_underlying hu w]
      cases d <;> simp_all
    simp [loadVar, Sem.run_bind, hagg, sizeOf, typeInfo, hq, hs, hl]
theorem wpList_load_at {ops : Array Oper} {rest : List Oper} {o : Oper} {a : Act} {w : World} {Q : Exit → Act → World → Prop} (hgd : o.guard = none) (ty : TypeId) (x : Operand) (ho : o.op = .load ty x)
    (b i : Nat) (hx : a.eval x = .pointer (some ⟨b, i, none⟩)) (vs : List Value) (d : TypeDesc) (hat : At w b i vs)
    (hu : P.underlying ty = some d) (hd : (match d with | .struct _ | .array _ _ => true | _ => false) = true) (hi : (P.info? ty).map (·.size) = some vs.length)
    (h : wpList P ops Q rest (a.put o.dst (.agg vs.toArray)) w) : wpList P ops Q (o :: rest) a w :=
  wpList_plain hgd fun _ hK => by
    unfold Oper.wp execOp
    simp only [ho, hx, Instr.loadAt, Instr.sureAddr, Sem.run_bind, Sem.run_pure, Result.andThen_ok, run_loadVar_at w b i ty vs d hat hu hd hi]
    exact hK _ _ h
end

/-! Whole structs and arrays stored. -/
section
variable {P : Program}
theorem run_storeVar_at (w : World) (g o : Nat) (ty t : TypeId) (vs : List Value) (cur : Array Value) (hg : w.heap[g]? = some (.cells cur t (0, 0))) (hl : o + vs.length ≤ cur.size)
    (h1 : ∀ v ∈ vs, v.oneCell' = true) (hi : (P.info? ty).map (·.size) = some vs.length) :
    (storeVar ty ⟨g, o, none⟩ (.agg vs.toArray)).run P w = .ok () (w.setRow g (cur.toList.take o ++ vs ++ cur.toList.drop (o + vs.length)).toArray) := by
  have hs := run_storeCells_at (P := P) g o t vs 0 cur w hg (by simpa using hl) h1
  cases hq : P.info? ty with
  | none => simp [hq] at hi
  | some i =>
    have hsz : i.size = vs.length := by simpa [hq] using hi
    simp only [Nat.add_zero] at hs
    simp [storeVar, Sem.run_bind, sizeOf, typeInfo, hq, hsz, Value.cells, hs]
theorem wpList_store_at {ops : Array Oper} {rest : List Oper} {o : Oper} {a : Act} {w : World} {Q : Exit → Act → World → Prop} (hgd : o.guard = none) (ty : TypeId) (x v : Operand) (ho : o.op = .store ty x v)
    (g i : Nat) (hx : a.eval x = .pointer (some ⟨g, i, none⟩)) (vs : List Value) (hv : a.eval v = .agg vs.toArray) (t : TypeId) (cur : Array Value) (hg : w.heap[g]? = some (.cells cur t (0, 0)))
    (hl : i + vs.length ≤ cur.size) (h1 : ∀ v ∈ vs, v.oneCell' = true) (hi : (P.info? ty).map (·.size) = some vs.length)
    (h : wpList P ops Q rest (a.put o.dst undef) (w.setRow g (cur.toList.take i ++ vs ++ cur.toList.drop (i + vs.length)).toArray)) : wpList P ops Q (o :: rest) a w :=
  wpList_plain hgd fun _ hK => by
    unfold Oper.wp execOp
    simp only [ho, hx, hv, Instr.storeAt, Instr.sureAddr, Sem.run_bind, Sem.run_pure, Result.andThen_ok, run_storeVar_at w g i ty t vs cur hg hl h1 hi]
    exact hK _ _ h
/-- A whole array stored where it lies already. -/
theorem wpList_store_self {ops : Array Oper} {rest : List Oper} {o : Oper} {a : Act} {w : World} {Q : Exit → Act → World → Prop} (hgd : o.guard = none) (ty : TypeId) (x v : Operand) (ho : o.op = .store ty x v)
    (g : Nat) (hx : a.eval x = .pointer (some ⟨g, 0, none⟩)) (cs : Array Value) (hv : a.eval v = .agg cs) (t : TypeId) (hg : w.heap[g]? = some (.cells cs t (0, 0)))
    (h1 : ∀ v ∈ cs.toList, v.oneCell' = true) (hi : (P.info? ty).map (·.size) = some cs.size)
    (h : wpList P ops Q rest (a.put o.dst undef) w) : wpList P ops Q (o :: rest) a w := by
  refine wpList_store_at hgd ty x v ho g 0 hx cs.toList (by simpa using hv) t cs hg (by simp) h1 (by simpa using hi) ?_
  have : (cs.toList.take 0 ++ cs.toList ++ cs.toList.drop (0 + cs.toList.length)).toArray = cs := by
    rw [List.drop_of_length_le (by simp)]; simp
  rw [this, setRow_self w g cs t (0, 0) hg]
  exact h
end
theorem setRow_alloc (w : World) (old cs : Array Value) (t : TypeId) : (w.alloc (.cells old t)).setRow w.heap.size cs = w.alloc (.cells cs t) := by
  unfold World.setRow World.alloc
  congr 1
  apply Array.ext_getElem?
  intro k
  simp only [Array.getElem?_modify, Array.getElem?_push]
  by_cases hk : w.heap.size = k
  · subst hk; simp
  · have hk2 : ¬ k = w.heap.size := fun e => hk e.symm
    simp [hk, hk2]

theorem bcell {W w1 : World} (hb : Below W.heap.size W w1) : (∀ b o, b < W.heap.size → w1.cell? ⟨b, o, none⟩ = W.cell? ⟨b, o, none⟩) ∧ (∀ b o, b < W.heap.size → w1.frozen? ⟨b, o, none⟩ = W.frozen? ⟨b, o, none⟩) :=
  ⟨fun b o h => hb.cell (p := ⟨b, o, none⟩) h, fun b o h => hb.frozen (p := ⟨b, o, none⟩) h⟩
theorem Below.step {w w1 w2 : World} (h : Below w.heap.size w w1) (k : Below w1.heap.size w1 w2) : Below w.heap.size w w2 := h.trans (k.mono h.size)
theorem Below.drewN' {B : Nat} {a w : World} (h : Below B a w) (n : Nat) : Below B a (w.drewN n) := ⟨h.os, h.tape, h.output, h.size, h.block⟩
end Go.Proofs.YthhmcjojnbaiiaaGreatDoor
