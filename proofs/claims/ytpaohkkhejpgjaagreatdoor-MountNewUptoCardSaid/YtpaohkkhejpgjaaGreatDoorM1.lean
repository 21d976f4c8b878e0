/- Texts of the proof: B0 D0. -/
import Derived.Test.YtpaohkkhejpgjaaGreatDoorProg
import Derived.WalkKit
import Derived.Handy
import Derived.WalkLawsBesides
import Derived.WalkSpells
import Derived.Lib.Hide
import Derived.Deep.QuietTactic
import Derived.BigQuiet
import Derived.StillTailTactics
import Derived.Deep.LoopGhost
import Derived.Deep.DeepCutAuto
import Derived.Deep.RegionHeld3
import Derived.Deep.RegionWith
import Derived.Sort.Walk0
set_option linter.all false
set_option maxRecDepth 100000
set_option maxHeartbeats 8000000
namespace Go.Proofs.YtpaohkkhejpgjaaGreatDoor
open Go Go.RowKit
def At (w : World) (b o : Nat) (vs : List Value) : Prop := ∀ i (h : i < vs.length), w.cell? ⟨b, o + i, none⟩ = some vs[i]
theorem At.cell {w : World} {b o : Nat} {vs : List Value} (h : At w b o vs) (i : Nat) (v : Value) (hv : vs[i]? = some v) : w.cell? ⟨b, o + i, none⟩ = some v := by
 obtain ⟨hi, rfl⟩ := List.getElem?_eq_some_iff.1 hv
 exact h i hi
theorem At.lt {w : World} {b o : Nat} {vs : List Value} (h : At w b o vs) (hv : vs ≠ []) : b < w.heap.size := by
 have h0 : 0 < vs.length := List.length_pos_iff.2 hv
 exact block_lt_of_cell (h 0 h0)
theorem At.below {B : Nat} {w w' : World} {b o : Nat} {vs : List Value} (h : At w b o vs) (hb : Below B w w') (hB : w.heap.size ≤ B) : At w' b o vs := by
 intro i hi
 have := h i hi
 rw [hb.cell (p := ⟨b, o + i, none⟩) (by have := block_lt_of_cell this; simp at this; show b < B; omega)]
 exact this
theorem At.left {w : World} {b o : Nat} {vs us : List Value} (h : At w b o (vs ++ us)) : At w b o vs := by
 intro i hi
 have := h i (by simp; omega)
 rwa [List.getElem_append_left hi] at this
theorem At.right {w : World} {b o : Nat} {vs us : List Value} (h : At w b o (vs ++ us)) : At w b (o + vs.length) us := by
 intro i hi
 have := h (vs.length + i) (by simp; omega)
 rw [List.getElem_append_right (by omega)] at this
 simpa [Nat.add_assoc] using this
structure Enc (α : Type) where
 sz : Nat
 enc : α → List Value
 wf : α → Prop
 len : ∀ x, wf x → (enc x).length = sz
 one : ∀ x, wf x → ∀ u ∈ enc x, u.oneCell' = true
 pos : 0 < sz
def Row {α : Type} (E : Enc α) (w : World) (A : Option Addr) (xs : List α) : Prop :=
 ∀ k (h : k < xs.length), ∃ b o, A = some ⟨b, o, none⟩ ∧ At w b (o + k * E.sz) (E.enc xs[k]) ∧ E.wf xs[k]
def Sl {α : Type} (E : Enc α) (w : World) (v : Value) (xs : List α) : Prop :=
 ∃ A c, v = .slice A xs.length c ∧ xs.length ≤ c ∧ c ≤ 9223372036854775807 ∧ Row E w A xs
section
variable {α : Type} {E : Enc α} {w w' : World} {A : Option Addr} {xs : List α} {v : Value} {B : Nat}
theorem Row.below (h : Row E w A xs) (hb : Below B w w') (hB : w.heap.size ≤ B) : Row E w' A xs := fun k hk =>
 let ⟨b, o, e, h1, h2⟩ := h k hk
 ⟨b, o, e, h1.below hb hB, h2⟩
theorem Sl.below (h : Sl E w v xs) (hb : Below B w w') (hB : w.heap.size ≤ B) : Sl E w' v xs :=
 let ⟨A, c, e, h1, h2, h3⟩ := h
 ⟨A, c, e, h1, h2, h3.below hb hB⟩
theorem Row.nil (w : World) (A : Option Addr) : Row E w A [] := fun k h => by simp at h
theorem Sl.nil (w : World) : Sl E w (.slice none 0 0) [] := ⟨none, 0, rfl, Nat.le_refl _, by omega, Row.nil _ _⟩
theorem Row.wf (h : Row E w A xs) : ∀ x ∈ xs, E.wf x := by
 intro x hx
 obtain ⟨k, hk, rfl⟩ := List.getElem_of_mem hx
 obtain ⟨_, _, _, _, h2⟩ := h k hk
 exact h2
theorem Sl.wf (h : Sl E w v xs) : ∀ x ∈ xs, E.wf x := by
 obtain ⟨_, _, _, _, _, h3⟩ := h
 exact h3.wf
theorem Row.at_ {b o : Nat} (h : Row E w (some ⟨b, o, none⟩) xs) (k : Nat) (hk : k < xs.length) : At w b (o + k * E.sz) (E.enc xs[k]) := by
 obtain ⟨b', o', e, h1, _⟩ := h k hk
 injection e with e; injection e with e1 e2 _
 subst e1 e2
 exact h1
theorem Row.addr (h : Row E w A xs) (hne : xs ≠ []) : ∃ b o, A = some ⟨b, o, none⟩ ∧ b < w.heap.size := by
 have h0 : 0 < xs.length := List.length_pos_iff.2 hne
 obtain ⟨b, o, e, h1, h2⟩ := h 0 h0
 refine ⟨b, o, e, h1.lt ?_⟩
 intro hn
 have := E.len _ h2
 rw [hn] at this
 have := E.pos
 simp at *; omega
theorem Row.mk {b o : Nat} (h : ∀ k (hk : k < xs.length), At w b (o + k * E.sz) (E.enc xs[k]) ∧ E.wf xs[k]) : Row E w (some ⟨b, o, none⟩) xs := fun k hk => ⟨b, o, rfl, h k hk⟩
theorem jfg (E : Enc α) : ∀ (xs : List α), (∀ x ∈ xs, E.wf x) → ∀ k (hk : k < xs.length) i, i < E.sz → (xs.flatMap E.enc)[k * E.sz + i]? = (E.enc xs[k])[i]?
 | [], _, k, hk, _, _ => by simp at hk
 | x :: xs, hw, 0, _, i, hi => by
  have hx := E.len x (hw x (by simp))
  simp only [List.flatMap_cons, Nat.zero_mul, Nat.zero_add, List.getElem_cons_zero]
  rw [List.getElem?_append_left (by omega)]
 | x :: xs, hw, k + 1, hk, i, hi => by
  have hx := E.len x (hw x (by simp))
  have ih := jfg E xs (fun y hy => hw y (by simp [hy])) k (by simpa using hk) i hi
  simp only [List.flatMap_cons, List.getElem_cons_succ]
  rw [List.getElem?_append_right (by rw [hx, Nat.succ_mul]; omega), hx]
  rw [← ih]; congr 1; rw [Nat.succ_mul]; omega
theorem jbb (E : Enc α) (xs : List α) (hw : ∀ x ∈ xs, E.wf x) : (xs.flatMap E.enc).length = xs.length * E.sz := by
 induction xs with
 | nil => simp
 | cons x xs ih =>
  have hx := E.len x (hw x (by simp))
  simp only [List.flatMap_cons, List.length_append, List.length_cons, hx, ih (fun y hy => hw y (by simp [hy])), Nat.succ_mul]; omega
theorem jh8 (E : Enc α) (xs : List α) (hw : ∀ x ∈ xs, E.wf x) : ∀ u ∈ xs.flatMap E.enc, u.oneCell' = true := by
 intro u hu
 obtain ⟨x, hx, hu⟩ := List.mem_flatMap.1 hu
 exact E.one x (hw x hx) u hu
theorem jct {base n : Nat} {e : TypeId} (h : w.ownsRow base e E.sz v n (xs.flatMap E.enc)) (hn : n = xs.length) (hw : ∀ x ∈ xs, E.wf x) : Sl E w v xs := by
 subst hn
 obtain ⟨h1, h2⟩ := h
 rcases h2 with ⟨rfl, h0⟩ | ⟨g, cap, cur, rfl, hg, hh, hr, hc, hcur, ht⟩
 · have : xs = [] := List.length_eq_zero_iff.1 h0
   subst this
   exact Sl.nil w
 · refine ⟨_, _, rfl, hr, by unfold maxLen at hc; omega, Row.mk (fun k hk => ⟨?_, hw _ (List.getElem_mem hk)⟩)⟩
   intro i hi
   have hsz := E.len _ (hw _ (List.getElem_mem hk))
   have hk1 : k * E.sz + E.sz ≤ xs.length * E.sz := by rw [← Nat.succ_mul]; exact Nat.mul_le_mul_right _ hk
   have := jfg E xs hw k hk i (by omega)
   rw [cell_of_row w g _ cur e (0, 0) hh, Nat.zero_add, ← Array.getElem?_toList]
   rw [← ht, List.getElem?_take, if_pos (by omega)] at this
   rw [this, List.getElem?_eq_getElem]
theorem Sl.len_eq {n c : Nat} (h : Sl E w (.slice A n c) xs) : n = xs.length ∧ xs.length ≤ c ∧ c ≤ 9223372036854775807 ∧ Row E w A xs := by
 obtain ⟨A', c', e, h1, h2, h3⟩ := h
 injection e with e1 e2 e3
 subst e1 e2 e3
 exact ⟨rfl, h1, h2, h3⟩
end
/-! Whole structs loaded. -/
section
variable {P : Program}
theorem jcl (b o i : Nat) : (⟨b, o, none⟩ : Addr).add i = ⟨b, o + i, none⟩ := by unfold Addr.add; split <;> simp_all
theorem jas (w : World) (b o : Nat) (ty : TypeId) (vs : List Value) (d : TypeDesc) (hat : At w b o vs)
 (hu : P.underlying ty = some d) (hd : (match d with | .struct _ | .array _ _ => true | _ => false) = true) (hi : (P.info? ty).map (·.size) = some vs.length) :
 (loadVar ty ⟨b, o, none⟩).run P w = .ok (.agg vs.toArray) w := by
 have hl : (loadCells ⟨b, o, none⟩ vs.length).run P w = .ok vs.toArray w :=
  run_loadCells_list (P := P) w ⟨b, o, none⟩ vs (fun j v hv => by rw [jcl]; exact hat.cell j v hv)
 cases hq : P.info? ty with
 | none => simp [hq] at hi
 | some i =>
  have hs : i.size = vs.length := by simpa [hq] using hi
  have hagg : (isAgg ty).run P w = .ok true w := by
   unfold isAgg
   rw [Sem.run_bind, run_underlying hu w]
   cases d <;> simp_all
  simp [loadVar, Sem.run_bind, hagg, sizeOf, typeInfo, hq, hs, hl]
theorem jai {ops : Array Oper} {rest : List Oper} {o : Oper} {a : Act} {w : World} {Q : Exit → Act → World → Prop} (hgd : o.guard = none) (ty : TypeId) (x : Operand) (ho : o.op = .load ty x)
 (b i : Nat) (hx : a.eval x = .pointer (some ⟨b, i, none⟩)) (vs : List Value) (d : TypeDesc) (hat : At w b i vs)
 (hu : P.underlying ty = some d) (hd : (match d with | .struct _ | .array _ _ => true | _ => false) = true) (hi : (P.info? ty).map (·.size) = some vs.length)
 (h : wpList P ops Q rest (a.put o.dst (.agg vs.toArray)) w) : wpList P ops Q (o :: rest) a w :=
 wpList_plain hgd fun _ hK => by
  unfold Oper.wp execOp
  simp only [ho, hx, Instr.loadAt, Instr.sureAddr, Sem.run_bind, Sem.run_pure, Result.andThen_ok, jas w b i ty vs d hat hu hd hi]
  exact hK _ _ h
end
/-! Whole structs and arrays stored. -/
section
variable {P : Program}
theorem jdw (w : World) (g o : Nat) (ty t : TypeId) (vs : List Value) (cur : Array Value) (hg : w.heap[g]? = some (.cells cur t (0, 0))) (hl : o + vs.length ≤ cur.size)
 (h1 : ∀ v ∈ vs, v.oneCell' = true) (hi : (P.info? ty).map (·.size) = some vs.length) :
 (storeVar ty ⟨g, o, none⟩ (.agg vs.toArray)).run P w = .ok () (w.setRow g (cur.toList.take o ++ vs ++ cur.toList.drop (o + vs.length)).toArray) := by
 have hs := run_storeCells_at (P := P) g o t vs 0 cur w hg (by simpa using hl) h1
 cases hq : P.info? ty with
 | none => simp [hq] at hi
 | some i =>
  have hsz : i.size = vs.length := by simpa [hq] using hi
  simp only [Nat.add_zero] at hs
  simp [storeVar, Sem.run_bind, sizeOf, typeInfo, hq, hsz, Value.cells, hs]
theorem jaf {ops : Array Oper} {rest : List Oper} {o : Oper} {a : Act} {w : World} {Q : Exit → Act → World → Prop} (hgd : o.guard = none) (ty : TypeId) (x v : Operand) (ho : o.op = .store ty x v)
 (g i : Nat) (hx : a.eval x = .pointer (some ⟨g, i, none⟩)) (vs : List Value) (hv : a.eval v = .agg vs.toArray) (t : TypeId) (cur : Array Value) (hg : w.heap[g]? = some (.cells cur t (0, 0)))
 (hl : i + vs.length ≤ cur.size) (h1 : ∀ v ∈ vs, v.oneCell' = true) (hi : (P.info? ty).map (·.size) = some vs.length)
 (h : wpList P ops Q rest (a.put o.dst undef) (w.setRow g (cur.toList.take i ++ vs ++ cur.toList.drop (i + vs.length)).toArray)) : wpList P ops Q (o :: rest) a w :=
 wpList_plain hgd fun _ hK => by
  unfold Oper.wp execOp
  simp only [ho, hx, hv, Instr.storeAt, Instr.sureAddr, Sem.run_bind, Sem.run_pure, Result.andThen_ok, jdw w g i ty t vs cur hg hl h1 hi]
  exact hK _ _ h
theorem jd9 {ops : Array Oper} {rest : List Oper} {o : Oper} {a : Act} {w : World} {Q : Exit → Act → World → Prop} (hgd : o.guard = none) (ty : TypeId) (x v : Operand) (ho : o.op = .store ty x v)
 (g : Nat) (hx : a.eval x = .pointer (some ⟨g, 0, none⟩)) (cs : Array Value) (hv : a.eval v = .agg cs) (t : TypeId) (hg : w.heap[g]? = some (.cells cs t (0, 0)))
 (h1 : ∀ v ∈ cs.toList, v.oneCell' = true) (hi : (P.info? ty).map (·.size) = some cs.size)
 (h : wpList P ops Q rest (a.put o.dst undef) w) : wpList P ops Q (o :: rest) a w := by
 refine jaf hgd ty x v ho g 0 hx cs.toList (by simpa using hv) t cs hg (by simp) h1 (by simpa using hi) ?_
 have : (cs.toList.take 0 ++ cs.toList ++ cs.toList.drop (0 + cs.toList.length)).toArray = cs := by
  rw [List.drop_of_length_le (by simp)]; simp
 rw [this, setRow_self w g cs t (0, 0) hg]
 exact h
end
theorem setRow_alloc (w : World) (old cs : Array Value) (t : TypeId) : (w.alloc (.cells old t)).setRow w.heap.size cs = w.alloc (.cells cs t) := by
 unfold World.setRow World.alloc
 congr 1
 apply Array.ext_getElem?
 intro k
 simp only [Array.getElem?_modify, Array.getElem?_push]
 by_cases hk : w.heap.size = k
 · subst hk; simp
 · have hk2 : ¬ k = w.heap.size := fun e => hk e.symm
   simp [hk, hk2]
theorem bcell {W w1 : World} (hb : Below W.heap.size W w1) : (∀ b o, b < W.heap.size → w1.cell? ⟨b, o, none⟩ = W.cell? ⟨b, o, none⟩) ∧ (∀ b o, b < W.heap.size → w1.frozen? ⟨b, o, none⟩ = W.frozen? ⟨b, o, none⟩) :=
 ⟨fun b o h => hb.cell (p := ⟨b, o, none⟩) h, fun b o h => hb.frozen (p := ⟨b, o, none⟩) h⟩
theorem Below.step {w w1 w2 : World} (h : Below w.heap.size w w1) (k : Below w1.heap.size w1 w2) : Below w.heap.size w w2 := h.trans (k.mono h.size)
theorem Below.drewN' {B : Nat} {a w : World} (h : Below B a w) (n : Nat) : Below B a (w.drewN n) := ⟨h.os, h.tape, h.output, h.size, h.block⟩
structure Item where
 key : ByteArray
 val : ByteArray
structure Kid where
 key : ByteArray
 num : Int
 hash : List Int
structure Vol where
 name : ByteArray
 kind : Int
 src : ByteArray
 born : Int
 root : Int
 hash : List Int
structure Node where
 kind : Int
 items : List Item
 kids : List Kid
 vols : List Vol
structure Cel where
 num : Int
 data : ByteArray
 refs : Int
def strOk (s : ByteArray) : Prop := s.size ≤ 140737488355328
def jd7 (l : List Int) : Prop := l.length = 32 ∧ ∀ x ∈ l, 0 ≤ x ∧ x ≤ 255
def hashV (l : List Int) : List Value := l.map (Value.int .u8)
theorem je2 (l : List Int) : ∀ u ∈ hashV l, u.oneCell' = true := by
 intro u hu
 simp only [hashV, List.mem_map] at hu
 obtain ⟨x, _, rfl⟩ := hu
 rfl
def itemE : Enc Item where
 sz := 2
 enc x := [.string x.key, .string x.val]
 wf x := strOk x.key ∧ strOk x.val
 len _ _ := rfl
 one x _ u hu := by simp at hu; rcases hu with rfl | rfl <;> rfl
 pos := by decide
def u32Ok (n : Int) : Prop := 0 ≤ n ∧ n ≤ 4294967295
def kidE : Enc Kid where
 sz := 34
 enc x := [.string x.key, .int .u32 x.num] ++ hashV x.hash
 wf x := strOk x.key ∧ u32Ok x.num ∧ jd7 x.hash
 len x h := by simp [hashV, h.2.2.1]
 one x _ u hu := by
  rcases List.mem_append.1 hu with hu | hu
  · simp at hu; rcases hu with rfl | rfl <;> rfl
  · exact je2 _ u hu
 pos := by decide
def volE : Enc Vol where
 sz := 37
 enc x := [.string x.name, .int .u8 x.kind, .string x.src, .int .u64 x.born, .int .u32 x.root] ++ hashV x.hash
 wf x := strOk x.name ∧ (0 ≤ x.kind ∧ x.kind ≤ 255) ∧ strOk x.src ∧ (0 ≤ x.born ∧ x.born ≤ 18446744073709551615) ∧ u32Ok x.root ∧ jd7 x.hash
 len x h := by simp [hashV, h.2.2.2.2.2.1]
 one x _ u hu := by
  rcases List.mem_append.1 hu with hu | hu
  · simp at hu; rcases hu with rfl | rfl | rfl | rfl | rfl <;> rfl
  · exact je2 _ u hu
 pos := by decide
def celE : Enc Cel where
 sz := 3
 enc x := [.int .u32 x.num, .string x.data, .int .i64 x.refs]
 wf x := u32Ok x.num ∧ strOk x.data ∧ (-9223372036854775808 ≤ x.refs ∧ x.refs ≤ 9223372036854775807)
 len _ _ := rfl
 one x _ u hu := by simp at hu; rcases hu with rfl | rfl | rfl <;> rfl
 pos := by decide
def u32E : Enc Int where
 sz := 1
 enc x := [.int .u32 x]
 wf x := u32Ok x
 len _ _ := rfl
 one x _ u hu := by simp at hu; subst hu; rfl
 pos := by decide
/-! Order of texts. -/
def bl (a b : ByteArray) : Bool := Op.bytesLess a.toList b.toList
theorem bl_eq (a b : ByteArray) : bl a b = decide (a.data.toList < b.data.toList) := by
 unfold bl; rw [Go.Proofs.bytesLess_eq, ByteArray.toList_eq, ByteArray.toList_eq]
theorem bl_irrefl (a : ByteArray) : bl a a = false := by
 rw [bl_eq]; exact decide_eq_false (List.lt_irrefl _)
theorem bl_trans {a b c : ByteArray} (h : bl a b = true) (k : bl b c = true) : bl a c = true := by
 rw [bl_eq, decide_eq_true_eq] at *; exact List.lt_trans h k
theorem jgq {a b : ByteArray} (h : a.data.toList = b.data.toList) : a = b := by
 cases a; cases b; simp at h; subst h; rfl
theorem bl_total {a b : ByteArray} (h : bl a b = false) (k : bl b a = false) : a = b := by
 rw [bl_eq, decide_eq_false_iff_not] at *
 exact jgq (List.le_antisymm (List.not_lt.1 k) (List.not_lt.1 h))
theorem bl_asymm {a b : ByteArray} (h : bl a b = true) : bl b a = false := by
 cases hb : bl b a with
 | false => rfl
 | true => have := bl_trans h hb; rw [bl_irrefl] at this; cases this
def beqB (a b : ByteArray) : Bool := a.toList == b.toList
theorem jga (a b : ByteArray) : beqB a b = true ↔ a = b := by
 unfold beqB
 rw [beq_iff_eq, ByteArray.toList_eq, ByteArray.toList_eq]
 exact ⟨fun h => jgq h, fun h => by rw [h]⟩
/-! What is asked of items. -/
def jdx (k v : ByteArray) : Bool := !k.toList.isEmpty && (decide (k.size ≤ 48) && decide (v.size ≤ 160))
def okAt (xs : List Item) (k : Nat) : Prop := ∀ h : k < xs.length, jdx xs[k].key xs[k].val = true ∧ (0 < k → ∀ h' : k - 1 < xs.length, bl xs[k - 1].key xs[k].key = true)
def jjc : List Item → Bool
 | [] => true
 | [_] => true
 | a :: b :: r => bl a.key b.key && jjc (b :: r)
def jfr (xs : List Item) : Bool := xs.all (fun x => jdx x.key x.val) && jjc xs
theorem jk8 : ∀ xs : List Item, jjc xs = true ↔ ∀ k (h : k + 1 < xs.length), bl xs[k].key xs[k + 1].key = true
 | [] => by simp [jjc]
 | [_] => by simp [jjc]
 | a :: b :: r => by
  rw [jjc, Bool.and_eq_true, jk8 (b :: r)]
  constructor
  · rintro ⟨h, k⟩ i hi
    cases i with
    | zero => exact h
    | succ i => exact k i (by simpa using hi)
  · intro h
    exact ⟨h 0 (by simp), fun k hk => h (k + 1) (by simpa using hk)⟩
theorem jk9 (xs : List Item) : jfr xs = true ↔ ∀ k, k < xs.length → okAt xs k := by
 unfold jfr
 rw [Bool.and_eq_true, List.all_eq_true, jk8]
 constructor
 · rintro ⟨h, k⟩ i hi _
   refine ⟨h _ (List.getElem_mem _), fun h0 h' => ?_⟩
   have := k (i - 1) (by omega)
   simp only [show i - 1 + 1 = i by omega] at this
   exact this
 · intro h
   refine ⟨fun x hx => ?_, fun k hk => ?_⟩
   · obtain ⟨i, hi, rfl⟩ := List.getElem_of_mem hx
     exact (h i hi hi).1
   · have := (h (k + 1) hk hk).2 (by omega) (by omega)
     simpa using this
theorem jjd {xs : List Item} {k : Nat} (hk : k < xs.length) (h : ¬ okAt xs k) : jfr xs = false := by
 rw [← Bool.not_eq_true]
 intro hh
 exact h ((jk9 xs).1 hh k hk)
end Go.Proofs.YtpaohkkhejpgjaaGreatDoor
