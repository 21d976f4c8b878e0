/- Texts of the proof: D0. -/
import Derived.Test.YthhmcjojnbaiiaaGreatDoorM1
import Derived.Sort.Walk0
set_option linter.all false
/- The data: items, changes, kids, volumes, nodes, cells; what is asked of items. Plain. -/
namespace Go.Proofs.YthhmcjojnbaiiaaGreatDoor
open Go Go.RowKit
structure Item where
  key : ByteArray
  val : ByteArray
structure Change where
  key : ByteArray
  has : Bool
  val : ByteArray
structure Kid where
  key : ByteArray
  num : Int
  hash : List Int
structure Vol where
  name : ByteArray
  kind : Int
  src : ByteArray
  born : Int
  root : Int
  hash : List Int
structure Node where
  kind : Int
  items : List Item
  kids : List Kid
  vols : List Vol
structure Cel where
  num : Int
  data : ByteArray
  refs : Int
def strOk (s : ByteArray) : Prop := s.size ≤ 140737488355328
def hashOk (l : List Int) : Prop := l.length = 32 ∧ ∀ x ∈ l, 0 ≤ x ∧ x ≤ 255
def hashV (l : List Int) : List Value := l.map (Value.int .u8)
theorem hashV_one (l : List Int) : ∀ u ∈ hashV l, u.oneCell' = true := by
  intro u hu
  simp only [hashV, List.mem_map] at hu
  obtain ⟨x, _, rfl⟩ := hu
  rfl
def itemE : Enc Item where
  sz := 2
  enc x := [.string x.key, .string x.val]
  wf x := strOk x.key ∧ strOk x.val
  len _ _ := rfl
  one x _ u hu := by simp at hu; rcases hu with rfl | rfl <;> rfl
  pos := by decide
def changeE : Enc Change where
  sz := 3
  enc x := [.string x.key, .bool x.has, .string x.val]
  wf x := strOk x.key ∧ strOk x.val
  len _ _ := rfl
  one x _ u hu := by simp at hu; rcases hu with rfl | rfl | rfl <;> rfl
  pos := by decide
def u32Ok (n : Int) : Prop := 0 ≤ n ∧ n ≤ 4294967295
def kidE : Enc Kid where
  sz := 34
  enc x := [.string x.key, .int .u32 x.num] ++ hashV x.hash
  wf x := strOk x.key ∧ u32Ok x.num ∧ hashOk x.hash
  len x h := by simp [hashV, h.2.2.1]
  one x _ u hu := by
    rcases List.mem_append.1 hu with hu | hu
    · simp at hu; rcases hu with rfl | rfl <;> rfl
    · exact hashV_one _ u hu
  pos := by decide
def volE : Enc Vol where
  sz := 37
  enc x := [.string x.name, .int .u8 x.kind, .string x.src, .int .u64 x.born, .int .u32 x.root] ++ hashV x.hash
  wf x := strOk x.name ∧ (0 ≤ x.kind ∧ x.kind ≤ 255) ∧ strOk x.src ∧ (0 ≤ x.born ∧ x.born ≤ 18446744073709551615) ∧ u32Ok x.root ∧ hashOk x.hash
  len x h := by simp [hashV, h.2.2.2.2.2.1]
  one x _ u hu := by
    rcases List.mem_append.1 hu with hu | hu
    · simp at hu; rcases hu with rfl | rfl | rfl | rfl | rfl <;> rfl
    · exact hashV_one _ u hu
  pos := by decide
def celE : Enc Cel where
  sz := 3
  enc x := [.int .u32 x.num, .string x.data, .int .i64 x.refs]
  wf x := u32Ok x.num ∧ strOk x.data ∧ (-9223372036854775808 ≤ x.refs ∧ x.refs ≤ 9223372036854775807)
  len _ _ := rfl
  one x _ u hu := by simp at hu; rcases hu with rfl | rfl | rfl <;> rfl
  pos := by decide
def u32E : Enc Int where
  sz := 1
  enc x := [.int .u32 x]
  wf x := u32Ok x
  len _ _ := rfl
  one x _ u hu := by simp at hu; subst hu; rfl
  pos := by decide

/-! Order of texts. -/
def bl (a b : ByteArray) : Bool := Op.bytesLess a.toList b.toList
theorem bl_eq (a b : ByteArray) : bl a b = decide (a.data.toList < b.data.toList) := by
  unfold bl; rw [Go.Proofs.bytesLess_eq, ByteArray.toList_eq, ByteArray.toList_eq]
theorem bl_irrefl (a : ByteArray) : bl a a = false := by
  rw [bl_eq]; exact decide_eq_false (List.lt_irrefl _)
theorem bl_trans {a b c : ByteArray} (h : bl a b = true) (k : bl b c = true) : bl a c = true := by
  rw [bl_eq, decide_eq_true_eq] at *; exact List.lt_trans h k
theorem ba_ext {a b : ByteArray} (h : a.data.toList = b.data.toList) : a = b := by
  cases a; cases b; simp at h; subst h; rfl
theorem bl_total {a b : ByteArray} (h : bl a b = false) (k : bl b a = false) : a = b := by
  rw [bl_eq, decide_eq_false_iff_not] at *
  exact ba_ext (List.le_antisymm (List.not_lt.1 k) (List.not_lt.1 h))
theorem bl_asymm {a b : ByteArray} (h : bl a b = true) : bl b a = false := by
  cases hb : bl b a with
  | false => rfl
  | true => have := bl_trans h hb; rw [bl_irrefl] at this; cases this
def beqB (a b : ByteArray) : Bool := a.toList == b.toList
theorem beqB_iff (a b : ByteArray) : beqB a b = true ↔ a = b := by
  unfold beqB
  rw [beq_iff_eq, ByteArray.toList_eq, ByteArray.toList_eq]
  exact ⟨fun h => ba_ext h, fun h => by rw [h]⟩

/-! What is asked of items. -/
def rightB (k v : ByteArray) : Bool := !k.toList.isEmpty && (decide (k.size ≤ 48) && decide (v.size ≤ 160))
def okAt (xs : List Item) (k : Nat) : Prop := ∀ h : k < xs.length, rightB xs[k].key xs[k].val = true ∧ (0 < k → ∀ h' : k - 1 < xs.length, bl xs[k - 1].key xs[k].key = true)
def sortedB : List Item → Bool
  | [] => true
  | [_] => true
  | a :: b :: r => bl a.key b.key && sortedB (b :: r)
def itemsOk (xs : List Item) : Bool := xs.all (fun x => rightB x.key x.val) && sortedB xs
theorem sortedB_iff : ∀ xs : List Item, sortedB xs = true ↔ ∀ k (h : k + 1 < xs.length), bl xs[k].key xs[k + 1].key = true
  | [] => by simp [sortedB]
  | [_] => by simp [sortedB]
  | a :: b :: r => by
    rw [sortedB, Bool.and_eq_true, sortedB_iff (b :: r)]
    constructor
    · rintro ⟨h, k⟩ i hi
      cases i with
      | zero => exact h
      | succ i => exact k i (by simpa using hi)
    · intro h
      exact ⟨h 0 (by simp), fun k hk => h (k + 1) (by simpa using hk)⟩
theorem itemsOk_iff (xs : List Item) : itemsOk xs = true ↔ ∀ k, k < xs.length → okAt xs k := by
  unfold itemsOk
  rw [Bool.and_eq_true, List.all_eq_true, sortedB_iff]
  constructor
  · rintro ⟨h, k⟩ i hi _
    refine ⟨h _ (List.getElem_mem _), fun h0 h' => ?_⟩
    have := k (i - 1) (by omega)
    simp only [show i - 1 + 1 = i by omega] at this
    exact this
  · intro h
    refine ⟨fun x hx => ?_, fun k hk => ?_⟩
    · obtain ⟨i, hi, rfl⟩ := List.getElem_of_mem hx
      exact (h i hi hi).1
    · have := (h (k + 1) hk hk).2 (by omega) (by omega)
      simpa using this
theorem itemsOk_no {xs : List Item} {k : Nat} (hk : k < xs.length) (h : ¬ okAt xs k) : itemsOk xs = false := by
  rw [← Bool.not_eq_true]
  intro hh
  exact h ((itemsOk_iff xs).1 hh k hk)
end Go.Proofs.YthhmcjojnbaiiaaGreatDoor
