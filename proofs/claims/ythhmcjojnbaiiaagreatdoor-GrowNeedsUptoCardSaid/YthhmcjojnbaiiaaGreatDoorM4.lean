/- Texts of the proof: D0 It It2. -/
import Derived.Test.YthhmcjojnbaiiaaGreatDoorM1
import Derived.Sort.Walk0
import Derived.Test.YthhmcjojnbaiiaaGreatDoorM2
set_option linter.all false
/- The data: items, changes, kids, volumes, nodes, cells; what is asked of items. Plain. -/
namespace Go.Proofs.YthhmcjojnbaiiaaGreatDoor
open Go Go.RowKit
structure Item where
  key : ByteArray
  val : ByteArray
structure Change where
  key : ByteArray
  has : Bool
  val : ByteArray
structure Kid where
  key : ByteArray
  num : Int
  hash : List Int
structure Vol where
  name : ByteArray
  kind : Int
  src : ByteArray
  born : Int
  root : Int
  hash : List Int
structure Node where
  kind : Int
  items : List Item
  kids : List Kid
  vols : List Vol
structure Cel where
  num : Int
  data : ByteArray
  refs : Int
def strOk (s : ByteArray) : Prop := s.size ≤ 140737488355328
def hashOk (l : List Int) : Prop := l.length = 32 ∧ ∀ x ∈ l, 0 ≤ x ∧ x ≤ 255
def hashV (l : List Int) : List Value := l.map (Value.int .u8)
theorem hashV_one (l : List Int) : ∀ u ∈ hashV l, u.oneCell' = true := by
  intro u hu
  simp only [hashV, List.mem_map] at hu
  obtain ⟨x, _, rfl⟩ := hu
  rfl
def itemE : Enc Item where
  sz := 2
  enc x := [.string x.key, .string x.val]
  wf x := strOk x.key ∧ strOk x.val
  len _ _ := rfl
  one x _ u hu := by simp at hu; rcases hu with rfl | rfl <;> rfl
  pos := by decide
def changeE : Enc Change where
  sz := 3
  enc x := [.string x.key, .bool x.has, .string x.val]
  wf x := strOk x.key ∧ strOk x.val
  len _ _ := rfl
  one x _ u hu := by simp at hu; rcases hu with rfl | rfl | rfl <;> rfl
  pos := by decide
def u32Ok (n : Int) : Prop := 0 ≤ n ∧ n ≤ 4294967295
def kidE : Enc Kid where
  sz := 34
  enc x := [.string x.key, .int .u32 x.num] ++ hashV x.hash
  wf x := strOk x.key ∧ u32Ok x.num ∧ hashOk x.hash
  len x h := by simp [hashV, h.2.2.1]
  one x _ u hu := by
    rcases List.mem_append.1 hu with hu | hu
    · simp at hu; rcases hu with rfl | rfl <;> rfl
    · exact hashV_one _ u hu
  pos := by decide
def volE : Enc Vol where
  sz := 37
  enc x := [.string x.name, .int .u8 x.kind, .string x.src, .int .u64 x.born, .int .u32 x.root] ++ hashV x.hash
  wf x := strOk x.name ∧ (0 ≤ x.kind ∧ x.kind ≤ 255) ∧ strOk x.src ∧ (0 ≤ x.born ∧ x.born ≤ 18446744073709551615) ∧ u32Ok x.root ∧ hashOk x.hash
  len x h := by simp [hashV, h.2.2.2.2.2.1]
  one x _ u hu := by
    rcases List.mem_append.1 hu with hu | hu
    · simp at hu; rcases hu with rfl | rfl | rfl | rfl | rfl <;> rfl
    · exact hashV_one _ u hu
  pos := by decide
def celE : Enc Cel where
  sz := 3
  enc x := [.int .u32 x.num, .string x.data, .int .i64 x.refs]
  wf x := u32Ok x.num ∧ strOk x.data ∧ (-9223372036854775808 ≤ x.refs ∧ x.refs ≤ 9223372036854775807)
  len _ _ := rfl
  one x _ u hu := by simp at hu; rcases hu with rfl | rfl | rfl <;> rfl
  pos := by decide
def u32E : Enc Int where
  sz := 1
  enc x := [.int .u32 x]
  wf x := u32Ok x
  len _ _ := rfl
  one x _ u hu := by simp at hu; subst hu; rfl
  pos := by decide

/-! Order of texts. -/
def bl (a b : ByteArray) : Bool := Op.bytesLess a.toList b.toList
theorem bl_eq (a b : ByteArray) : bl a b = decide (a.data.toList < b.data.toList) := by
  unfold bl; rw [Go.Proofs.bytesLess_eq, ByteArray.toList_eq, ByteArray.toList_eq]
theorem bl_irrefl (a : ByteArray) : bl a a = false := by
  rw [bl_eq]; exact decide_eq_false (List.lt_irrefl _)
theorem bl_trans {a b c : ByteArray} (h : bl a b = true) (k : bl b c = true) : bl a c = true := by
  rw [bl_eq, decide_eq_true_eq] at *; exact List.lt_trans h k
theorem ba_ext {a b : ByteArray} (h : a.data.toList = b.data.toList) : a = b := by
  cases a; cases b; simp at h; subst h; rfl
theorem bl_total {a b : ByteArray} (h : bl a b = false) (k : bl b a = false) : a = b := by
  rw [bl_eq, decide_eq_false_iff_not] at *
  exact ba_ext (List.le_antisymm (List.not_lt.1 k) (List.not_lt.1 h))
theorem bl_asymm {a b : ByteArray} (h : bl a b = true) : bl b a = false := by
  cases hb : bl b a with
  | false => rfl
  | true => have := bl_trans h hb; rw [bl_irrefl] at this; cases this
def beqB (a b : ByteArray) : Bool := a.toList == b.toList
theorem beqB_iff (a b : ByteArray) : beqB a b = true ↔ a = b := by
  unfold beqB
  rw [beq_iff_eq, ByteArray.toList_eq, ByteArray.toList_eq]
  exact ⟨fun h => ba_ext h, fun h => by rw [h]⟩

/-! What is asked of items. -/
def rightB (k v : ByteArray) : Bool := !k.toList.isEmpty && (decide (k.size ≤ 48) && decide (v.size ≤ 160))
def okAt (xs : List Item) (k : Nat) : Prop := ∀ h : k < xs.length, rightB xs[k].key xs[k].val = true ∧ (0 < k → ∀ h' : k - 1 < xs.length, bl xs[k - 1].key xs[k].key = true)
def sortedB : List Item → Bool
  | [] => true
  | [_] => true
  | a :: b :: r => bl a.key b.key && sortedB (b :: r)
def itemsOk (xs : List Item) : Bool := xs.all (fun x => rightB x.key x.val) && sortedB xs
theorem sortedB_iff : ∀ xs : List Item, sortedB xs = true ↔ ∀ k (h : k + 1 < xs.length), bl xs[k].key xs[k + 1].key = true
  | [] => by simp [sortedB]
  | [_] => by simp [sortedB]
  | a :: b :: r => by
    rw [sortedB, Bool.and_eq_true, sortedB_iff (b :: r)]
    constructor
    · rintro ⟨h, k⟩ i hi
      cases i with
      | zero => exact h
      | succ i => exact k i (by simpa using hi)
    · intro h
      exact ⟨h 0 (by simp), fun k hk => h (k + 1) (by simpa using hk)⟩
theorem itemsOk_iff (xs : List Item) : itemsOk xs = true ↔ ∀ k, k < xs.length → okAt xs k := by
  unfold itemsOk
  rw [Bool.and_eq_true, List.all_eq_true, sortedB_iff]
  constructor
  · rintro ⟨h, k⟩ i hi _
    refine ⟨h _ (List.getElem_mem _), fun h0 h' => ?_⟩
    have := k (i - 1) (by omega)
    simp only [show i - 1 + 1 = i by omega] at this
    exact this
  · intro h
    refine ⟨fun x hx => ?_, fun k hk => ?_⟩
    · obtain ⟨i, hi, rfl⟩ := List.getElem_of_mem hx
      exact (h i hi hi).1
    · have := (h (k + 1) hk hk).2 (by omega) (by omega)
      simpa using this
theorem itemsOk_no {xs : List Item} {k : Nat} (hk : k < xs.length) (h : ¬ okAt xs k) : itemsOk xs = false := by
  rw [← Bool.not_eq_true]
  intro hh
  exact h ((itemsOk_iff xs).1 hh k hk)
end Go.Proofs.YthhmcjojnbaiiaaGreatDoor

/- Package item: what may be an item, a right list. -/
namespace Go.Proofs.YthhmcjojnbaiiaaGreatDoor
open Go Go.RowKit
set_option maxRecDepth 100000 in
set_option maxHeartbeats 400000 in
theorem itemRight_any (w : World) (k v : ByteArray) :
    Calls Tryz.prog 49 #[.string k, .string v] w fun e w' => e = .returned (.bool (rightB k v)) ∧ w' = w := by
  cases h1 : k.toList.isEmpty with
  | true =>
    have hr : rightB k v = false := by simp [rightB, h1]
    have HR := Lib.hid hr
    clear hr
    go_enter Tryz.func49, Tryz.ntmps49
    go_wp2
    go_ret
    exact ⟨by rw [HR.out]; rfl, rfl⟩
  | false =>
    by_cases h2 : k.size ≤ 48
    · by_cases h3 : v.size ≤ 160
      · have hr : rightB k v = true := by simp [rightB, h1, h2, h3]
        have HR := Lib.hid hr
        clear hr
        go_enter Tryz.func49, Tryz.ntmps49
        go_wp2
        go_ret
        exact ⟨by rw [HR.out]; simp; omega, rfl⟩
      · have hr : rightB k v = false := by simp [rightB, h3]
        have HR := Lib.hid hr
        clear hr
        go_enter Tryz.func49, Tryz.ntmps49
        go_wp2
        go_ret
        exact ⟨by rw [HR.out]; simp; omega, rfl⟩
    · have hr : rightB k v = false := by simp [rightB, h2]
      have HR := Lib.hid hr
      clear hr
      go_enter Tryz.func49, Tryz.ntmps49
      go_wp2
      go_ret
      exact ⟨by rw [HR.out]; simp, rfl⟩
theorem itemRight_t (w : World) (k v : ByteArray) (h : rightB k v = true) : Calls Tryz.prog 49 #[.string k, .string v] w fun e w' => e = .returned (.bool true) ∧ w' = w := by
  rw [← h]; exact itemRight_any w k v
theorem itemRight_f (w : World) (k v : ByteArray) (h : rightB k v = false) : Calls Tryz.prog 49 #[.string k, .string v] w fun e w' => e = .returned (.bool false) ∧ w' = w := by
  rw [← h]; exact itemRight_any w k v
theorem At.pair {w : World} {b o : Nat} {x y : Value} (h : At w b o [x, y]) : w.cell? ⟨b, o, none⟩ = some x ∧ w.cell? ⟨b, o + 1, none⟩ = some y :=
  ⟨h.cell 0 x rfl, h.cell 1 y rfl⟩
def errIf (b : Bool) (n : Int) : Int := if b then 0 else n
set_option maxRecDepth 100000 in
set_option maxHeartbeats 1000000 in
theorem itemCheck_any (w : World) (v : Value) (xs : List Item) (hv : Sl itemE w v xs) :
    Calls Tryz.prog 29 #[v] w fun e w' => e = .returned (.int .i64 (errIf (itemsOk xs) 4)) ∧ Below w.heap.size w w' := by
  obtain ⟨A, c, rfl, hc, hc2, hrow⟩ := hv
  have HR := Lib.hid hrow
  clear hrow
  go_enter Tryz.func29, Tryz.ntmps29
  go_wp2
  go_loopw [3, 4, 7, 8, 9, 10, 11, 12, 13, 14, 15, 16, 17, 18, 19, 20, 21, 22, 23, 24, 25, 26, 27, 28, 29, 30, 31, 32] (fun _ _ i _ _ _ _ _ _ _ _ _ _ _ _ _ _ _ _ _ _ _ _ _ _ _ _ _ wr => ∃ k : Nat, k ≤ xs.length ∧ i = .int .i64 k ∧ (∀ j, j < k → okAt xs j) ∧ Below w.heap.size w wr) (fun _ _ i _ _ _ _ _ _ _ _ _ _ _ _ _ _ _ _ _ _ _ _ _ _ _ _ _ _ => xs.length - (intOf i).toNat)
  case atStart => exact ⟨0, Nat.zero_le _, rfl, fun j hj => by omega, Below.refl _ _⟩
  case round =>
    obtain ⟨k, hk, rfl, hok, hB⟩ := hrel
    have HO := Lib.hid hok
    have HB := Lib.hid hB
    by_cases hlt : k < xs.length
    · obtain ⟨b, o, rfl, hat, hwf⟩ := HR.out k hlt
      have hb : b < w.heap.size := hat.lt (by simp [itemE])
      obtain ⟨d0, d1⟩ := (hat.below hB (Nat.le_refl _)).pair
      have hbr : b < wr.heap.size := Nat.lt_of_lt_of_le hb hB.size
      by_cases hk0 : k = 0
      · clear hok hB hat hwf
        have hokk : okAt xs k ↔ rightB xs[k].key xs[k].val = true := ⟨fun h => (h hlt).1, fun h _ => ⟨h, fun h0 => by omega⟩⟩
        have HK := Lib.hid hokk
        clear hokk
        generalize xs[k].key = kk at *
        generalize xs[k].val = kv at *
        have hg0 : decide (0 < (k : Int)) = false := by simp; omega
        have hg1 : decide (0 < k) = false := by simp; omega
        have HK0 := Lib.hid hk0
        clear hk0
        simp only [itemE] at d0 d1
        cases hr : rightB kk kv with
        | false =>
          go_wp2
          go_quiet ((go_at_call 49; exact Calls.quiet_of_same (itemRight_f _ _ _ hr)))
          go_wp2
          go_ret
          refine ⟨?_, Below.drewN' (HB.out.alloc HB.out.size _) _⟩
          rw [itemsOk_no hlt (by rw [HK.out, hr]; simp)]; rfl
        | true =>
          go_wp2
          go_quiet ((go_at_call 49; exact Calls.quiet_of_same (itemRight_t _ _ _ hr)))
          go_wp2
          go_roundw
          case rel =>
            refine ⟨k + 1, by omega, by go_num, fun j hj => ?_, Below.drewN' (HB.out.alloc HB.out.size _) _⟩
            rcases Nat.lt_succ_iff_lt_or_eq.1 hj with h | h
            · exact HO.out j h
            · rw [h, HK.out]; exact hr
          case measure => simp [intOf]; omega
      · obtain ⟨_, _, e, hatp, hwfp⟩ := HR.out (k - 1) (by omega)
        injection e with e; injection e with e1 e2 _
        subst e1 e2
        obtain ⟨p0, _⟩ := (hatp.below hB (Nat.le_refl _)).pair
        clear hok hB hat hatp hwf hwfp
        have hokk : okAt xs k ↔ (rightB xs[k].key xs[k].val = true ∧ bl xs[k - 1].key xs[k].key = true) := ⟨fun h => ⟨(h hlt).1, (h hlt).2 (by omega) (by omega)⟩, fun h _ => ⟨h.1, fun _ _ => h.2⟩⟩
        have HK := Lib.hid hokk
        clear hokk
        generalize xs[k - 1].key = pk at *
        generalize xs[k].key = kk at *
        generalize xs[k].val = kv at *
        have hg0 : decide (0 < (k : Int)) = true := by simp; omega
        have hg1 : decide (0 < k) = true := by simp; omega
        have hk1 : 0 ≤ (k : Int) - 1 := by omega
        simp only [itemE] at d0 d1 p0
        cases hr : rightB kk kv with
        | false =>
          go_wp2
          go_quiet ((go_at_call 49; exact Calls.quiet_of_same (itemRight_f _ _ _ hr)))
          go_wp2
          go_ret
          refine ⟨?_, Below.drewN' (HB.out.alloc HB.out.size _) _⟩
          rw [itemsOk_no hlt (by rw [HK.out, hr]; simp)]; rfl
        | true =>
          cases hbl : bl pk kk with
          | false =>
            have hbl2 : Op.bytesLess pk.toList kk.toList = false := hbl
            go_wp2
            go_quiet ((go_at_call 49; exact Calls.quiet_of_same (itemRight_t _ _ _ hr)))
            go_wp2
            go_ret
            refine ⟨?_, Below.drewN' (HB.out.alloc HB.out.size _) _⟩
            rw [itemsOk_no hlt (by rw [HK.out, hbl]; simp)]; rfl
          | true =>
            have hbl2 : Op.bytesLess pk.toList kk.toList = true := hbl
            go_wp2
            go_quiet ((go_at_call 49; exact Calls.quiet_of_same (itemRight_t _ _ _ hr)))
            go_wp2
            go_roundw
            case rel =>
              refine ⟨k + 1, by omega, by go_num, fun j hj => ?_, Below.drewN' (HB.out.alloc HB.out.size _) _⟩
              rcases Nat.lt_succ_iff_lt_or_eq.1 hj with h | h
              · exact HO.out j h
              · rw [h, HK.out]; exact ⟨hr, hbl⟩
            case measure => simp [intOf]; omega
    · have hall : itemsOk xs = true := (itemsOk_iff xs).2 fun j hj => hok j (by omega)
      have HA := Lib.hid hall
      clear hall hok hB
      go_wp2
      go_ret
      exact ⟨by rw [HA.out]; rfl, HB.out⟩
#print axioms itemCheck_any
end Go.Proofs.YthhmcjojnbaiiaaGreatDoor

/- Binary search of a key among items. -/
namespace Go.Proofs.YthhmcjojnbaiiaaGreatDoor
open Go Go.RowKit
def cmpB (a b : ByteArray) : Int := if bl a b then -1 else if bl b a then 1 else 0
theorem cmpB_neg (a b : ByteArray) : (decide (cmpB a b < 0)) = bl a b := by
  unfold cmpB; cases bl a b <;> cases bl b a <;> simp
theorem cmpB_zero (a b : ByteArray) : (cmpB a b == 0) = beqB a b := by
  unfold cmpB
  cases h : bl a b with
  | true =>
    have : beqB a b = false := by rw [← Bool.not_eq_true, beqB_iff]; rintro rfl; rw [bl_irrefl] at h; cases h
    rw [this]; rfl
  | false =>
    cases k : bl b a with
    | true =>
      have : beqB a b = false := by rw [← Bool.not_eq_true, beqB_iff]; rintro rfl; rw [bl_irrefl] at k; cases k
      rw [this]; rfl
    | false =>
      rw [(beqB_iff a b).2 (bl_total h k)]; rfl
set_option maxRecDepth 100000 in
set_option maxHeartbeats 400000 in
theorem cmpString_any (w : World) (a b : ByteArray) :
    Calls Tryz.prog 76 #[.string a, .string b] w fun e w' => e = .returned (.int .i64 (cmpB a b)) ∧ w = w' := by
  cases h : bl a b with
  | true =>
    have hc : cmpB a b = -1 := by simp [cmpB, h]
    have HC := Lib.hid hc
    have h' : Op.bytesLess a.toList b.toList = true := h
    clear hc
    go_enter Tryz.func76, Tryz.ntmps76
    go_wp2
    go_ret
    exact ⟨by rw [HC.out]; rfl, rfl⟩
  | false =>
    cases k : bl b a with
    | true =>
      have hc : cmpB a b = 1 := by simp [cmpB, h, k]
      have HC := Lib.hid hc
      have h' : Op.bytesLess a.toList b.toList = false := h
      have hne : (a.toList == b.toList) = false := by
        have : beqB a b = false := by rw [← Bool.not_eq_true, beqB_iff]; rintro rfl; rw [bl_irrefl] at k; cases k
        exact this
      clear hc
      go_enter Tryz.func76, Tryz.ntmps76
      go_wp2
      go_ret
      exact ⟨by rw [HC.out]; rfl, rfl⟩
    | false =>
      have hab := bl_total h k
      have hc : cmpB a b = 0 := by simp [cmpB, h, k]
      have HC := Lib.hid hc
      have h' : Op.bytesLess a.toList b.toList = false := h
      have hne : (a.toList == b.toList) = true := (beqB_iff a b).2 hab
      clear hc hab
      go_enter Tryz.func76, Tryz.ntmps76
      go_wp2
      go_ret
      exact ⟨by rw [HC.out]; rfl, rfl⟩
set_option maxRecDepth 100000 in
set_option maxHeartbeats 400000 in
theorem place1_any (w : World) (k v t : ByteArray) :
    Calls Tryz.prog 75 #[.agg #[.string k, .string v], .string t] w fun e w' => e = .returned (.int .i64 (cmpB k t)) ∧ Below w.heap.size w w' := by
  go_enter Tryz.func75, Tryz.ntmps75
  go_wp2_with (go_at_call 76; refine (cmpString_any _ _ _).mono ?_; rintro e _ ⟨rfl, rfl⟩)
  go_ret
  exact ⟨rfl, (Below.refl _ _).alloc (Nat.le_refl _) _⟩

/-! Where it is, or would be. -/
theorem takeWhile_len {α : Type} (p : α → Bool) : ∀ (xs : List α) (i : Nat), i ≤ xs.length → (∀ k (h : k < xs.length), k < i → p xs[k] = true) → (∀ h : i < xs.length, p xs[i] = false) → (xs.takeWhile p).length = i
  | [], i, h, _, _ => by simp at h ⊢; omega
  | x :: xs, 0, _, _, h2 => by have := h2 (by simp); simp at this; simp [List.takeWhile_cons, this]
  | x :: xs, i + 1, h, h1, h2 => by
    have h0 := h1 0 (by simp) (by omega)
    simp only [List.getElem_cons_zero] at h0
    rw [List.takeWhile_cons, if_pos h0, List.length_cons, takeWhile_len p xs i (by simpa using h) (fun k hk hi => by have := h1 (k + 1) (by simpa using hk) (by omega); simpa using this) (fun hi => by have := h2 (by simpa using hi); simpa using this)]
def posOf {α : Type} (lt : α → Bool) (xs : List α) : Nat := (xs.takeWhile lt).length
theorem posOf_le {α : Type} (lt : α → Bool) (xs : List α) : posOf lt xs ≤ xs.length := (List.takeWhile_prefix _).length_le
def hasAt {α : Type} (eq : α → Bool) (xs : List α) (i : Nat) : Bool := match xs[i]? with
  | some x => eq x
  | none => false
def itemPos (xs : List Item) (t : ByteArray) : Nat := posOf (fun x => bl x.key t) xs
def itemHas (xs : List Item) (t : ByteArray) : Bool := hasAt (fun x => beqB x.key t) xs (itemPos xs t)
theorem sorted_mono {xs : List Item} (h : sortedB xs = true) (t : ByteArray) : ∀ (d i : Nat) (hi : i < xs.length) (hj : i + d < xs.length), bl xs[i + d].key t = true → bl xs[i].key t = true
  | 0, _, _, _, hl => hl
  | d + 1, i, hi, hj, hl => by
    have h1 := (sortedB_iff xs).1 h (i + d) hj
    exact sorted_mono h t d i hi (by omega) (bl_trans h1 hl)
theorem sorted_mono' {xs : List Item} (h : sortedB xs = true) (t : ByteArray) (i j : Nat) (hi : i < xs.length) (hj : j < xs.length) (hij : i ≤ j) (hl : bl xs[j].key t = true) : bl xs[i].key t = true := by
  obtain ⟨d, rfl⟩ : ∃ d, j = i + d := ⟨j - i, by omega⟩
  exact sorted_mono h t d i hi hj hl
set_option maxRecDepth 100000 in
set_option maxHeartbeats 1000000 in
theorem bsItem_any (w : World) (v : Value) (xs : List Item) (t : ByteArray) (hv : Sl itemE w v xs) (hso : sortedB xs = true) (hlen : xs.length ≤ 4398046511104) :
    Calls Tryz.prog 74 #[v, .string t, .func (.func 75) #[] #[]] w fun e w' => e = .returned (.tuple #[.int .i64 (itemPos xs t), .bool (itemHas xs t)]) ∧ Below w.heap.size w w' := by
  obtain ⟨A, c, rfl, hc, hc2, hrow⟩ := hv
  have HR := Lib.hid hrow
  have HS := Lib.hid hso
  clear hrow hso
  go_enter Tryz.func74, Tryz.ntmps74
  go_wp2
  go_loopw [9, 10, 11] (fun vi vj _ wr => ∃ i j : Nat, i ≤ j ∧ j ≤ xs.length ∧ vi = .int .i64 i ∧ vj = .int .i64 j ∧ (∀ k (h : k < xs.length), k < i → bl xs[k].key t = true) ∧ (∀ k (h : k < xs.length), j ≤ k → bl xs[k].key t = false) ∧ Below w.heap.size w wr) (fun vi vj _ _ => (intOf vj).toNat - (intOf vi).toNat)
  case atStart => exact ⟨0, xs.length, Nat.zero_le _, Nat.le_refl _, rfl, rfl, fun k _ h => by omega, fun k h h' => by omega, Below.refl _ _⟩
  case round =>
    obtain ⟨i, j, hij, hj, rfl, rfl, hlo, hhi, hB⟩ := hrel
    by_cases hlt : i < j
    · have hm : (i + j) / 2 < xs.length := by omega
      obtain ⟨b, o, rfl, hat, hwf⟩ := HR.out ((i + j) / 2) hm
      have hb : b < w.heap.size := hat.lt (by simp [itemE])
      obtain ⟨d0, d1⟩ := (hat.below hB (Nat.le_refl _)).pair
      have hbr : b < wr.heap.size := Nat.lt_of_lt_of_le hb hB.size
      have HL := Lib.hid (And.intro hlo (And.intro hhi hB))
      clear hlo hhi hB hat hwf
      simp only [itemE] at d0 d1
      cases hbl : bl xs[(i + j) / 2].key t with
      | true =>
        have hn := cmpB_neg xs[(i + j) / 2].key t
        rw [hbl] at hn
        have HBL := Lib.hid (show ∀ k (h : k < xs.length), k < (i + j) / 2 + 1 → bl xs[k].key t = true from fun k hk hki => sorted_mono' HS.out t k ((i + j) / 2) hk hm (by omega) hbl)
        clear hbl
        generalize xs[(i + j) / 2].key = kk at *
        generalize xs[(i + j) / 2].val = kv at *
        go_wp2_with (go_at_call 75; refine (place1_any _ _ _ _).mono ?_; rintro e w1 ⟨rfl, hb1⟩)
        refine ⟨⟨(i + j) / 2 + 1, j, by omega, hj, by go_num, rfl, HBL.out, HL.out.2.1, Below.step HL.out.2.2 hb1⟩, ?_⟩
        simp [intOf]; omega
      | false =>
        have hn := cmpB_neg xs[(i + j) / 2].key t
        rw [hbl] at hn
        have HBL := Lib.hid (show ∀ k (h : k < xs.length), (i + j) / 2 ≤ k → bl xs[k].key t = false from fun k hk hki => by
          rw [← Bool.not_eq_true]
          intro hh
          have := sorted_mono' HS.out t ((i + j) / 2) k hm hk hki hh
          rw [hbl] at this; cases this)
        clear hbl
        generalize xs[(i + j) / 2].key = kk at *
        generalize xs[(i + j) / 2].val = kv at *
        go_wp2_with (go_at_call 75; refine (place1_any _ _ _ _).mono ?_; rintro e w1 ⟨rfl, hb1⟩)
        refine ⟨⟨i, (i + j) / 2, by omega, by omega, rfl, by go_num, HL.out.1, HBL.out, Below.step HL.out.2.2 hb1⟩, ?_⟩
        simp [intOf]; omega
    · obtain rfl : i = j := by omega
      have hpos : itemPos xs t = i := takeWhile_len _ xs i hj hlo (fun h => hhi i h (Nat.le_refl _))
      by_cases hi : i < xs.length
      · obtain ⟨b, o, rfl, hat, hwf⟩ := HR.out i hi
        have hb : b < w.heap.size := hat.lt (by simp [itemE])
        obtain ⟨d0, d1⟩ := (hat.below hB (Nat.le_refl _)).pair
        have hbr : b < wr.heap.size := Nat.lt_of_lt_of_le hb hB.size
        have hhas : itemHas xs t = (cmpB xs[i].key t == 0) := by unfold itemHas hasAt; rw [hpos, List.getElem?_eq_getElem hi, cmpB_zero]
        have HL := Lib.hid (And.intro hpos (And.intro hhas hB))
        clear hlo hhi hB hat hwf hpos hhas
        simp only [itemE] at d0 d1
        generalize xs[i].key = kk at *
        generalize xs[i].val = kv at *
        go_wp2_with (go_at_call 75; refine (place1_any _ _ _ _).mono ?_; rintro e w1 ⟨rfl, hb1⟩)
        go_ret2
        obtain ⟨e1, e2, e3⟩ := HL.out
        exact ⟨by rw [e1, e2]; rfl, Below.step e3 hb1⟩
      · have hhas : itemHas xs t = false := by unfold itemHas hasAt; rw [hpos, List.getElem?_eq_none (by omega)]
        have HL := Lib.hid (And.intro hpos (And.intro hhas hB))
        clear hlo hhi hB hpos hhas
        go_wp2
        go_ret2
        obtain ⟨e1, e2, e3⟩ := HL.out
        exact ⟨by rw [e1, e2]; rfl, e3⟩
set_option maxRecDepth 100000 in
set_option maxHeartbeats 400000 in
theorem place_any (w : World) (v : Value) (xs : List Item) (t : ByteArray) (hv : Sl itemE w v xs) (hso : sortedB xs = true) (hlen : xs.length ≤ 4398046511104) :
    Calls Tryz.prog 46 #[v, .string t] w fun e w' => e = .returned (.tuple #[.int .i64 (itemPos xs t), .bool (itemHas xs t)]) ∧ Below w.heap.size w w' := by
  have HV := Lib.hid (And.intro hv hso)
  obtain ⟨A, c, rfl, hc, hc2, hrow⟩ := hv
  clear hrow hso
  go_enter Tryz.func46, Tryz.ntmps46
  go_wp2_with (go_at_call 74; refine (bsItem_any _ _ xs t HV.out.1 HV.out.2 hlen).mono ?_; rintro e w1 ⟨rfl, hb1⟩)
  go_ret2
  exact ⟨rfl, hb1⟩
end Go.Proofs.YthhmcjojnbaiiaaGreatDoor
