/- Texts of the proof: P1 Lv Hl Rs. -/
import Derived.Test.YthhmcjojnbaiiaaGreatDoorM12
import Derived.Test.YthhmcjojnbaiiaaGreatDoorM8
import Derived.Test.YthhmcjojnbaiiaaGreatDoorM16
set_option linter.all false
/- Plain: a right node's bytes, taken, are the node. -/
namespace Go.Proofs.YthhmcjojnbaiiaaGreatDoor
open Go Go.RowKit
def tkL (l : List UInt8) : Tk := ⟨⟨l.toArray⟩, false⟩
theorem someF_app (a r : List UInt8) (k : Nat) (hk : a.length = k) : someF (tkL (a ++ r)) k = (⟨a.toArray⟩, tkL r) := by
  unfold someF tkL
  have h1 : (⟨(a ++ r).toArray⟩ : ByteArray).size = a.length + r.length := by show (a ++ r).toArray.size = _; simp
  rw [h1]
  have h2 : (false || decide (a.length + r.length < k)) = false := by simp; omega
  rw [h2]
  simp only [Bool.false_eq_true, if_false]
  refine Prod.ext ?_ ?_
  · apply ba_ext
    rw [Lib.extract_data]
    show List.take (k - 0) (List.drop 0 (a ++ r)) = a
    simp [← hk]
  · show Tk.mk _ _ = Tk.mk _ _
    congr 1
    apply ba_ext
    rw [Lib.extract_data]
    show List.take (a.length + r.length - k) (List.drop k (a ++ r)) = r
    rw [← hk, List.drop_left, List.take_of_length_le (by omega)]
theorem numL_succ (n : Int) (k : Nat) (h0 : 0 ≤ n) : numL n (k + 1) = numL (n / 256) k ++ [n % 256] := by
  unfold numL
  rw [List.range_succ, List.map_append]
  congr 1
  · apply List.map_congr_left
    intro i hi
    rw [List.mem_range] at hi
    have e : 8 * (k + 1 - 1 - i) = 8 + 8 * (k - 1 - i) := by omega
    rw [e, Int.pow_add, Int.ediv_ediv_of_nonneg (by decide)]
    rfl
  · simp
theorem takeOf_numU : ∀ (k : Nat) (n : Int), 0 ≤ n → n < 256 ^ k → k ≤ 8 → takeOf (numU n k) = n
  | 0, n, h0, h1, _ => by
    have : n = 0 := by simp at h1; omega
    subst this; rfl
  | k + 1, n, h0, h1, hk => by
    have hd : n / 256 < 256 ^ k := by
      have : (256 : Int) ^ (k + 1) = 256 ^ k * 256 := Int.pow_succ ..
      omega
    have ih := takeOf_numU k (n / 256) (by omega) hd (by omega)
    have e : numU n (k + 1) = numU (n / 256) k ++ [UInt8.ofNat (n % 256).toNat] := by
      unfold numU numB
      rw [strOfNums_data, numL_succ n k h0, List.map_append, ← strOfNums_data]; rfl
    rw [e, takeOf_num k _ _ (by rw [numU_length]; omega), ih]
    have : (UInt8.ofNat (n % 256).toNat).toNat = (n % 256).toNat := by simp; omega
    rw [this]; omega
theorem numT_app (n : Int) (k : Nat) (r : List UInt8) (h0 : 0 ≤ n) (h1 : n < 256 ^ k) (hk : k ≤ 8) : numT (tkL (numU n k ++ r)) k = (n, tkL r) := by
  have hs := someF_app (numU n k) r k (numU_length n k)
  unfold numT
  rw [hs]
  have hz : (⟨(numU n k).toArray⟩ : ByteArray).size = k := by show (numU n k).toArray.size = k; simp [numU_length]
  rw [hz, if_neg (by omega)]
  refine Prod.ext ?_ rfl
  show takeOf (List.take k (numU n k)) = n
  rw [List.take_of_length_le (by rw [numU_length]; omega), takeOf_numU k n h0 h1 hk]
theorem textT_app (s : ByteArray) (r : List UInt8) (hs : s.size ≤ 255) : textT (tkL (textU s ++ r)) = (s, tkL r) := by
  unfold textT textU
  rw [List.append_assoc, numT_app _ 1 _ (by omega) (by omega) (by omega)]
  have := someF_app s.data.toList r s.size (by simp)
  simpa using this
theorem hashT_app (h : List Int) (r : List UInt8) (hh : hashOk h) : hashT (tkL (hashU h ++ r)) = (h, tkL r) := by
  have hl : (hashU h).length = 32 := by simp [hashU, hh.1]
  have hs := someF_app (hashU h) r 32 hl
  unfold hashT
  rw [hs]
  have hz : (⟨(hashU h).toArray⟩ : ByteArray).size = 32 := by show (hashU h).toArray.size = 32; simp [hl]
  rw [hz, if_pos rfl]
  refine Prod.ext ?_ rfl
  show bytesI ⟨(hashU h).toArray⟩ = h
  unfold bytesI hashU
  show List.map _ (List.map _ h) = h
  rw [List.map_map]
  conv => rhs; rw [← List.map_id h]
  apply List.map_congr_left
  intro x hx
  obtain ⟨a, b⟩ := hh.2 x hx
  simp only [Function.comp, id]
  rw [show (x.toNat.toUInt8).toNat = x.toNat by simp [Nat.toUInt8]; omega]
  omega
theorem itemT_app (x : Item) (r : List UInt8) (h : x.key.size ≤ 255 ∧ x.val.size ≤ 255) : itemT (tkL (itemU x ++ r)) = (x, tkL r) := by
  unfold itemT itemU
  rw [List.append_assoc, textT_app _ _ h.1, textT_app _ _ h.2]
theorem kidT_app (x : Kid) (r : List UInt8) (h : x.key.size ≤ 255) (hw : kidE.wf x) : kidT (tkL (kidU x ++ r)) = (x, tkL r) := by
  have hn := hw.2.1
  unfold u32Ok at hn
  unfold kidT kidU
  simp only [List.append_assoc]
  rw [textT_app _ _ h, numT_app _ 4 _ hn.1 (by omega) (by omega), hashT_app _ _ hw.2.2]
theorem volT_app (x : Vol) (r : List UInt8) (h : x.name.size ≤ 255 ∧ x.src.size ≤ 255) (hw : volE.wf x) : volT (tkL (volU x ++ r)) = (x, tkL r) := by
  obtain ⟨_, hk, _, hb, hr, hh⟩ := hw
  unfold u32Ok at hr
  unfold volT volU
  simp only [List.append_assoc]
  rw [textT_app _ _ h.1, textT_app _ _ h.2, numT_app _ 1 _ hk.1 (by omega) (by omega), numT_app _ 8 _ hb.1 (by omega) (by omega), numT_app _ 4 _ hr.1 (by omega) (by omega), hashT_app _ _ hh]
theorem loop_items : ∀ (xs acc : List Item) (r : List UInt8), (∀ x ∈ xs, x.key.size ≤ 255 ∧ x.val.size ≤ 255) → takeLoop xs.length ⟨1, acc, [], []⟩ (tkL (xs.flatMap itemU ++ r)) = (⟨1, acc ++ xs, [], []⟩, tkL r)
  | [], acc, r, _ => by simp [takeLoop]
  | x :: xs, acc, r, h => by
    have e := itemT_app x (xs.flatMap itemU ++ r) (h x (by simp))
    have st : stepT ⟨1, acc, [], []⟩ (tkL (itemU x ++ (xs.flatMap itemU ++ r))) = (⟨1, acc ++ [x], [], []⟩, tkL (xs.flatMap itemU ++ r)) := by
      unfold stepT; rw [if_pos rfl, e]
    rw [List.flatMap_cons, List.append_assoc, List.length_cons, takeLoop_go _ _ _ (by rw [st]; rfl), st]
    have := loop_items xs (acc ++ [x]) r (fun y hy => h y (by simp [hy]))
    simpa [List.append_assoc] using this
theorem loop_kids : ∀ (xs acc : List Kid) (r : List UInt8), (∀ x ∈ xs, x.key.size ≤ 255 ∧ kidE.wf x) → takeLoop xs.length ⟨2, [], acc, []⟩ (tkL (xs.flatMap kidU ++ r)) = (⟨2, [], acc ++ xs, []⟩, tkL r)
  | [], acc, r, _ => by simp [takeLoop]
  | x :: xs, acc, r, h => by
    have e := kidT_app x (xs.flatMap kidU ++ r) (h x (by simp)).1 (h x (by simp)).2
    have st : stepT ⟨2, [], acc, []⟩ (tkL (kidU x ++ (xs.flatMap kidU ++ r))) = (⟨2, [], acc ++ [x], []⟩, tkL (xs.flatMap kidU ++ r)) := by
      unfold stepT; rw [if_neg (show ¬ (2 : Int) = 1 by decide), if_pos rfl, e]
    rw [List.flatMap_cons, List.append_assoc, List.length_cons, takeLoop_go _ _ _ (by rw [st]; rfl), st]
    have := loop_kids xs (acc ++ [x]) r (fun y hy => h y (by simp [hy]))
    simpa [List.append_assoc] using this
theorem loop_vols : ∀ (xs acc : List Vol) (r : List UInt8), (∀ x ∈ xs, (x.name.size ≤ 255 ∧ x.src.size ≤ 255) ∧ volE.wf x) → takeLoop xs.length ⟨3, [], [], acc⟩ (tkL (xs.flatMap volU ++ r)) = (⟨3, [], [], acc ++ xs⟩, tkL r)
  | [], acc, r, _ => by simp [takeLoop]
  | x :: xs, acc, r, h => by
    have e := volT_app x (xs.flatMap volU ++ r) (h x (by simp)).1 (h x (by simp)).2
    have st : stepT ⟨3, [], [], acc⟩ (tkL (volU x ++ (xs.flatMap volU ++ r))) = (⟨3, [], [], acc ++ [x]⟩, tkL (xs.flatMap volU ++ r)) := by
      unfold stepT; rw [if_neg (show ¬ (3 : Int) = 1 by decide), if_neg (show ¬ (3 : Int) = 2 by decide), if_pos rfl, e]
    rw [List.flatMap_cons, List.append_assoc, List.length_cons, takeLoop_go _ _ _ (by rw [st]; rfl), st]
    have := loop_vols xs (acc ++ [x]) r (fun y hy => h y (by simp [hy]))
    simpa [List.append_assoc] using this
theorem takeT_enc (n : Node) (r : List UInt8) (h : shapedB n = true) (hw : nodeWf n) : takeT (tkL (encL n ++ r)) = (n, tkL r) := by
  have hb := shaped_bounds n h
  obtain ⟨kd, items, kids, vols⟩ := n
  have hc := hb.c0
  simp only at hc
  have hkd : kd = 1 ∨ kd = 2 ∨ kd = 3 := by
    unfold shapedB at h
    simp only at h
    by_cases h1 : kd = 1
    · exact Or.inl h1
    · by_cases h2 : kd = 2
      · exact Or.inr (Or.inl h2)
      · by_cases h3 : kd = 3
        · exact Or.inr (Or.inr h3)
        · rw [if_neg h1, if_neg h2, if_neg h3] at h; cases h
  unfold takeT encL headU
  simp only [List.append_assoc]
  rw [numT_app kd 1 _ (by omega) (by omega) (by omega)]
  simp only
  rw [numT_app _ 1 _ (by omega) (by omega) (by omega)]
  simp only
  rcases hkd with rfl | rfl | rfl
  · unfold shapedB at h
    simp only [if_true, Bool.and_eq_true, decide_eq_true_eq, beq_iff_eq] at h
    have hk : kids = [] := List.length_eq_zero_iff.1 (by omega)
    have hv : vols = [] := List.length_eq_zero_iff.1 (by omega)
    subst hk hv
    have := loop_items items [] r (fun x hx => by have := hb.i1 x hx; omega)
    simpa using this
  · unfold shapedB at h
    simp only [show ¬ (2 : Int) = 1 by decide, if_false, if_true, Bool.and_eq_true, beq_iff_eq] at h
    have hk : items = [] := List.length_eq_zero_iff.1 (by omega)
    have hv : vols = [] := List.length_eq_zero_iff.1 (by omega)
    subst hk hv
    have := loop_kids kids [] r (fun x hx => ⟨by have := hb.k1 x hx; omega, hw.2.1 x hx⟩)
    simpa using this
  · unfold shapedB at h
    simp only [show ¬ (3 : Int) = 1 by decide, show ¬ (3 : Int) = 2 by decide, if_false, if_true, Bool.and_eq_true, beq_iff_eq] at h
    have hk : items = [] := List.length_eq_zero_iff.1 (by omega)
    have hv : kids = [] := List.length_eq_zero_iff.1 (by omega)
    subst hk hv
    have := loop_vols vols [] r (fun x hx => ⟨by have := hb.v1 x hx; omega, hw.2.2 x hx⟩)
    simpa using this
theorem trim_pad (x : List UInt8) (m : Nat) (hm : x.length = m) : padTo m (Lib.trimRightB x 0) = x := by
  subst hm
  have h1 : x.reverse.takeWhile (· == 0) = List.replicate (x.reverse.takeWhile (· == 0)).length 0 := by
    apply List.eq_replicate_of_mem
    intro b hb
    have := List.all_eq_true.1 (List.all_takeWhile (p := (· == (0 : UInt8))) (l := x.reverse)) b hb
    simpa using this
  have h2 : (x.reverse.dropWhile (· == 0)).reverse ++ (x.reverse.takeWhile (· == 0)).reverse = x := by
    rw [← List.reverse_append, List.takeWhile_append_dropWhile, List.reverse_reverse]
  have hl : (x.reverse.takeWhile (· == 0)).length = x.length - (x.reverse.dropWhile (· == 0)).length := by
    have := congrArg List.length h2
    simp at this
    omega
  unfold padTo Lib.trimRightB
  rw [List.length_reverse, ← hl]
  conv => rhs; rw [← h2]
  congr 1
  conv => rhs; rw [h1]
  rw [List.reverse_replicate]
theorem tk_ext {a b : ByteArray} (h : a = b) : Tk.mk a false = Tk.mk b false := by rw [h]
theorem dec_enc (n : Node) (hn : nodeErr n = 0) (hw : nodeWf n) : decB ⟨(wholeL (encL n)).toArray⟩ = true ∧ decN ⟨(wholeL (encL n)).toArray⟩ = n := by
  have hsh : shapedB n = true := by
    unfold nodeErr at hn
    cases h : shapedB n with
    | true => rfl
    | false => rw [h] at hn; simp at hn
  have hsz : (encL n).length ≤ 508 := by
    rw [encL_length n hsh hw.2.1 hw.2.2]
    unfold nodeErr at hn
    rw [hsh] at hn
    simp only [if_true] at hn
    split at hn
    · omega
    · omega
  have hpl : (padTo 508 (encL n)).length = 508 := by unfold padTo; simp; omega
  have hn4 : (numB (crcOf (padTo 508 (encL n))) 4).data.toList.length = 4 := numU_length _ 4
  have hfl : fillB ⟨(wholeL (encL n)).toArray⟩ = ⟨((numB (crcOf (padTo 508 (encL n))) 4).data.toList ++ padTo 508 (encL n)).toArray⟩ := by
    unfold fillB wholeL
    apply ba_ext
    show padTo 512 (Lib.trimRightB _ 0) = _
    rw [trim_pad _ 512 (by rw [List.length_append, hn4, hpl])]
  have htk : decTk ⟨(wholeL (encL n)).toArray⟩ = tkL (encL n ++ List.replicate (508 - (encL n).length) 0) := by
    unfold decTk tkL
    rw [hfl]
    refine tk_ext (ba_ext ?_)
    rw [Lib.extract_data]
    show List.take (512 - 4) (List.drop 4 ((numB (crcOf (padTo 508 (encL n))) 4).data.toList ++ padTo 508 (encL n))) = _
    have : List.drop 4 ((numB (crcOf (padTo 508 (encL n))) 4).data.toList ++ padTo 508 (encL n)) = padTo 508 (encL n) := by
      conv => lhs; rw [← hn4]
      exact List.drop_left
    rw [this, List.take_of_length_le (by omega)]
    unfold padTo
    simp
  have ht := takeT_enc n (List.replicate (508 - (encL n).length) 0) hsh hw
  have hws : (⟨(wholeL (encL n)).toArray⟩ : ByteArray).size ≤ 512 := by
    show (wholeL (encL n)).toArray.size ≤ 512
    unfold wholeL Lib.trimRightB
    have := (List.dropWhile_sublist (fun b : UInt8 => b == 0) (l := ((numB (crcOf (padTo 508 (encL n))) 4).data.toList ++ padTo 508 (encL n)).reverse)).length_le
    simp only [List.length_reverse, List.length_append, hn4, hpl] at this
    simpa using this
  have hd : decB ⟨(wholeL (encL n)).toArray⟩ = true := by
    unfold decB
    rw [htk, ht]
    simp only [decide_eq_true hws, hn]
    rfl
  refine ⟨hd, ?_⟩
  unfold decN
  rw [hd, htk, ht]
  rfl
end Go.Proofs.YthhmcjojnbaiiaaGreatDoor

/- Plain: the levels of a tree. -/
namespace Go.Proofs.YthhmcjojnbaiiaaGreatDoor
open Go Go.RowKit
/-! The levels of a tree. -/
def lastB (k : ByteArray) (level : Int) (many : Nat) : Bool := decide (2 ≤ many) && decide (crcOf (k.data.toList ++ [level.toNat.toUInt8]) % 4 = 0)
def levelGo {α : Type} (sz : α → Nat) (last : α → Nat → Bool) : List α → Nat → List α → List (List α)
  | acc, _, [] => [acc]
  | acc, _, [x] => [acc ++ [x]]
  | acc, b, x :: y :: r =>
    if (acc.length + 1 < 255 ∧ b + sz x + sz y ≤ 508) ∧ last x (acc.length + 1) = false then levelGo sz last (acc ++ [x]) (b + sz x) (y :: r)
    else (acc ++ [x]) :: levelGo sz last [] 2 (y :: r)
section
variable {α β : Type} {sz : α → Nat} {last : α → Nat → Bool}
theorem level_flat : ∀ (l acc : List α) (b : Nat), (levelGo sz last acc b l).flatten = acc ++ l
  | [], acc, b => by simp [levelGo]
  | [x], acc, b => by simp [levelGo]
  | x :: y :: r, acc, b => by
    rw [levelGo]
    split
    · rw [level_flat (y :: r)]; simp
    · rw [List.flatten_cons, level_flat (y :: r)]; simp
theorem level_ne : ∀ (l acc : List α) (b : Nat), l ≠ [] → ∀ c ∈ levelGo sz last acc b l, c ≠ []
  | [], acc, b, h => absurd rfl h
  | [x], acc, b, _ => by simp [levelGo]
  | x :: y :: r, acc, b, _ => by
    rw [levelGo]
    split
    · exact level_ne (y :: r) _ _ (by simp)
    · intro c hc
      rcases List.mem_cons.1 hc with rfl | hc
      · simp
      · exact level_ne (y :: r) _ _ (by simp) c hc
theorem level_fit (hsz : ∀ x, 2 + sz x ≤ 508) : ∀ (l acc : List α) (b : Nat), l ≠ [] → acc.length ≤ 254 → b = 2 + sumBy sz acc → (∀ x, l.head? = some x → b + sz x ≤ 508) → ∀ c ∈ levelGo sz last acc b l, c.length ≤ 255 ∧ 2 + sumBy sz c ≤ 508
  | [], acc, b, h, _, _, _ => absurd rfl h
  | [x], acc, b, _, h1, h2, h3 => by
    intro c hc
    simp only [levelGo, List.mem_singleton] at hc
    subst hc
    have := h3 x rfl
    simp [sumBy] at *; omega
  | x :: y :: r, acc, b, _, h1, h2, h3 => by
    have hx := h3 x rfl
    have hs : sumBy sz (acc ++ [x]) = sumBy sz acc + sz x := by simp [sumBy]
    rw [levelGo]
    split
    · rename_i hc
      refine level_fit hsz (y :: r) _ _ (by simp) (by simp; omega) (by omega) (fun z hz => ?_)
      simp at hz; subst hz; omega
    · intro c hc
      rcases List.mem_cons.1 hc with rfl | hc
      · simp; omega
      · refine level_fit hsz (y :: r) [] 2 (by simp) (by simp) (by simp [sumBy]) (fun z hz => ?_) c hc
        have := hsz z; omega
theorem level_half (hsz : ∀ x y, 2 + sz x + sz y ≤ 508) (hl : ∀ x, last x 1 = false) : ∀ (l acc : List α) (b : Nat), l ≠ [] → (acc = [] → b = 2) → 2 * (levelGo sz last acc b l).length ≤ acc.length + l.length + 1
  | [], acc, b, h, _ => absurd rfl h
  | [x], acc, b, _, _ => by simp [levelGo]
  | x :: y :: r, acc, b, _, hb => by
    rw [levelGo]
    split
    · have := level_half hsz hl (y :: r) (acc ++ [x]) (b + sz x) (by simp) (by simp)
      simp at this ⊢; omega
    · rename_i hc
      have := level_half hsz hl (y :: r) [] 2 (by simp) (fun _ => rfl)
      have ha : acc ≠ [] := by
        intro e
        apply hc
        have h1 := hsz x y
        have h2 := hl x
        rw [hb e, e]
        exact ⟨⟨by simp, h1⟩, h2⟩
      have ha' := List.length_pos_iff.2 ha
      simp only [List.length_cons, List.length_nil] at this ⊢
      omega
theorem level_map (f : α → β) {sz' : β → Nat} {last' : β → Nat → Bool} (h1 : ∀ x, sz' (f x) = sz x) (h2 : ∀ x m, last' (f x) m = last x m) : ∀ (l acc : List α) (b : Nat), levelGo sz' last' (acc.map f) b (l.map f) = (levelGo sz last acc b l).map (List.map f)
  | [], acc, b => by simp [levelGo]
  | [x], acc, b => by simp [levelGo]
  | x :: y :: r, acc, b => by
    have e1 := level_map f h1 h2 (y :: r) (acc ++ [x]) (b + sz x)
    have e2 := level_map f h1 h2 (y :: r) [] 2
    simp only [List.map_cons, List.map_append, List.map_nil] at e1 e2 ⊢
    rw [levelGo, levelGo, h1, h1, h2, List.length_map, e1, e2]
    split <;> simp
end
def leavesL (l : List Item) : List Node := (levelGo itemSz (fun x m => lastB x.key 0 m) [] 2 l).map fun c => ⟨1, c, [], []⟩
def branchesL (d : Int) (l : List Kid) : List Node := (levelGo kidSz (fun x m => lastB x.key d m) [] 2 l).map fun c => ⟨2, [], c, []⟩
def hdKey {α : Type} (f : α → ByteArray) (l : List α) : ByteArray := (l.head?.map f).getD ByteArray.empty
def keyOf (n : Node) : ByteArray := if n.kind = 1 then hdKey (·.key) n.items else hdKey (·.key) n.kids
/-- Keys that may stand in a row. -/
def KeysOk (ks : List ByteArray) : Prop := (∀ k ∈ ks, k.size ≤ 48 ∧ bl ByteArray.empty k = true) ∧ ks.Pairwise (fun a b => bl a b = true)
theorem KeysOk.sub {a b : List ByteArray} (h : KeysOk b) (hs : a.Sublist b) : KeysOk a := ⟨fun k hk => h.1 k (hs.subset hk), h.2.sublist hs⟩
theorem hd_sub {α : Type} (f : α → ByteArray) : ∀ cs : List (List α), (∀ c ∈ cs, c ≠ []) → (cs.map (hdKey f)).Sublist (cs.flatten.map f)
  | [], _ => by simp
  | c :: cs, h => by
    have ih := hd_sub f cs (fun c hc => h c (by simp [hc]))
    obtain ⟨x, r, rfl⟩ := List.exists_cons_of_ne_nil (h c (by simp))
    simp only [List.map_cons, List.flatten_cons, List.map_append, List.cons_append]
    exact List.Sublist.cons_cons _ (ih.trans (List.sublist_append_right _ _))
theorem chunk_sub {α : Type} : ∀ (cs : List (List α)) (c : List α), c ∈ cs → c.Sublist cs.flatten
  | d :: cs, c, h => by
    rw [List.flatten_cons]
    rcases List.mem_cons.1 h with rfl | h
    · exact List.sublist_append_left _ _
    · exact (chunk_sub cs c h).trans (List.sublist_append_right _ _)
theorem sorted_pair : ∀ xs : List Item, sortedB xs = true ↔ (xs.map (·.key)).Pairwise (fun a b => bl a b = true)
  | [] => by simp [sortedB]
  | [_] => by simp [sortedB]
  | a :: b :: r => by
    rw [sortedB, Bool.and_eq_true, sorted_pair (b :: r)]
    simp only [List.map_cons, List.pairwise_cons]
    constructor
    · rintro ⟨h, h1, h2⟩
      refine ⟨fun k hk => ?_, h1, h2⟩
      rcases List.mem_cons.1 hk with rfl | hk
      · exact h
      · exact bl_trans h (h1 k hk)
    · rintro ⟨h, h1, h2⟩
      exact ⟨h _ (by simp), h1, h2⟩
theorem bl_empty {k : ByteArray} : bl ByteArray.empty k = !k.toList.isEmpty := by
  rw [bl_eq, ByteArray.toList_eq]
  cases h : k.data.toList with
  | nil => simp
  | cons a r => simp
theorem items_iff (xs : List Item) : itemsOk xs = true ↔ KeysOk (xs.map (·.key)) ∧ ∀ x ∈ xs, x.val.size ≤ 160 := by
  unfold itemsOk KeysOk
  rw [Bool.and_eq_true, sorted_pair, List.all_eq_true]
  simp only [rightB, Bool.and_eq_true, decide_eq_true_eq, List.mem_map, forall_exists_index, and_imp, forall_apply_eq_imp_iff₂, bl_empty]
  constructor
  · rintro ⟨h, hp⟩
    exact ⟨⟨fun x hx => ⟨(h x hx).2.1, (h x hx).1⟩, hp⟩, fun x hx => (h x hx).2.2⟩
  · rintro ⟨⟨h, hp⟩, hv⟩
    exact ⟨fun x hx => ⟨(h x hx).2, (h x hx).1, hv x hx⟩, hp⟩
theorem kidsGo_iff : ∀ (ks : List Kid) (b : ByteArray), kidsGo b ks = true ↔ (∀ k ∈ ks, k.key.size ≤ 48 ∧ bl b k.key = true ∧ blockB k.num = true) ∧ (ks.map (·.key)).Pairwise (fun a b => bl a b = true)
  | [], b => by simp [kidsGo]
  | k :: r, b => by
    rw [kidsGo, Bool.and_eq_true, Bool.and_eq_true, kidsGo_iff r k.key]
    simp only [namedB, Bool.and_eq_true, decide_eq_true_eq, List.map_cons, List.pairwise_cons, List.mem_cons, forall_eq_or_imp, List.mem_map, forall_exists_index, and_imp, forall_apply_eq_imp_iff₂]
    constructor
    · rintro ⟨⟨⟨h1, h2⟩, h3⟩, h4, h5⟩
      exact ⟨⟨⟨h1, h2, h3⟩, fun x hx => ⟨(h4 x hx).1, bl_trans h2 (h4 x hx).2.1, (h4 x hx).2.2⟩⟩, fun x hx => (h4 x hx).2.1, h5⟩
    · rintro ⟨⟨⟨h1, h2, h3⟩, h4⟩, h5, h6⟩
      exact ⟨⟨⟨h1, h2⟩, h3⟩, fun x hx => ⟨(h4 x hx).1, h5 x hx, (h4 x hx).2.2⟩, h6⟩
theorem kids_iff (ks : List Kid) : kidsOk ks = true ↔ KeysOk (ks.map (·.key)) ∧ (∀ k ∈ ks, blockB k.num = true) ∧ 0 < ks.length ∧ ks.length ≤ 255 := by
  unfold kidsOk KeysOk
  rw [Bool.and_eq_true, kidsGo_iff, Bool.and_eq_true, decide_eq_true_eq, decide_eq_true_eq]
  simp only [List.mem_map, forall_exists_index, and_imp, forall_apply_eq_imp_iff₂]
  constructor
  · rintro ⟨⟨h, hp⟩, hl⟩
    exact ⟨⟨fun x hx => ⟨(h x hx).1, (h x hx).2.1⟩, hp⟩, fun x hx => (h x hx).2.2, hl⟩
  · rintro ⟨⟨h, hp⟩, hb, hl⟩
    exact ⟨⟨fun x hx => ⟨(h x hx).1, (h x hx).2, hb x hx⟩, hp⟩, hl⟩
end Go.Proofs.YthhmcjojnbaiiaaGreatDoor

/- Plain: a heap at work as a list; a node put. -/
namespace Go.Proofs.YthhmcjojnbaiiaaGreatDoor
open Go Go.RowKit
/-! The heap at work as a list. -/
def risingB : List Int → Bool
  | [] => true
  | [_] => true
  | a :: b :: r => decide (a < b) && risingB (b :: r)
def okCel (sz : Int) (c : Cel) : Bool := decB c.data && (decide (2 ≤ c.num) && decide (c.num < sz))
def okH (h : Hp) : Bool := (decide (16 ≤ h.size) && decide (h.size ≤ 65536)) && (h.cells.all (okCel h.size) && risingB (h.cells.map (·.num)))
def cc0 (c : Cel) : CC := ⟨c.num, c.data, c.refs, decN c.data, zero32, 0⟩
def cc1 (c : Cel) : CC := ⟨c.num, c.data, c.refs, decN c.data, shaOf c.data.data.toList, 0⟩
def allKids (cs : List CC) : List Int := cs.flatMap fun c => kidNums c.node
def opened (h : Hp) : List CC := bumps (allKids (h.cells.map cc1)) (h.cells.map cc1)
def refsOk (cs : List CC) : Bool := cs.all (fun c => decide (c.led ≤ c.refs) && decide (c.refs ≤ 16777216))
def leadsAll (cs : List CC) : Bool := cs.all (fun c => leadsE cs c.node == 0)
def openB (h : Hp) : Bool := okH h && (leadsAll (h.cells.map cc1) && refsOk (opened h))
def celOf (c : CC) : Cel := ⟨c.num, c.data, c.refs⟩
def heapOf (sz : Int) (cs : List CC) : Hp := ⟨sz, cs.map celOf⟩
def wholeB (n : Node) : ByteArray := ⟨(wholeL (encL n)).toArray⟩
def ccNums (cs : List CC) : List Int := cs.map (·.num)
def refsOf (cs : List CC) (t : Int) : Int := ((ccFind cs t).map (·.refs)).getD 0
def insCC (c : CC) (cs : List CC) : List CC := cs.take (numPos (ccNums cs) c.num) ++ c :: cs.drop (numPos (ccNums cs) c.num)
def newCC (num : Int) (n : Node) : CC := ⟨num, wholeB n, 0, n, shaOf (wholeB n).data.toList, 0⟩
def putS (sz : Int) (cs : List CC) (n : Node) : Kid × Int × List CC :=
  if orL [nodeErr n, leadsE cs n] ≠ 0 then (noKid, orL [nodeErr n, leadsE cs n], cs)
  else match cs[dataIx (cs.map (·.data)) (wholeB n)]? with
  | some c => (⟨ByteArray.empty, c.num, shaOf (wholeB n).data.toList⟩, 0, cs)
  | none =>
    if ¬ freeNum (ccNums cs) < sz then (noKid, 8, cs)
    else if (kidNums n).any (fun t => decide (16777216 - (countL (kidNums n) t : Int) < refsOf cs t)) then (noKid, 1, cs)
    else (⟨ByteArray.empty, freeNum (ccNums cs), shaOf (wholeB n).data.toList⟩, 0, holds (kidNums n) (insCC (newCC (freeNum (ccNums cs)) n) cs))

/-! Small laws. -/
theorem rising_pair : ∀ l : List Int, risingB l = true ↔ l.Pairwise (· < ·)
  | [] => by simp [risingB]
  | [_] => by simp [risingB]
  | a :: b :: r => by
    rw [risingB, Bool.and_eq_true, rising_pair (b :: r)]
    simp only [List.pairwise_cons, decide_eq_true_eq]
    constructor
    · rintro ⟨h, h1, h2⟩
      refine ⟨fun k hk => ?_, h1, h2⟩
      rcases List.mem_cons.1 hk with rfl | hk
      · exact h
      · have := h1 k hk; omega
    · rintro ⟨h, h1, h2⟩
      exact ⟨h _ (by simp), h1, h2⟩
theorem find_uniq : ∀ {cs : List CC} (h : (ccNums cs).Pairwise (· < ·)) {t : Int} {c : CC}, ccFind cs t = some c ↔ c ∈ cs ∧ c.num = t
  | [], _, t, c => by simp [ccFind]
  | d :: cs, h, t, c => by
    simp only [ccNums, List.map_cons, List.pairwise_cons] at h
    have ih := find_uniq (cs := cs) h.2 (t := t) (c := c)
    unfold ccFind at ih ⊢
    by_cases hd : d.num = t
    · rw [List.find?_cons_of_pos (by simpa using hd)]
      constructor
      · intro e; injection e with e; subst e; exact ⟨by simp, hd⟩
      · rintro ⟨hm, he⟩
        rcases List.mem_cons.1 hm with rfl | hm
        · rfl
        · have := h.1 c.num (List.mem_map.2 ⟨c, hm, rfl⟩); omega
    · rw [List.find?_cons_of_neg (by simpa using hd), ih]
      constructor
      · rintro ⟨hm, he⟩; exact ⟨by simp [hm], he⟩
      · rintro ⟨hm, he⟩
        rcases List.mem_cons.1 hm with rfl | hm
        · exact absurd he hd
        · exact ⟨hm, he⟩
def Has (cs : List CC) (num : Int) (hash : List Int) : Prop := ∃ c ∈ cs, c.num = num ∧ c.hash = hash
theorem leadsGo_zero {cs : List CC} (h : (ccNums cs).Pairwise (· < ·)) : ∀ (ks : List Kid) (why : Int), leadsGo cs why ks = 0 ↔ why = 0 ∧ ∀ k ∈ ks, Has cs k.num k.hash
  | [], why => by simp [leadsGo]
  | k :: r, why => by
    rw [leadsGo]
    cases hf : ccFind cs k.num with
    | none =>
      simp only [List.mem_cons, forall_eq_or_imp]
      constructor
      · intro e; omega
      · rintro ⟨_, ⟨c, hc, hn, _⟩, _⟩
        rw [(find_uniq h).2 ⟨hc, hn⟩] at hf; cases hf
    | some c =>
      have hc := (find_uniq h).1 hf
      simp only [leadsGo_zero h r, List.mem_cons, forall_eq_or_imp]
      by_cases he : c.hash = k.hash
      · rw [if_pos he]
        exact ⟨fun hh => ⟨hh.1, ⟨c, hc.1, hc.2, he⟩, hh.2⟩, fun hh => ⟨hh.1, hh.2.2⟩⟩
      · rw [if_neg he]
        constructor
        · rintro ⟨h9, _⟩; omega
        · rintro ⟨_, ⟨d, hd, hn, hh⟩, _⟩
          have := (find_uniq h).2 ⟨hd, hn⟩
          rw [hf] at this; injection this with this; subst this
          exact absurd hh he
theorem leads_zero {cs : List CC} (h : (ccNums cs).Pairwise (· < ·)) (n : Node) : leadsE cs n = 0 ↔ ∀ k ∈ namedK n, Has cs k.num k.hash := by
  unfold leadsE; rw [leadsGo_zero h]; simp
theorem kidNums_named (n : Node) : ∀ t ∈ kidNums n, ∃ k ∈ namedK n, k.num = t := by
  intro t ht
  unfold kidNums at ht
  split at ht
  · obtain ⟨k, hk, rfl⟩ := List.mem_map.1 ht
    exact ⟨⟨ByteArray.empty, k.num, k.hash⟩, by unfold namedK; exact List.mem_append_left _ (List.mem_map.2 ⟨k, hk, rfl⟩), rfl⟩
  · split at ht
    · obtain ⟨v, hv, rfl⟩ := List.mem_map.1 ht
      exact ⟨⟨ByteArray.empty, v.root, v.hash⟩, by unfold namedK; exact List.mem_append_right _ (List.mem_map.2 ⟨v, hv, rfl⟩), rfl⟩
    · simp at ht
/-! A right heap. -/
structure Good (sz : Int) (cs : List CC) : Prop where
  lo : 16 ≤ sz
  hi : sz ≤ 65536
  dec : ∀ c ∈ cs, decB c.data = true ∧ c.node = decN c.data ∧ c.hash = shaOf c.data.data.toList ∧ 2 ≤ c.num ∧ c.num < sz
  ris : (ccNums cs).Pairwise (· < ·)
  lds : ∀ c ∈ cs, ∀ k ∈ namedK c.node, Has cs k.num k.hash
  cnt : ∀ c ∈ cs, c.led = countL (allKids cs) c.num ∧ c.led ≤ c.refs ∧ c.refs ≤ 16777216
theorem allKids_map {f : CC → CC} (h : ∀ c, (f c).node = c.node) (cs : List CC) : allKids (cs.map f) = allKids cs := by
  unfold allKids; rw [List.flatMap_map]; simp [h]
theorem nums_map {f : CC → CC} (h : ∀ c, (f c).num = c.num) (cs : List CC) : ccNums (cs.map f) = ccNums cs := by
  unfold ccNums; rw [List.map_map]; apply List.map_congr_left; intro c _; exact h c
theorem has_map {f : CC → CC} (h : ∀ c, (f c).num = c.num ∧ (f c).hash = c.hash) (cs : List CC) (t : Int) (x : List Int) : Has (cs.map f) t x ↔ Has cs t x := by
  unfold Has
  constructor
  · rintro ⟨c, hc, h1, h2⟩
    obtain ⟨d, hd, rfl⟩ := List.mem_map.1 hc
    exact ⟨d, hd, by rw [← h1, (h d).1], by rw [← h2, (h d).2]⟩
  · rintro ⟨c, hc, h1, h2⟩
    exact ⟨f c, List.mem_map.2 ⟨c, hc, rfl⟩, by rw [(h c).1, h1], by rw [(h c).2, h2]⟩
theorem opened_map (h : Hp) : opened h = (h.cells.map cc1).map (fun c => { c with led := c.led + countL (allKids (h.cells.map cc1)) c.num }) := bumps_map _ _
theorem good_open (h : Hp) (hb : openB h = true) : Good h.size (opened h) := by
  unfold openB okH at hb
  simp only [Bool.and_eq_true, decide_eq_true_eq] at hb
  obtain ⟨⟨⟨h1, h2⟩, h3, h4⟩, h5, h6⟩ := hb
  have hn1 : ccNums (h.cells.map cc1) = h.cells.map (·.num) := by unfold ccNums; rw [List.map_map]; rfl
  have hr1 : (ccNums (h.cells.map cc1)).Pairwise (· < ·) := by rw [hn1]; exact (rising_pair _).1 h4
  have hno : ccNums (opened h) = ccNums (h.cells.map cc1) := by rw [opened_map, nums_map]; intro; rfl
  have hal : allKids (opened h) = allKids (h.cells.map cc1) := by rw [opened_map, allKids_map]; intro; rfl
  refine ⟨h1, h2, ?_, by rw [hno]; exact hr1, ?_, ?_⟩
  · intro c hc
    rw [opened_map] at hc
    obtain ⟨d, hd, rfl⟩ := List.mem_map.1 hc
    obtain ⟨e, he, rfl⟩ := List.mem_map.1 hd
    have := List.all_eq_true.1 h3 e he
    simp only [okCel, Bool.and_eq_true, decide_eq_true_eq] at this
    exact ⟨this.1, rfl, rfl, this.2⟩
  · intro c hc k hk
    rw [opened_map] at hc
    obtain ⟨d, hd, rfl⟩ := List.mem_map.1 hc
    have := List.all_eq_true.1 h5 d hd
    rw [beq_iff_eq, leads_zero hr1] at this
    rw [opened_map, has_map (by intro c; exact ⟨rfl, rfl⟩)]
    exact this k hk
  · intro c hc
    have h7 := List.all_eq_true.1 h6 c hc
    simp only [Bool.and_eq_true, decide_eq_true_eq] at h7
    refine ⟨?_, h7⟩
    rw [hal]
    rw [opened_map] at hc
    obtain ⟨d, hd, rfl⟩ := List.mem_map.1 hc
    obtain ⟨e, he, rfl⟩ := List.mem_map.1 hd
    simp [cc1]
theorem open_good {sz : Int} {cs : List CC} (g : Good sz cs) : opened (heapOf sz cs) = cs ∧ openB (heapOf sz cs) = true := by
  have e1 : (heapOf sz cs).cells.map cc1 = cs.map (fun c => { c with led := 0 }) := by
    unfold heapOf
    rw [List.map_map]
    apply List.map_congr_left
    intro c hc
    obtain ⟨_, h2, h3, _⟩ := g.dec c hc
    simp only [Function.comp, celOf, cc1, ← h2, ← h3]
  have hal : allKids ((heapOf sz cs).cells.map cc1) = allKids cs := by rw [e1, allKids_map]; intro; rfl
  have eo : opened (heapOf sz cs) = cs := by
    rw [opened_map, hal, e1, List.map_map]
    conv => rhs; rw [← List.map_id cs]
    apply List.map_congr_left
    intro c hc
    have := (g.cnt c hc).1
    simp only [Function.comp, id, Int.zero_add, ← this]
  refine ⟨eo, ?_⟩
  unfold openB okH
  simp only [Bool.and_eq_true, decide_eq_true_eq]
  have hn : (heapOf sz cs).cells.map (·.num) = ccNums cs := by unfold heapOf ccNums; rw [List.map_map]; rfl
  refine ⟨⟨⟨g.lo, g.hi⟩, List.all_eq_true.2 ?_, by rw [hn]; exact (rising_pair _).2 g.ris⟩, List.all_eq_true.2 ?_, ?_⟩
  · intro e he
    obtain ⟨c, hc, rfl⟩ := List.mem_map.1 he
    obtain ⟨h1, _, _, h4⟩ := g.dec c hc
    simp only [okCel, celOf, Bool.and_eq_true]
    exact ⟨h1, decide_eq_true h4.1, decide_eq_true h4.2⟩
  · intro d hd
    rw [e1] at hd ⊢
    obtain ⟨c, hc, rfl⟩ := List.mem_map.1 hd
    have hp : (ccNums (cs.map (fun c => { c with led := 0 }))).Pairwise (· < ·) := by rw [nums_map (by intro; rfl)]; exact g.ris
    rw [beq_iff_eq, leads_zero hp]
    intro k hk
    rw [has_map (by intro c; exact ⟨rfl, rfl⟩)]
    exact g.lds c hc k hk
  · rw [eo]
    refine List.all_eq_true.2 fun c hc => ?_
    simp only [Bool.and_eq_true, decide_eq_true_eq]
    exact (g.cnt c hc).2

/-! The least free number. -/
theorem freeGo_spec : ∀ (ns : List Int) (n : Int), ns.Pairwise (· < ·) → (∀ x ∈ ns, n ≤ x) → n ≤ freeGo n ns ∧ freeGo n ns ∉ ns
  | [], n, _, _ => by simp [freeGo]
  | x :: r, n, h, hn => by
    rw [List.pairwise_cons] at h
    unfold freeGo
    by_cases he : x = n
    · rw [if_pos he]
      have ih := freeGo_spec r (n + 1) h.2 (fun y hy => by have := h.1 y hy; omega)
      refine ⟨by omega, fun hm => ?_⟩
      rcases List.mem_cons.1 hm with hm | hm
      · omega
      · exact ih.2 hm
    · rw [if_neg he]
      have hx := hn x (by simp)
      refine ⟨by omega, fun hm => ?_⟩
      rcases List.mem_cons.1 hm with hm | hm
      · omega
      · have := h.1 n hm; omega
theorem take_while {α : Type} (p : α → Bool) : ∀ l : List α, l.take (l.takeWhile p).length = l.takeWhile p ∧ l.drop (l.takeWhile p).length = l.dropWhile p
  | [] => by simp
  | x :: r => by
    have ih := take_while p r
    by_cases h : p x = true
    · simp [h, ih.1, ih.2]
    · simp [h]
theorem numPos_split (cs : List CC) (t : Int) : cs.take (numPos (ccNums cs) t) = cs.takeWhile (fun c => decide (c.num < t)) ∧ cs.drop (numPos (ccNums cs) t) = cs.dropWhile (fun c => decide (c.num < t)) := by
  have e : numPos (ccNums cs) t = (cs.takeWhile (fun c => decide (c.num < t))).length := by
    unfold numPos posOf ccNums
    rw [List.takeWhile_map, List.length_map]; rfl
  rw [e]; exact take_while _ cs
theorem drop_ge : ∀ (cs : List CC) (t : Int), (ccNums cs).Pairwise (· < ·) → ∀ c ∈ cs.dropWhile (fun c => decide (c.num < t)), t ≤ c.num
  | [], _, _, c, hc => by simp at hc
  | d :: cs, t, h, c, hc => by
    simp only [ccNums, List.map_cons, List.pairwise_cons] at h
    by_cases hd : d.num < t
    · rw [List.dropWhile_cons_of_pos (by simpa using hd)] at hc
      exact drop_ge cs t h.2 c hc
    · rw [List.dropWhile_cons_of_neg (by simpa using hd)] at hc
      rcases List.mem_cons.1 hc with rfl | hc
      · omega
      · have := h.1 c.num (List.mem_map.2 ⟨c, hc, rfl⟩); omega
theorem ins_perm (c : CC) (cs : List CC) : (insCC c cs).Perm (c :: cs) := by
  unfold insCC
  conv => rhs; rw [← List.take_append_drop (numPos (ccNums cs) c.num) cs]
  exact List.perm_middle
theorem ins_mem {c d : CC} {cs : List CC} : d ∈ insCC c cs ↔ d = c ∨ d ∈ cs := by rw [(ins_perm c cs).mem_iff, List.mem_cons]
theorem ins_rising {c : CC} {cs : List CC} (h : (ccNums cs).Pairwise (· < ·)) (hc : c.num ∉ ccNums cs) : (ccNums (insCC c cs)).Pairwise (· < ·) := by
  have hsp := numPos_split cs c.num
  unfold insCC
  rw [hsp.1, hsp.2]
  have hp := h
  rw [← List.takeWhile_append_dropWhile (p := fun d : CC => decide (d.num < c.num)) (l := cs)] at hp
  unfold ccNums at hp ⊢
  rw [List.map_append, List.pairwise_append] at hp
  rw [List.map_append, List.map_cons, List.pairwise_append, List.pairwise_cons]
  have hlt : ∀ x ∈ (cs.takeWhile fun d : CC => decide (d.num < c.num)).map (·.num), x < c.num := by
    intro x hx
    obtain ⟨d, hd, rfl⟩ := List.mem_map.1 hx
    have := List.all_eq_true.1 (List.all_takeWhile (p := fun d : CC => decide (d.num < c.num)) (l := cs)) d hd
    simpa using this
  have hgt : ∀ x ∈ (cs.dropWhile fun d : CC => decide (d.num < c.num)).map (·.num), c.num < x := by
    intro x hx
    obtain ⟨d, hd, rfl⟩ := List.mem_map.1 hx
    have h1 := drop_ge cs c.num h d hd
    have h2 : d.num ≠ c.num := fun e => hc (by rw [← e]; exact List.mem_map.2 ⟨d, (List.dropWhile_sublist _).subset hd, rfl⟩)
    omega
  refine ⟨hp.1, ⟨hgt, hp.2.1⟩, fun a ha b hb => ?_⟩
  rcases List.mem_cons.1 hb with rfl | hb
  · exact hlt a ha
  · exact hp.2.2 a ha b hb
theorem allKids_ins (c : CC) (cs : List CC) (t : Int) : countL (allKids (insCC c cs)) t = countL (kidNums c.node) t + countL (allKids cs) t := by
  have h1 : (allKids (insCC c cs)).Perm (allKids (c :: cs)) := (ins_perm c cs).flatMap_right _
  have h2 : countL (allKids (insCC c cs)) t = countL (allKids (c :: cs)) t := (h1.filter _).length_eq
  rw [h2]
  show countL (kidNums c.node ++ allKids cs) t = _
  exact countL_app _ _ _
theorem putS_kid {sz : Int} {cs : List CC} {n : Node} (hn : nodeErr n = 0) (hl : leadsE cs n = 0) :
    putS sz cs n = (match cs[dataIx (cs.map (·.data)) (wholeB n)]? with
  | some c => (⟨ByteArray.empty, c.num, shaOf (wholeB n).data.toList⟩, 0, cs)
  | none =>
    if ¬ freeNum (ccNums cs) < sz then (noKid, 8, cs)
    else if (kidNums n).any (fun t => decide (16777216 - (countL (kidNums n) t : Int) < refsOf cs t)) then (noKid, 1, cs)
    else (⟨ByteArray.empty, freeNum (ccNums cs), shaOf (wholeB n).data.toList⟩, 0, holds (kidNums n) (insCC (newCC (freeNum (ccNums cs)) n) cs))) := by
  have e : orL [nodeErr n, leadsE cs n] = 0 := by rw [orL_two, hn, hl]; rfl
  unfold putS
  rw [if_neg (by rw [e]; simp)]
theorem dataIx_get : ∀ (cs : List CC) (d : ByteArray) (c : CC), cs[dataIx (cs.map (·.data)) d]? = some c → c ∈ cs ∧ c.data = d
  | [], d, c, h => by simp at h
  | x :: cs, d, c, h => by
    unfold dataIx at h
    by_cases hx : beqB x.data d = true
    · simp [hx] at h
      subst h
      exact ⟨by simp, (beqB_iff _ _).1 hx⟩
    · have hx2 : beqB x.data d = false := by simpa using hx
      simp [hx2] at h
      have := dataIx_get cs d c (by unfold dataIx; simpa using h)
      exact ⟨by simp [this.1], this.2⟩
/-- What a node put comes to. -/
structure PutOk (sz : Int) (cs : List CC) (n : Node) (k : Kid) (cs' : List CC) : Prop where
  good : Good sz cs'
  len : cs.length ≤ cs'.length ∧ cs'.length ≤ cs.length + 1
  key : k.key = ByteArray.empty
  num : 2 ≤ k.num ∧ k.num < sz
  hash : k.hash = shaOf (wholeB n).data.toList
  has : Has cs' k.num k.hash
  mono : ∀ t x, Has cs t x → Has cs' t x
theorem put_good {sz : Int} {cs : List CC} {n : Node} (g : Good sz cs) (hn : nodeErr n = 0) (hw : nodeWf n) (hl : leadsE cs n = 0) :
    ((putS sz cs n).2.1 = 8 ∨ (putS sz cs n).2.1 = 1) ∨ ((putS sz cs n).2.1 = 0 ∧ PutOk sz cs n (putS sz cs n).1 (putS sz cs n).2.2) := by
  rw [putS_kid hn hl]
  cases hd : cs[dataIx (cs.map (·.data)) (wholeB n)]? with
  | some c =>
    obtain ⟨hc, hcd⟩ := dataIx_get cs _ c hd
    obtain ⟨_, _, h3, h4⟩ := g.dec c hc
    exact Or.inr ⟨rfl, ⟨g, ⟨Nat.le_refl _, Nat.le_succ _⟩, rfl, h4, rfl, ⟨c, hc, rfl, by rw [h3, hcd]⟩, fun _ _ h => h⟩⟩
  | none =>
    simp only
    by_cases hf : freeNum (ccNums cs) < sz
    · rw [if_neg (by simpa using hf)]
      cases ha : (kidNums n).any (fun t => decide (16777216 - (countL (kidNums n) t : Int) < refsOf cs t)) with
      | true => exact Or.inl (Or.inr rfl)
      | false =>
        rw [if_neg Bool.false_ne_true]
        refine Or.inr ⟨rfl, ?_⟩
        have hge : ∀ x ∈ ccNums cs, 2 ≤ x := by
          intro x hx
          obtain ⟨c, hc, rfl⟩ := List.mem_map.1 hx
          exact (g.dec c hc).2.2.2.1
        obtain ⟨hf2, hfn⟩ := freeGo_spec (ccNums cs) 2 g.ris hge
        have hfn : freeNum (ccNums cs) ∉ ccNums cs := hfn
        have hf2 : 2 ≤ freeNum (ccNums cs) := hf2
        obtain ⟨hde, hdn⟩ := dec_enc n hn hw
        have hlz := (leads_zero g.ris n).1 hl
        generalize hm : freeNum (ccNums cs) = m at *
        have hri : (ccNums (insCC (newCC m n) cs)).Pairwise (· < ·) := ins_rising g.ris hfn
        have hmono : ∀ t x, Has cs t x → Has (insCC (newCC m n) cs) t x := fun t x ⟨c, hc, h1, h2⟩ => ⟨c, ins_mem.2 (Or.inr hc), h1, h2⟩
        have hhm : ∀ t x, Has (holds (kidNums n) (insCC (newCC m n) cs)) t x ↔ Has (insCC (newCC m n) cs) t x := by
          intro t x; rw [holds_map, has_map (by intro c; exact ⟨rfl, rfl⟩)]
        have hlen : (holds (kidNums n) (insCC (newCC m n) cs)).length = cs.length + 1 := by
          rw [holds_map, List.length_map, (ins_perm _ _).length_eq, List.length_cons]
        have hak : ∀ t, countL (allKids (holds (kidNums n) (insCC (newCC m n) cs))) t = countL (kidNums n) t + countL (allKids cs) t := by
          intro t
          rw [holds_map, allKids_map (by intro; rfl), allKids_ins]; rfl
        have hnk : ∀ c ∈ cs, ∀ t ∈ kidNums c.node, t ∈ ccNums cs := by
          intro c hc t ht
          obtain ⟨k, hk, rfl⟩ := kidNums_named c.node t ht
          obtain ⟨d, hd, h1, _⟩ := g.lds c hc k hk
          rw [← h1]; exact List.mem_map.2 ⟨d, hd, rfl⟩
        have hno : m ∉ allKids cs := by
          intro h
          obtain ⟨c, hc, ht⟩ := List.mem_flatMap.1 h
          exact hfn (hnk c hc m ht)
        have hnn : m ∉ kidNums n := by
          intro h
          obtain ⟨k, hk, e⟩ := kidNums_named n m h
          obtain ⟨d, hd, h1, _⟩ := hlz k hk
          exact hfn (by rw [← e, ← h1]; exact List.mem_map.2 ⟨d, hd, rfl⟩)
        refine ⟨⟨g.lo, g.hi, ?_, by rw [holds_map, nums_map (by intro; rfl)]; exact hri, ?_, ?_⟩, ⟨(by omega : cs.length ≤ (holds (kidNums n) (insCC (newCC m n) cs)).length), (by omega : (holds (kidNums n) (insCC (newCC m n) cs)).length ≤ cs.length + 1)⟩, rfl, ⟨hf2, hf⟩, rfl, ?_, fun t x h => (hhm t x).2 (hmono t x h)⟩
        · intro c hc
          rw [holds_map] at hc
          obtain ⟨d, hd, rfl⟩ := List.mem_map.1 hc
          rcases ins_mem.1 hd with rfl | hd
          · exact ⟨hde, hdn.symm, rfl, hf2, hf⟩
          · exact g.dec d hd
        · intro c hc k hk
          rw [hhm]
          rw [holds_map] at hc
          obtain ⟨d, hd, rfl⟩ := List.mem_map.1 hc
          rcases ins_mem.1 hd with rfl | hd
          · exact hmono _ _ (hlz k hk)
          · exact hmono _ _ (g.lds d hd k hk)
        · intro c hc
          rw [hak]
          rw [holds_map] at hc
          obtain ⟨d, hd, rfl⟩ := List.mem_map.1 hc
          rcases ins_mem.1 hd with rfl | hd
          · simp only [newCC]
            rw [countL_zero hno, countL_zero hnn]; simp
          · obtain ⟨h1, h2, h3⟩ := g.cnt d hd
            simp only
            refine ⟨by rw [h1]; omega, by omega, ?_⟩
            by_cases hm : d.num ∈ kidNums n
            · have := List.any_eq_false.1 ha d.num hm
              rw [decide_eq_true_eq] at this
              have hr : refsOf cs d.num = d.refs := by unfold refsOf; rw [(find_uniq g.ris).2 ⟨hd, rfl⟩]; rfl
              rw [hr] at this; omega
            · rw [countL_zero hm]; simpa using h3
        · exact (hhm _ _).2 ⟨newCC m n, ins_mem.2 (Or.inl rfl), rfl, rfl⟩
    · rw [if_pos (by simpa using hf)]
      exact Or.inl (Or.inl rfl)
end Go.Proofs.YthhmcjojnbaiiaaGreatDoor

/- Plain: raise, Build, Need; the law of GrowFull. -/
namespace Go.Proofs.YthhmcjojnbaiiaaGreatDoor
open Go Go.RowKit
/-! Raise, Build, Need. -/
section
variable {σ : Type} (put : σ → Node → Kid × Int × σ)
def putAll : List Kid → σ → List Node → List Kid × Int × σ
  | acc, s, [] => (acc, 0, s)
  | acc, s, n :: r => if (put s n).2.1 ≠ 0 then (acc, (put s n).2.1, (put s n).2.2) else putAll (acc ++ [{ (put s n).1 with key := keyOf n }]) (put s n).2.2 r
def bare (k : Kid) : Kid := { k with key := ByteArray.empty }
def raiseGo : Nat → Int → σ → List Node → Kid × Int × σ
  | 0, _, s, _ => (noKid, 99, s)
  | f + 1, d, s, ns =>
    if (putAll put [] s ns).2.1 ≠ 0 then (noKid, (putAll put [] s ns).2.1, (putAll put [] s ns).2.2)
    else match (putAll put [] s ns).1 with
    | [k] => (bare k, 0, (putAll put [] s ns).2.2)
    | ks => raiseGo f ((d + 1) % 256) (putAll put [] s ns).2.2 (branchesL d ks)
end
def putN (s : Nat) (_ : Node) : Kid × Int × Nat := (noKid, 0, s + 1)
def raiseS {σ : Type} (put : σ → Node → Kid × Int × σ) (s : σ) (l : List Item) : Kid × Int × σ := raiseGo put (l.length + 1) 1 s (leavesL l)
def buildS (h : Hp) (l : List Item) : Hp × Kid × Int :=
  if openB h = false then (⟨0, []⟩, noKid, 7)
  else if itemsOk l = false then (h, noKid, 4)
  else if l = [] then (h, noKid, 0)
  else if (raiseS (putS h.size) (opened h) l).2.1 ≠ 0 then (h, noKid, (raiseS (putS h.size) (opened h) l).2.1)
  else (heapOf h.size (raiseS (putS h.size) (opened h) l).2.2, (raiseS (putS h.size) (opened h) l).1, 0)
def needS (l : List Item) : Int × Int := if itemsOk l = false then (0, 4) else if l = [] then (0, 0) else ((raiseS putN 0 l).2.2, 0)
def freeS (h : Hp) : Int × Int := if openB h = false then (0, 7) else (h.size - 2 - h.cells.length, 0)
theorem putAll_N : ∀ (ns : List Node) (acc : List Kid) (s : Nat), putAll putN acc s ns = (acc ++ ns.map (fun n => { noKid with key := keyOf n }), 0, s + ns.length)
  | [], acc, s => by simp [putAll]
  | n :: r, acc, s => by
    unfold putAll
    rw [if_neg (by simp [putN]), putAll_N r]
    simp [putN]; omega
/-- Nodes that may be put. -/
structure NodesOk (cs : List CC) (ns : List Node) : Prop where
  ok : ∀ n ∈ ns, nodeErr n = 0 ∧ nodeWf n ∧ ∀ k ∈ namedK n, Has cs k.num k.hash
  keys : KeysOk (ns.map keyOf)
def KidsIn (sz : Int) (cs : List CC) (ks : List Kid) : Prop := ∀ k ∈ ks, (2 ≤ k.num ∧ k.num < sz) ∧ hashOk k.hash ∧ Has cs k.num k.hash
theorem putAll_good {sz : Int} : ∀ (ns : List Node) (acc : List Kid) (cs : List CC), Good sz cs → (∀ n ∈ ns, nodeErr n = 0 ∧ nodeWf n ∧ ∀ k ∈ namedK n, Has cs k.num k.hash) → KidsIn sz cs acc →
    ((putAll (putS sz) acc cs ns).2.1 = 8 ∨ (putAll (putS sz) acc cs ns).2.1 = 1) ∨
    ((putAll (putS sz) acc cs ns).2.1 = 0 ∧ Good sz (putAll (putS sz) acc cs ns).2.2 ∧ KidsIn sz (putAll (putS sz) acc cs ns).2.2 (putAll (putS sz) acc cs ns).1 ∧
      (putAll (putS sz) acc cs ns).1.map (·.key) = acc.map (·.key) ++ ns.map keyOf ∧ cs.length ≤ (putAll (putS sz) acc cs ns).2.2.length ∧ (putAll (putS sz) acc cs ns).2.2.length ≤ cs.length + ns.length)
  | [], acc, cs, g, _, hk => by simp [putAll]; exact ⟨g, hk⟩
  | n :: r, acc, cs, g, hn, hk => by
    obtain ⟨h1, h2, h3⟩ := hn n (by simp)
    unfold putAll
    rcases put_good g h1 h2 ((leads_zero g.ris n).2 h3) with h8 | ⟨h0, p⟩
    · rw [if_pos (by omega)]
      exact Or.inl h8
    · rw [if_neg (by omega)]
      have ih := putAll_good r (acc ++ [{ (putS sz cs n).1 with key := keyOf n }]) (putS sz cs n).2.2 p.good
        (fun m hm => ⟨(hn m (by simp [hm])).1, (hn m (by simp [hm])).2.1, fun k hk => p.mono _ _ ((hn m (by simp [hm])).2.2 k hk)⟩)
        (fun k hk' => by
          rcases List.mem_append.1 hk' with hk' | hk'
          · exact ⟨(hk k hk').1, (hk k hk').2.1, p.mono _ _ (hk k hk').2.2⟩
          · simp only [List.mem_singleton] at hk'
            subst hk'
            exact ⟨p.num, by rw [show ({ (putS sz cs n).1 with key := keyOf n } : Kid).hash = (putS sz cs n).1.hash from rfl, p.hash]; exact shaOf_ok _, p.has⟩)
      rcases ih with ih | ⟨i0, i1, i2, i3, i4, i5⟩
      · exact Or.inl ih
      · have hp := p.len
        refine Or.inr ⟨i0, i1, i2, by rw [i3]; simp, by omega, by rw [List.length_cons]; omega⟩
theorem item_two (x : Item) (h : x.key.size ≤ 48 ∧ x.val.size ≤ 160) : itemSz x ≤ 210 := by unfold itemSz; omega
/-- Levels only ask what the sizes of their own entries are. -/
theorem level_congr {α : Type} {sz sz' : α → Nat} {last last' : α → Nat → Bool} : ∀ (l acc : List α) (b : Nat), (∀ x ∈ l, sz x = sz' x ∧ ∀ m, last x m = last' x m) → levelGo sz last acc b l = levelGo sz' last' acc b l
  | [], acc, b, _ => by simp [levelGo]
  | [x], acc, b, _ => by simp [levelGo]
  | x :: y :: r, acc, b, h => by
    have hx := h x (by simp)
    have hy := h y (by simp)
    rw [levelGo, levelGo, hx.1, hy.1, hx.2, level_congr (y :: r) (acc ++ [x]) _ (fun z hz => h z (by simp [hz])), level_congr (y :: r) [] 2 (fun z hz => h z (by simp [hz]))]
theorem level_facts {α : Type} (sz : α → Nat) (last : α → Nat → Bool) (l : List α) (hne : l ≠ []) (hsz : ∀ x ∈ l, sz x ≤ 253) (hl : ∀ x, last x 1 = false) :
    (levelGo sz last [] 2 l).flatten = l ∧ (∀ c ∈ levelGo sz last [] 2 l, c ≠ [] ∧ c.length ≤ 255 ∧ 2 + sumBy sz c ≤ 508) ∧ 2 * (levelGo sz last [] 2 l).length ≤ l.length + 1 := by
  have hc : levelGo sz last [] 2 l = levelGo (fun x => min (sz x) 253) last [] 2 l := level_congr l [] 2 (fun x hx => ⟨by have := hsz x hx; omega, fun _ => rfl⟩)
  have hfl : (levelGo sz last [] 2 l).flatten = l := by rw [level_flat]; rfl
  refine ⟨hfl, fun c hcm => ?_, ?_⟩
  · have hcm' := hcm
    rw [hc] at hcm'
    have hne' := level_ne l [] 2 hne c hcm
    have hfit := level_fit (sz := fun x => min (sz x) 253) (last := last) (fun x => by omega) l [] 2 hne (by simp) (by simp [sumBy]) (fun x _ => by omega) c hcm'
    refine ⟨hne', hfit.1, ?_⟩
    have hs : sumBy (fun x => min (sz x) 253) c = sumBy sz c := by
      unfold sumBy
      congr 1
      apply List.map_congr_left
      intro x hx
      have hxl : x ∈ l := by rw [← hfl]; exact (chunk_sub _ _ hcm).subset hx
      have := hsz x hxl; omega
    rw [← hs]; exact hfit.2
  · rw [hc]
    have := level_half (sz := fun x => min (sz x) 253) (last := last) (fun x y => by omega) hl l [] 2 hne (fun _ => rfl)
    simpa using this
theorem last_one (k : ByteArray) (d : Int) : lastB k d 1 = false := by simp [lastB]
theorem leaves_ok (l : List Item) (h : itemsOk l = true) (hne : l ≠ []) (cs : List CC) : NodesOk cs (leavesL l) ∧ (leavesL l).map keyOf = (levelGo itemSz (fun x m => lastB x.key 0 m) [] 2 l).map (hdKey (·.key)) ∧ leavesL l ≠ [] ∧ 2 * (leavesL l).length ≤ l.length + 1 := by
  obtain ⟨hk, hv⟩ := (items_iff l).1 h
  have hit : ∀ x ∈ l, x.key.size ≤ 48 ∧ x.val.size ≤ 160 := fun x hx => ⟨(hk.1 x.key (List.mem_map.2 ⟨x, hx, rfl⟩)).1, hv x hx⟩
  obtain ⟨f1, f2, f3⟩ := level_facts itemSz (fun x m => lastB x.key 0 m) l hne (fun x hx => by have := item_two x (hit x hx); omega) (fun x => last_one _ _)
  have hmap : (leavesL l).map keyOf = (levelGo itemSz (fun x m => lastB x.key 0 m) [] 2 l).map (hdKey (·.key)) := by
    unfold leavesL; rw [List.map_map]; rfl
  refine ⟨⟨?_, ?_⟩, hmap, ?_, by unfold leavesL; rw [List.length_map]; exact f3⟩
  · intro n hn
    obtain ⟨c, hc, rfl⟩ := List.mem_map.1 hn
    obtain ⟨g1, g2, g3⟩ := f2 c hc
    have hsub := chunk_sub _ c hc
    rw [f1] at hsub
    have hci : itemsOk c = true := (items_iff c).2 ⟨hk.sub (hsub.map _), fun x hx => hv x (hsub.subset hx)⟩
    have hl0 := List.length_pos_iff.2 g1
    refine ⟨?_, ⟨fun x hx => ?_, by simp, by simp⟩, by simp [namedK]⟩
    · have hs : shapedB ⟨1, c, [], []⟩ = true := by
        unfold shapedB
        rw [if_pos rfl, hci]
        simp; omega
      unfold nodeErr
      rw [hs, if_pos rfl, if_neg (by unfold sizeF; rw [if_pos rfl]; simp only; omega)]
    · have := hit x (hsub.subset hx)
      exact ⟨by unfold strOk; omega, by unfold strOk; omega⟩
  · rw [hmap]
    exact hk.sub (by
      have := hd_sub (·.key) (levelGo itemSz (fun x m => lastB x.key 0 m) [] 2 l) (fun c hc => (f2 c hc).1)
      rwa [f1] at this)
  · unfold leavesL
    intro e
    have e2 := List.map_eq_nil_iff.1 e
    rw [e2] at f1; exact hne f1.symm
theorem branches_ok {sz : Int} (hsz : sz ≤ 65536) (d : Int) (ks : List Kid) (hk : KeysOk (ks.map (·.key))) (hne : ks ≠ []) (cs : List CC) (hin : KidsIn sz cs ks) : NodesOk cs (branchesL d ks) := by
  have hit : ∀ x ∈ ks, x.key.size ≤ 48 := fun x hx => (hk.1 x.key (List.mem_map.2 ⟨x, hx, rfl⟩)).1
  obtain ⟨f1, f2, _⟩ := level_facts kidSz (fun x m => lastB x.key d m) ks hne (fun x hx => by have := hit x hx; unfold kidSz; omega) (fun x => last_one _ _)
  refine ⟨?_, ?_⟩
  · intro n hn
    obtain ⟨c, hc, rfl⟩ := List.mem_map.1 hn
    obtain ⟨g1, g2, g3⟩ := f2 c hc
    have hsub := chunk_sub _ c hc
    rw [f1] at hsub
    have hl0 := List.length_pos_iff.2 g1
    have hci : kidsOk c = true := (kids_iff c).2 ⟨hk.sub (hsub.map _), fun x hx => by
      have := (hin x (hsub.subset hx)).1
      unfold blockB; simp; omega, hl0, g2⟩
    refine ⟨?_, ⟨by simp, fun x hx => ?_, by simp⟩, ?_⟩
    · have hs : shapedB ⟨2, [], c, []⟩ = true := by
        unfold shapedB
        rw [if_neg (by simp), if_pos rfl, hci]; simp
      unfold nodeErr
      rw [hs, if_pos rfl, if_neg (by unfold sizeF; rw [if_neg (by simp), if_pos rfl]; simp only; omega)]
    · have h1 := hit x (hsub.subset hx)
      obtain ⟨h2, h3, _⟩ := hin x (hsub.subset hx)
      exact ⟨by unfold strOk; omega, by unfold u32Ok; omega, h3⟩
    · intro k hk'
      simp only [namedK, List.filter_nil, List.map_nil, List.append_nil, List.mem_map] at hk'
      obtain ⟨x, hx, rfl⟩ := hk'
      exact (hin x (hsub.subset hx)).2.2
  · have hmap : (branchesL d ks).map keyOf = (levelGo kidSz (fun x m => lastB x.key d m) [] 2 ks).map (hdKey (·.key)) := by
      unfold branchesL; rw [List.map_map]
      apply List.map_congr_left
      intro c _
      simp [Function.comp, keyOf]
    rw [hmap]
    exact hk.sub (by
      have := hd_sub (·.key) (levelGo kidSz (fun x m => lastB x.key d m) [] 2 ks) (fun c hc => (f2 c hc).1)
      rwa [f1] at this)
/-- A level of branches asks for the keys alone. -/
theorem branches_keys (d : Int) (a b : List Kid) (h : a.map (·.key) = b.map (·.key)) : (branchesL d a).map keyOf = (branchesL d b).map keyOf := by
  have e : ∀ ks : List Kid, (branchesL d ks).map keyOf = (levelGo (fun k : ByteArray => 37 + k.size) (fun k m => lastB k d m) [] 2 (ks.map (·.key))).map (hdKey id) := by
    intro ks
    have := level_map (sz := kidSz) (last := fun x m => lastB x.key d m) (fun x : Kid => x.key) (sz' := fun k => 37 + k.size) (last' := fun k m => lastB k d m) (fun _ => rfl) (fun _ _ => rfl) ks [] 2
    rw [List.map_nil] at this
    rw [this]
    unfold branchesL
    rw [List.map_map, List.map_map]
    apply List.map_congr_left
    intro c _
    simp only [Function.comp, keyOf, hdKey]
    cases c <;> simp
  rw [e a, e b, h]
theorem branches_len (d : Int) (ks : List Kid) (hk : ∀ x ∈ ks, x.key.size ≤ 48) (hne : ks ≠ []) : 2 * (branchesL d ks).length ≤ ks.length + 1 ∧ branchesL d ks ≠ [] := by
  obtain ⟨f1, _, f3⟩ := level_facts kidSz (fun x m => lastB x.key d m) ks hne (fun x hx => by have := hk x hx; unfold kidSz; omega) (fun x => last_one _ _)
  unfold branchesL
  rw [List.length_map]
  refine ⟨f3, fun e => ?_⟩
  rw [List.map_eq_nil_iff.1 e] at f1; exact hne f1.symm
theorem raise_law {sz : Int} : ∀ (f : Nat) (d : Int) (cs : List CC) (ns ms : List Node) (s : Nat), Good sz cs → NodesOk cs ns → ns ≠ [] → ns.map keyOf = ms.map keyOf → ns.length ≤ f →
    ((raiseGo (putS sz) f d cs ns).2.1 = 8 ∨ (raiseGo (putS sz) f d cs ns).2.1 = 1) ∨
    ((raiseGo (putS sz) f d cs ns).2.1 = 0 ∧ Good sz (raiseGo (putS sz) f d cs ns).2.2 ∧ cs.length ≤ (raiseGo (putS sz) f d cs ns).2.2.length ∧ (raiseGo (putS sz) f d cs ns).2.2.length + s ≤ cs.length + (raiseGo putN f d s ms).2.2)
  | 0, d, cs, ns, ms, s, _, _, hne, _, hf => absurd (List.length_eq_zero_iff.1 (by omega)) hne
  | f + 1, d, cs, ns, ms, s, g, hn, hne, hm, hf => by
    have hlen : ns.length = ms.length := by have := congrArg List.length hm; simpa using this
    unfold raiseGo
    rcases putAll_good (sz := sz) ns [] cs g hn.ok (fun k hk => by simp at hk) with h8 | ⟨h0, h1, h2, h3, h4, h5⟩
    · rw [if_pos (by omega)]; exact Or.inl h8
    · have hN := putAll_N ms [] s
      rw [if_neg (by omega), hN, if_neg (by simp)]
      simp only [List.nil_append]
      have hkl : (putAll (putS sz) [] cs ns).1.length = ns.length := by have := congrArg List.length h3; simpa using this
      have hk3 : (putAll (putS sz) [] cs ns).1.map (·.key) = (ms.map (fun n => ({ noKid with key := keyOf n } : Kid))).map (·.key) := by
        rw [h3, List.map_map, List.map_nil, List.nil_append, hm]; rfl
      have hkk : KeysOk ((putAll (putS sz) [] cs ns).1.map (·.key)) := by rw [h3]; simpa using hn.keys
      generalize hks : (putAll (putS sz) [] cs ns).1 = ks at *
      generalize hcs : (putAll (putS sz) [] cs ns).2.2 = cs1 at *
      have hml : (ms.map (fun n => ({ noKid with key := keyOf n } : Kid))).length = ks.length := by rw [List.length_map]; omega
      generalize hms : ms.map (fun n => ({ noKid with key := keyOf n } : Kid)) = js at *
      match ks, js, hml with
      | [], [], _ => exact absurd (List.length_eq_zero_iff.1 (by simpa using hkl.symm)) hne
      | [k], [j], _ =>
        refine Or.inr ⟨rfl, h1, h4, ?_⟩
        simp only; omega
      | k1 :: k2 :: kr, j1 :: j2 :: jr, hml =>
        have hb := branches_len d (k1 :: k2 :: kr) (fun x hx => (hkk.1 x.key (List.mem_map.2 ⟨x, hx, rfl⟩)).1) (by simp)
        have ih := raise_law f ((d + 1) % 256) cs1 (branchesL d (k1 :: k2 :: kr)) (branchesL d (j1 :: j2 :: jr)) (s + ms.length) h1 (branches_ok g.hi d _ hkk (by simp) cs1 h2) hb.2 (branches_keys d _ _ hk3) (by simp at hb hkl ⊢; omega)
        dsimp only
        rcases ih with ih | ⟨i1, i2, i3, i4⟩
        · exact Or.inl ih
        · exact Or.inr ⟨i1, i2, by omega, by omega⟩
/-- What GrowFull asks of a list and a heap. -/
theorem full_law (h : Hp) (l : List Item) :
    (if (freeS h).2 ≠ 0 ∨ (needS l).2 ≠ 0 then (buildS h l).2.2 ≠ 0
     else if (buildS h l).2.2 ≠ 0 then ((buildS h l).2.2 = 8 ∨ (buildS h l).2.2 = 1) ∧ (freeS (buildS h l).1).2 = 0 ∧ (freeS (buildS h l).1).1 = (freeS h).1
     else (freeS (buildS h l).1).2 = 0 ∧ (freeS h).1 - (freeS (buildS h l).1).1 ≤ (needS l).1 ∧ (freeS (buildS h l).1).1 ≤ (freeS h).1) := by
  unfold buildS needS
  cases ho : openB h with
  | false => simp [freeS, ho]
  | true =>
    have hf : freeS h = (h.size - 2 - h.cells.length, 0) := by simp [freeS, ho]
    cases hi : itemsOk l with
    | false => simp [hf]
    | true =>
      by_cases hl : l = []
      · simp [hl, hf]
      · have g := good_open h ho
        obtain ⟨l1, l2, l3, l4⟩ := leaves_ok l hi hl (opened h)
        have hlaw := raise_law (sz := h.size) (l.length + 1) 1 (opened h) (leavesL l) (leavesL l) 0 g l1 l3 rfl (by omega)
        have hol : (opened h).length = h.cells.length := by rw [opened_map]; simp
        simp only [Bool.true_eq_false, if_false, hl, hf, ne_eq, not_true, or_self]
        unfold raiseS
        rcases hlaw with h8 | ⟨r0, r1, r2, r3⟩
        · have he : ¬ (raiseGo (putS h.size) (l.length + 1) 1 (opened h) (leavesL l)).2.1 = 0 := by omega
          simp only [if_pos he, hf]
          exact ⟨h8, trivial, trivial⟩
        · have hog := (open_good r1).2
          have hfr : freeS (heapOf h.size (raiseGo (putS h.size) (l.length + 1) 1 (opened h) (leavesL l)).2.2) = (h.size - 2 - (raiseGo (putS h.size) (l.length + 1) 1 (opened h) (leavesL l)).2.2.length, 0) := by
            unfold freeS; rw [hog]; simp [heapOf]
          simp only [if_neg (show ¬ ¬ (raiseGo (putS h.size) (l.length + 1) 1 (opened h) (leavesL l)).2.1 = 0 by omega), hfr, not_true, if_false, true_and]
          rw [hol] at r2 r3
          omega
end Go.Proofs.YthhmcjojnbaiiaaGreatDoor
