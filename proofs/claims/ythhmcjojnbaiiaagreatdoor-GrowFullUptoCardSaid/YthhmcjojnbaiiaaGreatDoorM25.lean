/- Texts of the proof: P1 Lv. -/
import Derived.Test.YthhmcjojnbaiiaaGreatDoorM24
import Derived.Test.YthhmcjojnbaiiaaGreatDoorM9
set_option linter.all false
/- Plain: a right node's bytes, taken, are the node. -/
namespace Go.Proofs.YthhmcjojnbaiiaaGreatDoor
open Go Go.RowKit
def tkL (l : List UInt8) : Tk := ⟨⟨l.toArray⟩, false⟩
theorem someF_app (a r : List UInt8) (k : Nat) (hk : a.length = k) : someF (tkL (a ++ r)) k = (⟨a.toArray⟩, tkL r) := by
  unfold someF tkL
  have h1 : (⟨(a ++ r).toArray⟩ : ByteArray).size = a.length + r.length := by show (a ++ r).toArray.size = _; simp
  rw [h1]
  have h2 : (false || decide (a.length + r.length < k)) = false := by simp; omega
  rw [h2]
  simp only [Bool.false_eq_true, if_false]
  refine Prod.ext ?_ ?_
  · apply ba_ext
    rw [Lib.extract_data]
    show List.take (k - 0) (List.drop 0 (a ++ r)) = a
    simp [← hk]
  · show Tk.mk _ _ = Tk.mk _ _
    congr 1
    apply ba_ext
    rw [Lib.extract_data]
    show List.take (a.length + r.length - k) (List.drop k (a ++ r)) = r
    rw [← hk, List.drop_left, List.take_of_length_le (by omega)]
theorem numL_succ (n : Int) (k : Nat) (h0 : 0 ≤ n) : numL n (k + 1) = numL (n / 256) k ++ [n % 256] := by
  unfold numL
  rw [List.range_succ, List.map_append]
  congr 1
  · apply List.map_congr_left
    intro i hi
    rw [List.mem_range] at hi
    have e : 8 * (k + 1 - 1 - i) = 8 + 8 * (k - 1 - i) := by omega
    rw [e, Int.pow_add, Int.ediv_ediv_of_nonneg (by decide)]
    rfl
  · simp
theorem takeOf_numU : ∀ (k : Nat) (n : Int), 0 ≤ n → n < 256 ^ k → k ≤ 8 → takeOf (numU n k) = n
  | 0, n, h0, h1, _ => by
    have : n = 0 := by simp at h1; omega
    subst this; rfl
  | k + 1, n, h0, h1, hk => by
    have hd : n / 256 < 256 ^ k := by
      have : (256 : Int) ^ (k + 1) = 256 ^ k * 256 := Int.pow_succ ..
      omega
    have ih := takeOf_numU k (n / 256) (by omega) hd (by omega)
    have e : numU n (k + 1) = numU (n / 256) k ++ [UInt8.ofNat (n % 256).toNat] := by
      unfold numU numB
      rw [strOfNums_data, numL_succ n k h0, List.map_append, ← strOfNums_data]; rfl
    rw [e, takeOf_num k _ _ (by rw [numU_length]; omega), ih]
    have : (UInt8.ofNat (n % 256).toNat).toNat = (n % 256).toNat := by simp; omega
    rw [this]; omega
theorem numT_app (n : Int) (k : Nat) (r : List UInt8) (h0 : 0 ≤ n) (h1 : n < 256 ^ k) (hk : k ≤ 8) : numT (tkL (numU n k ++ r)) k = (n, tkL r) := by
  have hs := someF_app (numU n k) r k (numU_length n k)
  unfold numT
  rw [hs]
  have hz : (⟨(numU n k).toArray⟩ : ByteArray).size = k := by show (numU n k).toArray.size = k; simp [numU_length]
  rw [hz, if_neg (by omega)]
  refine Prod.ext ?_ rfl
  show takeOf (List.take k (numU n k)) = n
  rw [List.take_of_length_le (by rw [numU_length]; omega), takeOf_numU k n h0 h1 hk]
theorem textT_app (s : ByteArray) (r : List UInt8) (hs : s.size ≤ 255) : textT (tkL (textU s ++ r)) = (s, tkL r) := by
  unfold textT textU
  rw [List.append_assoc, numT_app _ 1 _ (by omega) (by omega) (by omega)]
  have := someF_app s.data.toList r s.size (by simp)
  simpa using this
theorem hashT_app (h : List Int) (r : List UInt8) (hh : hashOk h) : hashT (tkL (hashU h ++ r)) = (h, tkL r) := by
  have hl : (hashU h).length = 32 := by simp [hashU, hh.1]
  have hs := someF_app (hashU h) r 32 hl
  unfold hashT
  rw [hs]
  have hz : (⟨(hashU h).toArray⟩ : ByteArray).size = 32 := by show (hashU h).toArray.size = 32; simp [hl]
  rw [hz, if_pos rfl]
  refine Prod.ext ?_ rfl
  show bytesI ⟨(hashU h).toArray⟩ = h
  unfold bytesI hashU
  show List.map _ (List.map _ h) = h
  rw [List.map_map]
  conv => rhs; rw [← List.map_id h]
  apply List.map_congr_left
  intro x hx
  obtain ⟨a, b⟩ := hh.2 x hx
  simp only [Function.comp, id]
  rw [show (x.toNat.toUInt8).toNat = x.toNat by simp [Nat.toUInt8]; omega]
  omega
theorem itemT_app (x : Item) (r : List UInt8) (h : x.key.size ≤ 255 ∧ x.val.size ≤ 255) : itemT (tkL (itemU x ++ r)) = (x, tkL r) := by
  unfold itemT itemU
  rw [List.append_assoc, textT_app _ _ h.1, textT_app _ _ h.2]
theorem kidT_app (x : Kid) (r : List UInt8) (h : x.key.size ≤ 255) (hw : kidE.wf x) : kidT (tkL (kidU x ++ r)) = (x, tkL r) := by
  have hn := hw.2.1
  unfold u32Ok at hn
  unfold kidT kidU
  simp only [List.append_assoc]
  rw [textT_app _ _ h, numT_app _ 4 _ hn.1 (by omega) (by omega), hashT_app _ _ hw.2.2]
theorem volT_app (x : Vol) (r : List UInt8) (h : x.name.size ≤ 255 ∧ x.src.size ≤ 255) (hw : volE.wf x) : volT (tkL (volU x ++ r)) = (x, tkL r) := by
  obtain ⟨_, hk, _, hb, hr, hh⟩ := hw
  unfold u32Ok at hr
  unfold volT volU
  simp only [List.append_assoc]
  rw [textT_app _ _ h.1, textT_app _ _ h.2, numT_app _ 1 _ hk.1 (by omega) (by omega), numT_app _ 8 _ hb.1 (by omega) (by omega), numT_app _ 4 _ hr.1 (by omega) (by omega), hashT_app _ _ hh]
theorem loop_items : ∀ (xs acc : List Item) (r : List UInt8), (∀ x ∈ xs, x.key.size ≤ 255 ∧ x.val.size ≤ 255) → takeLoop xs.length ⟨1, acc, [], []⟩ (tkL (xs.flatMap itemU ++ r)) = (⟨1, acc ++ xs, [], []⟩, tkL r)
  | [], acc, r, _ => by simp [takeLoop]
  | x :: xs, acc, r, h => by
    have e := itemT_app x (xs.flatMap itemU ++ r) (h x (by simp))
    have st : stepT ⟨1, acc, [], []⟩ (tkL (itemU x ++ (xs.flatMap itemU ++ r))) = (⟨1, acc ++ [x], [], []⟩, tkL (xs.flatMap itemU ++ r)) := by
      unfold stepT; rw [if_pos rfl, e]
    rw [List.flatMap_cons, List.append_assoc, List.length_cons, takeLoop_go _ _ _ (by rw [st]; rfl), st]
    have := loop_items xs (acc ++ [x]) r (fun y hy => h y (by simp [hy]))
    simpa [List.append_assoc] using this
theorem loop_kids : ∀ (xs acc : List Kid) (r : List UInt8), (∀ x ∈ xs, x.key.size ≤ 255 ∧ kidE.wf x) → takeLoop xs.length ⟨2, [], acc, []⟩ (tkL (xs.flatMap kidU ++ r)) = (⟨2, [], acc ++ xs, []⟩, tkL r)
  | [], acc, r, _ => by simp [takeLoop]
  | x :: xs, acc, r, h => by
    have e := kidT_app x (xs.flatMap kidU ++ r) (h x (by simp)).1 (h x (by simp)).2
    have st : stepT ⟨2, [], acc, []⟩ (tkL (kidU x ++ (xs.flatMap kidU ++ r))) = (⟨2, [], acc ++ [x], []⟩, tkL (xs.flatMap kidU ++ r)) := by
      unfold stepT; rw [if_neg (show ¬ (2 : Int) = 1 by decide), if_pos rfl, e]
    rw [List.flatMap_cons, List.append_assoc, List.length_cons, takeLoop_go _ _ _ (by rw [st]; rfl), st]
    have := loop_kids xs (acc ++ [x]) r (fun y hy => h y (by simp [hy]))
    simpa [List.append_assoc] using this
theorem loop_vols : ∀ (xs acc : List Vol) (r : List UInt8), (∀ x ∈ xs, (x.name.size ≤ 255 ∧ x.src.size ≤ 255) ∧ volE.wf x) → takeLoop xs.length ⟨3, [], [], acc⟩ (tkL (xs.flatMap volU ++ r)) = (⟨3, [], [], acc ++ xs⟩, tkL r)
  | [], acc, r, _ => by simp [takeLoop]
  | x :: xs, acc, r, h => by
    have e := volT_app x (xs.flatMap volU ++ r) (h x (by simp)).1 (h x (by simp)).2
    have st : stepT ⟨3, [], [], acc⟩ (tkL (volU x ++ (xs.flatMap volU ++ r))) = (⟨3, [], [], acc ++ [x]⟩, tkL (xs.flatMap volU ++ r)) := by
      unfold stepT; rw [if_neg (show ¬ (3 : Int) = 1 by decide), if_neg (show ¬ (3 : Int) = 2 by decide), if_pos rfl, e]
    rw [List.flatMap_cons, List.append_assoc, List.length_cons, takeLoop_go _ _ _ (by rw [st]; rfl), st]
    have := loop_vols xs (acc ++ [x]) r (fun y hy => h y (by simp [hy]))
    simpa [List.append_assoc] using this
theorem takeT_enc (n : Node) (r : List UInt8) (h : shapedB n = true) (hw : nodeWf n) : takeT (tkL (encL n ++ r)) = (n, tkL r) := by
  have hb := shaped_bounds n h
  obtain ⟨kd, items, kids, vols⟩ := n
  have hc := hb.c0
  simp only at hc
  have hkd : kd = 1 ∨ kd = 2 ∨ kd = 3 := by
    unfold shapedB at h
    simp only at h
    by_cases h1 : kd = 1
    · exact Or.inl h1
    · by_cases h2 : kd = 2
      · exact Or.inr (Or.inl h2)
      · by_cases h3 : kd = 3
        · exact Or.inr (Or.inr h3)
        · rw [if_neg h1, if_neg h2, if_neg h3] at h; cases h
  unfold takeT encL headU
  simp only [List.append_assoc]
  rw [numT_app kd 1 _ (by omega) (by omega) (by omega)]
  simp only
  rw [numT_app _ 1 _ (by omega) (by omega) (by omega)]
  simp only
  rcases hkd with rfl | rfl | rfl
  · unfold shapedB at h
    simp only [if_true, Bool.and_eq_true, decide_eq_true_eq, beq_iff_eq] at h
    have hk : kids = [] := List.length_eq_zero_iff.1 (by omega)
    have hv : vols = [] := List.length_eq_zero_iff.1 (by omega)
    subst hk hv
    have := loop_items items [] r (fun x hx => by have := hb.i1 x hx; omega)
    simpa using this
  · unfold shapedB at h
    simp only [show ¬ (2 : Int) = 1 by decide, if_false, if_true, Bool.and_eq_true, beq_iff_eq] at h
    have hk : items = [] := List.length_eq_zero_iff.1 (by omega)
    have hv : vols = [] := List.length_eq_zero_iff.1 (by omega)
    subst hk hv
    have := loop_kids kids [] r (fun x hx => ⟨by have := hb.k1 x hx; omega, hw.2.1 x hx⟩)
    simpa using this
  · unfold shapedB at h
    simp only [show ¬ (3 : Int) = 1 by decide, show ¬ (3 : Int) = 2 by decide, if_false, if_true, Bool.and_eq_true, beq_iff_eq] at h
    have hk : items = [] := List.length_eq_zero_iff.1 (by omega)
    have hv : kids = [] := List.length_eq_zero_iff.1 (by omega)
    subst hk hv
    have := loop_vols vols [] r (fun x hx => ⟨by have := hb.v1 x hx; omega, hw.2.2 x hx⟩)
    simpa using this
theorem trim_pad (x : List UInt8) (m : Nat) (hm : x.length = m) : padTo m (Lib.trimRightB x 0) = x := by
  subst hm
  have h1 : x.reverse.takeWhile (· == 0) = List.replicate (x.reverse.takeWhile (· == 0)).length 0 := by
    apply List.eq_replicate_of_mem
    intro b hb
    have := List.all_eq_true.1 (List.all_takeWhile (p := (· == (0 : UInt8))) (l := x.reverse)) b hb
    simpa using this
  have h2 : (x.reverse.dropWhile (· == 0)).reverse ++ (x.reverse.takeWhile (· == 0)).reverse = x := by
    rw [← List.reverse_append, List.takeWhile_append_dropWhile, List.reverse_reverse]
  have hl : (x.reverse.takeWhile (· == 0)).length = x.length - (x.reverse.dropWhile (· == 0)).length := by
    have := congrArg List.length h2
    simp at this
    omega
  unfold padTo Lib.trimRightB
  rw [List.length_reverse, ← hl]
  conv => rhs; rw [← h2]
  congr 1
  conv => rhs; rw [h1]
  rw [List.reverse_replicate]
theorem tk_ext {a b : ByteArray} (h : a = b) : Tk.mk a false = Tk.mk b false := by rw [h]
theorem dec_enc (n : Node) (hn : nodeErr n = 0) (hw : nodeWf n) : decB ⟨(wholeL (encL n)).toArray⟩ = true ∧ decN ⟨(wholeL (encL n)).toArray⟩ = n := by
  have hsh : shapedB n = true := by
    unfold nodeErr at hn
    cases h : shapedB n with
    | true => rfl
    | false => rw [h] at hn; simp at hn
  have hsz : (encL n).length ≤ 508 := by
    rw [encL_length n hsh hw.2.1 hw.2.2]
    unfold nodeErr at hn
    rw [hsh] at hn
    simp only [if_true] at hn
    split at hn
    · omega
    · omega
  have hpl : (padTo 508 (encL n)).length = 508 := by unfold padTo; simp; omega
  have hn4 : (numB (crcOf (padTo 508 (encL n))) 4).data.toList.length = 4 := numU_length _ 4
  have hfl : fillB ⟨(wholeL (encL n)).toArray⟩ = ⟨((numB (crcOf (padTo 508 (encL n))) 4).data.toList ++ padTo 508 (encL n)).toArray⟩ := by
    unfold fillB wholeL
    apply ba_ext
    show padTo 512 (Lib.trimRightB _ 0) = _
    rw [trim_pad _ 512 (by rw [List.length_append, hn4, hpl])]
  have htk : decTk ⟨(wholeL (encL n)).toArray⟩ = tkL (encL n ++ List.replicate (508 - (encL n).length) 0) := by
    unfold decTk tkL
    rw [hfl]
    refine tk_ext (ba_ext ?_)
    rw [Lib.extract_data]
    show List.take (512 - 4) (List.drop 4 ((numB (crcOf (padTo 508 (encL n))) 4).data.toList ++ padTo 508 (encL n))) = _
    have : List.drop 4 ((numB (crcOf (padTo 508 (encL n))) 4).data.toList ++ padTo 508 (encL n)) = padTo 508 (encL n) := by
      conv => lhs; rw [← hn4]
      exact List.drop_left
    rw [this, List.take_of_length_le (by omega)]
    unfold padTo
    simp
  have ht := takeT_enc n (List.replicate (508 - (encL n).length) 0) hsh hw
  have hws : (⟨(wholeL (encL n)).toArray⟩ : ByteArray).size ≤ 512 := by
    show (wholeL (encL n)).toArray.size ≤ 512
    unfold wholeL Lib.trimRightB
    have := (List.dropWhile_sublist (fun b : UInt8 => b == 0) (l := ((numB (crcOf (padTo 508 (encL n))) 4).data.toList ++ padTo 508 (encL n)).reverse)).length_le
    simp only [List.length_reverse, List.length_append, hn4, hpl] at this
    simpa using this
  have hd : decB ⟨(wholeL (encL n)).toArray⟩ = true := by
    unfold decB
    rw [htk, ht]
    simp only [decide_eq_true hws, hn]
    rfl
  refine ⟨hd, ?_⟩
  unfold decN
  rw [hd, htk, ht]
  rfl
end Go.Proofs.YthhmcjojnbaiiaaGreatDoor

/- Plain: the levels of a tree. -/
namespace Go.Proofs.YthhmcjojnbaiiaaGreatDoor
open Go Go.RowKit
/-! The levels of a tree. -/
def lastB (k : ByteArray) (level : Int) (many : Nat) : Bool := decide (2 ≤ many) && decide (crcOf (k.data.toList ++ [level.toNat.toUInt8]) % 4 = 0)
def levelGo {α : Type} (sz : α → Nat) (last : α → Nat → Bool) : List α → Nat → List α → List (List α)
  | acc, _, [] => [acc]
  | acc, _, [x] => [acc ++ [x]]
  | acc, b, x :: y :: r =>
    if (acc.length + 1 < 255 ∧ b + sz x + sz y ≤ 508) ∧ last x (acc.length + 1) = false then levelGo sz last (acc ++ [x]) (b + sz x) (y :: r)
    else (acc ++ [x]) :: levelGo sz last [] 2 (y :: r)
section
variable {α β : Type} {sz : α → Nat} {last : α → Nat → Bool}
theorem level_flat : ∀ (l acc : List α) (b : Nat), (levelGo sz last acc b l).flatten = acc ++ l
  | [], acc, b => by simp [levelGo]
  | [x], acc, b => by simp [levelGo]
  | x :: y :: r, acc, b => by
    rw [levelGo]
    split
    · rw [level_flat (y :: r)]; simp
    · rw [List.flatten_cons, level_flat (y :: r)]; simp
theorem level_ne : ∀ (l acc : List α) (b : Nat), l ≠ [] → ∀ c ∈ levelGo sz last acc b l, c ≠ []
  | [], acc, b, h => absurd rfl h
  | [x], acc, b, _ => by simp [levelGo]
  | x :: y :: r, acc, b, _ => by
    rw [levelGo]
    split
    · exact level_ne (y :: r) _ _ (by simp)
    · intro c hc
      rcases List.mem_cons.1 hc with rfl | hc
      · simp
      · exact level_ne (y :: r) _ _ (by simp) c hc
theorem level_fit (hsz : ∀ x, 2 + sz x ≤ 508) : ∀ (l acc : List α) (b : Nat), l ≠ [] → acc.length ≤ 254 → b = 2 + sumBy sz acc → (∀ x, l.head? = some x → b + sz x ≤ 508) → ∀ c ∈ levelGo sz last acc b l, c.length ≤ 255 ∧ 2 + sumBy sz c ≤ 508
  | [], acc, b, h, _, _, _ => absurd rfl h
  | [x], acc, b, _, h1, h2, h3 => by
    intro c hc
    simp only [levelGo, List.mem_singleton] at hc
    subst hc
    have := h3 x rfl
    simp [sumBy] at *; omega
  | x :: y :: r, acc, b, _, h1, h2, h3 => by
    have hx := h3 x rfl
    have hs : sumBy sz (acc ++ [x]) = sumBy sz acc + sz x := by simp [sumBy]
    rw [levelGo]
    split
    · rename_i hc
      refine level_fit hsz (y :: r) _ _ (by simp) (by simp; omega) (by omega) (fun z hz => ?_)
      simp at hz; subst hz; omega
    · intro c hc
      rcases List.mem_cons.1 hc with rfl | hc
      · simp; omega
      · refine level_fit hsz (y :: r) [] 2 (by simp) (by simp) (by simp [sumBy]) (fun z hz => ?_) c hc
        have := hsz z; omega
theorem level_half (hsz : ∀ x y, 2 + sz x + sz y ≤ 508) (hl : ∀ x, last x 1 = false) : ∀ (l acc : List α) (b : Nat), l ≠ [] → (acc = [] → b = 2) → 2 * (levelGo sz last acc b l).length ≤ acc.length + l.length + 1
  | [], acc, b, h, _ => absurd rfl h
  | [x], acc, b, _, _ => by simp [levelGo]
  | x :: y :: r, acc, b, _, hb => by
    rw [levelGo]
    split
    · have := level_half hsz hl (y :: r) (acc ++ [x]) (b + sz x) (by simp) (by simp)
      simp at this ⊢; omega
    · rename_i hc
      have := level_half hsz hl (y :: r) [] 2 (by simp) (fun _ => rfl)
      have ha : acc ≠ [] := by
        intro e
        apply hc
        have h1 := hsz x y
        have h2 := hl x
        rw [hb e, e]
        exact ⟨⟨by simp, h1⟩, h2⟩
      have ha' := List.length_pos_iff.2 ha
      simp only [List.length_cons, List.length_nil] at this ⊢
      omega
theorem level_map (f : α → β) {sz' : β → Nat} {last' : β → Nat → Bool} (h1 : ∀ x, sz' (f x) = sz x) (h2 : ∀ x m, last' (f x) m = last x m) : ∀ (l acc : List α) (b : Nat), levelGo sz' last' (acc.map f) b (l.map f) = (levelGo sz last acc b l).map (List.map f)
  | [], acc, b => by simp [levelGo]
  | [x], acc, b => by simp [levelGo]
  | x :: y :: r, acc, b => by
    have e1 := level_map f h1 h2 (y :: r) (acc ++ [x]) (b + sz x)
    have e2 := level_map f h1 h2 (y :: r) [] 2
    simp only [List.map_cons, List.map_append, List.map_nil] at e1 e2 ⊢
    rw [levelGo, levelGo, h1, h1, h2, List.length_map, e1, e2]
    split <;> simp
end
def leavesL (l : List Item) : List Node := (levelGo itemSz (fun x m => lastB x.key 0 m) [] 2 l).map fun c => ⟨1, c, [], []⟩
def branchesL (d : Int) (l : List Kid) : List Node := (levelGo kidSz (fun x m => lastB x.key d m) [] 2 l).map fun c => ⟨2, [], c, []⟩
def hdKey {α : Type} (f : α → ByteArray) (l : List α) : ByteArray := (l.head?.map f).getD ByteArray.empty
def keyOf (n : Node) : ByteArray := if n.kind = 1 then hdKey (·.key) n.items else hdKey (·.key) n.kids
/-- Keys that may stand in a row. -/
def KeysOk (ks : List ByteArray) : Prop := (∀ k ∈ ks, k.size ≤ 48 ∧ bl ByteArray.empty k = true) ∧ ks.Pairwise (fun a b => bl a b = true)
theorem KeysOk.sub {a b : List ByteArray} (h : KeysOk b) (hs : a.Sublist b) : KeysOk a := ⟨fun k hk => h.1 k (hs.subset hk), h.2.sublist hs⟩
theorem hd_sub {α : Type} (f : α → ByteArray) : ∀ cs : List (List α), (∀ c ∈ cs, c ≠ []) → (cs.map (hdKey f)).Sublist (cs.flatten.map f)
  | [], _ => by simp
  | c :: cs, h => by
    have ih := hd_sub f cs (fun c hc => h c (by simp [hc]))
    obtain ⟨x, r, rfl⟩ := List.exists_cons_of_ne_nil (h c (by simp))
    simp only [List.map_cons, List.flatten_cons, List.map_append, List.cons_append]
    exact List.Sublist.cons_cons _ (ih.trans (List.sublist_append_right _ _))
theorem chunk_sub {α : Type} : ∀ (cs : List (List α)) (c : List α), c ∈ cs → c.Sublist cs.flatten
  | d :: cs, c, h => by
    rw [List.flatten_cons]
    rcases List.mem_cons.1 h with rfl | h
    · exact List.sublist_append_left _ _
    · exact (chunk_sub cs c h).trans (List.sublist_append_right _ _)
theorem sorted_pair : ∀ xs : List Item, sortedB xs = true ↔ (xs.map (·.key)).Pairwise (fun a b => bl a b = true)
  | [] => by simp [sortedB]
  | [_] => by simp [sortedB]
  | a :: b :: r => by
    rw [sortedB, Bool.and_eq_true, sorted_pair (b :: r)]
    simp only [List.map_cons, List.pairwise_cons]
    constructor
    · rintro ⟨h, h1, h2⟩
      refine ⟨fun k hk => ?_, h1, h2⟩
      rcases List.mem_cons.1 hk with rfl | hk
      · exact h
      · exact bl_trans h (h1 k hk)
    · rintro ⟨h, h1, h2⟩
      exact ⟨h _ (by simp), h1, h2⟩
theorem bl_empty {k : ByteArray} : bl ByteArray.empty k = !k.toList.isEmpty := by
  rw [bl_eq, ByteArray.toList_eq]
  cases h : k.data.toList with
  | nil => simp
  | cons a r => simp
theorem items_iff (xs : List Item) : itemsOk xs = true ↔ KeysOk (xs.map (·.key)) ∧ ∀ x ∈ xs, x.val.size ≤ 160 := by
  unfold itemsOk KeysOk
  rw [Bool.and_eq_true, sorted_pair, List.all_eq_true]
  simp only [rightB, Bool.and_eq_true, decide_eq_true_eq, List.mem_map, forall_exists_index, and_imp, forall_apply_eq_imp_iff₂, bl_empty]
  constructor
  · rintro ⟨h, hp⟩
    exact ⟨⟨fun x hx => ⟨(h x hx).2.1, (h x hx).1⟩, hp⟩, fun x hx => (h x hx).2.2⟩
  · rintro ⟨⟨h, hp⟩, hv⟩
    exact ⟨fun x hx => ⟨(h x hx).2, (h x hx).1, hv x hx⟩, hp⟩
theorem kidsGo_iff : ∀ (ks : List Kid) (b : ByteArray), kidsGo b ks = true ↔ (∀ k ∈ ks, k.key.size ≤ 48 ∧ bl b k.key = true ∧ blockB k.num = true) ∧ (ks.map (·.key)).Pairwise (fun a b => bl a b = true)
  | [], b => by simp [kidsGo]
  | k :: r, b => by
    rw [kidsGo, Bool.and_eq_true, Bool.and_eq_true, kidsGo_iff r k.key]
    simp only [namedB, Bool.and_eq_true, decide_eq_true_eq, List.map_cons, List.pairwise_cons, List.mem_cons, forall_eq_or_imp, List.mem_map, forall_exists_index, and_imp, forall_apply_eq_imp_iff₂]
    constructor
    · rintro ⟨⟨⟨h1, h2⟩, h3⟩, h4, h5⟩
      exact ⟨⟨⟨h1, h2, h3⟩, fun x hx => ⟨(h4 x hx).1, bl_trans h2 (h4 x hx).2.1, (h4 x hx).2.2⟩⟩, fun x hx => (h4 x hx).2.1, h5⟩
    · rintro ⟨⟨⟨h1, h2, h3⟩, h4⟩, h5, h6⟩
      exact ⟨⟨⟨h1, h2⟩, h3⟩, fun x hx => ⟨(h4 x hx).1, h5 x hx, (h4 x hx).2.2⟩, h6⟩
theorem kids_iff (ks : List Kid) : kidsOk ks = true ↔ KeysOk (ks.map (·.key)) ∧ (∀ k ∈ ks, blockB k.num = true) ∧ 0 < ks.length ∧ ks.length ≤ 255 := by
  unfold kidsOk KeysOk
  rw [Bool.and_eq_true, kidsGo_iff, Bool.and_eq_true, decide_eq_true_eq, decide_eq_true_eq]
  simp only [List.mem_map, forall_exists_index, and_imp, forall_apply_eq_imp_iff₂]
  constructor
  · rintro ⟨⟨h, hp⟩, hl⟩
    exact ⟨⟨fun x hx => ⟨(h x hx).1, (h x hx).2.1⟩, hp⟩, fun x hx => (h x hx).2.2, hl⟩
  · rintro ⟨⟨h, hp⟩, hb, hl⟩
    exact ⟨⟨fun x hx => ⟨(h x hx).1, (h x hx).2, hb x hx⟩, hp⟩, hl⟩
end Go.Proofs.YthhmcjojnbaiiaaGreatDoor
