/- Texts of the proof: Ob Df. -/
import Derived.Test.YthhmcjojnbaiiaaGreatDoorM61
import Derived.Test.YthhmcjojnbaiiaaGreatDoorM10
import Derived.Deep.AppendLies
import Derived.WalkMore
set_option linter.all false
/- Plain: what is between two lists of items, done to the one, is the other. -/
namespace Go.Proofs.YthhmcjojnbaiiaaGreatDoor
open Go Go.RowKit
def delO (x : Item) : Change := ⟨x.key, false, ByteArray.empty⟩
def setOf (x : Item) : Change := ⟨x.key, true, x.val⟩
def eqI (x y : Item) : Bool := beqB x.key y.key && beqB x.val y.val
theorem eqI_iff (x y : Item) : eqI x y = true ↔ x = y := by
  unfold eqI
  rw [Bool.and_eq_true, beqB_iff, beqB_iff]
  cases x; cases y; simp
def diffL : List Item → List Item → List Change
  | [], [] => []
  | x :: a, [] => delO x :: diffL a []
  | [], y :: b => setOf y :: diffL [] b
  | x :: a, y :: b => if bl x.key y.key then delO x :: diffL a (y :: b)
    else if eqI x y then diffL a b
    else if beqB x.key y.key then setOf y :: diffL a b
    else setOf y :: diffL (x :: a) b
termination_by a b => a.length + b.length
theorem diffL_len : ∀ (a b : List Item), (diffL a b).length ≤ a.length + b.length
  | [], [] => by simp [diffL]
  | x :: a, [] => by have := diffL_len a []; simp [diffL]; simpa using this
  | [], y :: b => by have := diffL_len [] b; simp [diffL]; simpa using this
  | x :: a, y :: b => by
    have h1 := diffL_len a (y :: b)
    have h2 := diffL_len a b
    have h3 := diffL_len (x :: a) b
    rw [diffL]
    simp only [List.length_cons] at h1 h2 h3 ⊢
    split
    · simp only [List.length_cons]; omega
    · split
      · omega
      · split
        · simp only [List.length_cons]; omega
        · simp only [List.length_cons]; omega
termination_by a b => a.length + b.length
/-- Where a key is, behind keys that are less. -/
theorem pos_behind (P : List Item) (t : ByteArray) (hP : ∀ p ∈ P, bl p.key t = true) : ∀ (a : List Item), (∀ x, a.head? = some x → bl x.key t = false) → itemPos (P ++ a) t = P.length := by
  intro a ha
  unfold itemPos posOf
  rw [List.takeWhile_append_of_pos (fun p hp => hP p hp)]
  cases a with
  | nil => simp
  | cons x r =>
    have := ha x rfl
    simp [this]
theorem has_behind (P : List Item) (t : ByteArray) (hP : ∀ p ∈ P, bl p.key t = true) (x : Item) (a : List Item) (hx : bl x.key t = false) : itemHas (P ++ x :: a) t = beqB x.key t := by
  unfold itemHas hasAt
  rw [pos_behind P t hP (x :: a) (fun z hz => by simp at hz; subst hz; exact hx), List.getElem?_append_right (Nat.le_refl _), Nat.sub_self]
  rfl
theorem has_behind_nil (P : List Item) (t : ByteArray) (hP : ∀ p ∈ P, bl p.key t = true) : itemHas P t = false := by
  have h := pos_behind P t hP [] (fun z hz => by simp at hz)
  rw [List.append_nil] at h
  unfold itemHas hasAt
  rw [h, List.getElem?_eq_none (Nat.le_refl _)]
theorem one_del (P : List Item) (x : Item) (a : List Item) (hP : ∀ p ∈ P, bl p.key x.key = true) : applyOne (P ++ x :: a) (delO x) = P ++ a := by
  have h1 := has_behind P x.key hP x a (bl_irrefl _)
  have h2 := pos_behind P x.key hP (x :: a) (fun z hz => by simp at hz; subst hz; exact bl_irrefl _)
  unfold applyOne delO
  simp only
  rw [h1, h2, if_pos ((beqB_iff _ _).2 rfl), if_neg (by simp), List.eraseIdx_append_of_length_le (Nat.le_refl _), Nat.sub_self]
  rfl
theorem one_set (P : List Item) (x y : Item) (a : List Item) (hP : ∀ p ∈ P, bl p.key y.key = true) (hxy : x.key = y.key) : applyOne (P ++ x :: a) (setOf y) = P ++ y :: a := by
  have hb : bl x.key y.key = false := by rw [hxy]; exact bl_irrefl _
  have h1 := has_behind P y.key hP x a hb
  have h2 := pos_behind P y.key hP (x :: a) (fun z hz => by simp at hz; subst hz; exact hb)
  unfold applyOne setOf
  simp only
  rw [h1, h2, if_pos ((beqB_iff _ _).2 hxy), if_pos trivial, List.set_append_right _ _ (Nat.le_refl _), Nat.sub_self]
  rfl
theorem one_ins (P : List Item) (y : Item) (a : List Item) (hP : ∀ p ∈ P, bl p.key y.key = true) (ha : ∀ x, a.head? = some x → bl y.key x.key = true) : applyOne (P ++ a) (setOf y) = P ++ y :: a := by
  have hh : itemHas (P ++ a) y.key = false := by
    cases a with
    | nil => rw [List.append_nil]; exact has_behind_nil P _ hP
    | cons x r =>
      have h3 := ha x rfl
      rw [has_behind P y.key hP x r (bl_asymm h3)]
      cases hq : beqB x.key y.key with
      | false => rfl
      | true => rw [beqB_iff] at hq; rw [hq, bl_irrefl] at h3; cases h3
  have h2 := pos_behind P y.key hP a (fun z hz => bl_asymm (ha z hz))
  unfold applyOne setOf
  simp only
  rw [hh, h2, if_neg (by simp), if_pos trivial]
  exact ins_app y a P
theorem diff_fold : ∀ (a b P : List Item), Up (P ++ a) → Up (P ++ b) → (diffL a b).foldl applyOne (P ++ a) = P ++ b
  | [], [], P, _, _ => by simp [diffL]
  | x :: a, [], P, ha, hb => by
    obtain ⟨h1, h2, h3⟩ := up_app ha
    rw [diffL, List.foldl_cons, one_del P x a h1]
    exact diff_fold a [] P h3 hb
  | [], y :: b, P, ha, hb => by
    obtain ⟨h1, h2, h3⟩ := up_app hb
    have h4 := one_ins P y [] h1 (fun z hz => by simp at hz)
    rw [diffL, List.foldl_cons, h4, app_one P b y]
    have h5 := diff_fold [] b (P ++ [y]) (by
      have h6 : Up (P ++ [y] ++ b) := by rw [← app_one]; exact hb
      unfold Up at h6 ⊢
      rw [List.append_nil]
      rw [List.map_append, List.pairwise_append] at h6
      exact h6.1) (by rw [← app_one]; exact hb)
    rw [List.append_nil] at h5
    exact h5
  | x :: a, y :: b, P, ha, hb => by
    obtain ⟨a1, a2, a3⟩ := up_app ha
    obtain ⟨b1, b2, b3⟩ := up_app hb
    rw [diffL]
    by_cases hl : bl x.key y.key = true
    · rw [if_pos hl, List.foldl_cons, one_del P x a a1]
      exact diff_fold a (y :: b) P a3 hb
    · have hl' : bl x.key y.key = false := by simpa using hl
      rw [if_neg hl]
      by_cases he : eqI x y = true
      · rw [if_pos he]
        have hxy := (eqI_iff x y).1 he
        subst hxy
        rw [app_one P a x, app_one P b x]
        exact diff_fold a b (P ++ [x]) (by rw [← app_one]; exact ha) (by rw [← app_one]; exact hb)
      · rw [if_neg he]
        by_cases hk : beqB x.key y.key = true
        · rw [if_pos hk, List.foldl_cons]
          have hxy := (beqB_iff _ _).1 hk
          rw [one_set P x y a b1 hxy, app_one P a y, app_one P b y]
          exact diff_fold a b (P ++ [y]) (up_key ha hxy) (by rw [← app_one]; exact hb)
        · rw [if_neg hk, List.foldl_cons]
          have hyx : bl y.key x.key = true := by
            cases hq : bl y.key x.key with
            | true => rfl
            | false => exact absurd ((beqB_iff _ _).2 (bl_total hl' hq)) hk
          rw [one_ins P y (x :: a) b1 (fun z hz => by simp at hz; subst hz; exact hyx), app_one P (x :: a) y, app_one P b y]
          exact diff_fold (x :: a) b (P ++ [y]) (up_lt ha b1 hyx) (by rw [← app_one]; exact hb)
termination_by a b => a.length + b.length
theorem diff_mem : ∀ (a b : List Item) (c : Change), c ∈ diffL a b → (∃ x ∈ a, c = delO x) ∨ ∃ y ∈ b, c = setOf y
  | [], [], c, h => by simp [diffL] at h
  | x :: a, [], c, h => by
    rw [diffL] at h
    rcases List.mem_cons.1 h with rfl | h
    · exact Or.inl ⟨x, by simp, rfl⟩
    · rcases diff_mem a [] c h with ⟨z, hz, e⟩ | ⟨z, hz, e⟩
      · exact Or.inl ⟨z, by simp [hz], e⟩
      · simp at hz
  | [], y :: b, c, h => by
    rw [diffL] at h
    rcases List.mem_cons.1 h with rfl | h
    · exact Or.inr ⟨y, by simp, rfl⟩
    · rcases diff_mem [] b c h with ⟨z, hz, e⟩ | ⟨z, hz, e⟩
      · simp at hz
      · exact Or.inr ⟨z, by simp [hz], e⟩
  | x :: a, y :: b, c, h => by
    have up1 : ((∃ z ∈ a, c = delO z) ∨ ∃ z ∈ b, c = setOf z) → (∃ z ∈ x :: a, c = delO z) ∨ ∃ z ∈ y :: b, c = setOf z := by
      rintro (⟨z, hz, e⟩ | ⟨z, hz, e⟩)
      · exact Or.inl ⟨z, by simp [hz], e⟩
      · exact Or.inr ⟨z, by simp [hz], e⟩
    rw [diffL] at h
    split at h
    · rcases List.mem_cons.1 h with rfl | h
      · exact Or.inl ⟨x, by simp, rfl⟩
      · rcases diff_mem a (y :: b) c h with ⟨z, hz, e⟩ | ⟨z, hz, e⟩
        · exact Or.inl ⟨z, by simp [hz], e⟩
        · exact Or.inr ⟨z, hz, e⟩
    · split at h
      · exact up1 (diff_mem a b c h)
      · split at h
        · rcases List.mem_cons.1 h with rfl | h
          · exact Or.inr ⟨y, by simp, rfl⟩
          · exact up1 (diff_mem a b c h)
        · rcases List.mem_cons.1 h with rfl | h
          · exact Or.inr ⟨y, by simp, rfl⟩
          · rcases diff_mem (x :: a) b c h with ⟨z, hz, e⟩ | ⟨z, hz, e⟩
            · exact Or.inl ⟨z, hz, e⟩
            · exact Or.inr ⟨z, by simp [hz], e⟩
termination_by a b => a.length + b.length
theorem changes_diff {a b : List Item} (ha : itemsOk a = true) (hb : itemsOk b = true) : changesOk (diffL a b) = true := by
  unfold changesOk
  rw [List.all_eq_true]
  intro c hc
  rcases diff_mem a b c hc with ⟨x, hx, rfl⟩ | ⟨y, hy, rfl⟩
  · have hr := right_of ha hx
    simp only [rightB, Bool.and_eq_true, decide_eq_true_eq, Bool.not_eq_true'] at hr
    simp [changeB, delO, rightB, hr.1, hr.2.1]
  · have hr := right_of hb hy
    simp [changeB, setOf, hr]
theorem applyS_diff {a b : List Item} (ha : itemsOk a = true) (hb : itemsOk b = true) : applyS a (diffL a b) = (b, 0) := by
  have h1 := ((items_iff a).1 ha).1.2
  have h2 := ((items_iff b).1 hb).1.2
  have := diff_fold a b [] h1 h2
  rw [List.nil_append, List.nil_append] at this
  unfold applyS
  rw [if_neg (by rw [ha, changes_diff ha hb]; simp), this]
end Go.Proofs.YthhmcjojnbaiiaaGreatDoor

/- item.Diff, whatever the two lists. -/
namespace Go.Proofs.YthhmcjojnbaiiaaGreatDoor
open Go Go.RowKit
def diffS (a b : List Item) : List Change := if itemsOk a = true ∧ itemsOk b = true then diffL a b else []
def diffE (a b : List Item) : Int := orL [errIf (itemsOk a) 4, errIf (itemsOk b) 4]
theorem diffE_ok {a b : List Item} (h : diffE a b = 0) : itemsOk a = true ∧ itemsOk b = true := by
  unfold diffE at h
  rw [orL_two] at h
  cases ha : itemsOk a <;> cases hb : itemsOk b <;> rw [ha, hb] at h <;> simp [errIf] at h ⊢
theorem diffE_bad {a b : List Item} (h : diffE a b ≠ 0) : ¬ (itemsOk a = true ∧ itemsOk b = true) := by
  rintro ⟨ha, hb⟩
  apply h
  unfold diffE
  rw [orL_two, ha, hb]; rfl
/-- What is left of the two, the changes so far. -/
def DfRel (w w3 : World) (a b : List Item) (k : Nat) (va vb vo : Value) (wr : World) : Prop :=
  ∃ (a' b' : List Item) (acc : List Change), a'.length + b'.length = k ∧ acc.length + k ≤ a.length + b.length ∧ diffL a b = acc ++ diffL a' b' ∧ Sl itemE w va a' ∧ Sl itemE w vb b' ∧
    wr.ownsRow w3.heap.size 55 3 vo acc.length (acc.flatMap changeE.enc) ∧ Below w3.heap.size w3 wr
theorem dfRel_mk {w w3 : World} {a b : List Item} {k : Nat} {va vb vo : Value} {wr : World} (a' b' : List Item) (acc : List Change) (h1 : a'.length + b'.length = k) (h2 : acc.length + k ≤ a.length + b.length) (h3 : diffL a b = acc ++ diffL a' b') (h4 : Sl itemE w va a') (h5 : Sl itemE w vb b')
    (h6 : wr.ownsRow w3.heap.size 55 3 vo acc.length (acc.flatMap changeE.enc)) (h7 : Below w3.heap.size w3 wr) : DfRel w w3 a b k va vb vo wr := ⟨a', b', acc, h1, h2, h3, h4, h5, h6, h7⟩
def DfPost (w : World) (a b : List Item) (e : Ending) (w' : World) : Prop := ∃ r, e = .returned (.tuple #[r, .int .i64 (diffE a b)]) ∧ Sl changeE w' r (diffS a b) ∧ Below w.heap.size w w'
theorem tail_far {w : World} {b o n c : Nat} {x : Item} {xs : List Item} (h : Sl itemE w (.slice (some ⟨b, o, none⟩) n c) (x :: xs)) : Sl itemE w (.slice (some ⟨b, o + 2, none⟩) (n - 1) (c - 1)) xs := by
  obtain ⟨h1, h2, h3, h4⟩ := h.len_eq
  rw [List.length_cons] at h1 h2
  refine ⟨some ⟨b, o + 2, none⟩, c - 1, by rw [h1]; rfl, by omega, by omega, ?_⟩
  have := h4.drop 1
  exact this
theorem tail_end {w : World} {A : Option Addr} {n c : Nat} {x : Item} {xs : List Item} (h : Sl itemE w (.slice A n c) (x :: xs)) (hc : c = 1) (B : Option Addr) (c' : Nat) (hc' : c' ≤ 1) : Sl itemE w (.slice B (n - 1) c') xs := by
  obtain ⟨h1, h2, h3, h4⟩ := h.len_eq
  rw [List.length_cons] at h1 h2
  have hx : xs = [] := List.length_eq_zero_iff.1 (by omega)
  subst hx
  refine ⟨B, c', by rw [h1]; rfl, by simp, by omega, fun k hk => absurd hk (Nat.not_lt_zero _)⟩
theorem diffL_del {x : Item} {a b : List Item} (h : ∀ y, b.head? = some y → bl x.key y.key = true) : diffL (x :: a) b = delO x :: diffL a b := by
  cases b with
  | nil => rw [diffL]
  | cons y b => rw [diffL, if_pos (h y rfl)]
theorem diffL_same {x y : Item} {a b : List Item} (h : eqI x y = true) : diffL (x :: a) (y :: b) = diffL a b := by
  have hxy := (eqI_iff x y).1 h
  rw [diffL, if_neg (by rw [hxy, bl_irrefl]; simp), if_pos h]
theorem diffL_set {x y : Item} {a b : List Item} (h : eqI x y = false) (hk : x.key = y.key) : diffL (x :: a) (y :: b) = setOf y :: diffL a b := by
  rw [diffL, if_neg (by rw [hk, bl_irrefl]; simp), if_neg (by rw [h]; simp), if_pos ((beqB_iff _ _).2 hk)]
theorem diffL_ins {y : Item} {a b : List Item} (h : ∀ x, a.head? = some x → bl y.key x.key = true) : diffL a (y :: b) = setOf y :: diffL a b := by
  cases a with
  | nil => rw [diffL]
  | cons x a =>
    have h1 := h x rfl
    have h2 : ¬ (x.key = y.key) := by intro e; rw [e, bl_irrefl] at h1; cases h1
    rw [diffL, if_neg (by rw [bl_asymm h1]; simp), if_neg (fun e => h2 (by rw [(eqI_iff x y).1 e])), if_neg (fun e => h2 ((beqB_iff _ _).1 e))]
/-- The world behind an append to what the call owns. -/
theorem below_app {w3 wr wm wd : World} {acc n : Nat} {vo : Value} {xs : List Value} (hbl : Below w3.heap.size w3 wr) (hm : Below wr.heap.size wr wm) (hown : wr.ownsRow w3.heap.size 55 3 vo n xs) (hg : wm.grownBy wd vo.ownBlock) : Below w3.heap.size w3 wd := by
  have hs := hg.size
  have hms := hm.size
  have hbs := hbl.size
  refine ⟨hg.os.trans (hm.os.trans hbl.os), hg.tape.trans (hm.tape.trans hbl.tape), hg.output.trans (hm.output.trans hbl.output), by omega, fun k hk => ?_⟩
  rw [hg.block k (by omega) (fun e => by have := (hown.lt _ e.symm); omega), hm.block k (by omega)]
  exact hbl.block k hk
theorem change_inf : (Tryz.prog.info? 55).map (fun i => (i.zero.map (fun z => z.cells.size), i.size, i.bytes)) = some (some 3, 3, 40) := by kernel_rfl
set_option maxRecDepth 100000 in
set_option maxHeartbeats 4000000 in
theorem diff_any (w : World) (v vb : Value) (a b : List Item) (hv : Sl itemE w v a) (hvb : Sl itemE w vb b) (hl : a.length + b.length ≤ 1073741824) :
    Calls Tryz.prog 36 #[v, vb] w fun e w' => DfPost w a b e w' := by
  have HV := Lib.hid hv
  have HVB := Lib.hid hvb
  obtain ⟨A, n, c, rfl⟩ := sl_slice hv
  obtain ⟨A2, n2, c2, rfl⟩ := sl_slice hvb
  have hn2 := (hvb.len_eq).1
  subst hn2
  have hn1 := (hv.len_eq).1
  subst hn1
  clear hv hvb
  go_enter Tryz.func36, Tryz.ntmps36
  go_wp2_with (fail)
  go_step3
  go_wp2_with (fail)
  go_at_call 29
  refine (itemCheck_any _ _ a HV.out).mono ?_
  rintro e w1 ⟨rfl, hb1⟩
  have HB1 := Lib.hid hb1
  clear hb1
  go_wp2_with (fail)
  go_at_call 29
  refine (itemCheck_any _ _ b (HVB.out.below HB1.out (Nat.le_refl _))).mono ?_
  rintro e w2 ⟨rfl, hb2⟩
  have HB2 := Lib.hid (HB1.out.trans (hb2.mono HB1.out.size))
  clear hb2
  obtain ⟨ea, hea⟩ : ∃ ea, errIf (itemsOk a) 4 = ea := ⟨_, rfl⟩
  obtain ⟨eb, heb⟩ : ∃ eb, errIf (itemsOk b) 4 = eb := ⟨_, rfl⟩
  have HE : Hid (diffE a b = orL [ea, eb]) := Lib.hid (by unfold diffE; rw [hea, heb])
  rw [hea, heb]
  clear hea heb
  go_wp2_with (fail)
  go_at_call 57
  have hso : Sl errE (w2.alloc (.cells #[.int .i64 ea, .int .i64 eb] 28)) (.slice (some ⟨w2.heap.size, 0, none⟩) 2 2) [ea, eb] := by
    refine ⟨_, 2, rfl, Nat.le_refl _, by omega, Row.mk fun k hk => ⟨?_, trivial⟩⟩
    have ha := new_at w2 [.int .i64 ea, .int .i64 eb] 28
    intro i hi
    have hi0 : i = 0 := by simp [errE] at hi; omega
    subst hi0
    match k, hk with
    | 0, _ => exact ha.cell 0 _ rfl
    | 1, _ => exact ha.cell 1 _ rfl
  refine (or_any _ _ _ hso).mono ?_
  rintro e _ ⟨rfl, rfl⟩
  have HB3 := Lib.hid (HB2.out.alloc HB2.out.size (.cells #[.int .i64 ea, .int .i64 eb] 28))
  clear hso
  generalize w2.alloc (.cells #[.int .i64 ea, .int .i64 eb] 28) = w3 at *
  rw [← HE.out]
  by_cases he : diffE a b ≠ 0
  · have hq : (diffE a b != 0) = true := by simpa using he
    have HA := Lib.hid (show diffS a b = [] by unfold diffS; rw [if_neg (diffE_bad he)])
    clear he
    obtain ⟨ed, hed⟩ : ∃ ed, diffE a b = ed := ⟨_, rfl⟩
    rw [hed] at hq ⊢
    have HED := Lib.hid hed
    clear hed
    go_wp2_with (fail)
    go_ret2
    exact ⟨.slice none 0 0, by rw [HED.out]; rfl, by rw [HA.out]; exact Sl.nil _, HB3.out⟩
  · have he0 : diffE a b = 0 := by simpa using he
    have HA := Lib.hid (And.intro he0 (show diffS a b = diffL a b by unfold diffS; rw [if_pos (diffE_ok he0)]))
    rw [he0]
    clear he he0
    obtain ⟨i0, z0, hi, hz0, hz1, hz2, hzs⟩ := info_open change_inf
    go_wp2_with (fail)
    go_step3
    go_wp2_with (fail)
    go_loopg [0, 1, 7] (a.length + b.length) (fun k va vb vo wr => DfRel w w3 a b k va vb vo wr)
    case atStart => exact dfRel_mk a b [] rfl (by simp) rfl HV.out HVB.out (World.ownsRow_nil _ _ _ _) (Below.refl _ _)
    case round =>
      obtain ⟨a', b', acc, hk, hk2, hdl, hsa, hsb, hown, hbl⟩ := hrel
      obtain ⟨Aa, na, ca, rfl⟩ := sl_slice hsa
      obtain ⟨Ab, nb, cb, rfl⟩ := sl_slice hsb
      have hna := (hsa.len_eq).1
      have hnb := (hsb.len_eq).1
      have hww := HB3.out.trans (hbl.mono HB3.out.size)
      have hwsz := hww.size
      have hw3 := hbl.size
      have hacb : acc.length ≤ 1073741824 := by omega
      have hwr : IntKind.i64.wrap ((na : Int) + (nb : Int)) = (na : Int) + (nb : Int) := by rw [IntKind.wrap_i64]; omega
      have HJ := Lib.hid (And.intro hsa (And.intro hsb (And.intro hown (And.intro hbl (And.intro hdl hww)))))
      cases a' with
      | nil =>
        have hna0 : na = 0 := hna
        subst hna0
        cases b' with
        | nil =>
          have hnb0 : nb = 0 := hnb
          subst hnb0
          clear hsa hsb hown hbl hdl hww hna hnb
          go_wp2_with (fail)
          go_ret2
          have hacc : diffL a b = acc := by rw [HJ.out.2.2.2.2.1, diffL, List.append_nil]
          refine ⟨_, by rw [HA.out.1]; rfl, ?_, HB3.out.trans (HJ.out.2.2.2.1.mono HB3.out.size)⟩
          rw [HA.out.2, hacc]
          refine own_sl (E := changeE) HJ.out.2.2.1 rfl (fun x hx => ?_)
          rw [← hacc] at hx
          rcases diff_mem a b x hx with ⟨y, hy, rfl⟩ | ⟨y, hy, rfl⟩
          · exact ⟨(HV.out.wf y hy).1, by unfold strOk; simp [delO]⟩
          · exact HVB.out.wf y hy
        -- BEGIN ROUND
        | cons y b2 =>
          obtain ⟨bb, ob, rfl, hatb, hwfb⟩ := (hsb.len_eq).2.2.2 0 (by simp)
          simp only [List.getElem_cons_zero] at hatb hwfb
          have hatb2 := hatb.below hww (Nat.le_refl _)
          have hbwb : bb < wr.heap.size := hatb2.lt (by simp [itemE])
          have e0 := hatb2.cell 0 _ rfl
          have e1 := hatb2.cell 1 _ rfl
          simp only [itemE, Nat.add_zero, Nat.zero_mul] at e0 e1
          have hnpb : 0 < nb := by rw [hnb]; simp
          have hnqb : ((nb : Int) == 0) = false := by simp; omega
          have hnrb : decide (0 < (nb : Int)) = true := by simp; omega
          have hcpb : nb ≤ cb ∧ cb ≤ 9223372036854775807 := ⟨by rw [hnb]; exact (hsb.len_eq).2.1, by have := (hsb.len_eq).2.2.1; omega⟩
          obtain ⟨hcpb1, hcpb2⟩ := hcpb
          clear hatb hatb2 hwfb
          have hwr2 : IntKind.i64.wrap (nb : Int) = (nb : Int) := by rw [IntKind.wrap_i64]; omega
          clear hwr
          have HKK := Lib.hid (And.intro hk (And.intro hk2 (And.intro hna hnb)))
          clear hsa hsb hown hbl hdl hww hk hk2 hna hnb
          have hone : ∀ u ∈ [Value.string y.key, .bool true, .string y.val], u.oneCell' = true := by intro u hu; simp at hu; rcases hu with rfl | rfl | rfl <;> rfl
          have HONE := Lib.hid hone
          clear hone
          go_wp2_with (fail)
          go_quiet (fail)
          go_wp2_with (fail)
          go_quiet (fail)
          go_wp2_with (fail)
          go_quiet (fail)
          go_wp2_with (fail)
          all_goals (
            go_region_law (refine step_append_lies (w := _) rfl (.tmp 87) (.tmp 97) 61 rfl w3.heap.size 55 i0 z0 3 40 Tryz.underlying61 hi hz0 hz1 hz2 hzs (by decide) _ acc.length _ (by simp [Act.eval, Act.put]) (HJ.out.2.2.1.alloc (.cells #[Value.string y.key, .bool true, .string y.val] 55)) ⟨wr.heap.size, 0, none⟩ 1 1 [Value.string y.key, .bool true, .string y.val] (by simp [Act.eval, Act.put]) rfl (fun j u hj => by rw [add_at, Nat.zero_add]; exact new_cell (t := 55) j u hj) HONE.out (by decide) (by unfold maxLen; omega) (by omega) (by simp; omega) (wr.heap.size + 1) (by simp) ?_; intro g cap wd ho2 hg2 hgh hglt))
          all_goals (go_wp2_with (fail))
          all_goals (
            go_roundg (([] : List Item).length + b2.length)
            case measure => obtain ⟨hk, hk2, hna, hnb⟩ := HKK.out; simp at hk hk2 hna hnb ⊢; omega
            case rel =>
              refine dfRel_mk ([] : List Item) b2 (acc ++ [setOf y]) rfl (by obtain ⟨hk, hk2, hna, hnb⟩ := HKK.out; simp at hk hk2 hna hnb ⊢; omega) (HJ.out.2.2.2.2.1.trans (by rw [diffL_ins (fun z hz => by simp at hz), List.append_assoc, List.singleton_append])) ?_ ?_ (by rw [List.length_append, List.flatMap_append]; exact ho2) (below_app (acc := 0) HJ.out.2.2.2.1 (wm := _) (by have h9 := (Below.refl wr.heap.size wr).alloc (Nat.le_refl _) (.cells #[Value.string y.key, .bool true, .string y.val] 55); exact ⟨h9.os, h9.tape, h9.output, h9.size, h9.block⟩) HJ.out.2.2.1 hg2)
              · exact HJ.out.1
              · first
                  | exact tail_far HJ.out.2.1
                  | exact tail_end HJ.out.2.1 (by omega) _ _ (by omega))
      | cons x a2 =>
        obtain ⟨ba, oa, rfl, hata, hwfa⟩ := (hsa.len_eq).2.2.2 0 (by simp)
        simp only [List.getElem_cons_zero] at hata hwfa
        have hata2 := hata.below hww (Nat.le_refl _)
        have hbwa : ba < wr.heap.size := hata2.lt (by simp [itemE])
        have d0 := hata2.cell 0 _ rfl
        have d1 := hata2.cell 1 _ rfl
        simp only [itemE, Nat.add_zero, Nat.zero_mul] at d0 d1
        have hnpa : 0 < na := by rw [hna]; simp
        have hnqa : ((na : Int) == 0) = false := by simp; omega
        have hnra : decide (0 < (na : Int)) = true := by simp; omega
        have hcpa : na ≤ ca ∧ ca ≤ 9223372036854775807 := ⟨by rw [hna]; exact (hsa.len_eq).2.1, by have := (hsa.len_eq).2.2.1; omega⟩
        obtain ⟨hcpa1, hcpa2⟩ := hcpa
        clear hata hata2 hwfa
        cases b' with
        | nil =>
          have hnb0 : nb = 0 := hnb
          subst hnb0
          clear hwr
          have hwr : IntKind.i64.wrap (na : Int) = (na : Int) := by rw [IntKind.wrap_i64]; omega
          have HKK := Lib.hid (And.intro hk (And.intro hk2 (And.intro hna hnb)))
          clear hsa hsb hown hbl hdl hww hk hk2 hna hnb
          have hone : ∀ u ∈ [Value.string x.key, .bool false, .string ByteArray.empty], u.oneCell' = true := by intro u hu; simp at hu; rcases hu with rfl | rfl | rfl <;> rfl
          have HONE := Lib.hid hone
          clear hone
          go_wp2_with (fail)
          go_quiet (fail)
          go_wp2_with (at_builtin; go_loud (refine wpList_append_lies (w := (wr.drewN nq).alloc (.cells #[Value.string x.key, .bool false, .string ByteArray.empty] 55)) rfl (.tmp 43) (.tmp 49) 61 rfl w3.heap.size 55 i0 z0 3 40 Tryz.underlying61 hi hz0 hz1 hz2 hzs (by decide) _ acc.length _ rfl (HJ.out.2.2.1.alloc (.cells #[Value.string x.key, .bool false, .string ByteArray.empty] 55)) ⟨wr.heap.size, 0, none⟩ 1 1 [Value.string x.key, .bool false, .string ByteArray.empty] rfl rfl (fun j u hj => by rw [add_at, Nat.zero_add]; exact new_cell (w := wr.drewN nq) (t := 55) j u hj) HONE.out (by decide) (by unfold maxLen; omega) (by omega) (by simp; omega) (wr.heap.size + 1) (by simp) ?_); intro g cap wd ho2 hg2 hgh hglt)
          all_goals (
            go_roundg (a2.length + ([] : List Item).length)
            case measure => obtain ⟨hk, hk2, hna, hnb⟩ := HKK.out; simp at hk hk2 hna hnb ⊢; omega
            case rel =>
              refine dfRel_mk a2 ([] : List Item) (acc ++ [delO x]) rfl (by obtain ⟨hk, hk2, hna, hnb⟩ := HKK.out; simp at hk hk2 hna hnb ⊢; omega) (HJ.out.2.2.2.2.1.trans (by rw [diffL_del (fun z hz => by simp at hz), List.append_assoc, List.singleton_append])) ?_ HJ.out.2.1 (by rw [List.length_append, List.flatMap_append]; exact ho2) (below_app (acc := 0) HJ.out.2.2.2.1 ((Below.drewN' (Below.refl wr.heap.size wr) nq).alloc (Nat.le_refl _) _) HJ.out.2.2.1 hg2)
              first
                | exact tail_far HJ.out.1
                | exact tail_end HJ.out.1 (by omega) _ _ (by omega))
        | cons y b2 =>
          obtain ⟨bb, ob, rfl, hatb, hwfb⟩ := (hsb.len_eq).2.2.2 0 (by simp)
          simp only [List.getElem_cons_zero] at hatb hwfb
          have hatb2 := hatb.below hww (Nat.le_refl _)
          have hbwb : bb < wr.heap.size := hatb2.lt (by simp [itemE])
          have e0 := hatb2.cell 0 _ rfl
          have e1 := hatb2.cell 1 _ rfl
          simp only [itemE, Nat.add_zero, Nat.zero_mul] at e0 e1
          have hnpb : 0 < nb := by rw [hnb]; simp
          have hnqb : ((nb : Int) == 0) = false := by simp; omega
          have hnrb : decide (0 < (nb : Int)) = true := by simp; omega
          have hcpb : nb ≤ cb ∧ cb ≤ 9223372036854775807 := ⟨by rw [hnb]; exact (hsb.len_eq).2.1, by have := (hsb.len_eq).2.2.1; omega⟩
          obtain ⟨hcpb1, hcpb2⟩ := hcpb
          clear hatb hatb2 hwfb
          have hgs : decide (0 < (na : Int) + (nb : Int)) = true := by simp; omega
          cases hbxy : bl x.key y.key with
          | true =>
            have HBL := Lib.hid hbxy
            have hbl2 : Op.bytesLess x.key.toList y.key.toList = true := hbxy
            clear hbxy
            have HKK := Lib.hid (And.intro hk (And.intro hk2 (And.intro hna hnb)))
            clear hsa hsb hown hbl hdl hww hk hk2 hna hnb
            have hone : ∀ u ∈ [Value.string x.key, .bool false, .string ByteArray.empty], u.oneCell' = true := by intro u hu; simp at hu; rcases hu with rfl | rfl | rfl <;> rfl
            have HONE := Lib.hid hone
            clear hone
            go_wp2_with (fail)
            go_quiet (fail)
            go_wp2_with (at_builtin; go_loud (refine wpList_append_lies (w := (wr.drewN nq).alloc (.cells #[Value.string x.key, .bool false, .string ByteArray.empty] 55)) rfl (.tmp 43) (.tmp 49) 61 rfl w3.heap.size 55 i0 z0 3 40 Tryz.underlying61 hi hz0 hz1 hz2 hzs (by decide) _ acc.length _ rfl (HJ.out.2.2.1.alloc (.cells #[Value.string x.key, .bool false, .string ByteArray.empty] 55)) ⟨wr.heap.size, 0, none⟩ 1 1 [Value.string x.key, .bool false, .string ByteArray.empty] rfl rfl (fun j u hj => by rw [add_at, Nat.zero_add]; exact new_cell (w := wr.drewN nq) (t := 55) j u hj) HONE.out (by decide) (by unfold maxLen; omega) (by omega) (by simp; omega) (wr.heap.size + 1) (by simp) ?_); intro g cap wd ho2 hg2 hgh hglt)
            all_goals (
              go_roundg (a2.length + (y :: b2).length)
              case measure => obtain ⟨hk, hk2, hna, hnb⟩ := HKK.out; simp at hk hk2 hna hnb ⊢; omega
              case rel =>
                refine dfRel_mk a2 (y :: b2) (acc ++ [delO x]) rfl (by obtain ⟨hk, hk2, hna, hnb⟩ := HKK.out; simp at hk hk2 hna hnb ⊢; omega) (HJ.out.2.2.2.2.1.trans (by rw [diffL_del (fun z hz => by simp at hz; subst hz; exact HBL.out), List.append_assoc, List.singleton_append])) ?_ HJ.out.2.1 (by rw [List.length_append, List.flatMap_append]; exact ho2) (below_app (acc := 0) HJ.out.2.2.2.1 ((Below.drewN' (Below.refl wr.heap.size wr) nq).alloc (Nat.le_refl _) _) HJ.out.2.2.1 hg2)
                first
                  | exact tail_far HJ.out.1
                  | exact tail_end HJ.out.1 (by omega) _ _ (by omega))
          | false =>
            have hbl2 : Op.bytesLess x.key.toList y.key.toList = false := hbxy
            cases heq : eqI x y with
            | true =>
              have HEQ := Lib.hid heq
              have hxy := (eqI_iff x y).1 heq
              have hq1 : (x.key.toList == y.key.toList) = true := by rw [hxy]; simp
              have hq2 : (x.val.toList == y.val.toList) = true := by rw [hxy]; simp
              clear hbxy heq hxy
              have HKK := Lib.hid (And.intro hk (And.intro hk2 (And.intro hna hnb)))
              clear hsa hsb hown hbl hdl hww hk hk2 hna hnb
              go_wp2_with (fail)
              go_quiet (fail)
              go_wp2_with (fail)
              go_quiet (fail)
              go_wp2_with (fail)
              all_goals (go_quiet (fail))
              all_goals (go_wp2_with (fail))
              all_goals (
                go_roundg (a2.length + b2.length)
                case measure => obtain ⟨hk, hk2, hna, hnb⟩ := HKK.out; simp at hk hk2 hna hnb ⊢; omega
                case rel =>
                  refine dfRel_mk a2 b2 acc rfl (by obtain ⟨hk, hk2, hna, hnb⟩ := HKK.out; simp at hk hk2 hna hnb ⊢; omega) (HJ.out.2.2.2.2.1.trans (by rw [diffL_same HEQ.out])) ?_ ?_ HJ.out.2.2.1 (by have h9 := HJ.out.2.2.2.1; exact ⟨h9.os, h9.tape, h9.output, h9.size, h9.block⟩)
                  · first
                      | exact tail_far HJ.out.1
                      | exact tail_end HJ.out.1 (by omega) _ _ (by omega)
                  · first
                      | exact tail_far HJ.out.2.1
                      | exact tail_end HJ.out.2.1 (by omega) _ _ (by omega))
            | false =>
              have HNE := Lib.hid heq
              cases hke : beqB x.key y.key with
              | true =>
                have HKE := Lib.hid ((beqB_iff _ _).1 hke)
                have hq1 : (x.key.toList == y.key.toList) = true := hke
                have hq2 : (x.val.toList == y.val.toList) = false := by
                  unfold eqI at heq
                  rw [hke, Bool.true_and] at heq
                  exact heq
                clear hbxy heq hke
                have HKK := Lib.hid (And.intro hk (And.intro hk2 (And.intro hna hnb)))
                clear hsa hsb hown hbl hdl hww hk hk2 hna hnb
                have hone : ∀ u ∈ [Value.string y.key, .bool true, .string y.val], u.oneCell' = true := by intro u hu; simp at hu; rcases hu with rfl | rfl | rfl <;> rfl
                have HONE := Lib.hid hone
                clear hone
                go_wp2_with (fail)
                go_quiet (fail)
                go_wp2_with (fail)
                go_quiet (fail)
                go_wp2_with (fail)
                go_quiet (fail)
                go_wp2_with (fail)
                all_goals (
                  go_region_law (refine step_append_lies (w := _) rfl (.tmp 87) (.tmp 97) 61 rfl w3.heap.size 55 i0 z0 3 40 Tryz.underlying61 hi hz0 hz1 hz2 hzs (by decide) _ acc.length _ (by simp [Act.eval, Act.put]) (HJ.out.2.2.1.alloc (.cells #[Value.string y.key, .bool true, .string y.val] 55)) ⟨wr.heap.size, 0, none⟩ 1 1 [Value.string y.key, .bool true, .string y.val] (by simp [Act.eval, Act.put]) rfl (fun j u hj => by rw [add_at, Nat.zero_add]; exact new_cell (t := 55) j u hj) HONE.out (by decide) (by unfold maxLen; omega) (by omega) (by simp; omega) (wr.heap.size + 1) (by simp) ?_; intro g cap wd ho2 hg2 hgh hglt))
                all_goals (go_wp2_with (fail))
                all_goals (
                  go_roundg (a2.length + b2.length)
                  case measure => obtain ⟨hk, hk2, hna, hnb⟩ := HKK.out; simp at hk hk2 hna hnb ⊢; omega
                  case rel =>
                    refine dfRel_mk a2 b2 (acc ++ [setOf y]) rfl (by obtain ⟨hk, hk2, hna, hnb⟩ := HKK.out; simp at hk hk2 hna hnb ⊢; omega) (HJ.out.2.2.2.2.1.trans (by rw [diffL_set HNE.out HKE.out, List.append_assoc, List.singleton_append])) ?_ ?_ (by rw [List.length_append, List.flatMap_append]; exact ho2) (below_app (acc := 0) HJ.out.2.2.2.1 (wm := _) (by have h9 := (Below.refl wr.heap.size wr).alloc (Nat.le_refl _) (.cells #[Value.string y.key, .bool true, .string y.val] 55); exact ⟨h9.os, h9.tape, h9.output, h9.size, h9.block⟩) HJ.out.2.2.1 hg2)
                    · first | exact tail_far HJ.out.1 | exact tail_end HJ.out.1 (by omega) _ _ (by omega)
                    · first
                        | exact tail_far HJ.out.2.1
                        | exact tail_end HJ.out.2.1 (by omega) _ _ (by omega))
              | false =>
                have HYX : Hid (bl y.key x.key = true) := Lib.hid (by
                  cases hq : bl y.key x.key with
                  | true => rfl
                  | false =>
                    have h9 := (beqB_iff _ _).2 (bl_total hbxy hq)
                    rw [hke] at h9
                    cases h9)
                have hq1 : (x.key.toList == y.key.toList) = false := hke
                clear hbxy heq hke
                have HKK := Lib.hid (And.intro hk (And.intro hk2 (And.intro hna hnb)))
                clear hsa hsb hown hbl hdl hww hk hk2 hna hnb
                have hone : ∀ u ∈ [Value.string y.key, .bool true, .string y.val], u.oneCell' = true := by intro u hu; simp at hu; rcases hu with rfl | rfl | rfl <;> rfl
                have HONE := Lib.hid hone
                clear hone
                go_wp2_with (fail)
                go_quiet (fail)
                go_wp2_with (fail)
                go_quiet (fail)
                go_wp2_with (fail)
                go_quiet (fail)
                go_wp2_with (fail)
                all_goals (
                  go_region_law (refine step_append_lies (w := _) rfl (.tmp 87) (.tmp 97) 61 rfl w3.heap.size 55 i0 z0 3 40 Tryz.underlying61 hi hz0 hz1 hz2 hzs (by decide) _ acc.length _ (by simp [Act.eval, Act.put]) (HJ.out.2.2.1.alloc (.cells #[Value.string y.key, .bool true, .string y.val] 55)) ⟨wr.heap.size, 0, none⟩ 1 1 [Value.string y.key, .bool true, .string y.val] (by simp [Act.eval, Act.put]) rfl (fun j u hj => by rw [add_at, Nat.zero_add]; exact new_cell (t := 55) j u hj) HONE.out (by decide) (by unfold maxLen; omega) (by omega) (by simp; omega) (wr.heap.size + 1) (by simp) ?_; intro g cap wd ho2 hg2 hgh hglt))
                all_goals (go_wp2_with (fail))
                all_goals (
                  go_roundg ((x :: a2).length + b2.length)
                  case measure => obtain ⟨hk, hk2, hna, hnb⟩ := HKK.out; simp at hk hk2 hna hnb ⊢; omega
                  case rel =>
                    refine dfRel_mk (x :: a2) b2 (acc ++ [setOf y]) rfl (by obtain ⟨hk, hk2, hna, hnb⟩ := HKK.out; simp at hk hk2 hna hnb ⊢; omega) (HJ.out.2.2.2.2.1.trans (by rw [diffL_ins (fun z hz => by simp at hz; subst hz; exact HYX.out), List.append_assoc, List.singleton_append])) ?_ ?_ (by rw [List.length_append, List.flatMap_append]; exact ho2) (below_app (acc := 0) HJ.out.2.2.2.1 (wm := _) (by have h9 := (Below.refl wr.heap.size wr).alloc (Nat.le_refl _) (.cells #[Value.string y.key, .bool true, .string y.val] 55); exact ⟨h9.os, h9.tape, h9.output, h9.size, h9.block⟩) HJ.out.2.2.1 hg2)
                    · exact HJ.out.1
                    · first
                        | exact tail_far HJ.out.2.1
                        | exact tail_end HJ.out.2.1 (by omega) _ _ (by omega))

end Go.Proofs.YthhmcjojnbaiiaaGreatDoor
