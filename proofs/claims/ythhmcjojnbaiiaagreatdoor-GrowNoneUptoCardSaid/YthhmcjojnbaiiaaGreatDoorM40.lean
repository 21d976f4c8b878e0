/- Texts of the proof: Rb Rc Rd Re Rk Di Dp Gn. -/
import Derived.Test.YthhmcjojnbaiiaaGreatDoorM35
import Derived.WalkMore
import Derived.Test.YthhmcjojnbaiiaaGreatDoorM31
import Derived.Test.YthhmcjojnbaiiaaGreatDoorM34
import Derived.Test.YthhmcjojnbaiiaaGreatDoorM39
set_option linter.all false
/- Plain: what is built is read as it was. -/
namespace Go.Proofs.YthhmcjojnbaiiaaGreatDoor
open Go Go.RowKit
/-- The cell of number t holds node n. -/
def InN (cs : List CC) (t : Int) (n : Node) : Prop := ∃ c ∈ cs, c.num = t ∧ c.node = n
def TrKids (T : Int → List Int → List Item → Prop) : List Kid → List Int → List Item → Prop
  | [], bs, is => bs = [] ∧ is = []
  | k :: ks, bs, is => ∃ b1 i1 b2 i2, T k.num b1 i1 ∧ k.key = hdKey (·.key) i1 ∧ TrKids T ks b2 i2 ∧ bs = b1 ++ b2 ∧ is = i1 ++ i2
/-- A node at level lv over the cells: what lies below it. -/
def TrN (cs : List CC) : Nat → Node → List Int → List Item → Prop
  | 0, n, bs, is => n = ⟨1, is, [], []⟩ ∧ bs = [] ∧ is ≠ []
  | lv + 1, n, bs, is => ∃ ks, n = ⟨2, [], ks, []⟩ ∧ ks ≠ [] ∧ TrKids (fun t b i => ∃ m b', InN cs t m ∧ TrN cs lv m b' i ∧ b = t :: b') ks bs is
def Tr (cs : List CC) (lv : Nat) (t : Int) (b : List Int) (i : List Item) : Prop := ∃ m b', InN cs t m ∧ TrN cs lv m b' i ∧ b = t :: b'
def TrNs (cs : List CC) (lv : Nat) : List Node → List Item → Prop
  | [], is => is = []
  | n :: r, is => ∃ b i1 i2, TrN cs lv n b i1 ∧ TrNs cs lv r i2 ∧ is = i1 ++ i2
theorem trKids_mono {T T' : Int → List Int → List Item → Prop} (h : ∀ t b i, T t b i → T' t b i) : ∀ (ks : List Kid) (bs : List Int) (is : List Item), TrKids T ks bs is → TrKids T' ks bs is
  | [], _, _, hk => hk
  | k :: ks, _, _, ⟨b1, i1, b2, i2, h1, h2, h3, h4, h5⟩ => ⟨b1, i1, b2, i2, h _ _ _ h1, h2, trKids_mono h ks _ _ h3, h4, h5⟩
theorem trN_mono {cs cs' : List CC} (h : ∀ t n, InN cs t n → InN cs' t n) : ∀ (lv : Nat) (n : Node) (bs : List Int) (is : List Item), TrN cs lv n bs is → TrN cs' lv n bs is
  | 0, _, _, _, hk => hk
  | lv + 1, _, _, _, ⟨ks, h1, h2, h3⟩ => ⟨ks, h1, h2, trKids_mono (fun _ _ _ ⟨m, b', k1, k2, k3⟩ => ⟨m, b', h _ _ k1, trN_mono h lv _ _ _ k2, k3⟩) ks _ _ h3⟩
theorem tr_mono {cs cs' : List CC} (h : ∀ t n, InN cs t n → InN cs' t n) {lv : Nat} {t : Int} {b : List Int} {i : List Item} : Tr cs lv t b i → Tr cs' lv t b i
  | ⟨m, b', k1, k2, k3⟩ => ⟨m, b', h _ _ k1, trN_mono h lv _ _ _ k2, k3⟩
theorem trNs_mono {cs cs' : List CC} (h : ∀ t n, InN cs t n → InN cs' t n) {lv : Nat} : ∀ (ns : List Node) (is : List Item), TrNs cs lv ns is → TrNs cs' lv ns is
  | [], _, hk => hk
  | _ :: r, _, ⟨b, i1, i2, h1, h2, h3⟩ => ⟨b, i1, i2, trN_mono h _ _ _ _ h1, trNs_mono h r _ h2, h3⟩
theorem trKids_app {T : Int → List Int → List Item → Prop} : ∀ (a b : List Kid) (bs : List Int) (is : List Item), TrKids T (a ++ b) bs is ↔ ∃ b1 i1 b2 i2, TrKids T a b1 i1 ∧ TrKids T b b2 i2 ∧ bs = b1 ++ b2 ∧ is = i1 ++ i2
  | [], b, bs, is => by
    constructor
    · intro h; exact ⟨[], [], bs, is, ⟨rfl, rfl⟩, h, rfl, rfl⟩
    · rintro ⟨_, _, _, _, ⟨rfl, rfl⟩, h, rfl, rfl⟩; exact h
  | k :: a, b, bs, is => by
    constructor
    · rintro ⟨b1, i1, b2, i2, h1, h2, h3, rfl, rfl⟩
      obtain ⟨c1, j1, c2, j2, k1, k2, rfl, rfl⟩ := (trKids_app a b _ _).1 h3
      exact ⟨b1 ++ c1, i1 ++ j1, c2, j2, ⟨b1, i1, c1, j1, h1, h2, k1, rfl, rfl⟩, k2, by simp, by simp⟩
    · rintro ⟨_, _, c2, j2, ⟨b1, i1, c1, j1, h1, h2, k1, rfl, rfl⟩, k2, rfl, rfl⟩
      exact ⟨b1, i1, c1 ++ c2, j1 ++ j2, h1, h2, (trKids_app a b _ _).2 ⟨_, _, _, _, k1, k2, rfl, rfl⟩, by simp, by simp⟩
theorem trN_ne {cs : List CC} : ∀ (lv : Nat) (n : Node) (bs : List Int) (is : List Item), TrN cs lv n bs is → is ≠ []
  | 0, _, _, _, ⟨_, _, h⟩ => h
  | lv + 1, _, _, _, ⟨ks, _, h2, h3⟩ => by
    match ks, h2, h3 with
    | k :: ks, _, ⟨b1, i1, b2, i2, ⟨m, b', k1, k2, k3⟩, _, _, _, hi⟩ =>
      have := trN_ne lv _ _ _ k2
      intro e
      rw [hi] at e
      exact this (List.append_eq_nil_iff.1 e).1
theorem hdKey_app {i1 i2 : List Item} (h : i1 ≠ []) : hdKey (·.key) (i1 ++ i2) = hdKey (·.key) i1 := by
  obtain ⟨x, r, rfl⟩ := List.exists_cons_of_ne_nil h
  rfl
theorem trN_key {cs : List CC} : ∀ (lv : Nat) (n : Node) (bs : List Int) (is : List Item), TrN cs lv n bs is → keyOf n = hdKey (·.key) is
  | 0, _, _, _, ⟨rfl, _, _⟩ => rfl
  | lv + 1, _, _, _, ⟨ks, rfl, h2, h3⟩ => by
    match ks, h2, h3 with
    | k :: ks, _, ⟨b1, i1, b2, i2, ⟨m, b', k1, k2, k3⟩, hk, _, _, hi⟩ =>
      rw [hi, hdKey_app (trN_ne lv _ _ _ k2), ← hk]
      rfl
/-- A put that answers well keeps the nodes and holds its own. -/
theorem put_in {sz : Int} {cs : List CC} {n : Node} (g : Good sz cs) (hn : nodeErr n = 0) (hw : nodeWf n) (hl : leadsE cs n = 0) (h0 : (putS sz cs n).2.1 = 0) :
    (∀ t m, InN cs t m → InN (putS sz cs n).2.2 t m) ∧ InN (putS sz cs n).2.2 (putS sz cs n).1.num n := by
  rw [putS_kid hn hl] at h0 ⊢
  cases hd : cs[dataIx (cs.map (·.data)) (wholeB n)]? with
  | some c =>
    obtain ⟨hc, hcd⟩ := dataIx_get cs _ c hd
    have hdec := (g.dec c hc).2.1
    refine ⟨fun _ _ h => h, c, hc, rfl, ?_⟩
    rw [hdec, hcd]
    exact (dec_enc n hn hw).2
  | none =>
    rw [hd] at h0
    simp only at h0 ⊢
    by_cases hf : freeNum (ccNums cs) < sz
    · rw [if_neg (by simpa using hf)] at h0 ⊢
      cases ha : (kidNums n).any (fun t => decide (16777216 - (countL (kidNums n) t : Int) < refsOf cs t)) with
      | true => rw [ha, if_pos rfl] at h0; exact absurd h0 (show ¬ (1 : Int) = 0 by decide)
      | false =>
        rw [if_neg Bool.false_ne_true]
        simp only [holds_map]
        have key : ∀ c ∈ insCC (newCC (freeNum (ccNums cs)) n) cs, InN ((insCC (newCC (freeNum (ccNums cs)) n) cs).map fun c => { c with refs := c.refs + countL (kidNums n) c.num, led := c.led + countL (kidNums n) c.num }) c.num c.node :=
          fun c hc => ⟨_, List.mem_map.2 ⟨c, hc, rfl⟩, rfl, rfl⟩
        refine ⟨fun t m ⟨c, hc, h1, h2⟩ => ?_, ?_⟩
        · have := key c (ins_mem.2 (Or.inr hc))
          rw [h1, h2] at this
          exact this
        · exact key _ (ins_mem.2 (Or.inl rfl))
    · rw [if_pos (by simpa using hf)] at h0; exact absurd h0 (show ¬ (8 : Int) = 0 by decide)
theorem putAll_tr {sz : Int} {lv : Nat} : ∀ (ns : List Node) (acc : List Kid) (cs : List CC) (ba : List Int) (ia is : List Item), Good sz cs → (∀ n ∈ ns, nodeErr n = 0 ∧ nodeWf n ∧ ∀ k ∈ namedK n, Has cs k.num k.hash) →
    TrKids (Tr cs lv) acc ba ia → TrNs cs lv ns is → (putAll (putS sz) acc cs ns).2.1 = 0 →
    (∀ t m, InN cs t m → InN (putAll (putS sz) acc cs ns).2.2 t m) ∧ ∃ bs, TrKids (Tr (putAll (putS sz) acc cs ns).2.2 lv) (putAll (putS sz) acc cs ns).1 bs (ia ++ is)
  | [], acc, cs, ba, ia, is, _, _, hk, hns, _ => by
    have hns' : is = [] := hns
    subst hns'
    exact ⟨fun _ _ h => h, ba, by rw [List.append_nil]; exact hk⟩
  | n :: r, acc, cs, ba, ia, is, g, hn, hk, ⟨b, i1, i2, h1, h2, hi⟩, h0 => by
    obtain ⟨e1, e2, e3⟩ := hn n (by simp)
    unfold putAll at h0 ⊢
    have hl := (leads_zero g.ris n).2 e3
    rcases put_good g e1 e2 hl with h8 | ⟨p0, p⟩
    · rw [if_pos (by omega)] at h0
      simp only at h0
      omega
    · rw [if_neg (by omega)] at h0 ⊢
      obtain ⟨hm, hin⟩ := put_in g e1 e2 hl p0
      have hk' : TrKids (Tr (putS sz cs n).2.2 lv) (acc ++ [{ (putS sz cs n).1 with key := keyOf n }]) (ba ++ ((putS sz cs n).1.num :: b)) (ia ++ i1) := by
        refine (trKids_app _ _ _ _).2 ⟨ba, ia, _, i1, trKids_mono (fun _ _ _ h => tr_mono hm h) _ _ _ hk, ⟨_, i1, [], [], ⟨n, b, hin, trN_mono hm _ _ _ _ h1, rfl⟩, trN_key lv n b i1 h1, ⟨rfl, rfl⟩, (List.append_nil _).symm, (List.append_nil _).symm⟩, rfl, rfl⟩
      obtain ⟨m2, bs, hb⟩ := putAll_tr r _ _ _ _ i2 p.good (fun n' hn' => ⟨(hn n' (by simp [hn'])).1, (hn n' (by simp [hn'])).2.1, fun k hk => p.mono _ _ ((hn n' (by simp [hn'])).2.2 k hk)⟩) hk' (trNs_mono hm r i2 h2) h0
      exact ⟨fun t m h => m2 t m (hm t m h), bs, by rw [hi, ← List.append_assoc]; exact hb⟩
theorem chunks_tr {cs : List CC} {lv : Nat} : ∀ (L : List (List Kid)) (bs : List Int) (is : List Item), (∀ c ∈ L, c ≠ []) → TrKids (Tr cs lv) L.flatten bs is → TrNs cs (lv + 1) (L.map fun c => ⟨2, [], c, []⟩) is
  | [], _, _, _, h => h.2
  | c :: L, bs, is, hne, h => by
    rw [List.flatten_cons] at h
    obtain ⟨b1, i1, b2, i2, h1, h2, _, hi⟩ := (trKids_app _ _ _ _).1 h
    exact ⟨b1, i1, i2, ⟨c, rfl, hne c (by simp), h1⟩, chunks_tr L b2 i2 (fun c' hc' => hne c' (by simp [hc'])) h2, hi⟩
theorem branches_tr {cs : List CC} {lv : Nat} (d : Int) (ks : List Kid) (bs : List Int) (is : List Item) (hne : ks ≠ []) (h : TrKids (Tr cs lv) ks bs is) : TrNs cs (lv + 1) (branchesL d ks) is := by
  refine chunks_tr _ bs is (level_ne ks [] 2 hne) ?_
  rw [level_flat, List.nil_append]
  exact h
theorem leaves_tr {cs : List CC} (l : List Item) (hne : l ≠ []) : TrNs cs 0 (leavesL l) l := by
  have key : ∀ (L : List (List Item)), (∀ c ∈ L, c ≠ []) → TrNs cs 0 (L.map fun c => ⟨1, c, [], []⟩) L.flatten := by
    intro L
    induction L with
    | nil => intro _; rfl
    | cons c L ih => intro h; exact ⟨[], c, L.flatten, ⟨rfl, rfl, h c (by simp)⟩, ih (fun c' hc' => h c' (by simp [hc'])), by simp⟩
  have := key _ (level_ne (sz := itemSz) (last := fun x m => lastB x.key 0 m) l [] 2 hne)
  rw [level_flat, List.nil_append] at this
  exact this
/-- The tree that raise makes. -/
theorem raise_tr {sz : Int} : ∀ (f : Nat) (d : Int) (cs : List CC) (ns : List Node) (lv : Nat) (is : List Item), Good sz cs → NodesOk cs ns → ns ≠ [] → ns.length ≤ f → TrNs cs lv ns is → (raiseGo (putS sz) f d cs ns).2.1 = 0 →
    ∃ lv' bs, Tr (raiseGo (putS sz) f d cs ns).2.2 lv' (raiseGo (putS sz) f d cs ns).1.num bs is
  | 0, d, cs, ns, lv, is, _, _, hne, hf, _, _ => absurd (List.length_eq_zero_iff.1 (by omega)) hne
  | f + 1, d, cs, ns, lv, is, g, hn, hne, hf, ht, h0 => by
    unfold raiseGo at h0 ⊢
    rcases putAll_good (sz := sz) ns [] cs g hn.ok (fun k hk => by simp at hk) with h8 | ⟨p0, h1, h2, h3, h4, h5⟩
    · rw [if_pos (by omega)] at h0; simp only at h0; omega
    · rw [if_neg (by omega)] at h0 ⊢
      obtain ⟨_, bs, hb⟩ := putAll_tr (lv := lv) ns [] cs [] [] is g hn.ok ⟨rfl, rfl⟩ ht p0
      rw [List.nil_append] at hb
      simp only [List.map_nil, List.nil_append] at h3
      have hkl : (putAll (putS sz) [] cs ns).1.length = ns.length := by have := congrArg List.length h3; simpa using this
      have hkk : KeysOk ((putAll (putS sz) [] cs ns).1.map (·.key)) := by rw [h3]; exact hn.keys
      generalize (putAll (putS sz) [] cs ns).1 = ks at *
      generalize (putAll (putS sz) [] cs ns).2.2 = cs1 at *
      match ks with
      | [] => exact absurd (List.length_eq_zero_iff.1 (by simpa using hkl.symm)) hne
      | [k] =>
        obtain ⟨b1, i1, b2, i2, t1, _, ⟨rfl, rfl⟩, _, hi⟩ := hb
        rw [List.append_nil] at hi
        subst hi
        exact ⟨lv, b1, t1⟩
      | k1 :: k2 :: kr =>
        have hbr := branches_len d (k1 :: k2 :: kr) (fun x hx => (hkk.1 x.key (List.mem_map.2 ⟨x, hx, rfl⟩)).1) (by simp)
        exact raise_tr f ((d + 1) % 256) cs1 (branchesL d (k1 :: k2 :: kr)) (lv + 1) is h1 (branches_ok g.hi d _ hkk (by simp) cs1 h2) hbr.2 (by simp at hbr hkl ⊢; omega) (branches_tr d _ bs is (by simp) hb) h0
end Go.Proofs.YthhmcjojnbaiiaaGreatDoor

/- Plain: what is built is read as it was; the reading. -/
namespace Go.Proofs.YthhmcjojnbaiiaaGreatDoor
open Go Go.RowKit
theorem pos_in : ∀ (cs : List CC) (c : CC), (ccNums cs).Pairwise (· < ·) → c ∈ cs → cs[numPos (ccNums cs) c.num]? = some c
  | [], c, _, h => absurd h (by simp)
  | x :: cs, c, hp, h => by
    have hp' : (x.num :: ccNums cs).Pairwise (· < ·) := hp
    rw [List.pairwise_cons] at hp'
    rcases List.mem_cons.1 h with rfl | h
    · have : numPos (ccNums (c :: cs)) c.num = 0 := by simp [numPos, posOf, ccNums]
      rw [this]; rfl
    · have hx : x.num < c.num := hp'.1 c.num (List.mem_map.2 ⟨c, h, rfl⟩)
      have : numPos (ccNums (x :: cs)) c.num = numPos (ccNums cs) c.num + 1 := by simp [numPos, posOf, ccNums, hx]
      rw [this, List.getElem?_cons_succ]
      exact pos_in cs c hp'.2 h
theorem at_in {sz : Int} {cs : List CC} (g : Good sz cs) {t : Int} {n : Node} (h : InN cs t n) : nodeAt (cs.map celOf) t = (n, true) := by
  obtain ⟨c, hc, rfl, rfl⟩ := h
  have hp := pos_in cs c g.ris hc
  have hnums : (cs.map celOf).map (·.num) = ccNums cs := by rw [List.map_map]; rfl
  have hget : (ccNums cs)[numPos (ccNums cs) c.num]? = some c.num := by
    show (cs.map (·.num))[_]? = _
    rw [List.getElem?_map, hp]; rfl
  have hh : numHas (ccNums cs) c.num = true := by
    simp [numHas, hasAt, hget]
  have hc2 : (cs.map celOf)[numPos (ccNums cs) c.num]? = some (celOf c) := by rw [List.getElem?_map, hp]; rfl
  unfold nodeAt celAt
  rw [hnums, hh, if_pos rfl, hc2]
  obtain ⟨h1, h2, _⟩ := g.dec c hc
  show (decN c.data, decB c.data) = _
  rw [h1, ← h2]
theorem keyAt_app {a b : List Item} (h : b ≠ []) : keyAt (a ++ b) a.length = hdKey (·.key) b := by
  obtain ⟨x, r, rfl⟩ := List.exists_cons_of_ne_nil h
  simp [keyAt, hdKey]
theorem kids_read {f : Int → RdS → Nat × RdS} {T : Int → List Int → List Item → Prop} {lv : Nat} (hT : ∀ t b i, T t b i → i ≠ [] ∧ ∀ r : RdS, r.bad = false → f t r = (lv, ⟨r.blocks ++ b, r.items ++ i, false⟩)) :
    ∀ (ks : List Kid) (bs : List Int) (is : List Item) (j lv0 : Nat) (r : RdS), TrKids T ks bs is → r.bad = false → (0 < j → lv0 = lv) → downKids f ks j lv0 r = ((if ks = [] then lv0 else lv) + 1, ⟨r.blocks ++ bs, r.items ++ is, false⟩)
  | [], bs, is, j, lv0, r, h, hb, _ => by
    obtain ⟨rfl, rfl⟩ := h
    obtain ⟨b, i, bad⟩ := r
    simp only at hb
    subst hb
    simp [downKids]
  | k :: ks, bs, is, j, lv0, r, ⟨b1, i1, b2, i2, h1, h2, h3, h4, h5⟩, hb, hj => by
    obtain ⟨hne, hf⟩ := hT _ _ _ h1
    have hf1 := hf r hb
    unfold downKids
    have hbad : kidBad k r.items.length j lv0 (f k.num r) = false := by
      unfold kidBad
      rw [hf1]
      simp only [keyAt_app hne, ← h2, Bool.false_or]
      have : beqB k.key k.key = true := (beqB_iff _ _).2 rfl
      rw [this]
      by_cases h0 : 0 < j
      · simp [hj h0]
      · simp [h0]
    rw [hbad, if_neg Bool.false_ne_true, hf1, kids_read hT ks b2 i2 (j + 1) lv _ h3 rfl (fun _ => rfl)]
    rw [h4, h5]
    simp
theorem tr_read {sz : Int} {cs : List CC} (g : Good sz cs) : ∀ (lv : Nat) (t : Int) (b : List Int) (i : List Item), Tr cs lv t b i → ∀ (m : Nat) (r : RdS), lv < m → r.bad = false → downS (cs.map celOf) m t r = (lv + 1, ⟨r.blocks ++ b, r.items ++ i, false⟩)
  | 0, t, b, i, h, m, r, hm, hb => by
    obtain ⟨n, b', hin, ⟨rfl, rfl, hne⟩, rfl⟩ := h
    obtain ⟨m, rfl⟩ : ∃ q, m = q + 1 := ⟨m - 1, by omega⟩
    unfold downS
    rw [at_in g hin, if_neg (by simp), if_pos rfl, hb]
  | lv + 1, t, b, i, h, m, r, hm, hb => by
    obtain ⟨n, b', hin, ⟨ks, rfl, hne, hk⟩, rfl⟩ := h
    obtain ⟨m, rfl⟩ : ∃ q, m = q + 1 := ⟨m - 1, by omega⟩
    unfold downS
    rw [at_in g hin, if_neg (by simp), if_neg (by simp)]
    show downKids (downS (cs.map celOf) m) ks 0 0 { r with blocks := r.blocks ++ [t] } = _
    refine (kids_read (f := downS (cs.map celOf) m) (T := fun t b i => ∃ m b', InN cs t m ∧ TrN cs lv m b' i ∧ b = t :: b') (lv := lv + 1) ?_ ks b' i 0 0 { r with blocks := r.blocks ++ [t] } hk hb (fun h => absurd h (Nat.lt_irrefl 0))).trans ?_
    · intro t b i h
      obtain ⟨n, b', k1, k2, k3⟩ := h
      exact ⟨trN_ne lv _ _ _ k2, fun r hr => tr_read g lv t b i ⟨n, b', k1, k2, k3⟩ m r (by omega) hr⟩
    · rw [if_neg hne]; simp
end Go.Proofs.YthhmcjojnbaiiaaGreatDoor

/- Plain: what is built is read as it was; its blocks are all different. -/
namespace Go.Proofs.YthhmcjojnbaiiaaGreatDoor
open Go Go.RowKit
theorem nodup_le {α : Type} [BEq α] [LawfulBEq α] : ∀ (b ns : List α), b.Nodup → (∀ x ∈ b, x ∈ ns) → b.length ≤ ns.length
  | [], _, _, _ => Nat.zero_le _
  | x :: b, ns, hd, hs => by
    rw [List.nodup_cons] at hd
    have hx := hs x (by simp)
    have := nodup_le b (ns.erase x) hd.2 (fun y hy => by
      have hne : y ≠ x := fun e => hd.1 (e ▸ hy)
      exact (List.mem_erase_of_ne hne).2 (hs y (by simp [hy])))
    rw [List.length_erase_of_mem hx] at this
    have hpos := List.length_pos_of_mem hx
    simp only [List.length_cons]
    omega
theorem inN_uniq {sz : Int} {cs : List CC} (g : Good sz cs) {t : Int} {n m : Node} (h1 : InN cs t n) (h2 : InN cs t m) : n = m := by
  have := (at_in g h1).symm.trans (at_in g h2)
  exact (Prod.mk.inj this).1
theorem kids_fun {T T' : Int → List Int → List Item → Prop} {p : Prop} (h : ∀ t b i b' i', T t b i → T' t b' i' → p ∧ b = b' ∧ i = i') : ∀ (ks : List Kid) (bs bs' : List Int) (is is' : List Item), ks ≠ [] → TrKids T ks bs is → TrKids T' ks bs' is' → p ∧ bs = bs' ∧ is = is'
  | [k], _, _, _, _, _, ⟨b1, i1, b2, i2, h1, _, h3, h4, h5⟩, ⟨c1, j1, c2, j2, k1, _, k3, k4, k5⟩ => by
    obtain ⟨hp, rfl, rfl⟩ := h _ _ _ _ _ h1 k1
    exact ⟨hp, by rw [h4, k4, h3.1, k3.1], by rw [h5, k5, h3.2, k3.2]⟩
  | k :: k' :: ks, _, _, _, _, _, ⟨b1, i1, b2, i2, h1, _, h3, h4, h5⟩, ⟨c1, j1, c2, j2, k1, _, k3, k4, k5⟩ => by
    obtain ⟨hp, rfl, rfl⟩ := h _ _ _ _ _ h1 k1
    obtain ⟨_, rfl, rfl⟩ := kids_fun h (k' :: ks) _ _ _ _ (by simp) h3 k3
    exact ⟨hp, h4.trans k4.symm, h5.trans k5.symm⟩
theorem trN_fun {sz : Int} {cs : List CC} (g : Good sz cs) : ∀ (lv lv' : Nat) (n : Node) (b b' : List Int) (i i' : List Item), TrN cs lv n b i → TrN cs lv' n b' i' → lv = lv' ∧ b = b' ∧ i = i'
  | 0, 0, n, b, b', i, i', ⟨h1, h2, _⟩, ⟨k1, k2, _⟩ => by
    have := h1.symm.trans k1
    simp only [Node.mk.injEq, and_true, true_and] at this
    exact ⟨rfl, h2.trans k2.symm, this⟩
  | 0, lv' + 1, n, b, b', i, i', ⟨h1, _, _⟩, ⟨ks, k1, _, _⟩ => by
    have := h1.symm.trans k1
    simp at this
  | lv + 1, 0, n, b, b', i, i', ⟨ks, h1, _, _⟩, ⟨k1, _, _⟩ => by
    have := h1.symm.trans k1
    simp at this
  | lv + 1, lv' + 1, n, b, b', i, i', ⟨ks, h1, h2, h3⟩, ⟨ks', k1, _, k3⟩ => by
    have e := h1.symm.trans k1
    simp only [Node.mk.injEq, and_true, true_and] at e
    subst e
    obtain ⟨hp, e1, e2⟩ := kids_fun (p := lv = lv') (fun t b i b' i' ⟨m, c, a1, a2, a3⟩ ⟨m', c', d1, d2, d3⟩ => by
      have := inN_uniq g a1 d1
      subst this
      obtain ⟨q1, q2, q3⟩ := trN_fun g lv lv' m c c' i i' a2 d2
      exact ⟨q1, by rw [a3, d3, q2], q3⟩) ks _ _ _ _ h2 h3 k3
    exact ⟨by omega, e1, e2⟩
theorem tr_fun {sz : Int} {cs : List CC} (g : Good sz cs) {lv lv' : Nat} {t : Int} {b b' : List Int} {i i' : List Item} (h : Tr cs lv t b i) (k : Tr cs lv' t b' i') : lv = lv' ∧ b = b' ∧ i = i' := by
  obtain ⟨m, c, a1, a2, a3⟩ := h
  obtain ⟨m', c', d1, d2, d3⟩ := k
  have := inN_uniq g a1 d1
  subst this
  obtain ⟨q1, q2, q3⟩ := trN_fun g lv lv' m c c' i i' a2 d2
  exact ⟨q1, by rw [a3, d3, q2], q3⟩
theorem kids_sub {T : Int → List Int → List Item → Prop} : ∀ (ks : List Kid) (bs : List Int) (is : List Item) (x : Int), TrKids T ks bs is → x ∈ bs → ∃ t b i, T t b i ∧ x ∈ b ∧ i.Sublist is
  | [], _, _, _, ⟨h, _⟩, hx => by rw [h] at hx; simp at hx
  | k :: ks, bs, is, x, ⟨b1, i1, b2, i2, h1, _, h3, h4, h5⟩, hx => by
    rw [h4] at hx
    rcases List.mem_append.1 hx with hx | hx
    · exact ⟨_, _, _, h1, hx, by rw [h5]; exact List.sublist_append_left _ _⟩
    · obtain ⟨t, b, i, k1, k2, k3⟩ := kids_sub ks b2 i2 x h3 hx
      exact ⟨t, b, i, k1, k2, by rw [h5]; exact k3.trans (List.sublist_append_right _ _)⟩
theorem trN_sub {cs : List CC} : ∀ (lv : Nat) (n : Node) (bs : List Int) (is : List Item) (x : Int), TrN cs lv n bs is → x ∈ bs → ∃ lv' b i, lv' < lv ∧ Tr cs lv' x b i ∧ i.Sublist is ∧ i ≠ []
  | 0, _, _, _, _, ⟨_, h, _⟩, hx => by rw [h] at hx; simp at hx
  | lv + 1, n, bs, is, x, ⟨ks, _, _, h3⟩, hx => by
    obtain ⟨t, b, i, ⟨m, b', k1, k2, k3⟩, hxb, hs⟩ := kids_sub ks bs is x h3 hx
    rw [k3] at hxb
    rcases List.mem_cons.1 hxb with rfl | hxb
    · exact ⟨lv, b, i, by omega, ⟨m, b', k1, k2, k3⟩, hs, trN_ne _ _ _ _ k2⟩
    · obtain ⟨lv', c, j, q1, q2, q3, q4⟩ := trN_sub lv m b' i x k2 hxb
      exact ⟨lv', c, j, by omega, q2, q3.trans hs, q4⟩
theorem tr_sub {cs : List CC} {lv : Nat} {t : Int} {b : List Int} {i : List Item} (h : Tr cs lv t b i) (x : Int) (hx : x ∈ b) : ∃ lv' b' i', lv' ≤ lv ∧ Tr cs lv' x b' i' ∧ i'.Sublist i ∧ i' ≠ [] := by
  obtain ⟨m, b', k1, k2, k3⟩ := h
  rw [k3] at hx
  rcases List.mem_cons.1 hx with rfl | hx
  · exact ⟨lv, b, i, Nat.le_refl _, ⟨m, b', k1, k2, k3⟩, List.Sublist.refl _, trN_ne _ _ _ _ k2⟩
  · obtain ⟨lv', c, j, q1, q2, q3, q4⟩ := trN_sub lv m b' i x k2 hx
    exact ⟨lv', c, j, by omega, q2, q3, q4⟩
theorem kids_nodup {T : Int → List Int → List Item → Prop} {S : Int → List Item → Prop} (hu : ∀ x i i', S x i → S x i' → i = i') (hT : ∀ t b i, T t b i → (i.Nodup → b.Nodup) ∧ ∀ x ∈ b, ∃ i', S x i' ∧ i'.Sublist i ∧ i' ≠ []) :
    ∀ (ks : List Kid) (bs : List Int) (is : List Item), TrKids T ks bs is → is.Nodup → bs.Nodup
  | [], _, _, ⟨h, _⟩, _ => by rw [h]; exact List.nodup_nil
  | k :: ks, bs, is, ⟨b1, i1, b2, i2, h1, _, h3, h4, h5⟩, hd => by
    rw [h5, List.nodup_append] at hd
    obtain ⟨d1, d2, d3⟩ := hd
    have n1 := (hT _ _ _ h1).1 d1
    have n2 := kids_nodup hu hT ks b2 i2 h3 d2
    rw [h4, List.nodup_append]
    refine ⟨n1, n2, fun x hx y hy e => ?_⟩
    subst e
    obtain ⟨j, s1, s2, s3⟩ := (hT _ _ _ h1).2 x hx
    obtain ⟨t, b, i, k1, k2, k3⟩ := kids_sub ks b2 i2 x h3 hy
    obtain ⟨j', s1', s2', _⟩ := (hT _ _ _ k1).2 x k2
    have := hu x j j' s1 s1'
    subst this
    obtain ⟨z, r, rfl⟩ := List.exists_cons_of_ne_nil s3
    exact d3 z (s2.subset (by simp)) z (k3.subset (s2'.subset (by simp))) rfl
theorem trN_nodup {sz : Int} {cs : List CC} (g : Good sz cs) : ∀ (lv : Nat) (n : Node) (bs : List Int) (is : List Item), TrN cs lv n bs is → is.Nodup → bs.Nodup
  | 0, _, _, _, ⟨_, h, _⟩, _ => by rw [h]; exact List.nodup_nil
  | lv + 1, n, bs, is, ⟨ks, _, _, h3⟩, hd => by
    refine kids_nodup (S := fun x i => ∃ lv' b, Tr cs lv' x b i) (fun x i i' ⟨_, _, a⟩ ⟨_, _, a'⟩ => (tr_fun g a a').2.2) ?_ ks bs is h3 hd
    rintro t b i ⟨m, b', k1, k2, k3⟩
    refine ⟨fun hi => ?_, fun x hx => ?_⟩
    · rw [k3, List.nodup_cons]
      refine ⟨fun hx => ?_, trN_nodup g lv m b' i k2 hi⟩
      obtain ⟨lv', c, j, q1, q2, _, _⟩ := trN_sub lv m b' i t k2 hx
      have := (tr_fun g q2 ⟨m, b', k1, k2, k3⟩).1
      omega
    · obtain ⟨lv', c, j, _, q2, q3, q4⟩ := tr_sub ⟨m, b', k1, k2, k3⟩ x hx
      exact ⟨j, ⟨lv', c, q2⟩, q3, q4⟩
theorem tr_nodup {sz : Int} {cs : List CC} (g : Good sz cs) {lv : Nat} {t : Int} {b : List Int} {i : List Item} (h : Tr cs lv t b i) (hi : i.Nodup) : b.Nodup := by
  obtain ⟨m, b', k1, k2, k3⟩ := h
  rw [k3, List.nodup_cons]
  refine ⟨fun hx => ?_, trN_nodup g lv m b' i k2 hi⟩
  obtain ⟨lv', c, j, q1, q2, _, _⟩ := trN_sub lv m b' i t k2 hx
  have := (tr_fun g q2 ⟨m, b', k1, k2, k3⟩).1
  omega
theorem trN_len {cs : List CC} : ∀ (lv : Nat) (n : Node) (bs : List Int) (is : List Item), TrN cs lv n bs is → lv ≤ bs.length
  | 0, _, _, _, _ => Nat.zero_le _
  | lv + 1, n, bs, is, ⟨ks, _, h2, h3⟩ => by
    match ks, h2, h3 with
    | k :: ks, _, ⟨b1, i1, b2, i2, ⟨m, b', k1, k2, k3⟩, _, _, h4, _⟩ =>
      have := trN_len lv _ _ _ k2
      rw [h4, k3]
      simp; omega
theorem tr_mem {cs : List CC} {lv : Nat} {t : Int} {b : List Int} {i : List Item} (h : Tr cs lv t b i) : ∀ x ∈ b, x ∈ ccNums cs := by
  intro x hx
  obtain ⟨_, _, _, _, ⟨m, _, ⟨c, hc, h1, _⟩, _, _⟩, _, _⟩ := tr_sub h x hx
  exact List.mem_map.2 ⟨c, hc, h1⟩
/-- The walk down from the root has room: as many cells as levels, and each block once. -/
theorem tr_room {sz : Int} {cs : List CC} (g : Good sz cs) {lv : Nat} {t : Int} {b : List Int} {i : List Item} (h : Tr cs lv t b i) (hi : i.Nodup) : lv < b.length ∧ b.length ≤ cs.length := by
  have h1 := nodup_le b (ccNums cs) (tr_nodup g h hi) (tr_mem h)
  have h2 : (ccNums cs).length = cs.length := by simp [ccNums]
  obtain ⟨m, b', k1, k2, k3⟩ := h
  have := trN_len lv _ _ _ k2
  refine ⟨by rw [k3]; simp; omega, by omega⟩
end Go.Proofs.YthhmcjojnbaiiaaGreatDoor

/- Plain: what is built is read as it was; the whole. -/
namespace Go.Proofs.YthhmcjojnbaiiaaGreatDoor
open Go Go.RowKit
theorem items_nodup {l : List Item} (h : itemsOk l = true) : l.Nodup := by
  have hp := ((items_iff l).1 h).1.2
  rw [List.pairwise_map] at hp
  refine hp.imp ?_
  rintro a b hab rfl
  rw [bl_irrefl] at hab
  cases hab
theorem read_zero {h : Hp} (ho : openB h = true) : (readS h 0).2.items = [] ∧ (readS h 0).2.blocks = [] := by
  have g := good_open h ho
  have hn : (nodeAt h.cells 0).2 = false := by
    have hnums : h.cells.map (·.num) = ccNums (opened h) := by rw [opened_map]; simp [ccNums, cc1]
    unfold nodeAt celAt
    rw [hnums]
    have : numHas (ccNums (opened h)) 0 = false := by
      unfold numHas hasAt
      cases hx : (ccNums (opened h))[numPos (ccNums (opened h)) 0]? with
      | none => rfl
      | some x =>
        have hm := List.mem_of_getElem? hx
        obtain ⟨c, hc, rfl⟩ := List.mem_map.1 hm
        have := (g.dec c hc).2.2.2.1
        simp; omega
    rw [this, if_neg Bool.false_ne_true]
  unfold readS
  cases h.cells.length with
  | zero => exact ⟨rfl, rfl⟩
  | succ m =>
    unfold downS
    rw [if_pos (Or.inl hn)]
    exact ⟨rfl, rfl⟩
/-- What is said of a heap and a root that Build has answered well. -/
structure BuiltOk (g : Hp) (t : Int) (l : List Item) : Prop where
  op : openB g = true
  ok : itemsOk l = true
  all : allS g t = l
  err : topenE g t = 0
  read : ReadOk 1073741824 g t
theorem build_read (h : Hp) (l : List Item) (hml : l.length ≤ 1073741824) (h0 : (buildS h l).2.2 = 0) : BuiltOk (buildS h l).1 (buildS h l).2.1.num l := by
  unfold buildS at h0 ⊢
  cases ho : openB h with
  | false => rw [ho, if_pos rfl] at h0; exact absurd h0 (show ¬ (7 : Int) = 0 by decide)
  | true =>
    rw [ho] at h0
    rw [if_neg (by simp)] at h0 ⊢
    cases hi : itemsOk l with
    | false => rw [hi, if_pos rfl] at h0; exact absurd h0 (show ¬ (4 : Int) = 0 by decide)
    | true =>
      rw [hi] at h0
      rw [if_neg (by simp)] at h0 ⊢
      by_cases hl : l = []
      · subst hl
        rw [if_pos rfl]
        have hz := read_zero ho
        have he : topenE h 0 = 0 := by unfold topenE; rw [if_neg (by rw [ho]; simp), if_pos rfl]
        refine ⟨ho, rfl, ?_, he, ⟨by show (readS h 0).2.items.length ≤ _; rw [hz.1]; simp, by show (readS h 0).2.blocks.length ≤ _; rw [hz.2]; simp, by show (topenK h 0).length ≤ _; simp [topenK], by show (topenK h 0).Nodup; simp [topenK], by show ∀ x ∈ topenK h 0, _; simp [topenK], fun hne => absurd rfl hne⟩⟩
        show allS h 0 = []
        unfold allS
        rw [if_pos he]
        rfl
      · rw [if_neg hl] at h0 ⊢
        by_cases hr : (raiseS (putS h.size) (opened h) l).2.1 ≠ 0
        · rw [if_pos hr] at h0; exact absurd h0 hr
        · rw [if_neg hr]
          have hr0 : (raiseS (putS h.size) (opened h) l).2.1 = 0 := by simpa using hr
          have g := good_open h ho
          have gr := raise_good ho hi hl hr0
          obtain ⟨l1, l2, l3, l4⟩ := leaves_ok l hi hl (opened h)
          obtain ⟨lv, bs, ht⟩ := raise_tr (sz := h.size) (l.length + 1) 1 (opened h) (leavesL l) 0 l g l1 l3 (by omega) (leaves_tr l hl) hr0
          have hnd := items_nodup hi
          have hroom := tr_room gr ht hnd
          have hread := tr_read gr lv _ _ _ ht (raiseS (putS h.size) (opened h) l).2.2.length ⟨[], [], false⟩ (Nat.lt_of_lt_of_le hroom.1 hroom.2) rfl
          have hmem := tr_mem ht
          have hnod := tr_nodup gr ht hnd
          change Tr (raiseS (putS h.size) (opened h) l).2.2 lv (raiseS (putS h.size) (opened h) l).1.num bs l at ht
          change downS _ _ (raiseS (putS h.size) (opened h) l).1.num _ = _ at hread
          change ∀ x ∈ bs, x ∈ ccNums (raiseS (putS h.size) (opened h) l).2.2 at hmem
          change lv < bs.length ∧ bs.length ≤ (raiseS (putS h.size) (opened h) l).2.2.length at hroom
          generalize (raiseS (putS h.size) (opened h) l).2.2 = cs at *
          generalize (raiseS (putS h.size) (opened h) l).1 = k at *
          obtain ⟨ho1, ho2⟩ := open_good gr
          have hlen := good_len gr
          have hsz := gr.hi
          simp only [List.nil_append] at hread
          have hrs : readS (heapOf h.size cs) k.num = (lv + 1, ⟨bs, l, false⟩) := by
            unfold readS heapOf
            rw [List.length_map]
            exact hread
          have hkn : InN cs k.num (nodeAt (cs.map celOf) k.num).1 ∧ (nodeAt (cs.map celOf) k.num).2 = true ∧ k.num ∈ bs := by
            obtain ⟨m, b', k1, k2, k3⟩ := ht
            rw [at_in gr k1]
            exact ⟨k1, rfl, by rw [k3]; simp⟩
          have hk2 : 2 ≤ k.num := by
            obtain ⟨c, hc, h1⟩ := List.mem_map.1 (hmem _ hkn.2.2)
            have := (gr.dec c hc).2.2.2.1
            omega
          have hk0 : k.num ≠ 0 := by omega
          have he : topenE (heapOf h.size cs) k.num = 0 := by
            unfold topenE
            rw [if_neg (by rw [ho2]; simp), if_neg hk0, if_neg (by show ¬ (nodeAt (cs.map celOf) k.num).2 = false; rw [hkn.2.1]; simp), hrs]
            rw [if_neg (by simp [hi])]
          have hK : topenK (heapOf h.size cs) k.num = bs := by unfold topenK; rw [if_neg hk0, hrs]
          refine ⟨ho2, hi, ?_, he, ⟨?_, ?_, ?_, ?_, ?_, ?_⟩⟩
          · unfold allS topenI
            show (if topenE (heapOf h.size cs) k.num = 0 then _ else _) = l
            rw [if_pos he, if_neg hk0, hrs]
          · show (readS (heapOf h.size cs) k.num).2.items.length ≤ _; rw [hrs]; exact hml
          · show (readS (heapOf h.size cs) k.num).2.blocks.length ≤ _; rw [hrs]; simp only; omega
          · show (topenK (heapOf h.size cs) k.num).length ≤ _; rw [hK]; omega
          · show (topenK (heapOf h.size cs) k.num).Nodup; rw [hK]; exact hnod
          · show ∀ x ∈ topenK (heapOf h.size cs) k.num, _
            rw [hK]
            intro x hx
            obtain ⟨c, hc, h1⟩ := List.mem_map.1 (hmem x hx)
            have h2 := gr.dec c hc
            unfold u32Ok
            omega
          · intro _ _ _
            show (readS (heapOf h.size cs) k.num).2.blocks ≠ []
            rw [hrs]
            intro e
            have e' : bs = [] := e
            rw [e'] at hkn
            simp at hkn
end Go.Proofs.YthhmcjojnbaiiaaGreatDoor

/- cambiumref04.Check of a right list. -/
namespace Go.Proofs.YthhmcjojnbaiiaaGreatDoor
open Go Go.RowKit
set_option maxRecDepth 100000 in
theorem refKey_ok (w : World) (k : ByteArray) (h1 : k.toList.isEmpty = false) (h2 : k.size ≤ 48) : Calls Tryz.prog 58 #[.string k] w fun e w' => e = .returned (.bool true) ∧ w' = w := by
  go_enter Tryz.func58, Tryz.ntmps58
  go_wp2
  go_ret
  exact ⟨by simp; omega, rfl⟩
set_option maxRecDepth 100000 in
set_option maxHeartbeats 1000000 in
theorem refCheck_ok (w : World) (v : Value) (xs : List Item) (hv : Sl itemE w v xs) (hi : itemsOk xs = true) :
    Calls Tryz.prog 38 #[v] w fun e w' => e = .returned (.int .i64 0) ∧ Below w.heap.size w w' := by
  obtain ⟨A, c, rfl, hc, hc2, hrow⟩ := hv
  have HR := Lib.hid hrow
  have HI := Lib.hid ((itemsOk_iff xs).1 hi)
  clear hrow hi
  go_enter Tryz.func38, Tryz.ntmps38
  go_wp2
  go_loopw [3, 4, 7, 8, 9, 10, 11, 12, 13, 14, 15, 16, 17, 18, 19, 20, 21, 22, 23, 24, 25, 26, 27, 28, 29, 30, 31, 32, 33, 34, 35, 36] (fun _ _ i _ _ _ _ _ _ _ _ _ _ _ _ _ _ _ _ _ _ _ _ _ _ _ _ _ _ _ _ _ wr => ∃ k : Nat, k ≤ xs.length ∧ i = .int .i64 k ∧ Below w.heap.size w wr) (fun _ _ i _ _ _ _ _ _ _ _ _ _ _ _ _ _ _ _ _ _ _ _ _ _ _ _ _ _ _ _ _ _ => xs.length - (intOf i).toNat)
  case atStart => exact ⟨0, Nat.zero_le _, rfl, Below.refl _ _⟩
  case round =>
    obtain ⟨k, hk, rfl, hB⟩ := hrel
    have HB := Lib.hid hB
    by_cases hlt : k < xs.length
    · obtain ⟨b, o, rfl, hat, hwf⟩ := HR.out k hlt
      have hb : b < w.heap.size := hat.lt (by simp [itemE])
      obtain ⟨d0, d1⟩ := (hat.below hB (Nat.le_refl _)).pair
      have hbr : b < wr.heap.size := Nat.lt_of_lt_of_le hb hB.size
      have hok := HI.out k hlt hlt
      have hr := hok.1
      simp only [rightB, Bool.and_eq_true, decide_eq_true_eq, Bool.not_eq_true'] at hr
      by_cases hk0 : k = 0
      · clear hB hat hwf hok
        generalize xs[k].key = kk at *
        generalize xs[k].val = kv at *
        obtain ⟨r1, r2, r3⟩ := hr
        have hg0 : decide (0 < (k : Int)) = false := by simp; omega
        have hg1 : decide (0 < k) = false := by simp; omega
        have hv160 : decide ((160 : Int) < (kv.size : Int)) = false := by simp; omega
        have hv161 : decide (160 < kv.size) = false := by simp; omega
        have HR3 := Lib.hid r3
        clear r3
        have HK0 := Lib.hid (And.intro r1 r2)
        clear r1 r2 hk0
        simp only [itemE] at d0 d1
        go_wp2
        go_quiet ((go_at_call 58; exact Calls.quiet_of_same (refKey_ok _ _ HK0.out.1 HK0.out.2)))
        go_wp2
        go_roundw
        case rel => exact ⟨k + 1, by omega, by go_num, Below.drewN' (HB.out.alloc HB.out.size _) _⟩
        case measure => simp [intOf]; omega
      · obtain ⟨_, _, e, hatp, hwfp⟩ := HR.out (k - 1) (by omega)
        injection e with e; injection e with e1 e2 _
        subst e1 e2
        obtain ⟨p0, _⟩ := (hatp.below hB (Nat.le_refl _)).pair
        have hbl := hok.2 (by omega) (by omega)
        clear hB hat hatp hwf hwfp hok
        generalize xs[k - 1].key = pk at *
        generalize xs[k].key = kk at *
        generalize xs[k].val = kv at *
        obtain ⟨r1, r2, r3⟩ := hr
        have hg0 : decide (0 < (k : Int)) = true := by simp; omega
        have hg1 : decide (0 < k) = true := by simp; omega
        have hk1 : 0 ≤ (k : Int) - 1 := by omega
        have hv160 : decide ((160 : Int) < (kv.size : Int)) = false := by simp; omega
        have hv161 : decide (160 < kv.size) = false := by simp; omega
        have HR3 := Lib.hid r3
        clear r3
        have HK0 := Lib.hid (And.intro r1 r2)
        clear r1 r2
        simp only [itemE] at d0 d1 p0
        have hbl2 : Op.bytesLess pk.toList kk.toList = true := hbl
        go_wp2
        go_quiet ((go_at_call 58; exact Calls.quiet_of_same (refKey_ok _ _ HK0.out.1 HK0.out.2)))
        go_wp2
        go_roundw
        case rel => exact ⟨k + 1, by omega, by go_num, Below.drewN' (HB.out.alloc HB.out.size _) _⟩
        case measure => simp [intOf]; omega
    · clear hB
      go_wp2
      go_ret
      exact ⟨rfl, HB.out⟩
end Go.Proofs.YthhmcjojnbaiiaaGreatDoor

/- item.Diff with nothing to come to: the deletions of the keys. -/
namespace Go.Proofs.YthhmcjojnbaiiaaGreatDoor
open Go Go.RowKit
def delOf (x : Item) : Change := ⟨x.key, false, ByteArray.empty⟩
def diffNil (l : List Item) : List Change := if itemsOk l then l.map delOf else []
/-- The loop's state: what is left of the items, the changes so far. -/
def DiRel (w w3 : World) (l : List Item) (k : Nat) (va vo : Value) (wr : World) : Prop :=
  ∃ j, j + k = l.length ∧ Sl itemE w va (l.drop j) ∧ wr.ownsRow w3.heap.size 55 3 vo j (((l.take j).map delOf).flatMap changeE.enc) ∧ Below w3.heap.size w3 wr
def DiffPost (w : World) (l : List Item) (e : Ending) (w' : World) : Prop := ∃ r, e = .returned (.tuple #[r, .int .i64 (errIf (itemsOk l) 4)]) ∧ Sl changeE w' r (diffNil l) ∧ Below w.heap.size w w'
theorem change_info : (Tryz.prog.info? 55).map (fun i => (i.zero.map (fun z => z.cells.size), i.size, i.bytes)) = some (some 3, 3, 40) := by kernel_rfl
set_option maxRecDepth 100000 in
set_option maxHeartbeats 2000000 in
theorem diffNil_any (w : World) (v vb : Value) (l m : List Item) (hv : Sl itemE w v l) (hvb : Sl itemE w vb m) (hm : m = []) (hl : l.length ≤ 1073741824) :
    Calls Tryz.prog 36 #[v, vb] w fun e w' => DiffPost w l e w' := by
  subst hm
  have HV := Lib.hid hv
  have HVB := Lib.hid hvb
  obtain ⟨A, n, c, rfl⟩ := sl_slice hv
  obtain ⟨A2, n2, c2, rfl⟩ := sl_slice hvb
  have hn2 : n2 = 0 := (hvb.len_eq).1
  subst hn2
  have hn1 := (hv.len_eq).1
  subst hn1
  clear hv hvb
  go_enter Tryz.func36, Tryz.ntmps36
  go_wp2_with (fail)
  go_step3
  go_wp2_with (fail)
  go_at_call 29
  refine (itemCheck_any _ _ l HV.out).mono ?_
  rintro e w1 ⟨rfl, hb1⟩
  have HB1 := Lib.hid hb1
  clear hb1
  go_wp2_with (fail)
  go_at_call 29
  refine (itemCheck_any _ _ [] (HVB.out.below HB1.out (Nat.le_refl _))).mono ?_
  rintro e w2 ⟨rfl, hb2⟩
  have HB2 := Lib.hid (HB1.out.trans (hb2.mono HB1.out.size))
  clear hb2
  rw [show errIf (itemsOk []) 4 = 0 from rfl]
  go_wp2_with (fail)
  go_at_call 57
  have hso : Sl errE (w2.alloc (.cells #[.int .i64 (errIf (itemsOk l) 4), .int .i64 0] 28)) (.slice (some ⟨w2.heap.size, 0, none⟩) 2 2) [errIf (itemsOk l) 4, 0] := by
    refine ⟨_, 2, rfl, Nat.le_refl _, by omega, Row.mk fun k hk => ⟨?_, trivial⟩⟩
    have ha := new_at w2 [.int .i64 (errIf (itemsOk l) 4), .int .i64 0] 28
    intro i hi
    have hi0 : i = 0 := by simp [errE] at hi; omega
    subst hi0
    match k, hk with
    | 0, _ => exact ha.cell 0 _ rfl
    | 1, _ => exact ha.cell 1 _ rfl
  refine (or_any _ _ _ hso).mono ?_
  rintro e _ ⟨rfl, rfl⟩
  have HB3 := Lib.hid (HB2.out.alloc HB2.out.size (.cells #[.int .i64 (errIf (itemsOk l) 4), .int .i64 0] 28))
  clear hso
  generalize w2.alloc (.cells #[.int .i64 (errIf (itemsOk l) 4), .int .i64 0] 28) = w3 at *
  cases hi : itemsOk l with
  | false =>
    have HA := Lib.hid hi
    rw [show orL [errIf false 4, 0] = 4 from rfl]
    clear hi
    go_wp2_with (fail)
    go_ret2
    exact ⟨.slice none 0 0, by rw [HA.out]; rfl, by unfold diffNil; rw [HA.out]; exact Sl.nil _, HB3.out⟩
  | true =>
    have HA := Lib.hid hi
    rw [show orL [errIf true 4, 0] = 0 from rfl]
    clear hi
    obtain ⟨i0, z0, hi, hz0, hz1, hz2, hzs⟩ := info_open change_info
    go_wp2_with (fail)
    go_step3
    go_wp2_with (fail)
    go_loopg [0, 1, 7] l.length (fun k va v1 vo wr => v1 = .slice A2 0 c2 ∧ DiRel w w3 l k va vo wr)
    case atStart => exact ⟨rfl, 0, by omega, by rw [List.drop_zero]; exact HV.out, World.ownsRow_nil _ _ _ _, Below.refl _ _⟩
    case round =>
      obtain ⟨rfl, j, hj, hsl, hown, hbl⟩ := hrel
      obtain ⟨Aj, nj, cj, rfl⟩ := sl_slice hsl
      have hnj := (hsl.len_eq).1
      rw [List.length_drop] at hnj
      have HJ := Lib.hid (And.intro hsl (And.intro hown hbl))
      by_cases hlt : j < l.length
      · obtain ⟨b, o, rfl, hat, hwf⟩ := (hsl.len_eq).2.2.2 0 (by rw [List.length_drop]; omega)
        have hx : (l.drop j)[0]'(by rw [List.length_drop]; omega) = l[j] := by simp
        rw [hx] at hat hwf
        have hww := HB3.out.trans (hbl.mono HB3.out.size)
        have hat2 := hat.below hww (Nat.le_refl _)
        have hbw : b < wr.heap.size := hat2.lt (by simp [itemE])
        have d0 := hat2.cell 0 _ rfl
        simp only [itemE, Nat.add_zero, Nat.zero_mul] at d0
        subst hnj
        have hnp : 0 < l.length - j := by omega
        have hwl := hwf
        have hsz3 := hbl.size
        have HOW := Lib.hid hown
        clear hsl hown hbl hat hat2 hwf hww
        generalize hX : l[j] = x at *
        have HX := Lib.hid hX
        clear hX hx
        have hone : ∀ u ∈ [Value.string x.key, .bool false, .string ByteArray.empty], u.oneCell' = true := by intro u hu; simp at hu; rcases hu with rfl | rfl | rfl <;> rfl
        have HONE := Lib.hid hone
        clear hone
        go_wp2_with (fail)
        go_quiet (fail)
        go_wp2_with (at_builtin; go_loud (refine wpList_append_lies (w := (wr.drewN nq).alloc (.cells #[.string x.key, .bool false, .string ByteArray.empty] 55)) rfl (.tmp 43) (.tmp 49) 61 rfl w3.heap.size 55 i0 z0 3 40 Tryz.underlying61 hi hz0 hz1 hz2 hzs (by decide) _ j _ rfl (HOW.out.alloc (.cells #[.string x.key, .bool false, .string ByteArray.empty] 55)) ⟨wr.heap.size, 0, none⟩ 1 1 [.string x.key, .bool false, .string ByteArray.empty] rfl rfl (fun j u hj => by rw [add_at, Nat.zero_add]; exact new_cell (w := wr.drewN nq) (t := 55) j u hj) HONE.out (by decide) (by unfold maxLen; omega) (by omega) (by simp; omega) (wr.heap.size + 1) (by simp) ?_); intro g cap wd ho2 hg2 hgh hglt)
        all_goals (
          have hcap := (HJ.out.1.len_eq).2.1
          have hcmx := (HJ.out.1.len_eq).2.2.1
          have hrw := (HJ.out.1.len_eq).2.2.2
          rw [List.length_drop] at hcap
          go_roundg (l.length - j - 1)
          case measure => omega
          case rel =>
            have hxs : ((l.take (j + 1)).map delOf).flatMap changeE.enc = ((l.take j).map delOf).flatMap changeE.enc ++ [.string x.key, .bool false, .string ByteArray.empty] := by
              rw [List.take_succ, List.getElem?_eq_getElem hlt, HX.out]
              simp [changeE, delOf]
            have hbd : Below w3.heap.size w3 wd := by
              have hbl := HJ.out.2.2
              have hs := hg2.size
              have hbs := hbl.size
              refine ⟨hg2.os.trans hbl.os, hg2.tape.trans hbl.tape, hg2.output.trans hbl.output, ?_, fun k hk => ?_⟩
              · simp at hs; omega
              · rw [hg2.block k (by simp; omega) (fun e => by have := (HOW.out.lt _ e.symm); omega)]
                rw [← hbl.block k hk]
                exact (Below.drewN' (Below.refl wr.heap.size wr) nq).alloc (Nat.le_refl _) _ |>.block k (by omega)
            refine ⟨rfl, j + 1, by omega, ?_, by rw [hxs]; exact ho2, hbd⟩
            first
              | (refine ⟨_, _, by rw [List.length_drop]; rfl, ?_, ?_, ?_⟩
                 · rw [List.length_drop]; omega
                 · omega
                 · have := hrw.drop 1
                   rw [List.drop_drop] at this
                   exact this)
              | (have hl1 : l.length - j - 1 = 0 := by omega
                 rw [hl1, List.drop_eq_nil_of_le (by omega)]
                 exact ⟨_, 0, rfl, Nat.le_refl _, by omega, fun k hk => absurd hk (Nat.not_lt_zero _)⟩))
      · have hn0 : nj = 0 := by omega
        subst hn0
        clear hsl hown hbl hnj
        go_wp2_with (fail)
        (try rw [Exit.noGoto_ret])
        go_ret2
        have hjl : j = l.length := by omega
        refine ⟨_, by rw [HA.out]; rfl, ?_, HB3.out.trans (HJ.out.2.2.mono HB3.out.size)⟩
        have h := own_sl (E := changeE) HJ.out.2.1 (by simp; omega) (fun x hx => by
          obtain ⟨y, hy, rfl⟩ := List.mem_map.1 hx
          have := HV.out.wf y (List.mem_of_mem_take hy)
          exact ⟨this.1, by unfold strOk; simp [delOf]⟩)
        unfold diffNil
        rw [HA.out, if_pos rfl]
        rw [hjl, List.take_length] at h
        exact h
end Go.Proofs.YthhmcjojnbaiiaaGreatDoor

/- Plain: all keys taken out. -/
namespace Go.Proofs.YthhmcjojnbaiiaaGreatDoor
open Go Go.RowKit
theorem apply_head (x : Item) (r : List Item) : applyOne (x :: r) (delOf x) = r := by
  have hp : itemPos (x :: r) x.key = 0 := by simp [itemPos, posOf, bl_irrefl]
  have hh : itemHas (x :: r) x.key = true := by
    unfold itemHas hasAt
    rw [hp]
    show beqB x.key x.key = true
    exact (beqB_iff _ _).2 rfl
  unfold applyOne
  show (if itemHas (x :: r) x.key = true then _ else _) = r
  rw [if_pos hh]
  show (if (delOf x).has = true then _ else (x :: r).eraseIdx (itemPos (x :: r) x.key)) = r
  rw [if_neg (by simp [delOf]), hp]
  rfl
theorem apply_all : ∀ l : List Item, (l.map delOf).foldl applyOne l = []
  | [] => rfl
  | x :: r => by
    rw [List.map_cons, List.foldl_cons, apply_head]
    exact apply_all r
theorem changes_all (l : List Item) (h : itemsOk l = true) : changesOk (l.map delOf) = true := by
  unfold changesOk
  rw [List.all_map, List.all_eq_true]
  intro x hx
  obtain ⟨k, hk, rfl⟩ := List.mem_iff_getElem.1 hx
  have hr := ((itemsOk_iff l).1 h k hk hk).1
  simp only [rightB, Bool.and_eq_true, decide_eq_true_eq, Bool.not_eq_true'] at hr
  show changeB (delOf l[k]) = true
  simp [changeB, delOf, rightB, hr.1, hr.2.1]
theorem applyS_all (l : List Item) (h : itemsOk l = true) : applyS l (l.map delOf) = ([], 0) := by
  unfold applyS
  rw [if_neg (by rw [h, changes_all l h]; simp), apply_all]
theorem build_nil {g : Hp} (ho : openB g = true) : buildS g [] = (g, noKid, 0) := by
  unfold buildS
  rw [if_neg (by rw [ho]; simp), if_neg (by simp [itemsOk, sortedB]), if_pos rfl]
/-- A tree of which all keys are taken out is the tree of nothing, and the heap is as it was. -/
theorem none_law (h : Hp) (l : List Item) (hml : l.length ≤ 1073741824) (h0 : (buildS h l).2.2 = 0) : changeS (buildS h l).1 (buildS h l).2.1.num (l.map delOf) = ((buildS h l).1, noKid, 0) := by
  have B := build_read h l hml h0
  unfold changeS
  rw [if_neg (by rw [B.op]; simp), if_neg (by rw [B.err]; simp), B.all, applyS_all l B.ok, if_neg (by simp)]
  exact build_nil B.op
end Go.Proofs.YthhmcjojnbaiiaaGreatDoor

/- GrowNone: the walk. -/
namespace Go.Proofs.YthhmcjojnbaiiaaGreatDoor
open Go Go.RowKit
set_option maxRecDepth 100000 in
set_option maxHeartbeats 4000000 in
theorem growNone_any (w : World) (v vl : Value) (h : Hp) (l : List Item) (hv : HeapV w v h) (hvl : Sl itemE w vl l) (hmax : h.cells.length ≤ 1073741824) (hml : l.length ≤ 4194304) :
    Calls Tryz.prog 13 #[v, vl] w fun e w' => e = .returned (.bool true) ∧ Below w.heap.size w w' := by
  have HVV := Lib.hid hv
  obtain ⟨cv, rfl, hsl, hsz⟩ := hv
  obtain ⟨C, cn, cc, rfl⟩ := sl_slice hsl
  have HVL := Lib.hid hvl
  obtain ⟨A, m, c, rfl⟩ := sl_slice hvl
  have hbx := heap_alloc_new w (.cells #[.int .u32 h.size, .slice C cn cc] 25)
  have hbb := below_box w (.cells #[.int .u32 h.size, .slice C cn cc] 25)
  have a0 : (w.alloc (.cells #[.int .u32 h.size, .slice C cn cc] 25)).cell? ⟨w.heap.size, 0, none⟩ = some (.int .u32 h.size) := by rw [cell_of_row _ _ _ _ _ _ hbx]; rfl
  have a1 : (w.alloc (.cells #[.int .u32 h.size, .slice C cn cc] 25)).cell? ⟨w.heap.size, 1, none⟩ = some (.slice C cn cc) := by rw [cell_of_row _ _ _ _ _ _ hbx]; rfl
  have hla := lt_of_block hbx
  have HA := Lib.hid hbb
  clear hsl hvl hbx hbb
  go_enter Tryz.func13, Tryz.ntmps13
  go_upto_region 1 with (fail)
  generalize w.alloc (.cells #[.int .u32 h.size, .slice C cn cc] 25) = wa at *
  go_wp2_with (fail)
  go_at_call 30
  refine (lives_any wa).mono ?_
  rintro e w1 ⟨rfl, hb1⟩
  have b0 := (hb1.cell (p := ⟨w.heap.size, 0, none⟩) hla).trans a0
  have b1 := (hb1.cell (p := ⟨w.heap.size, 1, none⟩) hla).trans a1
  have hlb : w.heap.size < w1.heap.size := Nat.lt_of_lt_of_le hla hb1.size
  have H1 := Lib.hid (HA.out.trans (hb1.mono HA.out.size))
  clear hb1 a0 a1
  go_wp2_with (fail)
  go_at_call 34
  refine (build_any w1 _ _ h l (HVV.out.below H1.out (Nat.le_refl _)) (HVL.out.below H1.out (Nat.le_refl _)) hmax hml).mono ?_
  rintro e w4 ⟨r4, rfl, hr4, hk4, hb4⟩
  have hlaw : (buildS h l).2.2 = 0 → BuiltOk (buildS h l).1 (buildS h l).2.1.num l ∧ changeS (buildS h l).1 (buildS h l).2.1.num (l.map delOf) = ((buildS h l).1, noKid, 0) := fun h0 => ⟨build_read h l (by omega) h0, none_law h l (by omega) h0⟩
  have hlen4 := build_len h l hmax
  generalize buildS h l = B at *
  obtain ⟨hB, kB, eB⟩ := B
  simp only at hlaw hr4 hk4 hlen4 ⊢
  obtain ⟨cB, rfl, hcB, huB⟩ := hr4
  obtain ⟨CB, mB, dB, rfl⟩ := sl_slice hcB
  have hnum : (kidA kB)[1]? = some (.int .u32 kB.num) := rfl
  have hs4 := kidA_size hk4
  have ha4 := kidA_all hk4
  generalize kidA kB = ka4 at *
  have ka4S := Lib.hid (And.intro hs4 ha4)
  have HNUM := Lib.hid hnum
  clear hnum
  have HLAW := Lib.hid hlaw
  have H4 := Lib.hid (And.intro hcB (And.intro huB (H1.out.trans (hb4.mono H1.out.size))))
  clear hs4 ha4 hk4 hlaw hcB huB hb4 b0 b1
  go_upto_region 4 with (
    ((with_reducible refine probe_storeT 58 ?_); (refine wpList_store_row rfl 58 (.tmp 6) _ rfl (w4.heap.size + 1) ka4 rfl rfl 58 _ (two_new w4 _ _ _ _) (by rw [kid_size, ka4S.out.1]) (by rw [ka4S.out.1]; rfl) ka4S.out.2 ?_)))
  obtain ⟨w5, hw5⟩ : ∃ w5, w5 = ((w4.alloc (.cells #[.int .u32 hB.size, .slice CB mB dB] 25)).alloc (.cells (kidA noKid) 58)).setRow (w4.heap.size + 1) ka4 := ⟨_, rfl⟩
  obtain ⟨hbw5, hhw5, hkw5⟩ := two_boxes (w1 := w4) (z2 := kidA noKid) (h := #[.int .u32 hB.size, .slice CB mB dB]) (k := ka4)
  rw [← hw5] at hbw5 hhw5 hkw5
  rw [kidA_zero] at hw5
  rw [← hw5]
  clear hw5
  have f0 : w5.cell? ⟨w4.heap.size, 0, none⟩ = some (.int .u32 hB.size) := by rw [cell_of_row _ _ _ _ _ _ hhw5]; rfl
  have f1 : w5.cell? ⟨w4.heap.size, 1, none⟩ = some (.slice CB mB dB) := by rw [cell_of_row _ _ _ _ _ _ hhw5]; rfl
  have hl5 := lt_of_block hhw5
  have H5 := Lib.hid (And.intro (show HeapV w5 (.agg #[.int .u32 hB.size, .slice CB mB dB]) hB from ⟨_, rfl, H4.out.1.below hbw5 (Nat.le_refl _), H4.out.2.1⟩) (H4.out.2.2.trans (hbw5.mono H4.out.2.2.size)))
  have g1 : w5.cell? ⟨w4.heap.size + 1, 1, none⟩ = some (.int .u32 kB.num) := by rw [cell_of_row _ _ _ _ _ _ hkw5]; exact HNUM.out
  have hl5k := lt_of_block hkw5
  have KW5 := Lib.hid (And.intro hhw5 hkw5)
  clear hbw5 hhw5 hkw5
  go_wp2_with (fail)
  go_at_call 36
  refine (diffNil_any w5 _ _ l [] (HVL.out.below H5.out.2 (Nat.le_refl _)) (Sl.nil _) rfl (by omega)).mono ?_
  rintro e w6 ⟨r6, rfl, hr6, hb6⟩
  have i0 := (hb6.cell (p := ⟨w4.heap.size, 0, none⟩) hl5).trans f0
  have i1 := (hb6.cell (p := ⟨w4.heap.size, 1, none⟩) hl5).trans f1
  have j1 := (hb6.cell (p := ⟨w4.heap.size + 1, 1, none⟩) hl5k).trans g1
  have hl6 : w4.heap.size < w6.heap.size := Nat.lt_of_lt_of_le hl5 hb6.size
  have hl6k : w4.heap.size + 1 < w6.heap.size := Nat.lt_of_lt_of_le hl5k hb6.size
  have H6 := Lib.hid (And.intro (H5.out.1.below hb6 (Nat.le_refl _)) (And.intro hr6 (And.intro (H5.out.2.trans (hb6.mono H5.out.2.size)) (And.intro ((hb6.block _ hl5).trans KW5.out.1) ((hb6.block _ hl5k).trans KW5.out.2)))))
  clear hb6 hr6 f0 f1 g1
  by_cases hB0 : eB = 0
  · subst hB0
    have hbo := (HLAW.out rfl).1
    have hch := (HLAW.out rfl).2
    have hdn : diffNil l = l.map delOf := by unfold diffNil; rw [hbo.ok, if_pos rfl]
    have hei : errIf (itemsOk l) 4 = 0 := by rw [hbo.ok]; rfl
    have HBO := Lib.hid (And.intro hbo (And.intro hch hdn))
    rw [hei]
    clear hbo hch hdn hei
    obtain ⟨A6, n6, c6, rfl⟩ := sl_slice H6.out.2.1
    go_wp2_with (fail)
    go_at_call 31
    refine (change_any 1073741824 sort_any compact_any w6 _ _ hB kB.num (l.map delOf) H6.out.1 (by have := H6.out.2.1; rw [HBO.out.2.2] at this; exact this) hlen4 HBO.out.1.read (by rw [HBO.out.1.all]; omega) (by rw [List.length_map]; omega) (fun c hc => by obtain ⟨y, _, rfl⟩ := List.mem_map.1 hc; rfl) (by rw [HBO.out.1.all, applyS_all l HBO.out.1.ok]; exact Nat.zero_le _)).mono ?_
    rintro e w7 ⟨r7, rfl, hr7, hk7, hb7⟩
    rw [HBO.out.2.1] at hr7 hk7 ⊢
    simp only at hr7 hk7 ⊢
    obtain ⟨cX, rfl, hcX, huX⟩ := hr7
    obtain ⟨CX, mX, dX, rfl⟩ := sl_slice hcX
    have hmX := (hcX.len_eq).1
    have hmB := (H4.out.1.len_eq).1
    have hs7 := kidA_size hk7
    have ha7 := kidA_all hk7
    have KZ := Lib.hid (And.intro hs7 ha7)
    have k0 := (hb7.cell (p := ⟨w4.heap.size, 0, none⟩) hl6).trans i0
    have k1 := (hb7.cell (p := ⟨w4.heap.size, 1, none⟩) hl6).trans i1
    have hl7 : w4.heap.size < w7.heap.size := Nat.lt_of_lt_of_le hl6 hb7.size
    have H7 := Lib.hid (And.intro hcX (And.intro (H6.out.2.2.1.trans (hb7.mono H6.out.2.2.1.size)) (And.intro hmX hmB)))
    clear hcX huX hmX hmB hs7 ha7 hk7 hb7 i0 i1 j1
    obtain ⟨kz, hkz⟩ : ∃ kz, kidA noKid = kz := ⟨_, rfl⟩
    rw [hkz] at KZ ⊢
    have HKZ := Lib.hid hkz
    clear hkz
    go_upto_region 8 with (
      ((with_reducible refine probe_storeT 58 ?_); (refine wpList_store_row rfl 58 (.tmp 11) _ rfl (w7.heap.size + 1) kz rfl rfl 58 _ (two_new w7 _ _ _ _) (by rw [kid_size, KZ.out.1]) (by rw [KZ.out.1]; rfl) KZ.out.2 ?_)))
    obtain ⟨w8, hw8⟩ : ∃ w8, w8 = ((w7.alloc (.cells #[.int .u32 hB.size, .slice CX mX dX] 25)).alloc (.cells (kidA noKid) 58)).setRow (w7.heap.size + 1) kz := ⟨_, rfl⟩
    obtain ⟨hbw8, hhw8, hkw8⟩ := two_boxes (w1 := w7) (z2 := kidA noKid) (h := #[.int .u32 hB.size, .slice CX mX dX]) (k := kz)
    rw [← hw8] at hbw8 hhw8 hkw8
    rw [kidA_zero] at hw8
    rw [← hw8]
    clear hw8
    have k20 := (hbw8.cell (p := ⟨w4.heap.size, 0, none⟩) hl7).trans k0
    have k21 := (hbw8.cell (p := ⟨w4.heap.size, 1, none⟩) hl7).trans k1
    have x1 : w8.cell? ⟨w7.heap.size, 1, none⟩ = some (.slice CX mX dX) := by rw [cell_of_row _ _ _ _ _ _ hhw8]; rfl
    have hl8 := lt_of_block hhw8
    have hat : At w8 (w7.heap.size + 1) 0 kz.toList := at_block (t := 58) (fr := (0, 0)) (by rw [Array.toArray_toList]; exact hkw8)
    have hksz : (Tryz.prog.info? 58).map (·.size) = some kz.toList.length := by rw [kid_size, Array.length_toList, KZ.out.1]
    have hkq : ∀ w, (binOp .eql 58 (.agg kz) (.agg kz)).run Tryz.prog w = .ok (.bool true) w := by rw [← HKZ.out]; exact kid_eq_self
    have harr : kz.toList.toArray = kz := by simp
    have HARR := Lib.hid harr
    have H8 := Lib.hid (H7.out.2.1.trans (hbw8.mono H7.out.2.1.size))
    have hmm : ((mX : Int) == (mB : Int)) = true := by rw [H7.out.2.2.1, H7.out.2.2.2]; simp
    clear harr hbw8 hhw8 hkw8 k0 k1
    go_wp2_with (first
      | ((with_reducible refine probe_loadT 58 ?_); go_loud (refine wpList_load_arrw rfl 58 (.tmp 11) rfl (w7.heap.size + 1) 0 rfl kz.toList _ hat Tryz.underlying58 rfl hksz kz (by simp) ?_))
      | ((with_reducible refine probe_build 58 ?_); refine wpList_build_w rfl 58 _ rfl [] rfl kz (by rw [← HKZ.out]; exact built_kid0') ?_))
    go_at_call 38
    refine (refCheck_ok w8 _ l (HVL.out.below H8.out (Nat.le_refl _)) HBO.out.1.ok).mono ?_
    rintro e w9 ⟨rfl, hb9⟩
    have H9 := Lib.hid (H8.out.trans (hb9.mono H8.out.size))
    clear hb9
    go_wp2_with (fail)
    go_ret
    exact ⟨rfl, H9.out⟩
  · have hne : (eB == 0) = false := by simpa using hB0
    have hnb : (eB != 0) = true := by simpa using hB0
    go_wp2
    go_ret
    exact ⟨rfl, H6.out.2.2.1⟩
end Go.Proofs.YthhmcjojnbaiiaaGreatDoor
