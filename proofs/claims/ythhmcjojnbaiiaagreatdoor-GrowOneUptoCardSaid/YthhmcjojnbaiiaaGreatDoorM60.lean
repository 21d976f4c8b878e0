/- Texts of the proof: Rb Rc Rd Re Oa Od. -/
import Derived.Test.YthhmcjojnbaiiaaGreatDoorM35
import Derived.Test.YthhmcjojnbaiiaaGreatDoorM62
import Derived.Test.YthhmcjojnbaiiaaGreatDoorM34
set_option linter.all false
/- Plain: what is built is read as it was. -/
namespace Go.Proofs.YthhmcjojnbaiiaaGreatDoor
open Go Go.RowKit
/-- The cell of number t holds node n. -/
def InN (cs : List CC) (t : Int) (n : Node) : Prop := ∃ c ∈ cs, c.num = t ∧ c.node = n
def TrKids (T : Int → List Int → List Item → Prop) : List Kid → List Int → List Item → Prop
  | [], bs, is => bs = [] ∧ is = []
  | k :: ks, bs, is => ∃ b1 i1 b2 i2, T k.num b1 i1 ∧ k.key = hdKey (·.key) i1 ∧ TrKids T ks b2 i2 ∧ bs = b1 ++ b2 ∧ is = i1 ++ i2
/-- A node at level lv over the cells: what lies below it. -/
def TrN (cs : List CC) : Nat → Node → List Int → List Item → Prop
  | 0, n, bs, is => n = ⟨1, is, [], []⟩ ∧ bs = [] ∧ is ≠ []
  | lv + 1, n, bs, is => ∃ ks, n = ⟨2, [], ks, []⟩ ∧ ks ≠ [] ∧ TrKids (fun t b i => ∃ m b', InN cs t m ∧ TrN cs lv m b' i ∧ b = t :: b') ks bs is
def Tr (cs : List CC) (lv : Nat) (t : Int) (b : List Int) (i : List Item) : Prop := ∃ m b', InN cs t m ∧ TrN cs lv m b' i ∧ b = t :: b'
def TrNs (cs : List CC) (lv : Nat) : List Node → List Item → Prop
  | [], is => is = []
  | n :: r, is => ∃ b i1 i2, TrN cs lv n b i1 ∧ TrNs cs lv r i2 ∧ is = i1 ++ i2
theorem trKids_mono {T T' : Int → List Int → List Item → Prop} (h : ∀ t b i, T t b i → T' t b i) : ∀ (ks : List Kid) (bs : List Int) (is : List Item), TrKids T ks bs is → TrKids T' ks bs is
  | [], _, _, hk => hk
  | k :: ks, _, _, ⟨b1, i1, b2, i2, h1, h2, h3, h4, h5⟩ => ⟨b1, i1, b2, i2, h _ _ _ h1, h2, trKids_mono h ks _ _ h3, h4, h5⟩
theorem trN_mono {cs cs' : List CC} (h : ∀ t n, InN cs t n → InN cs' t n) : ∀ (lv : Nat) (n : Node) (bs : List Int) (is : List Item), TrN cs lv n bs is → TrN cs' lv n bs is
  | 0, _, _, _, hk => hk
  | lv + 1, _, _, _, ⟨ks, h1, h2, h3⟩ => ⟨ks, h1, h2, trKids_mono (fun _ _ _ ⟨m, b', k1, k2, k3⟩ => ⟨m, b', h _ _ k1, trN_mono h lv _ _ _ k2, k3⟩) ks _ _ h3⟩
theorem tr_mono {cs cs' : List CC} (h : ∀ t n, InN cs t n → InN cs' t n) {lv : Nat} {t : Int} {b : List Int} {i : List Item} : Tr cs lv t b i → Tr cs' lv t b i
  | ⟨m, b', k1, k2, k3⟩ => ⟨m, b', h _ _ k1, trN_mono h lv _ _ _ k2, k3⟩
theorem trNs_mono {cs cs' : List CC} (h : ∀ t n, InN cs t n → InN cs' t n) {lv : Nat} : ∀ (ns : List Node) (is : List Item), TrNs cs lv ns is → TrNs cs' lv ns is
  | [], _, hk => hk
  | _ :: r, _, ⟨b, i1, i2, h1, h2, h3⟩ => ⟨b, i1, i2, trN_mono h _ _ _ _ h1, trNs_mono h r _ h2, h3⟩
theorem trKids_app {T : Int → List Int → List Item → Prop} : ∀ (a b : List Kid) (bs : List Int) (is : List Item), TrKids T (a ++ b) bs is ↔ ∃ b1 i1 b2 i2, TrKids T a b1 i1 ∧ TrKids T b b2 i2 ∧ bs = b1 ++ b2 ∧ is = i1 ++ i2
  | [], b, bs, is => by
    constructor
    · intro h; exact ⟨[], [], bs, is, ⟨rfl, rfl⟩, h, rfl, rfl⟩
    · rintro ⟨_, _, _, _, ⟨rfl, rfl⟩, h, rfl, rfl⟩; exact h
  | k :: a, b, bs, is => by
    constructor
    · rintro ⟨b1, i1, b2, i2, h1, h2, h3, rfl, rfl⟩
      obtain ⟨c1, j1, c2, j2, k1, k2, rfl, rfl⟩ := (trKids_app a b _ _).1 h3
      exact ⟨b1 ++ c1, i1 ++ j1, c2, j2, ⟨b1, i1, c1, j1, h1, h2, k1, rfl, rfl⟩, k2, by simp, by simp⟩
    · rintro ⟨_, _, c2, j2, ⟨b1, i1, c1, j1, h1, h2, k1, rfl, rfl⟩, k2, rfl, rfl⟩
      exact ⟨b1, i1, c1 ++ c2, j1 ++ j2, h1, h2, (trKids_app a b _ _).2 ⟨_, _, _, _, k1, k2, rfl, rfl⟩, by simp, by simp⟩
theorem trN_ne {cs : List CC} : ∀ (lv : Nat) (n : Node) (bs : List Int) (is : List Item), TrN cs lv n bs is → is ≠ []
  | 0, _, _, _, ⟨_, _, h⟩ => h
  | lv + 1, _, _, _, ⟨ks, _, h2, h3⟩ => by
    match ks, h2, h3 with
    | k :: ks, _, ⟨b1, i1, b2, i2, ⟨m, b', k1, k2, k3⟩, _, _, _, hi⟩ =>
      have := trN_ne lv _ _ _ k2
      intro e
      rw [hi] at e
      exact this (List.append_eq_nil_iff.1 e).1
theorem hdKey_app {i1 i2 : List Item} (h : i1 ≠ []) : hdKey (·.key) (i1 ++ i2) = hdKey (·.key) i1 := by
  obtain ⟨x, r, rfl⟩ := List.exists_cons_of_ne_nil h
  rfl
theorem trN_key {cs : List CC} : ∀ (lv : Nat) (n : Node) (bs : List Int) (is : List Item), TrN cs lv n bs is → keyOf n = hdKey (·.key) is
  | 0, _, _, _, ⟨rfl, _, _⟩ => rfl
  | lv + 1, _, _, _, ⟨ks, rfl, h2, h3⟩ => by
    match ks, h2, h3 with
    | k :: ks, _, ⟨b1, i1, b2, i2, ⟨m, b', k1, k2, k3⟩, hk, _, _, hi⟩ =>
      rw [hi, hdKey_app (trN_ne lv _ _ _ k2), ← hk]
      rfl
/-- A put that answers well keeps the nodes and holds its own. -/
theorem put_in {sz : Int} {cs : List CC} {n : Node} (g : Good sz cs) (hn : nodeErr n = 0) (hw : nodeWf n) (hl : leadsE cs n = 0) (h0 : (putS sz cs n).2.1 = 0) :
    (∀ t m, InN cs t m → InN (putS sz cs n).2.2 t m) ∧ InN (putS sz cs n).2.2 (putS sz cs n).1.num n := by
  rw [putS_kid hn hl] at h0 ⊢
  cases hd : cs[dataIx (cs.map (·.data)) (wholeB n)]? with
  | some c =>
    obtain ⟨hc, hcd⟩ := dataIx_get cs _ c hd
    have hdec := (g.dec c hc).2.1
    refine ⟨fun _ _ h => h, c, hc, rfl, ?_⟩
    rw [hdec, hcd]
    exact (dec_enc n hn hw).2
  | none =>
    rw [hd] at h0
    simp only at h0 ⊢
    by_cases hf : freeNum (ccNums cs) < sz
    · rw [if_neg (by simpa using hf)] at h0 ⊢
      cases ha : (kidNums n).any (fun t => decide (16777216 - (countL (kidNums n) t : Int) < refsOf cs t)) with
      | true => rw [ha, if_pos rfl] at h0; exact absurd h0 (show ¬ (1 : Int) = 0 by decide)
      | false =>
        rw [if_neg Bool.false_ne_true]
        simp only [holds_map]
        have key : ∀ c ∈ insCC (newCC (freeNum (ccNums cs)) n) cs, InN ((insCC (newCC (freeNum (ccNums cs)) n) cs).map fun c => { c with refs := c.refs + countL (kidNums n) c.num, led := c.led + countL (kidNums n) c.num }) c.num c.node :=
          fun c hc => ⟨_, List.mem_map.2 ⟨c, hc, rfl⟩, rfl, rfl⟩
        refine ⟨fun t m ⟨c, hc, h1, h2⟩ => ?_, ?_⟩
        · have := key c (ins_mem.2 (Or.inr hc))
          rw [h1, h2] at this
          exact this
        · exact key _ (ins_mem.2 (Or.inl rfl))
    · rw [if_pos (by simpa using hf)] at h0; exact absurd h0 (show ¬ (8 : Int) = 0 by decide)
theorem putAll_tr {sz : Int} {lv : Nat} : ∀ (ns : List Node) (acc : List Kid) (cs : List CC) (ba : List Int) (ia is : List Item), Good sz cs → (∀ n ∈ ns, nodeErr n = 0 ∧ nodeWf n ∧ ∀ k ∈ namedK n, Has cs k.num k.hash) →
    TrKids (Tr cs lv) acc ba ia → TrNs cs lv ns is → (putAll (putS sz) acc cs ns).2.1 = 0 →
    (∀ t m, InN cs t m → InN (putAll (putS sz) acc cs ns).2.2 t m) ∧ ∃ bs, TrKids (Tr (putAll (putS sz) acc cs ns).2.2 lv) (putAll (putS sz) acc cs ns).1 bs (ia ++ is)
  | [], acc, cs, ba, ia, is, _, _, hk, hns, _ => by
    have hns' : is = [] := hns
    subst hns'
    exact ⟨fun _ _ h => h, ba, by rw [List.append_nil]; exact hk⟩
  | n :: r, acc, cs, ba, ia, is, g, hn, hk, ⟨b, i1, i2, h1, h2, hi⟩, h0 => by
    obtain ⟨e1, e2, e3⟩ := hn n (by simp)
    unfold putAll at h0 ⊢
    have hl := (leads_zero g.ris n).2 e3
    rcases put_good g e1 e2 hl with h8 | ⟨p0, p⟩
    · rw [if_pos (by omega)] at h0
      simp only at h0
      omega
    · rw [if_neg (by omega)] at h0 ⊢
      obtain ⟨hm, hin⟩ := put_in g e1 e2 hl p0
      have hk' : TrKids (Tr (putS sz cs n).2.2 lv) (acc ++ [{ (putS sz cs n).1 with key := keyOf n }]) (ba ++ ((putS sz cs n).1.num :: b)) (ia ++ i1) := by
        refine (trKids_app _ _ _ _).2 ⟨ba, ia, _, i1, trKids_mono (fun _ _ _ h => tr_mono hm h) _ _ _ hk, ⟨_, i1, [], [], ⟨n, b, hin, trN_mono hm _ _ _ _ h1, rfl⟩, trN_key lv n b i1 h1, ⟨rfl, rfl⟩, (List.append_nil _).symm, (List.append_nil _).symm⟩, rfl, rfl⟩
      obtain ⟨m2, bs, hb⟩ := putAll_tr r _ _ _ _ i2 p.good (fun n' hn' => ⟨(hn n' (by simp [hn'])).1, (hn n' (by simp [hn'])).2.1, fun k hk => p.mono _ _ ((hn n' (by simp [hn'])).2.2 k hk)⟩) hk' (trNs_mono hm r i2 h2) h0
      exact ⟨fun t m h => m2 t m (hm t m h), bs, by rw [hi, ← List.append_assoc]; exact hb⟩
theorem chunks_tr {cs : List CC} {lv : Nat} : ∀ (L : List (List Kid)) (bs : List Int) (is : List Item), (∀ c ∈ L, c ≠ []) → TrKids (Tr cs lv) L.flatten bs is → TrNs cs (lv + 1) (L.map fun c => ⟨2, [], c, []⟩) is
  | [], _, _, _, h => h.2
  | c :: L, bs, is, hne, h => by
    rw [List.flatten_cons] at h
    obtain ⟨b1, i1, b2, i2, h1, h2, _, hi⟩ := (trKids_app _ _ _ _).1 h
    exact ⟨b1, i1, i2, ⟨c, rfl, hne c (by simp), h1⟩, chunks_tr L b2 i2 (fun c' hc' => hne c' (by simp [hc'])) h2, hi⟩
theorem branches_tr {cs : List CC} {lv : Nat} (d : Int) (ks : List Kid) (bs : List Int) (is : List Item) (hne : ks ≠ []) (h : TrKids (Tr cs lv) ks bs is) : TrNs cs (lv + 1) (branchesL d ks) is := by
  refine chunks_tr _ bs is (level_ne ks [] 2 hne) ?_
  rw [level_flat, List.nil_append]
  exact h
theorem leaves_tr {cs : List CC} (l : List Item) (hne : l ≠ []) : TrNs cs 0 (leavesL l) l := by
  have key : ∀ (L : List (List Item)), (∀ c ∈ L, c ≠ []) → TrNs cs 0 (L.map fun c => ⟨1, c, [], []⟩) L.flatten := by
    intro L
    induction L with
    | nil => intro _; rfl
    | cons c L ih => intro h; exact ⟨[], c, L.flatten, ⟨rfl, rfl, h c (by simp)⟩, ih (fun c' hc' => h c' (by simp [hc'])), by simp⟩
  have := key _ (level_ne (sz := itemSz) (last := fun x m => lastB x.key 0 m) l [] 2 hne)
  rw [level_flat, List.nil_append] at this
  exact this
/-- The tree that raise makes. -/
theorem raise_tr {sz : Int} : ∀ (f : Nat) (d : Int) (cs : List CC) (ns : List Node) (lv : Nat) (is : List Item), Good sz cs → NodesOk cs ns → ns ≠ [] → ns.length ≤ f → TrNs cs lv ns is → (raiseGo (putS sz) f d cs ns).2.1 = 0 →
    ∃ lv' bs, Tr (raiseGo (putS sz) f d cs ns).2.2 lv' (raiseGo (putS sz) f d cs ns).1.num bs is
  | 0, d, cs, ns, lv, is, _, _, hne, hf, _, _ => absurd (List.length_eq_zero_iff.1 (by omega)) hne
  | f + 1, d, cs, ns, lv, is, g, hn, hne, hf, ht, h0 => by
    unfold raiseGo at h0 ⊢
    rcases putAll_good (sz := sz) ns [] cs g hn.ok (fun k hk => by simp at hk) with h8 | ⟨p0, h1, h2, h3, h4, h5⟩
    · rw [if_pos (by omega)] at h0; simp only at h0; omega
    · rw [if_neg (by omega)] at h0 ⊢
      obtain ⟨_, bs, hb⟩ := putAll_tr (lv := lv) ns [] cs [] [] is g hn.ok ⟨rfl, rfl⟩ ht p0
      rw [List.nil_append] at hb
      simp only [List.map_nil, List.nil_append] at h3
      have hkl : (putAll (putS sz) [] cs ns).1.length = ns.length := by have := congrArg List.length h3; simpa using this
      have hkk : KeysOk ((putAll (putS sz) [] cs ns).1.map (·.key)) := by rw [h3]; exact hn.keys
      generalize (putAll (putS sz) [] cs ns).1 = ks at *
      generalize (putAll (putS sz) [] cs ns).2.2 = cs1 at *
      match ks with
      | [] => exact absurd (List.length_eq_zero_iff.1 (by simpa using hkl.symm)) hne
      | [k] =>
        obtain ⟨b1, i1, b2, i2, t1, _, ⟨rfl, rfl⟩, _, hi⟩ := hb
        rw [List.append_nil] at hi
        subst hi
        exact ⟨lv, b1, t1⟩
      | k1 :: k2 :: kr =>
        have hbr := branches_len d (k1 :: k2 :: kr) (fun x hx => (hkk.1 x.key (List.mem_map.2 ⟨x, hx, rfl⟩)).1) (by simp)
        exact raise_tr f ((d + 1) % 256) cs1 (branchesL d (k1 :: k2 :: kr)) (lv + 1) is h1 (branches_ok g.hi d _ hkk (by simp) cs1 h2) hbr.2 (by simp at hbr hkl ⊢; omega) (branches_tr d _ bs is (by simp) hb) h0
end Go.Proofs.YthhmcjojnbaiiaaGreatDoor

/- Plain: what is built is read as it was; the reading. -/
namespace Go.Proofs.YthhmcjojnbaiiaaGreatDoor
open Go Go.RowKit
theorem pos_in : ∀ (cs : List CC) (c : CC), (ccNums cs).Pairwise (· < ·) → c ∈ cs → cs[numPos (ccNums cs) c.num]? = some c
  | [], c, _, h => absurd h (by simp)
  | x :: cs, c, hp, h => by
    have hp' : (x.num :: ccNums cs).Pairwise (· < ·) := hp
    rw [List.pairwise_cons] at hp'
    rcases List.mem_cons.1 h with rfl | h
    · have : numPos (ccNums (c :: cs)) c.num = 0 := by simp [numPos, posOf, ccNums]
      rw [this]; rfl
    · have hx : x.num < c.num := hp'.1 c.num (List.mem_map.2 ⟨c, h, rfl⟩)
      have : numPos (ccNums (x :: cs)) c.num = numPos (ccNums cs) c.num + 1 := by simp [numPos, posOf, ccNums, hx]
      rw [this, List.getElem?_cons_succ]
      exact pos_in cs c hp'.2 h
theorem at_in {sz : Int} {cs : List CC} (g : Good sz cs) {t : Int} {n : Node} (h : InN cs t n) : nodeAt (cs.map celOf) t = (n, true) := by
  obtain ⟨c, hc, rfl, rfl⟩ := h
  have hp := pos_in cs c g.ris hc
  have hnums : (cs.map celOf).map (·.num) = ccNums cs := by rw [List.map_map]; rfl
  have hget : (ccNums cs)[numPos (ccNums cs) c.num]? = some c.num := by
    show (cs.map (·.num))[_]? = _
    rw [List.getElem?_map, hp]; rfl
  have hh : numHas (ccNums cs) c.num = true := by
    simp [numHas, hasAt, hget]
  have hc2 : (cs.map celOf)[numPos (ccNums cs) c.num]? = some (celOf c) := by rw [List.getElem?_map, hp]; rfl
  unfold nodeAt celAt
  rw [hnums, hh, if_pos rfl, hc2]
  obtain ⟨h1, h2, _⟩ := g.dec c hc
  show (decN c.data, decB c.data) = _
  rw [h1, ← h2]
theorem keyAt_app {a b : List Item} (h : b ≠ []) : keyAt (a ++ b) a.length = hdKey (·.key) b := by
  obtain ⟨x, r, rfl⟩ := List.exists_cons_of_ne_nil h
  simp [keyAt, hdKey]
theorem kids_read {f : Int → RdS → Nat × RdS} {T : Int → List Int → List Item → Prop} {lv : Nat} (hT : ∀ t b i, T t b i → i ≠ [] ∧ ∀ r : RdS, r.bad = false → f t r = (lv, ⟨r.blocks ++ b, r.items ++ i, false⟩)) :
    ∀ (ks : List Kid) (bs : List Int) (is : List Item) (j lv0 : Nat) (r : RdS), TrKids T ks bs is → r.bad = false → (0 < j → lv0 = lv) → downKids f ks j lv0 r = ((if ks = [] then lv0 else lv) + 1, ⟨r.blocks ++ bs, r.items ++ is, false⟩)
  | [], bs, is, j, lv0, r, h, hb, _ => by
    obtain ⟨rfl, rfl⟩ := h
    obtain ⟨b, i, bad⟩ := r
    simp only at hb
    subst hb
    simp [downKids]
  | k :: ks, bs, is, j, lv0, r, ⟨b1, i1, b2, i2, h1, h2, h3, h4, h5⟩, hb, hj => by
    obtain ⟨hne, hf⟩ := hT _ _ _ h1
    have hf1 := hf r hb
    unfold downKids
    have hbad : kidBad k r.items.length j lv0 (f k.num r) = false := by
      unfold kidBad
      rw [hf1]
      simp only [keyAt_app hne, ← h2, Bool.false_or]
      have : beqB k.key k.key = true := (beqB_iff _ _).2 rfl
      rw [this]
      by_cases h0 : 0 < j
      · simp [hj h0]
      · simp [h0]
    rw [hbad, if_neg Bool.false_ne_true, hf1, kids_read hT ks b2 i2 (j + 1) lv _ h3 rfl (fun _ => rfl)]
    rw [h4, h5]
    simp
theorem tr_read {sz : Int} {cs : List CC} (g : Good sz cs) : ∀ (lv : Nat) (t : Int) (b : List Int) (i : List Item), Tr cs lv t b i → ∀ (m : Nat) (r : RdS), lv < m → r.bad = false → downS (cs.map celOf) m t r = (lv + 1, ⟨r.blocks ++ b, r.items ++ i, false⟩)
  | 0, t, b, i, h, m, r, hm, hb => by
    obtain ⟨n, b', hin, ⟨rfl, rfl, hne⟩, rfl⟩ := h
    obtain ⟨m, rfl⟩ : ∃ q, m = q + 1 := ⟨m - 1, by omega⟩
    unfold downS
    rw [at_in g hin, if_neg (by simp), if_pos rfl, hb]
  | lv + 1, t, b, i, h, m, r, hm, hb => by
    obtain ⟨n, b', hin, ⟨ks, rfl, hne, hk⟩, rfl⟩ := h
    obtain ⟨m, rfl⟩ : ∃ q, m = q + 1 := ⟨m - 1, by omega⟩
    unfold downS
    rw [at_in g hin, if_neg (by simp), if_neg (by simp)]
    show downKids (downS (cs.map celOf) m) ks 0 0 { r with blocks := r.blocks ++ [t] } = _
    refine (kids_read (f := downS (cs.map celOf) m) (T := fun t b i => ∃ m b', InN cs t m ∧ TrN cs lv m b' i ∧ b = t :: b') (lv := lv + 1) ?_ ks b' i 0 0 { r with blocks := r.blocks ++ [t] } hk hb (fun h => absurd h (Nat.lt_irrefl 0))).trans ?_
    · intro t b i h
      obtain ⟨n, b', k1, k2, k3⟩ := h
      exact ⟨trN_ne lv _ _ _ k2, fun r hr => tr_read g lv t b i ⟨n, b', k1, k2, k3⟩ m r (by omega) hr⟩
    · rw [if_neg hne]; simp
end Go.Proofs.YthhmcjojnbaiiaaGreatDoor

/- Plain: what is built is read as it was; its blocks are all different. -/
namespace Go.Proofs.YthhmcjojnbaiiaaGreatDoor
open Go Go.RowKit
theorem nodup_le {α : Type} [BEq α] [LawfulBEq α] : ∀ (b ns : List α), b.Nodup → (∀ x ∈ b, x ∈ ns) → b.length ≤ ns.length
  | [], _, _, _ => Nat.zero_le _
  | x :: b, ns, hd, hs => by
    rw [List.nodup_cons] at hd
    have hx := hs x (by simp)
    have := nodup_le b (ns.erase x) hd.2 (fun y hy => by
      have hne : y ≠ x := fun e => hd.1 (e ▸ hy)
      exact (List.mem_erase_of_ne hne).2 (hs y (by simp [hy])))
    rw [List.length_erase_of_mem hx] at this
    have hpos := List.length_pos_of_mem hx
    simp only [List.length_cons]
    omega
theorem inN_uniq {sz : Int} {cs : List CC} (g : Good sz cs) {t : Int} {n m : Node} (h1 : InN cs t n) (h2 : InN cs t m) : n = m := by
  have := (at_in g h1).symm.trans (at_in g h2)
  exact (Prod.mk.inj this).1
theorem kids_fun {T T' : Int → List Int → List Item → Prop} {p : Prop} (h : ∀ t b i b' i', T t b i → T' t b' i' → p ∧ b = b' ∧ i = i') : ∀ (ks : List Kid) (bs bs' : List Int) (is is' : List Item), ks ≠ [] → TrKids T ks bs is → TrKids T' ks bs' is' → p ∧ bs = bs' ∧ is = is'
  | [k], _, _, _, _, _, ⟨b1, i1, b2, i2, h1, _, h3, h4, h5⟩, ⟨c1, j1, c2, j2, k1, _, k3, k4, k5⟩ => by
    obtain ⟨hp, rfl, rfl⟩ := h _ _ _ _ _ h1 k1
    exact ⟨hp, by rw [h4, k4, h3.1, k3.1], by rw [h5, k5, h3.2, k3.2]⟩
  | k :: k' :: ks, _, _, _, _, _, ⟨b1, i1, b2, i2, h1, _, h3, h4, h5⟩, ⟨c1, j1, c2, j2, k1, _, k3, k4, k5⟩ => by
    obtain ⟨hp, rfl, rfl⟩ := h _ _ _ _ _ h1 k1
    obtain ⟨_, rfl, rfl⟩ := kids_fun h (k' :: ks) _ _ _ _ (by simp) h3 k3
    exact ⟨hp, h4.trans k4.symm, h5.trans k5.symm⟩
theorem trN_fun {sz : Int} {cs : List CC} (g : Good sz cs) : ∀ (lv lv' : Nat) (n : Node) (b b' : List Int) (i i' : List Item), TrN cs lv n b i → TrN cs lv' n b' i' → lv = lv' ∧ b = b' ∧ i = i'
  | 0, 0, n, b, b', i, i', ⟨h1, h2, _⟩, ⟨k1, k2, _⟩ => by
    have := h1.symm.trans k1
    simp only [Node.mk.injEq, and_true, true_and] at this
    exact ⟨rfl, h2.trans k2.symm, this⟩
  | 0, lv' + 1, n, b, b', i, i', ⟨h1, _, _⟩, ⟨ks, k1, _, _⟩ => by
    have := h1.symm.trans k1
    simp at this
  | lv + 1, 0, n, b, b', i, i', ⟨ks, h1, _, _⟩, ⟨k1, _, _⟩ => by
    have := h1.symm.trans k1
    simp at this
  | lv + 1, lv' + 1, n, b, b', i, i', ⟨ks, h1, h2, h3⟩, ⟨ks', k1, _, k3⟩ => by
    have e := h1.symm.trans k1
    simp only [Node.mk.injEq, and_true, true_and] at e
    subst e
    obtain ⟨hp, e1, e2⟩ := kids_fun (p := lv = lv') (fun t b i b' i' ⟨m, c, a1, a2, a3⟩ ⟨m', c', d1, d2, d3⟩ => by
      have := inN_uniq g a1 d1
      subst this
      obtain ⟨q1, q2, q3⟩ := trN_fun g lv lv' m c c' i i' a2 d2
      exact ⟨q1, by rw [a3, d3, q2], q3⟩) ks _ _ _ _ h2 h3 k3
    exact ⟨by omega, e1, e2⟩
theorem tr_fun {sz : Int} {cs : List CC} (g : Good sz cs) {lv lv' : Nat} {t : Int} {b b' : List Int} {i i' : List Item} (h : Tr cs lv t b i) (k : Tr cs lv' t b' i') : lv = lv' ∧ b = b' ∧ i = i' := by
  obtain ⟨m, c, a1, a2, a3⟩ := h
  obtain ⟨m', c', d1, d2, d3⟩ := k
  have := inN_uniq g a1 d1
  subst this
  obtain ⟨q1, q2, q3⟩ := trN_fun g lv lv' m c c' i i' a2 d2
  exact ⟨q1, by rw [a3, d3, q2], q3⟩
theorem kids_sub {T : Int → List Int → List Item → Prop} : ∀ (ks : List Kid) (bs : List Int) (is : List Item) (x : Int), TrKids T ks bs is → x ∈ bs → ∃ t b i, T t b i ∧ x ∈ b ∧ i.Sublist is
  | [], _, _, _, ⟨h, _⟩, hx => by rw [h] at hx; simp at hx
  | k :: ks, bs, is, x, ⟨b1, i1, b2, i2, h1, _, h3, h4, h5⟩, hx => by
    rw [h4] at hx
    rcases List.mem_append.1 hx with hx | hx
    · exact ⟨_, _, _, h1, hx, by rw [h5]; exact List.sublist_append_left _ _⟩
    · obtain ⟨t, b, i, k1, k2, k3⟩ := kids_sub ks b2 i2 x h3 hx
      exact ⟨t, b, i, k1, k2, by rw [h5]; exact k3.trans (List.sublist_append_right _ _)⟩
theorem trN_sub {cs : List CC} : ∀ (lv : Nat) (n : Node) (bs : List Int) (is : List Item) (x : Int), TrN cs lv n bs is → x ∈ bs → ∃ lv' b i, lv' < lv ∧ Tr cs lv' x b i ∧ i.Sublist is ∧ i ≠ []
  | 0, _, _, _, _, ⟨_, h, _⟩, hx => by rw [h] at hx; simp at hx
  | lv + 1, n, bs, is, x, ⟨ks, _, _, h3⟩, hx => by
    obtain ⟨t, b, i, ⟨m, b', k1, k2, k3⟩, hxb, hs⟩ := kids_sub ks bs is x h3 hx
    rw [k3] at hxb
    rcases List.mem_cons.1 hxb with rfl | hxb
    · exact ⟨lv, b, i, by omega, ⟨m, b', k1, k2, k3⟩, hs, trN_ne _ _ _ _ k2⟩
    · obtain ⟨lv', c, j, q1, q2, q3, q4⟩ := trN_sub lv m b' i x k2 hxb
      exact ⟨lv', c, j, by omega, q2, q3.trans hs, q4⟩
theorem tr_sub {cs : List CC} {lv : Nat} {t : Int} {b : List Int} {i : List Item} (h : Tr cs lv t b i) (x : Int) (hx : x ∈ b) : ∃ lv' b' i', lv' ≤ lv ∧ Tr cs lv' x b' i' ∧ i'.Sublist i ∧ i' ≠ [] := by
  obtain ⟨m, b', k1, k2, k3⟩ := h
  rw [k3] at hx
  rcases List.mem_cons.1 hx with rfl | hx
  · exact ⟨lv, b, i, Nat.le_refl _, ⟨m, b', k1, k2, k3⟩, List.Sublist.refl _, trN_ne _ _ _ _ k2⟩
  · obtain ⟨lv', c, j, q1, q2, q3, q4⟩ := trN_sub lv m b' i x k2 hx
    exact ⟨lv', c, j, by omega, q2, q3, q4⟩
theorem kids_nodup {T : Int → List Int → List Item → Prop} {S : Int → List Item → Prop} (hu : ∀ x i i', S x i → S x i' → i = i') (hT : ∀ t b i, T t b i → (i.Nodup → b.Nodup) ∧ ∀ x ∈ b, ∃ i', S x i' ∧ i'.Sublist i ∧ i' ≠ []) :
    ∀ (ks : List Kid) (bs : List Int) (is : List Item), TrKids T ks bs is → is.Nodup → bs.Nodup
  | [], _, _, ⟨h, _⟩, _ => by rw [h]; exact List.nodup_nil
  | k :: ks, bs, is, ⟨b1, i1, b2, i2, h1, _, h3, h4, h5⟩, hd => by
    rw [h5, List.nodup_append] at hd
    obtain ⟨d1, d2, d3⟩ := hd
    have n1 := (hT _ _ _ h1).1 d1
    have n2 := kids_nodup hu hT ks b2 i2 h3 d2
    rw [h4, List.nodup_append]
    refine ⟨n1, n2, fun x hx y hy e => ?_⟩
    subst e
    obtain ⟨j, s1, s2, s3⟩ := (hT _ _ _ h1).2 x hx
    obtain ⟨t, b, i, k1, k2, k3⟩ := kids_sub ks b2 i2 x h3 hy
    obtain ⟨j', s1', s2', _⟩ := (hT _ _ _ k1).2 x k2
    have := hu x j j' s1 s1'
    subst this
    obtain ⟨z, r, rfl⟩ := List.exists_cons_of_ne_nil s3
    exact d3 z (s2.subset (by simp)) z (k3.subset (s2'.subset (by simp))) rfl
theorem trN_nodup {sz : Int} {cs : List CC} (g : Good sz cs) : ∀ (lv : Nat) (n : Node) (bs : List Int) (is : List Item), TrN cs lv n bs is → is.Nodup → bs.Nodup
  | 0, _, _, _, ⟨_, h, _⟩, _ => by rw [h]; exact List.nodup_nil
  | lv + 1, n, bs, is, ⟨ks, _, _, h3⟩, hd => by
    refine kids_nodup (S := fun x i => ∃ lv' b, Tr cs lv' x b i) (fun x i i' ⟨_, _, a⟩ ⟨_, _, a'⟩ => (tr_fun g a a').2.2) ?_ ks bs is h3 hd
    rintro t b i ⟨m, b', k1, k2, k3⟩
    refine ⟨fun hi => ?_, fun x hx => ?_⟩
    · rw [k3, List.nodup_cons]
      refine ⟨fun hx => ?_, trN_nodup g lv m b' i k2 hi⟩
      obtain ⟨lv', c, j, q1, q2, _, _⟩ := trN_sub lv m b' i t k2 hx
      have := (tr_fun g q2 ⟨m, b', k1, k2, k3⟩).1
      omega
    · obtain ⟨lv', c, j, _, q2, q3, q4⟩ := tr_sub ⟨m, b', k1, k2, k3⟩ x hx
      exact ⟨j, ⟨lv', c, q2⟩, q3, q4⟩
theorem tr_nodup {sz : Int} {cs : List CC} (g : Good sz cs) {lv : Nat} {t : Int} {b : List Int} {i : List Item} (h : Tr cs lv t b i) (hi : i.Nodup) : b.Nodup := by
  obtain ⟨m, b', k1, k2, k3⟩ := h
  rw [k3, List.nodup_cons]
  refine ⟨fun hx => ?_, trN_nodup g lv m b' i k2 hi⟩
  obtain ⟨lv', c, j, q1, q2, _, _⟩ := trN_sub lv m b' i t k2 hx
  have := (tr_fun g q2 ⟨m, b', k1, k2, k3⟩).1
  omega
theorem trN_len {cs : List CC} : ∀ (lv : Nat) (n : Node) (bs : List Int) (is : List Item), TrN cs lv n bs is → lv ≤ bs.length
  | 0, _, _, _, _ => Nat.zero_le _
  | lv + 1, n, bs, is, ⟨ks, _, h2, h3⟩ => by
    match ks, h2, h3 with
    | k :: ks, _, ⟨b1, i1, b2, i2, ⟨m, b', k1, k2, k3⟩, _, _, h4, _⟩ =>
      have := trN_len lv _ _ _ k2
      rw [h4, k3]
      simp; omega
theorem tr_mem {cs : List CC} {lv : Nat} {t : Int} {b : List Int} {i : List Item} (h : Tr cs lv t b i) : ∀ x ∈ b, x ∈ ccNums cs := by
  intro x hx
  obtain ⟨_, _, _, _, ⟨m, _, ⟨c, hc, h1, _⟩, _, _⟩, _, _⟩ := tr_sub h x hx
  exact List.mem_map.2 ⟨c, hc, h1⟩
/-- The walk down from the root has room: as many cells as levels, and each block once. -/
theorem tr_room {sz : Int} {cs : List CC} (g : Good sz cs) {lv : Nat} {t : Int} {b : List Int} {i : List Item} (h : Tr cs lv t b i) (hi : i.Nodup) : lv < b.length ∧ b.length ≤ cs.length := by
  have h1 := nodup_le b (ccNums cs) (tr_nodup g h hi) (tr_mem h)
  have h2 : (ccNums cs).length = cs.length := by simp [ccNums]
  obtain ⟨m, b', k1, k2, k3⟩ := h
  have := trN_len lv _ _ _ k2
  refine ⟨by rw [k3]; simp; omega, by omega⟩
end Go.Proofs.YthhmcjojnbaiiaaGreatDoor

/- Plain: what is built is read as it was; the whole. -/
namespace Go.Proofs.YthhmcjojnbaiiaaGreatDoor
open Go Go.RowKit
theorem items_nodup {l : List Item} (h : itemsOk l = true) : l.Nodup := by
  have hp := ((items_iff l).1 h).1.2
  rw [List.pairwise_map] at hp
  refine hp.imp ?_
  rintro a b hab rfl
  rw [bl_irrefl] at hab
  cases hab
theorem read_zero {h : Hp} (ho : openB h = true) : (readS h 0).2.items = [] ∧ (readS h 0).2.blocks = [] := by
  have g := good_open h ho
  have hn : (nodeAt h.cells 0).2 = false := by
    have hnums : h.cells.map (·.num) = ccNums (opened h) := by rw [opened_map]; simp [ccNums, cc1]
    unfold nodeAt celAt
    rw [hnums]
    have : numHas (ccNums (opened h)) 0 = false := by
      unfold numHas hasAt
      cases hx : (ccNums (opened h))[numPos (ccNums (opened h)) 0]? with
      | none => rfl
      | some x =>
        have hm := List.mem_of_getElem? hx
        obtain ⟨c, hc, rfl⟩ := List.mem_map.1 hm
        have := (g.dec c hc).2.2.2.1
        simp; omega
    rw [this, if_neg Bool.false_ne_true]
  unfold readS
  cases h.cells.length with
  | zero => exact ⟨rfl, rfl⟩
  | succ m =>
    unfold downS
    rw [if_pos (Or.inl hn)]
    exact ⟨rfl, rfl⟩
/-- What is said of a heap and a root that Build has answered well. -/
structure BuiltOk (g : Hp) (t : Int) (l : List Item) : Prop where
  op : openB g = true
  ok : itemsOk l = true
  all : allS g t = l
  err : topenE g t = 0
  read : ReadOk 1073741824 g t
theorem build_read (h : Hp) (l : List Item) (hml : l.length ≤ 1073741824) (h0 : (buildS h l).2.2 = 0) : BuiltOk (buildS h l).1 (buildS h l).2.1.num l := by
  unfold buildS at h0 ⊢
  cases ho : openB h with
  | false => rw [ho, if_pos rfl] at h0; exact absurd h0 (show ¬ (7 : Int) = 0 by decide)
  | true =>
    rw [ho] at h0
    rw [if_neg (by simp)] at h0 ⊢
    cases hi : itemsOk l with
    | false => rw [hi, if_pos rfl] at h0; exact absurd h0 (show ¬ (4 : Int) = 0 by decide)
    | true =>
      rw [hi] at h0
      rw [if_neg (by simp)] at h0 ⊢
      by_cases hl : l = []
      · subst hl
        rw [if_pos rfl]
        have hz := read_zero ho
        have he : topenE h 0 = 0 := by unfold topenE; rw [if_neg (by rw [ho]; simp), if_pos rfl]
        refine ⟨ho, rfl, ?_, he, ⟨by show (readS h 0).2.items.length ≤ _; rw [hz.1]; simp, by show (readS h 0).2.blocks.length ≤ _; rw [hz.2]; simp, by show (topenK h 0).length ≤ _; simp [topenK], by show (topenK h 0).Nodup; simp [topenK], by show ∀ x ∈ topenK h 0, _; simp [topenK], fun hne => absurd rfl hne⟩⟩
        show allS h 0 = []
        unfold allS
        rw [if_pos he]
        rfl
      · rw [if_neg hl] at h0 ⊢
        by_cases hr : (raiseS (putS h.size) (opened h) l).2.1 ≠ 0
        · rw [if_pos hr] at h0; exact absurd h0 hr
        · rw [if_neg hr]
          have hr0 : (raiseS (putS h.size) (opened h) l).2.1 = 0 := by simpa using hr
          have g := good_open h ho
          have gr := raise_good ho hi hl hr0
          obtain ⟨l1, l2, l3, l4⟩ := leaves_ok l hi hl (opened h)
          obtain ⟨lv, bs, ht⟩ := raise_tr (sz := h.size) (l.length + 1) 1 (opened h) (leavesL l) 0 l g l1 l3 (by omega) (leaves_tr l hl) hr0
          have hnd := items_nodup hi
          have hroom := tr_room gr ht hnd
          have hread := tr_read gr lv _ _ _ ht (raiseS (putS h.size) (opened h) l).2.2.length ⟨[], [], false⟩ (Nat.lt_of_lt_of_le hroom.1 hroom.2) rfl
          have hmem := tr_mem ht
          have hnod := tr_nodup gr ht hnd
          change Tr (raiseS (putS h.size) (opened h) l).2.2 lv (raiseS (putS h.size) (opened h) l).1.num bs l at ht
          change downS _ _ (raiseS (putS h.size) (opened h) l).1.num _ = _ at hread
          change ∀ x ∈ bs, x ∈ ccNums (raiseS (putS h.size) (opened h) l).2.2 at hmem
          change lv < bs.length ∧ bs.length ≤ (raiseS (putS h.size) (opened h) l).2.2.length at hroom
          generalize (raiseS (putS h.size) (opened h) l).2.2 = cs at *
          generalize (raiseS (putS h.size) (opened h) l).1 = k at *
          obtain ⟨ho1, ho2⟩ := open_good gr
          have hlen := good_len gr
          have hsz := gr.hi
          simp only [List.nil_append] at hread
          have hrs : readS (heapOf h.size cs) k.num = (lv + 1, ⟨bs, l, false⟩) := by
            unfold readS heapOf
            rw [List.length_map]
            exact hread
          have hkn : InN cs k.num (nodeAt (cs.map celOf) k.num).1 ∧ (nodeAt (cs.map celOf) k.num).2 = true ∧ k.num ∈ bs := by
            obtain ⟨m, b', k1, k2, k3⟩ := ht
            rw [at_in gr k1]
            exact ⟨k1, rfl, by rw [k3]; simp⟩
          have hk2 : 2 ≤ k.num := by
            obtain ⟨c, hc, h1⟩ := List.mem_map.1 (hmem _ hkn.2.2)
            have := (gr.dec c hc).2.2.2.1
            omega
          have hk0 : k.num ≠ 0 := by omega
          have he : topenE (heapOf h.size cs) k.num = 0 := by
            unfold topenE
            rw [if_neg (by rw [ho2]; simp), if_neg hk0, if_neg (by show ¬ (nodeAt (cs.map celOf) k.num).2 = false; rw [hkn.2.1]; simp), hrs]
            rw [if_neg (by simp [hi])]
          have hK : topenK (heapOf h.size cs) k.num = bs := by unfold topenK; rw [if_neg hk0, hrs]
          refine ⟨ho2, hi, ?_, he, ⟨?_, ?_, ?_, ?_, ?_, ?_⟩⟩
          · unfold allS topenI
            show (if topenE (heapOf h.size cs) k.num = 0 then _ else _) = l
            rw [if_pos he, if_neg hk0, hrs]
          · show (readS (heapOf h.size cs) k.num).2.items.length ≤ _; rw [hrs]; exact hml
          · show (readS (heapOf h.size cs) k.num).2.blocks.length ≤ _; rw [hrs]; simp only; omega
          · show (topenK (heapOf h.size cs) k.num).length ≤ _; rw [hK]; omega
          · show (topenK (heapOf h.size cs) k.num).Nodup; rw [hK]; exact hnod
          · show ∀ x ∈ topenK (heapOf h.size cs) k.num, _
            rw [hK]
            intro x hx
            obtain ⟨c, hc, h1⟩ := List.mem_map.1 (hmem x hx)
            have h2 := gr.dec c hc
            unfold u32Ok
            omega
          · intro _ _ _
            show (readS (heapOf h.size cs) k.num).2.blocks ≠ []
            rw [hrs]
            intro e
            have e' : bs = [] := e
            rw [e'] at hkn
            simp at hkn
end Go.Proofs.YthhmcjojnbaiiaaGreatDoor

/- Plain: what is built once more is what it was. -/
namespace Go.Proofs.YthhmcjojnbaiiaaGreatDoor
open Go Go.RowKit
/-- The number of the first cell with these bytes. -/
def fst (cs : List CC) (d : ByteArray) : Option Int := (cs.find? (fun c => beqB c.data d)).map (·.num)
theorem dataIx_find : ∀ (cs : List CC) (d : ByteArray), cs[dataIx (cs.map (·.data)) d]? = cs.find? (fun c => beqB c.data d)
  | [], d => by simp [dataIx]
  | x :: cs, d => by
    unfold dataIx
    by_cases hx : beqB x.data d = true
    · simp [hx]
    · have hx2 : beqB x.data d = false := by simpa using hx
      have := dataIx_find cs d
      unfold dataIx at this
      simp only [List.map_cons, List.takeWhile_cons, hx2, Bool.not_false, if_true, List.length_cons, List.getElem?_cons_succ, List.find?_cons]
      exact this
/-- Cells that hold all that others do, found at the same places. -/
structure Ext (cs cs' : List CC) : Prop where
  fst : ∀ d t, fst cs d = some t → fst cs' d = some t
  has : ∀ t x, Has cs t x → Has cs' t x
theorem Ext.refl (cs : List CC) : Ext cs cs := ⟨fun _ _ h => h, fun _ _ h => h⟩
theorem Ext.trans {a b c : List CC} (h : Ext a b) (k : Ext b c) : Ext a c := ⟨fun d t x => k.fst d t (h.fst d t x), fun t x y => k.has t x (h.has t x y)⟩
theorem putS_fst {sz : Int} {cs : List CC} {n : Node} {t : Int} (hn : nodeErr n = 0) (hl : leadsE cs n = 0) (hf : fst cs (wholeB n) = some t) : putS sz cs n = (⟨ByteArray.empty, t, shaOf (wholeB n).data.toList⟩, 0, cs) := by
  rw [putS_kid hn hl, dataIx_find]
  unfold fst at hf
  cases hx : cs.find? (fun c => beqB c.data (wholeB n)) with
  | none => rw [hx] at hf; cases hf
  | some c =>
    rw [hx] at hf
    have : c.num = t := by simpa using hf
    rw [← this]
theorem find_ins {p : CC → Bool} {c : CC} {cs : List CC} (h : p c = false) : (insCC c cs).find? p = cs.find? p := by
  unfold insCC
  rw [List.find?_append, List.find?_cons_of_neg (by rw [h]; simp), ← List.find?_append, List.take_append_drop]
theorem find_ins_own {p : CC → Bool} {c : CC} {cs : List CC} (h : p c = true) (hn : cs.find? p = none) : (insCC c cs).find? p = some c := by
  unfold insCC
  have h2 : (cs.take (numPos (ccNums cs) c.num)).find? p = none := by
    rw [List.find?_eq_none] at hn ⊢
    intro x hx
    exact hn x ((List.take_sublist _ _).subset hx)
  rw [List.find?_append, h2, List.find?_cons_of_pos h]
  rfl
/-- A put that answers well: the bytes are then found at the kid's number. -/
theorem put_ext {sz : Int} {cs : List CC} {n : Node} (hn : nodeErr n = 0) (hl : leadsE cs n = 0) (h0 : (putS sz cs n).2.1 = 0) (hp : PutOk sz cs n (putS sz cs n).1 (putS sz cs n).2.2) :
    Ext cs (putS sz cs n).2.2 ∧ fst (putS sz cs n).2.2 (wholeB n) = some (putS sz cs n).1.num := by
  refine ⟨⟨?_, hp.mono⟩, ?_⟩
  all_goals clear hp
  all_goals rw [putS_kid hn hl, dataIx_find] at h0 ⊢
  · intro d t ht
    cases hx : cs.find? (fun c => beqB c.data (wholeB n)) with
    | some c => simp only; exact ht
    | none =>
      rw [hx] at h0
      simp only at h0 ⊢
      by_cases hf : freeNum (ccNums cs) < sz
      · rw [if_neg (by simpa using hf)] at h0 ⊢
        cases ha : (kidNums n).any (fun t => decide (16777216 - (countL (kidNums n) t : Int) < refsOf cs t)) with
        | true => rw [ha, if_pos rfl] at h0; exact absurd h0 (show ¬ (1 : Int) = 0 by decide)
        | false =>
          rw [if_neg Bool.false_ne_true]
          simp only [holds_map]
          have hd : beqB (wholeB n) d = false := by
            cases hq : beqB (wholeB n) d with
            | false => rfl
            | true =>
              rw [beqB_iff] at hq
              unfold fst at ht
              rw [← hq, hx] at ht
              cases ht
          unfold fst at ht ⊢
          rw [List.find?_map, Option.map_map]
          have hi : (insCC (newCC (freeNum (ccNums cs)) n) cs).find? (fun c => beqB c.data d) = cs.find? (fun c => beqB c.data d) := find_ins (p := fun c => beqB c.data d) (by exact hd)
          show ((insCC (newCC (freeNum (ccNums cs)) n) cs).find? (fun c => beqB c.data d)).map _ = _
          rw [hi]
          exact ht
      · rw [if_pos (by simpa using hf)] at h0; exact absurd h0 (show ¬ (8 : Int) = 0 by decide)
  · cases hx : cs.find? (fun c => beqB c.data (wholeB n)) with
    | some c => simp only; unfold fst; rw [hx]; rfl
    | none =>
      rw [hx] at h0
      simp only at h0 ⊢
      by_cases hf : freeNum (ccNums cs) < sz
      · rw [if_neg (by simpa using hf)] at h0 ⊢
        cases ha : (kidNums n).any (fun t => decide (16777216 - (countL (kidNums n) t : Int) < refsOf cs t)) with
        | true => rw [ha, if_pos rfl] at h0; exact absurd h0 (show ¬ (1 : Int) = 0 by decide)
        | false =>
          rw [if_neg Bool.false_ne_true]
          simp only [holds_map]
          unfold fst
          rw [List.find?_map, Option.map_map]
          have hi : (insCC (newCC (freeNum (ccNums cs)) n) cs).find? (fun c => beqB c.data (wholeB n)) = some (newCC (freeNum (ccNums cs)) n) := find_ins_own (p := fun c => beqB c.data (wholeB n)) ((beqB_iff _ _).2 rfl) hx
          show ((insCC (newCC (freeNum (ccNums cs)) n) cs).find? (fun c => beqB c.data (wholeB n))).map _ = _
          rw [hi]
          rfl
      · rw [if_pos (by simpa using hf)] at h0; exact absurd h0 (show ¬ (8 : Int) = 0 by decide)
theorem put_kid {sz : Int} {cs : List CC} {n : Node} {k : Kid} (h1 : k.key = ByteArray.empty) (h2 : k.hash = shaOf (wholeB n).data.toList) : k = ⟨ByteArray.empty, k.num, shaOf (wholeB n).data.toList⟩ := by
  cases k; simp only at h1 h2; rw [h1, h2]
theorem putAll_again {sz : Int} : ∀ (ns : List Node) (acc : List Kid) (cs : List CC), Good sz cs → (∀ n ∈ ns, nodeErr n = 0 ∧ nodeWf n ∧ ∀ k ∈ namedK n, Has cs k.num k.hash) → (putAll (putS sz) acc cs ns).2.1 = 0 →
    Ext cs (putAll (putS sz) acc cs ns).2.2 ∧ ∀ cs2, Good sz cs2 → Ext (putAll (putS sz) acc cs ns).2.2 cs2 → putAll (putS sz) acc cs2 ns = ((putAll (putS sz) acc cs ns).1, 0, cs2)
  | [], acc, cs, _, _, _ => ⟨Ext.refl cs, fun cs2 _ _ => rfl⟩
  | n :: r, acc, cs, g, hn, h0 => by
    obtain ⟨e1, e2, e3⟩ := hn n (by simp)
    have hl := (leads_zero g.ris n).2 e3
    rw [putAll_cons] at h0 ⊢
    rcases put_good g e1 e2 hl with h8 | ⟨p0, p⟩
    · rw [if_pos (by omega)] at h0; simp only at h0; omega
    · rw [if_neg (by omega)] at h0 ⊢
      obtain ⟨hx, hf⟩ := put_ext e1 hl p0 p
      obtain ⟨i1, i2⟩ := putAll_again r _ _ p.good (fun n' hn' => ⟨(hn n' (by simp [hn'])).1, (hn n' (by simp [hn'])).2.1, fun k hk => p.mono _ _ ((hn n' (by simp [hn'])).2.2 k hk)⟩) h0
      refine ⟨hx.trans i1, fun cs2 g2 hx2 => ?_⟩
      have hf2 := hx2.fst _ _ (i1.fst _ _ hf)
      have hl2 := (leads_zero g2.ris n).2 (fun k hk => hx2.has _ _ (i1.has _ _ (hx.has _ _ (e3 k hk))))
      have hput := putS_fst (sz := sz) e1 hl2 hf2
      rw [← put_kid (sz := sz) (cs := cs) p.key p.hash] at hput
      rw [putAll_cons, hput, if_neg (by simp)]
      exact i2 cs2 g2 hx2
theorem raise_again {sz : Int} : ∀ (f : Nat) (d : Int) (cs : List CC) (ns : List Node), Good sz cs → NodesOk cs ns → ns ≠ [] → ns.length ≤ f → (raiseGo (putS sz) f d cs ns).2.1 = 0 →
    Ext cs (raiseGo (putS sz) f d cs ns).2.2 ∧ ∀ cs2, Good sz cs2 → Ext (raiseGo (putS sz) f d cs ns).2.2 cs2 → raiseGo (putS sz) f d cs2 ns = ((raiseGo (putS sz) f d cs ns).1, 0, cs2)
  | 0, d, cs, ns, _, _, hne, hf, _ => absurd (List.length_eq_zero_iff.1 (by omega)) hne
  | f + 1, d, cs, ns, g, hn, hne, hf, h0 => by
    rcases putAll_good (sz := sz) ns [] cs g hn.ok (fun k hk => by simp at hk) with h8 | ⟨p0, h1, h2, h3, h4, h5⟩
    · unfold raiseGo at h0
      rw [if_pos (by omega)] at h0; simp only at h0; omega
    · obtain ⟨hx, ha⟩ := putAll_again (sz := sz) ns [] cs g hn.ok p0
      unfold raiseGo at h0 ⊢
      rw [if_neg (by omega)] at h0 ⊢
      simp only [List.map_nil, List.nil_append] at h3
      have hkl : (putAll (putS sz) [] cs ns).1.length = ns.length := by have := congrArg List.length h3; simpa using this
      have hkk : KeysOk ((putAll (putS sz) [] cs ns).1.map (·.key)) := by rw [h3]; exact hn.keys
      generalize (putAll (putS sz) [] cs ns).1 = ks at *
      generalize (putAll (putS sz) [] cs ns).2.2 = cs1 at *
      match ks with
      | [] => exact absurd (List.length_eq_zero_iff.1 (by simpa using hkl.symm)) hne
      | [k] =>
        refine ⟨hx, fun cs2 g2 hx2 => ?_⟩
        rw [ha cs2 g2 hx2, if_neg (by simp)]
      | k1 :: k2 :: kr =>
        have hbr := branches_len d (k1 :: k2 :: kr) (fun x hx => (hkk.1 x.key (List.mem_map.2 ⟨x, hx, rfl⟩)).1) (by simp)
        obtain ⟨i1, i2⟩ := raise_again f ((d + 1) % 256) cs1 (branchesL d (k1 :: k2 :: kr)) h1 (branches_ok g.hi d _ hkk (by simp) cs1 h2) hbr.2 (by simp at hbr hkl ⊢; omega) h0
        refine ⟨hx.trans i1, fun cs2 g2 hx2 => ?_⟩
        rw [ha cs2 g2 (i1.trans hx2), if_neg (by simp)]
        exact i2 cs2 g2 hx2
theorem heapOf_opened (h : Hp) : heapOf h.size (opened h) = h := by
  unfold heapOf
  rw [opened_map, List.map_map, List.map_map]
  cases h with
  | mk s cs =>
    simp only [Hp.mk.injEq, true_and]
    conv => rhs; rw [← List.map_id cs]
    apply List.map_congr_left
    intro c _
    rfl
/-- What is built is built again at the same root, in each heap that holds it, and changes nothing there. -/
theorem build_again (h : Hp) (l : List Item) (h0 : (buildS h l).2.2 = 0) :
    openB (buildS h l).1 = true ∧ (buildS h l).1.size = h.size ∧ Ext (opened h) (opened (buildS h l).1) ∧ ∀ g, openB g = true → g.size = h.size → Ext (opened (buildS h l).1) (opened g) → buildS g l = (g, (buildS h l).2.1, 0) := by
  unfold buildS at h0 ⊢
  cases ho : openB h with
  | false => rw [ho, if_pos rfl] at h0; exact absurd h0 (show ¬ (7 : Int) = 0 by decide)
  | true =>
    rw [ho] at h0
    rw [if_neg (by simp)] at h0 ⊢
    cases hi : itemsOk l with
    | false => rw [hi, if_pos rfl] at h0; exact absurd h0 (show ¬ (4 : Int) = 0 by decide)
    | true =>
      rw [hi] at h0
      rw [if_neg (by simp)] at h0 ⊢
      by_cases hl : l = []
      · subst hl
        rw [if_pos rfl]
        refine ⟨ho, rfl, Ext.refl _, fun g hg _ _ => ?_⟩
        rw [if_neg (by rw [hg]; simp), if_neg (by simp), if_pos rfl]
      · rw [if_neg hl] at h0 ⊢
        by_cases hr : (raiseS (putS h.size) (opened h) l).2.1 ≠ 0
        · rw [if_pos hr] at h0; exact absurd h0 hr
        · rw [if_neg hr]
          have hr0 : (raiseS (putS h.size) (opened h) l).2.1 = 0 := by simpa using hr
          have g := good_open h ho
          have gr := raise_good ho hi hl hr0
          obtain ⟨l1, l2, l3, l4⟩ := leaves_ok l hi hl (opened h)
          obtain ⟨k1, k2⟩ := raise_again (sz := h.size) (l.length + 1) 1 (opened h) (leavesL l) g l1 l3 (by omega) hr0
          change Ext (opened h) (raiseS (putS h.size) (opened h) l).2.2 at k1
          change ∀ cs2, Good h.size cs2 → Ext (raiseS (putS h.size) (opened h) l).2.2 cs2 → raiseS (putS h.size) cs2 l = ((raiseS (putS h.size) (opened h) l).1, 0, cs2) at k2
          obtain ⟨o1, o2⟩ := open_good gr
          simp only
          refine ⟨o2, rfl, by rw [o1]; exact k1, fun b hb hbs hx => ?_⟩
          rw [o1] at hx
          have gb := good_open b hb
          rw [hbs] at gb
          have := k2 _ gb hx
          rw [if_neg (by rw [hb]; simp), if_neg (by simp), if_neg hl, hbs, this, if_neg (by simp)]
          simp only
          rw [← hbs, heapOf_opened]
end Go.Proofs.YthhmcjojnbaiiaaGreatDoor

/- Plain: what GrowOne asks. -/
namespace Go.Proofs.YthhmcjojnbaiiaaGreatDoor
open Go Go.RowKit
structure OneOk (h2 : Hp) (x y : Kid) (a b : List Item) : Prop where
  op : openB h2 = true
  ra : BuiltOk h2 x.num a
  rb : BuiltOk h2 y.num b
  there : changeS h2 x.num (diffS a b) = (h2, y, 0)
  back : changeS h2 y.num (diffS b a) = (h2, x, 0)
  ea : diffE a b = 0
  eb : diffE b a = 0
  ta : (applyS (allS h2 x.num) (diffS a b)).1 = b
  tb : (applyS (allS h2 y.num) (diffS b a)).1 = a
theorem change_diff {g : Hp} {x y : Kid} {a b : List Item} (ho : openB g = true) (ha : BuiltOk g x.num a) (hb : itemsOk b = true) (hy : buildS g b = (g, y, 0)) : changeS g x.num (diffS a b) = (g, y, 0) := by
  have hd : diffS a b = diffL a b := by unfold diffS; rw [if_pos ⟨ha.ok, hb⟩]
  unfold changeS
  rw [hd, if_neg (by rw [ho]; simp), if_neg (by rw [ha.err]; simp), ha.all, applyS_diff ha.ok hb, if_neg (by simp)]
  exact hy
theorem apply_diffS {g : Hp} {x : Kid} {a b : List Item} (ha : BuiltOk g x.num a) (hb : itemsOk b = true) : (applyS (allS g x.num) (diffS a b)).1 = b := by
  have hd : diffS a b = diffL a b := by unfold diffS; rw [if_pos ⟨ha.ok, hb⟩]
  rw [hd, ha.all, applyS_diff ha.ok hb]
theorem diffS_len (a b : List Item) : (diffS a b).length ≤ a.length + b.length := by
  unfold diffS
  split
  · exact diffL_len a b
  · simp
theorem diffE_zero {a b : List Item} (ha : itemsOk a = true) (hb : itemsOk b = true) : diffE a b = 0 := by
  unfold diffE
  rw [orL_two, ha, hb]; rfl
theorem one_law (h : Hp) (a b : List Item) (hla : a.length ≤ 1073741824) (hlb : b.length ≤ 1073741824) (h1 : (buildS h a).2.2 = 0) (h2 : (buildS (buildS h a).1 b).2.2 = 0) :
    OneOk (buildS (buildS h a).1 b).1 (buildS h a).2.1 (buildS (buildS h a).1 b).2.1 a b := by
  obtain ⟨o1, s1, x1, g1⟩ := build_again h a h1
  obtain ⟨o2, s2, x2, g2⟩ := build_again (buildS h a).1 b h2
  have ka := g1 _ o2 (s2.trans s1) x2
  have kb := g2 _ o2 s2 (Ext.refl _)
  have ra := build_read _ a hla (by rw [ka])
  have rb := build_read _ b hlb (by rw [kb])
  rw [ka] at ra
  rw [kb] at rb
  exact ⟨o2, ra, rb, change_diff o2 ra rb.ok kb, change_diff o2 rb ra.ok ka, diffE_zero ra.ok rb.ok, diffE_zero rb.ok ra.ok, apply_diffS ra rb.ok, apply_diffS rb ra.ok⟩
theorem one_bad (h : Hp) (a b : List Item) (hla : a.length ≤ 1073741824) (hlb : b.length ≤ 1073741824) (hd : diffE a b ≠ 0 ∨ diffE b a ≠ 0) : (buildS h a).2.2 ≠ 0 ∨ (buildS (buildS h a).1 b).2.2 ≠ 0 := by
  by_cases h1 : (buildS h a).2.2 = 0
  · right
    intro h2
    have := one_law h a b hla hlb h1 h2
    rcases hd with hd | hd
    · exact hd this.ea
    · exact hd this.eb
  · exact Or.inl h1
end Go.Proofs.YthhmcjojnbaiiaaGreatDoor
