/- Texts of the proof: Rb Rc Rd Re Nl Gw. -/
import Derived.Test.YthhmcjojnbaiiaaGreatDoorM35
import Derived.Test.YthhmcjojnbaiiaaGreatDoorM51
import Derived.Test.YthhmcjojnbaiiaaGreatDoorM33
import Derived.Test.YthhmcjojnbaiiaaGreatDoorM39
set_option linter.all false
/- Plain: what is built is read as it was. -/
namespace Go.Proofs.YthhmcjojnbaiiaaGreatDoor
open Go Go.RowKit
/-- The cell of number t holds node n. -/
def InN (cs : List CC) (t : Int) (n : Node) : Prop := ∃ c ∈ cs, c.num = t ∧ c.node = n
def TrKids (T : Int → List Int → List Item → Prop) : List Kid → List Int → List Item → Prop
  | [], bs, is => bs = [] ∧ is = []
  | k :: ks, bs, is => ∃ b1 i1 b2 i2, T k.num b1 i1 ∧ k.key = hdKey (·.key) i1 ∧ TrKids T ks b2 i2 ∧ bs = b1 ++ b2 ∧ is = i1 ++ i2
/-- A node at level lv over the cells: what lies below it. -/
def TrN (cs : List CC) : Nat → Node → List Int → List Item → Prop
  | 0, n, bs, is => n = ⟨1, is, [], []⟩ ∧ bs = [] ∧ is ≠ []
  | lv + 1, n, bs, is => ∃ ks, n = ⟨2, [], ks, []⟩ ∧ ks ≠ [] ∧ TrKids (fun t b i => ∃ m b', InN cs t m ∧ TrN cs lv m b' i ∧ b = t :: b') ks bs is
def Tr (cs : List CC) (lv : Nat) (t : Int) (b : List Int) (i : List Item) : Prop := ∃ m b', InN cs t m ∧ TrN cs lv m b' i ∧ b = t :: b'
def TrNs (cs : List CC) (lv : Nat) : List Node → List Item → Prop
  | [], is => is = []
  | n :: r, is => ∃ b i1 i2, TrN cs lv n b i1 ∧ TrNs cs lv r i2 ∧ is = i1 ++ i2
theorem trKids_mono {T T' : Int → List Int → List Item → Prop} (h : ∀ t b i, T t b i → T' t b i) : ∀ (ks : List Kid) (bs : List Int) (is : List Item), TrKids T ks bs is → TrKids T' ks bs is
  | [], _, _, hk => hk
  | k :: ks, _, _, ⟨b1, i1, b2, i2, h1, h2, h3, h4, h5⟩ => ⟨b1, i1, b2, i2, h _ _ _ h1, h2, trKids_mono h ks _ _ h3, h4, h5⟩
theorem trN_mono {cs cs' : List CC} (h : ∀ t n, InN cs t n → InN cs' t n) : ∀ (lv : Nat) (n : Node) (bs : List Int) (is : List Item), TrN cs lv n bs is → TrN cs' lv n bs is
  | 0, _, _, _, hk => hk
  | lv + 1, _, _, _, ⟨ks, h1, h2, h3⟩ => ⟨ks, h1, h2, trKids_mono (fun _ _ _ ⟨m, b', k1, k2, k3⟩ => ⟨m, b', h _ _ k1, trN_mono h lv _ _ _ k2, k3⟩) ks _ _ h3⟩
theorem tr_mono {cs cs' : List CC} (h : ∀ t n, InN cs t n → InN cs' t n) {lv : Nat} {t : Int} {b : List Int} {i : List Item} : Tr cs lv t b i → Tr cs' lv t b i
  | ⟨m, b', k1, k2, k3⟩ => ⟨m, b', h _ _ k1, trN_mono h lv _ _ _ k2, k3⟩
theorem trNs_mono {cs cs' : List CC} (h : ∀ t n, InN cs t n → InN cs' t n) {lv : Nat} : ∀ (ns : List Node) (is : List Item), TrNs cs lv ns is → TrNs cs' lv ns is
  | [], _, hk => hk
  | _ :: r, _, ⟨b, i1, i2, h1, h2, h3⟩ => ⟨b, i1, i2, trN_mono h _ _ _ _ h1, trNs_mono h r _ h2, h3⟩
theorem trKids_app {T : Int → List Int → List Item → Prop} : ∀ (a b : List Kid) (bs : List Int) (is : List Item), TrKids T (a ++ b) bs is ↔ ∃ b1 i1 b2 i2, TrKids T a b1 i1 ∧ TrKids T b b2 i2 ∧ bs = b1 ++ b2 ∧ is = i1 ++ i2
  | [], b, bs, is => by
    constructor
    · intro h; exact ⟨[], [], bs, is, ⟨rfl, rfl⟩, h, rfl, rfl⟩
    · rintro ⟨_, _, _, _, ⟨rfl, rfl⟩, h, rfl, rfl⟩; exact h
  | k :: a, b, bs, is => by
    constructor
    · rintro ⟨b1, i1, b2, i2, h1, h2, h3, rfl, rfl⟩
      obtain ⟨c1, j1, c2, j2, k1, k2, rfl, rfl⟩ := (trKids_app a b _ _).1 h3
      exact ⟨b1 ++ c1, i1 ++ j1, c2, j2, ⟨b1, i1, c1, j1, h1, h2, k1, rfl, rfl⟩, k2, by simp, by simp⟩
    · rintro ⟨_, _, c2, j2, ⟨b1, i1, c1, j1, h1, h2, k1, rfl, rfl⟩, k2, rfl, rfl⟩
      exact ⟨b1, i1, c1 ++ c2, j1 ++ j2, h1, h2, (trKids_app a b _ _).2 ⟨_, _, _, _, k1, k2, rfl, rfl⟩, by simp, by simp⟩
theorem trN_ne {cs : List CC} : ∀ (lv : Nat) (n : Node) (bs : List Int) (is : List Item), TrN cs lv n bs is → is ≠ []
  | 0, _, _, _, ⟨_, _, h⟩ => h
  | lv + 1, _, _, _, ⟨ks, _, h2, h3⟩ => by
    match ks, h2, h3 with
    | k :: ks, _, ⟨b1, i1, b2, i2, ⟨m, b', k1, k2, k3⟩, _, _, _, hi⟩ =>
      have := trN_ne lv _ _ _ k2
      intro e
      rw [hi] at e
      exact this (List.append_eq_nil_iff.1 e).1
theorem hdKey_app {i1 i2 : List Item} (h : i1 ≠ []) : hdKey (·.key) (i1 ++ i2) = hdKey (·.key) i1 := by
  obtain ⟨x, r, rfl⟩ := List.exists_cons_of_ne_nil h
  rfl
theorem trN_key {cs : List CC} : ∀ (lv : Nat) (n : Node) (bs : List Int) (is : List Item), TrN cs lv n bs is → keyOf n = hdKey (·.key) is
  | 0, _, _, _, ⟨rfl, _, _⟩ => rfl
  | lv + 1, _, _, _, ⟨ks, rfl, h2, h3⟩ => by
    match ks, h2, h3 with
    | k :: ks, _, ⟨b1, i1, b2, i2, ⟨m, b', k1, k2, k3⟩, hk, _, _, hi⟩ =>
      rw [hi, hdKey_app (trN_ne lv _ _ _ k2), ← hk]
      rfl
/-- A put that answers well keeps the nodes and holds its own. -/
theorem put_in {sz : Int} {cs : List CC} {n : Node} (g : Good sz cs) (hn : nodeErr n = 0) (hw : nodeWf n) (hl : leadsE cs n = 0) (h0 : (putS sz cs n).2.1 = 0) :
    (∀ t m, InN cs t m → InN (putS sz cs n).2.2 t m) ∧ InN (putS sz cs n).2.2 (putS sz cs n).1.num n := by
  rw [putS_kid hn hl] at h0 ⊢
  cases hd : cs[dataIx (cs.map (·.data)) (wholeB n)]? with
  | some c =>
    obtain ⟨hc, hcd⟩ := dataIx_get cs _ c hd
    have hdec := (g.dec c hc).2.1
    refine ⟨fun _ _ h => h, c, hc, rfl, ?_⟩
    rw [hdec, hcd]
    exact (dec_enc n hn hw).2
  | none =>
    rw [hd] at h0
    simp only at h0 ⊢
    by_cases hf : freeNum (ccNums cs) < sz
    · rw [if_neg (by simpa using hf)] at h0 ⊢
      cases ha : (kidNums n).any (fun t => decide (16777216 - (countL (kidNums n) t : Int) < refsOf cs t)) with
      | true => rw [ha, if_pos rfl] at h0; exact absurd h0 (show ¬ (1 : Int) = 0 by decide)
      | false =>
        rw [if_neg Bool.false_ne_true]
        simp only [holds_map]
        have key : ∀ c ∈ insCC (newCC (freeNum (ccNums cs)) n) cs, InN ((insCC (newCC (freeNum (ccNums cs)) n) cs).map fun c => { c with refs := c.refs + countL (kidNums n) c.num, led := c.led + countL (kidNums n) c.num }) c.num c.node :=
          fun c hc => ⟨_, List.mem_map.2 ⟨c, hc, rfl⟩, rfl, rfl⟩
        refine ⟨fun t m ⟨c, hc, h1, h2⟩ => ?_, ?_⟩
        · have := key c (ins_mem.2 (Or.inr hc))
          rw [h1, h2] at this
          exact this
        · exact key _ (ins_mem.2 (Or.inl rfl))
    · rw [if_pos (by simpa using hf)] at h0; exact absurd h0 (show ¬ (8 : Int) = 0 by decide)
theorem putAll_tr {sz : Int} {lv : Nat} : ∀ (ns : List Node) (acc : List Kid) (cs : List CC) (ba : List Int) (ia is : List Item), Good sz cs → (∀ n ∈ ns, nodeErr n = 0 ∧ nodeWf n ∧ ∀ k ∈ namedK n, Has cs k.num k.hash) →
    TrKids (Tr cs lv) acc ba ia → TrNs cs lv ns is → (putAll (putS sz) acc cs ns).2.1 = 0 →
    (∀ t m, InN cs t m → InN (putAll (putS sz) acc cs ns).2.2 t m) ∧ ∃ bs, TrKids (Tr (putAll (putS sz) acc cs ns).2.2 lv) (putAll (putS sz) acc cs ns).1 bs (ia ++ is)
  | [], acc, cs, ba, ia, is, _, _, hk, hns, _ => by
    have hns' : is = [] := hns
    subst hns'
    exact ⟨fun _ _ h => h, ba, by rw [List.append_nil]; exact hk⟩
  | n :: r, acc, cs, ba, ia, is, g, hn, hk, ⟨b, i1, i2, h1, h2, hi⟩, h0 => by
    obtain ⟨e1, e2, e3⟩ := hn n (by simp)
    unfold putAll at h0 ⊢
    have hl := (leads_zero g.ris n).2 e3
    rcases put_good g e1 e2 hl with h8 | ⟨p0, p⟩
    · rw [if_pos (by omega)] at h0
      simp only at h0
      omega
    · rw [if_neg (by omega)] at h0 ⊢
      obtain ⟨hm, hin⟩ := put_in g e1 e2 hl p0
      have hk' : TrKids (Tr (putS sz cs n).2.2 lv) (acc ++ [{ (putS sz cs n).1 with key := keyOf n }]) (ba ++ ((putS sz cs n).1.num :: b)) (ia ++ i1) := by
        refine (trKids_app _ _ _ _).2 ⟨ba, ia, _, i1, trKids_mono (fun _ _ _ h => tr_mono hm h) _ _ _ hk, ⟨_, i1, [], [], ⟨n, b, hin, trN_mono hm _ _ _ _ h1, rfl⟩, trN_key lv n b i1 h1, ⟨rfl, rfl⟩, (List.append_nil _).symm, (List.append_nil _).symm⟩, rfl, rfl⟩
      obtain ⟨m2, bs, hb⟩ := putAll_tr r _ _ _ _ i2 p.good (fun n' hn' => ⟨(hn n' (by simp [hn'])).1, (hn n' (by simp [hn'])).2.1, fun k hk => p.mono _ _ ((hn n' (by simp [hn'])).2.2 k hk)⟩) hk' (trNs_mono hm r i2 h2) h0
      exact ⟨fun t m h => m2 t m (hm t m h), bs, by rw [hi, ← List.append_assoc]; exact hb⟩
theorem chunks_tr {cs : List CC} {lv : Nat} : ∀ (L : List (List Kid)) (bs : List Int) (is : List Item), (∀ c ∈ L, c ≠ []) → TrKids (Tr cs lv) L.flatten bs is → TrNs cs (lv + 1) (L.map fun c => ⟨2, [], c, []⟩) is
  | [], _, _, _, h => h.2
  | c :: L, bs, is, hne, h => by
    rw [List.flatten_cons] at h
    obtain ⟨b1, i1, b2, i2, h1, h2, _, hi⟩ := (trKids_app _ _ _ _).1 h
    exact ⟨b1, i1, i2, ⟨c, rfl, hne c (by simp), h1⟩, chunks_tr L b2 i2 (fun c' hc' => hne c' (by simp [hc'])) h2, hi⟩
theorem branches_tr {cs : List CC} {lv : Nat} (d : Int) (ks : List Kid) (bs : List Int) (is : List Item) (hne : ks ≠ []) (h : TrKids (Tr cs lv) ks bs is) : TrNs cs (lv + 1) (branchesL d ks) is := by
  refine chunks_tr _ bs is (level_ne ks [] 2 hne) ?_
  rw [level_flat, List.nil_append]
  exact h
theorem leaves_tr {cs : List CC} (l : List Item) (hne : l ≠ []) : TrNs cs 0 (leavesL l) l := by
  have key : ∀ (L : List (List Item)), (∀ c ∈ L, c ≠ []) → TrNs cs 0 (L.map fun c => ⟨1, c, [], []⟩) L.flatten := by
    intro L
    induction L with
    | nil => intro _; rfl
    | cons c L ih => intro h; exact ⟨[], c, L.flatten, ⟨rfl, rfl, h c (by simp)⟩, ih (fun c' hc' => h c' (by simp [hc'])), by simp⟩
  have := key _ (level_ne (sz := itemSz) (last := fun x m => lastB x.key 0 m) l [] 2 hne)
  rw [level_flat, List.nil_append] at this
  exact this
/-- The tree that raise makes. -/
theorem raise_tr {sz : Int} : ∀ (f : Nat) (d : Int) (cs : List CC) (ns : List Node) (lv : Nat) (is : List Item), Good sz cs → NodesOk cs ns → ns ≠ [] → ns.length ≤ f → TrNs cs lv ns is → (raiseGo (putS sz) f d cs ns).2.1 = 0 →
    ∃ lv' bs, Tr (raiseGo (putS sz) f d cs ns).2.2 lv' (raiseGo (putS sz) f d cs ns).1.num bs is
  | 0, d, cs, ns, lv, is, _, _, hne, hf, _, _ => absurd (List.length_eq_zero_iff.1 (by omega)) hne
  | f + 1, d, cs, ns, lv, is, g, hn, hne, hf, ht, h0 => by
    unfold raiseGo at h0 ⊢
    rcases putAll_good (sz := sz) ns [] cs g hn.ok (fun k hk => by simp at hk) with h8 | ⟨p0, h1, h2, h3, h4, h5⟩
    · rw [if_pos (by omega)] at h0; simp only at h0; omega
    · rw [if_neg (by omega)] at h0 ⊢
      obtain ⟨_, bs, hb⟩ := putAll_tr (lv := lv) ns [] cs [] [] is g hn.ok ⟨rfl, rfl⟩ ht p0
      rw [List.nil_append] at hb
      simp only [List.map_nil, List.nil_append] at h3
      have hkl : (putAll (putS sz) [] cs ns).1.length = ns.length := by have := congrArg List.length h3; simpa using this
      have hkk : KeysOk ((putAll (putS sz) [] cs ns).1.map (·.key)) := by rw [h3]; exact hn.keys
      generalize (putAll (putS sz) [] cs ns).1 = ks at *
      generalize (putAll (putS sz) [] cs ns).2.2 = cs1 at *
      match ks with
      | [] => exact absurd (List.length_eq_zero_iff.1 (by simpa using hkl.symm)) hne
      | [k] =>
        obtain ⟨b1, i1, b2, i2, t1, _, ⟨rfl, rfl⟩, _, hi⟩ := hb
        rw [List.append_nil] at hi
        subst hi
        exact ⟨lv, b1, t1⟩
      | k1 :: k2 :: kr =>
        have hbr := branches_len d (k1 :: k2 :: kr) (fun x hx => (hkk.1 x.key (List.mem_map.2 ⟨x, hx, rfl⟩)).1) (by simp)
        exact raise_tr f ((d + 1) % 256) cs1 (branchesL d (k1 :: k2 :: kr)) (lv + 1) is h1 (branches_ok g.hi d _ hkk (by simp) cs1 h2) hbr.2 (by simp at hbr hkl ⊢; omega) (branches_tr d _ bs is (by simp) hb) h0
end Go.Proofs.YthhmcjojnbaiiaaGreatDoor

/- Plain: what is built is read as it was; the reading. -/
namespace Go.Proofs.YthhmcjojnbaiiaaGreatDoor
open Go Go.RowKit
theorem pos_in : ∀ (cs : List CC) (c : CC), (ccNums cs).Pairwise (· < ·) → c ∈ cs → cs[numPos (ccNums cs) c.num]? = some c
  | [], c, _, h => absurd h (by simp)
  | x :: cs, c, hp, h => by
    have hp' : (x.num :: ccNums cs).Pairwise (· < ·) := hp
    rw [List.pairwise_cons] at hp'
    rcases List.mem_cons.1 h with rfl | h
    · have : numPos (ccNums (c :: cs)) c.num = 0 := by simp [numPos, posOf, ccNums]
      rw [this]; rfl
    · have hx : x.num < c.num := hp'.1 c.num (List.mem_map.2 ⟨c, h, rfl⟩)
      have : numPos (ccNums (x :: cs)) c.num = numPos (ccNums cs) c.num + 1 := by simp [numPos, posOf, ccNums, hx]
      rw [this, List.getElem?_cons_succ]
      exact pos_in cs c hp'.2 h
theorem at_in {sz : Int} {cs : List CC} (g : Good sz cs) {t : Int} {n : Node} (h : InN cs t n) : nodeAt (cs.map celOf) t = (n, true) := by
  obtain ⟨c, hc, rfl, rfl⟩ := h
  have hp := pos_in cs c g.ris hc
  have hnums : (cs.map celOf).map (·.num) = ccNums cs := by rw [List.map_map]; rfl
  have hget : (ccNums cs)[numPos (ccNums cs) c.num]? = some c.num := by
    show (cs.map (·.num))[_]? = _
    rw [List.getElem?_map, hp]; rfl
  have hh : numHas (ccNums cs) c.num = true := by
    simp [numHas, hasAt, hget]
  have hc2 : (cs.map celOf)[numPos (ccNums cs) c.num]? = some (celOf c) := by rw [List.getElem?_map, hp]; rfl
  unfold nodeAt celAt
  rw [hnums, hh, if_pos rfl, hc2]
  obtain ⟨h1, h2, _⟩ := g.dec c hc
  show (decN c.data, decB c.data) = _
  rw [h1, ← h2]
theorem keyAt_app {a b : List Item} (h : b ≠ []) : keyAt (a ++ b) a.length = hdKey (·.key) b := by
  obtain ⟨x, r, rfl⟩ := List.exists_cons_of_ne_nil h
  simp [keyAt, hdKey]
theorem kids_read {f : Int → RdS → Nat × RdS} {T : Int → List Int → List Item → Prop} {lv : Nat} (hT : ∀ t b i, T t b i → i ≠ [] ∧ ∀ r : RdS, r.bad = false → f t r = (lv, ⟨r.blocks ++ b, r.items ++ i, false⟩)) :
    ∀ (ks : List Kid) (bs : List Int) (is : List Item) (j lv0 : Nat) (r : RdS), TrKids T ks bs is → r.bad = false → (0 < j → lv0 = lv) → downKids f ks j lv0 r = ((if ks = [] then lv0 else lv) + 1, ⟨r.blocks ++ bs, r.items ++ is, false⟩)
  | [], bs, is, j, lv0, r, h, hb, _ => by
    obtain ⟨rfl, rfl⟩ := h
    obtain ⟨b, i, bad⟩ := r
    simp only at hb
    subst hb
    simp [downKids]
  | k :: ks, bs, is, j, lv0, r, ⟨b1, i1, b2, i2, h1, h2, h3, h4, h5⟩, hb, hj => by
    obtain ⟨hne, hf⟩ := hT _ _ _ h1
    have hf1 := hf r hb
    unfold downKids
    have hbad : kidBad k r.items.length j lv0 (f k.num r) = false := by
      unfold kidBad
      rw [hf1]
      simp only [keyAt_app hne, ← h2, Bool.false_or]
      have : beqB k.key k.key = true := (beqB_iff _ _).2 rfl
      rw [this]
      by_cases h0 : 0 < j
      · simp [hj h0]
      · simp [h0]
    rw [hbad, if_neg Bool.false_ne_true, hf1, kids_read hT ks b2 i2 (j + 1) lv _ h3 rfl (fun _ => rfl)]
    rw [h4, h5]
    simp
theorem tr_read {sz : Int} {cs : List CC} (g : Good sz cs) : ∀ (lv : Nat) (t : Int) (b : List Int) (i : List Item), Tr cs lv t b i → ∀ (m : Nat) (r : RdS), lv < m → r.bad = false → downS (cs.map celOf) m t r = (lv + 1, ⟨r.blocks ++ b, r.items ++ i, false⟩)
  | 0, t, b, i, h, m, r, hm, hb => by
    obtain ⟨n, b', hin, ⟨rfl, rfl, hne⟩, rfl⟩ := h
    obtain ⟨m, rfl⟩ : ∃ q, m = q + 1 := ⟨m - 1, by omega⟩
    unfold downS
    rw [at_in g hin, if_neg (by simp), if_pos rfl, hb]
  | lv + 1, t, b, i, h, m, r, hm, hb => by
    obtain ⟨n, b', hin, ⟨ks, rfl, hne, hk⟩, rfl⟩ := h
    obtain ⟨m, rfl⟩ : ∃ q, m = q + 1 := ⟨m - 1, by omega⟩
    unfold downS
    rw [at_in g hin, if_neg (by simp), if_neg (by simp)]
    show downKids (downS (cs.map celOf) m) ks 0 0 { r with blocks := r.blocks ++ [t] } = _
    refine (kids_read (f := downS (cs.map celOf) m) (T := fun t b i => ∃ m b', InN cs t m ∧ TrN cs lv m b' i ∧ b = t :: b') (lv := lv + 1) ?_ ks b' i 0 0 { r with blocks := r.blocks ++ [t] } hk hb (fun h => absurd h (Nat.lt_irrefl 0))).trans ?_
    · intro t b i h
      obtain ⟨n, b', k1, k2, k3⟩ := h
      exact ⟨trN_ne lv _ _ _ k2, fun r hr => tr_read g lv t b i ⟨n, b', k1, k2, k3⟩ m r (by omega) hr⟩
    · rw [if_neg hne]; simp
end Go.Proofs.YthhmcjojnbaiiaaGreatDoor

/- Plain: what is built is read as it was; its blocks are all different. -/
namespace Go.Proofs.YthhmcjojnbaiiaaGreatDoor
open Go Go.RowKit
theorem nodup_le {α : Type} [BEq α] [LawfulBEq α] : ∀ (b ns : List α), b.Nodup → (∀ x ∈ b, x ∈ ns) → b.length ≤ ns.length
  | [], _, _, _ => Nat.zero_le _
  | x :: b, ns, hd, hs => by
    rw [List.nodup_cons] at hd
    have hx := hs x (by simp)
    have := nodup_le b (ns.erase x) hd.2 (fun y hy => by
      have hne : y ≠ x := fun e => hd.1 (e ▸ hy)
      exact (List.mem_erase_of_ne hne).2 (hs y (by simp [hy])))
    rw [List.length_erase_of_mem hx] at this
    have hpos := List.length_pos_of_mem hx
    simp only [List.length_cons]
    omega
theorem inN_uniq {sz : Int} {cs : List CC} (g : Good sz cs) {t : Int} {n m : Node} (h1 : InN cs t n) (h2 : InN cs t m) : n = m := by
  have := (at_in g h1).symm.trans (at_in g h2)
  exact (Prod.mk.inj this).1
theorem kids_fun {T T' : Int → List Int → List Item → Prop} {p : Prop} (h : ∀ t b i b' i', T t b i → T' t b' i' → p ∧ b = b' ∧ i = i') : ∀ (ks : List Kid) (bs bs' : List Int) (is is' : List Item), ks ≠ [] → TrKids T ks bs is → TrKids T' ks bs' is' → p ∧ bs = bs' ∧ is = is'
  | [k], _, _, _, _, _, ⟨b1, i1, b2, i2, h1, _, h3, h4, h5⟩, ⟨c1, j1, c2, j2, k1, _, k3, k4, k5⟩ => by
    obtain ⟨hp, rfl, rfl⟩ := h _ _ _ _ _ h1 k1
    exact ⟨hp, by rw [h4, k4, h3.1, k3.1], by rw [h5, k5, h3.2, k3.2]⟩
  | k :: k' :: ks, _, _, _, _, _, ⟨b1, i1, b2, i2, h1, _, h3, h4, h5⟩, ⟨c1, j1, c2, j2, k1, _, k3, k4, k5⟩ => by
    obtain ⟨hp, rfl, rfl⟩ := h _ _ _ _ _ h1 k1
    obtain ⟨_, rfl, rfl⟩ := kids_fun h (k' :: ks) _ _ _ _ (by simp) h3 k3
    exact ⟨hp, h4.trans k4.symm, h5.trans k5.symm⟩
theorem trN_fun {sz : Int} {cs : List CC} (g : Good sz cs) : ∀ (lv lv' : Nat) (n : Node) (b b' : List Int) (i i' : List Item), TrN cs lv n b i → TrN cs lv' n b' i' → lv = lv' ∧ b = b' ∧ i = i'
  | 0, 0, n, b, b', i, i', ⟨h1, h2, _⟩, ⟨k1, k2, _⟩ => by
    have := h1.symm.trans k1
    simp only [Node.mk.injEq, and_true, true_and] at this
    exact ⟨rfl, h2.trans k2.symm, this⟩
  | 0, lv' + 1, n, b, b', i, i', ⟨h1, _, _⟩, ⟨ks, k1, _, _⟩ => by
    have := h1.symm.trans k1
    simp at this
  | lv + 1, 0, n, b, b', i, i', ⟨ks, h1, _, _⟩, ⟨k1, _, _⟩ => by
    have := h1.symm.trans k1
    simp at this
  | lv + 1, lv' + 1, n, b, b', i, i', ⟨ks, h1, h2, h3⟩, ⟨ks', k1, _, k3⟩ => by
    have e := h1.symm.trans k1
    simp only [Node.mk.injEq, and_true, true_and] at e
    subst e
    obtain ⟨hp, e1, e2⟩ := kids_fun (p := lv = lv') (fun t b i b' i' ⟨m, c, a1, a2, a3⟩ ⟨m', c', d1, d2, d3⟩ => by
      have := inN_uniq g a1 d1
      subst this
      obtain ⟨q1, q2, q3⟩ := trN_fun g lv lv' m c c' i i' a2 d2
      exact ⟨q1, by rw [a3, d3, q2], q3⟩) ks _ _ _ _ h2 h3 k3
    exact ⟨by omega, e1, e2⟩
theorem tr_fun {sz : Int} {cs : List CC} (g : Good sz cs) {lv lv' : Nat} {t : Int} {b b' : List Int} {i i' : List Item} (h : Tr cs lv t b i) (k : Tr cs lv' t b' i') : lv = lv' ∧ b = b' ∧ i = i' := by
  obtain ⟨m, c, a1, a2, a3⟩ := h
  obtain ⟨m', c', d1, d2, d3⟩ := k
  have := inN_uniq g a1 d1
  subst this
  obtain ⟨q1, q2, q3⟩ := trN_fun g lv lv' m c c' i i' a2 d2
  exact ⟨q1, by rw [a3, d3, q2], q3⟩
theorem kids_sub {T : Int → List Int → List Item → Prop} : ∀ (ks : List Kid) (bs : List Int) (is : List Item) (x : Int), TrKids T ks bs is → x ∈ bs → ∃ t b i, T t b i ∧ x ∈ b ∧ i.Sublist is
  | [], _, _, _, ⟨h, _⟩, hx => by rw [h] at hx; simp at hx
  | k :: ks, bs, is, x, ⟨b1, i1, b2, i2, h1, _, h3, h4, h5⟩, hx => by
    rw [h4] at hx
    rcases List.mem_append.1 hx with hx | hx
    · exact ⟨_, _, _, h1, hx, by rw [h5]; exact List.sublist_append_left _ _⟩
    · obtain ⟨t, b, i, k1, k2, k3⟩ := kids_sub ks b2 i2 x h3 hx
      exact ⟨t, b, i, k1, k2, by rw [h5]; exact k3.trans (List.sublist_append_right _ _)⟩
theorem trN_sub {cs : List CC} : ∀ (lv : Nat) (n : Node) (bs : List Int) (is : List Item) (x : Int), TrN cs lv n bs is → x ∈ bs → ∃ lv' b i, lv' < lv ∧ Tr cs lv' x b i ∧ i.Sublist is ∧ i ≠ []
  | 0, _, _, _, _, ⟨_, h, _⟩, hx => by rw [h] at hx; simp at hx
  | lv + 1, n, bs, is, x, ⟨ks, _, _, h3⟩, hx => by
    obtain ⟨t, b, i, ⟨m, b', k1, k2, k3⟩, hxb, hs⟩ := kids_sub ks bs is x h3 hx
    rw [k3] at hxb
    rcases List.mem_cons.1 hxb with rfl | hxb
    · exact ⟨lv, b, i, by omega, ⟨m, b', k1, k2, k3⟩, hs, trN_ne _ _ _ _ k2⟩
    · obtain ⟨lv', c, j, q1, q2, q3, q4⟩ := trN_sub lv m b' i x k2 hxb
      exact ⟨lv', c, j, by omega, q2, q3.trans hs, q4⟩
theorem tr_sub {cs : List CC} {lv : Nat} {t : Int} {b : List Int} {i : List Item} (h : Tr cs lv t b i) (x : Int) (hx : x ∈ b) : ∃ lv' b' i', lv' ≤ lv ∧ Tr cs lv' x b' i' ∧ i'.Sublist i ∧ i' ≠ [] := by
  obtain ⟨m, b', k1, k2, k3⟩ := h
  rw [k3] at hx
  rcases List.mem_cons.1 hx with rfl | hx
  · exact ⟨lv, b, i, Nat.le_refl _, ⟨m, b', k1, k2, k3⟩, List.Sublist.refl _, trN_ne _ _ _ _ k2⟩
  · obtain ⟨lv', c, j, q1, q2, q3, q4⟩ := trN_sub lv m b' i x k2 hx
    exact ⟨lv', c, j, by omega, q2, q3, q4⟩
theorem kids_nodup {T : Int → List Int → List Item → Prop} {S : Int → List Item → Prop} (hu : ∀ x i i', S x i → S x i' → i = i') (hT : ∀ t b i, T t b i → (i.Nodup → b.Nodup) ∧ ∀ x ∈ b, ∃ i', S x i' ∧ i'.Sublist i ∧ i' ≠ []) :
    ∀ (ks : List Kid) (bs : List Int) (is : List Item), TrKids T ks bs is → is.Nodup → bs.Nodup
  | [], _, _, ⟨h, _⟩, _ => by rw [h]; exact List.nodup_nil
  | k :: ks, bs, is, ⟨b1, i1, b2, i2, h1, _, h3, h4, h5⟩, hd => by
    rw [h5, List.nodup_append] at hd
    obtain ⟨d1, d2, d3⟩ := hd
    have n1 := (hT _ _ _ h1).1 d1
    have n2 := kids_nodup hu hT ks b2 i2 h3 d2
    rw [h4, List.nodup_append]
    refine ⟨n1, n2, fun x hx y hy e => ?_⟩
    subst e
    obtain ⟨j, s1, s2, s3⟩ := (hT _ _ _ h1).2 x hx
    obtain ⟨t, b, i, k1, k2, k3⟩ := kids_sub ks b2 i2 x h3 hy
    obtain ⟨j', s1', s2', _⟩ := (hT _ _ _ k1).2 x k2
    have := hu x j j' s1 s1'
    subst this
    obtain ⟨z, r, rfl⟩ := List.exists_cons_of_ne_nil s3
    exact d3 z (s2.subset (by simp)) z (k3.subset (s2'.subset (by simp))) rfl
theorem trN_nodup {sz : Int} {cs : List CC} (g : Good sz cs) : ∀ (lv : Nat) (n : Node) (bs : List Int) (is : List Item), TrN cs lv n bs is → is.Nodup → bs.Nodup
  | 0, _, _, _, ⟨_, h, _⟩, _ => by rw [h]; exact List.nodup_nil
  | lv + 1, n, bs, is, ⟨ks, _, _, h3⟩, hd => by
    refine kids_nodup (S := fun x i => ∃ lv' b, Tr cs lv' x b i) (fun x i i' ⟨_, _, a⟩ ⟨_, _, a'⟩ => (tr_fun g a a').2.2) ?_ ks bs is h3 hd
    rintro t b i ⟨m, b', k1, k2, k3⟩
    refine ⟨fun hi => ?_, fun x hx => ?_⟩
    · rw [k3, List.nodup_cons]
      refine ⟨fun hx => ?_, trN_nodup g lv m b' i k2 hi⟩
      obtain ⟨lv', c, j, q1, q2, _, _⟩ := trN_sub lv m b' i t k2 hx
      have := (tr_fun g q2 ⟨m, b', k1, k2, k3⟩).1
      omega
    · obtain ⟨lv', c, j, _, q2, q3, q4⟩ := tr_sub ⟨m, b', k1, k2, k3⟩ x hx
      exact ⟨j, ⟨lv', c, q2⟩, q3, q4⟩
theorem tr_nodup {sz : Int} {cs : List CC} (g : Good sz cs) {lv : Nat} {t : Int} {b : List Int} {i : List Item} (h : Tr cs lv t b i) (hi : i.Nodup) : b.Nodup := by
  obtain ⟨m, b', k1, k2, k3⟩ := h
  rw [k3, List.nodup_cons]
  refine ⟨fun hx => ?_, trN_nodup g lv m b' i k2 hi⟩
  obtain ⟨lv', c, j, q1, q2, _, _⟩ := trN_sub lv m b' i t k2 hx
  have := (tr_fun g q2 ⟨m, b', k1, k2, k3⟩).1
  omega
theorem trN_len {cs : List CC} : ∀ (lv : Nat) (n : Node) (bs : List Int) (is : List Item), TrN cs lv n bs is → lv ≤ bs.length
  | 0, _, _, _, _ => Nat.zero_le _
  | lv + 1, n, bs, is, ⟨ks, _, h2, h3⟩ => by
    match ks, h2, h3 with
    | k :: ks, _, ⟨b1, i1, b2, i2, ⟨m, b', k1, k2, k3⟩, _, _, h4, _⟩ =>
      have := trN_len lv _ _ _ k2
      rw [h4, k3]
      simp; omega
theorem tr_mem {cs : List CC} {lv : Nat} {t : Int} {b : List Int} {i : List Item} (h : Tr cs lv t b i) : ∀ x ∈ b, x ∈ ccNums cs := by
  intro x hx
  obtain ⟨_, _, _, _, ⟨m, _, ⟨c, hc, h1, _⟩, _, _⟩, _, _⟩ := tr_sub h x hx
  exact List.mem_map.2 ⟨c, hc, h1⟩
/-- The walk down from the root has room: as many cells as levels, and each block once. -/
theorem tr_room {sz : Int} {cs : List CC} (g : Good sz cs) {lv : Nat} {t : Int} {b : List Int} {i : List Item} (h : Tr cs lv t b i) (hi : i.Nodup) : lv < b.length ∧ b.length ≤ cs.length := by
  have h1 := nodup_le b (ccNums cs) (tr_nodup g h hi) (tr_mem h)
  have h2 : (ccNums cs).length = cs.length := by simp [ccNums]
  obtain ⟨m, b', k1, k2, k3⟩ := h
  have := trN_len lv _ _ _ k2
  refine ⟨by rw [k3]; simp; omega, by omega⟩
end Go.Proofs.YthhmcjojnbaiiaaGreatDoor

/- Plain: what is built is read as it was; the whole. -/
namespace Go.Proofs.YthhmcjojnbaiiaaGreatDoor
open Go Go.RowKit
theorem items_nodup {l : List Item} (h : itemsOk l = true) : l.Nodup := by
  have hp := ((items_iff l).1 h).1.2
  rw [List.pairwise_map] at hp
  refine hp.imp ?_
  rintro a b hab rfl
  rw [bl_irrefl] at hab
  cases hab
theorem read_zero {h : Hp} (ho : openB h = true) : (readS h 0).2.items = [] ∧ (readS h 0).2.blocks = [] := by
  have g := good_open h ho
  have hn : (nodeAt h.cells 0).2 = false := by
    have hnums : h.cells.map (·.num) = ccNums (opened h) := by rw [opened_map]; simp [ccNums, cc1]
    unfold nodeAt celAt
    rw [hnums]
    have : numHas (ccNums (opened h)) 0 = false := by
      unfold numHas hasAt
      cases hx : (ccNums (opened h))[numPos (ccNums (opened h)) 0]? with
      | none => rfl
      | some x =>
        have hm := List.mem_of_getElem? hx
        obtain ⟨c, hc, rfl⟩ := List.mem_map.1 hm
        have := (g.dec c hc).2.2.2.1
        simp; omega
    rw [this, if_neg Bool.false_ne_true]
  unfold readS
  cases h.cells.length with
  | zero => exact ⟨rfl, rfl⟩
  | succ m =>
    unfold downS
    rw [if_pos (Or.inl hn)]
    exact ⟨rfl, rfl⟩
/-- What is said of a heap and a root that Build has answered well. -/
structure BuiltOk (g : Hp) (t : Int) (l : List Item) : Prop where
  op : openB g = true
  ok : itemsOk l = true
  all : allS g t = l
  err : topenE g t = 0
  read : ReadOk 1073741824 g t
theorem build_read (h : Hp) (l : List Item) (hml : l.length ≤ 1073741824) (h0 : (buildS h l).2.2 = 0) : BuiltOk (buildS h l).1 (buildS h l).2.1.num l := by
  unfold buildS at h0 ⊢
  cases ho : openB h with
  | false => rw [ho, if_pos rfl] at h0; exact absurd h0 (show ¬ (7 : Int) = 0 by decide)
  | true =>
    rw [ho] at h0
    rw [if_neg (by simp)] at h0 ⊢
    cases hi : itemsOk l with
    | false => rw [hi, if_pos rfl] at h0; exact absurd h0 (show ¬ (4 : Int) = 0 by decide)
    | true =>
      rw [hi] at h0
      rw [if_neg (by simp)] at h0 ⊢
      by_cases hl : l = []
      · subst hl
        rw [if_pos rfl]
        have hz := read_zero ho
        have he : topenE h 0 = 0 := by unfold topenE; rw [if_neg (by rw [ho]; simp), if_pos rfl]
        refine ⟨ho, rfl, ?_, he, ⟨by show (readS h 0).2.items.length ≤ _; rw [hz.1]; simp, by show (readS h 0).2.blocks.length ≤ _; rw [hz.2]; simp, by show (topenK h 0).length ≤ _; simp [topenK], by show (topenK h 0).Nodup; simp [topenK], by show ∀ x ∈ topenK h 0, _; simp [topenK], fun hne => absurd rfl hne⟩⟩
        show allS h 0 = []
        unfold allS
        rw [if_pos he]
        rfl
      · rw [if_neg hl] at h0 ⊢
        by_cases hr : (raiseS (putS h.size) (opened h) l).2.1 ≠ 0
        · rw [if_pos hr] at h0; exact absurd h0 hr
        · rw [if_neg hr]
          have hr0 : (raiseS (putS h.size) (opened h) l).2.1 = 0 := by simpa using hr
          have g := good_open h ho
          have gr := raise_good ho hi hl hr0
          obtain ⟨l1, l2, l3, l4⟩ := leaves_ok l hi hl (opened h)
          obtain ⟨lv, bs, ht⟩ := raise_tr (sz := h.size) (l.length + 1) 1 (opened h) (leavesL l) 0 l g l1 l3 (by omega) (leaves_tr l hl) hr0
          have hnd := items_nodup hi
          have hroom := tr_room gr ht hnd
          have hread := tr_read gr lv _ _ _ ht (raiseS (putS h.size) (opened h) l).2.2.length ⟨[], [], false⟩ (Nat.lt_of_lt_of_le hroom.1 hroom.2) rfl
          have hmem := tr_mem ht
          have hnod := tr_nodup gr ht hnd
          change Tr (raiseS (putS h.size) (opened h) l).2.2 lv (raiseS (putS h.size) (opened h) l).1.num bs l at ht
          change downS _ _ (raiseS (putS h.size) (opened h) l).1.num _ = _ at hread
          change ∀ x ∈ bs, x ∈ ccNums (raiseS (putS h.size) (opened h) l).2.2 at hmem
          change lv < bs.length ∧ bs.length ≤ (raiseS (putS h.size) (opened h) l).2.2.length at hroom
          generalize (raiseS (putS h.size) (opened h) l).2.2 = cs at *
          generalize (raiseS (putS h.size) (opened h) l).1 = k at *
          obtain ⟨ho1, ho2⟩ := open_good gr
          have hlen := good_len gr
          have hsz := gr.hi
          simp only [List.nil_append] at hread
          have hrs : readS (heapOf h.size cs) k.num = (lv + 1, ⟨bs, l, false⟩) := by
            unfold readS heapOf
            rw [List.length_map]
            exact hread
          have hkn : InN cs k.num (nodeAt (cs.map celOf) k.num).1 ∧ (nodeAt (cs.map celOf) k.num).2 = true ∧ k.num ∈ bs := by
            obtain ⟨m, b', k1, k2, k3⟩ := ht
            rw [at_in gr k1]
            exact ⟨k1, rfl, by rw [k3]; simp⟩
          have hk2 : 2 ≤ k.num := by
            obtain ⟨c, hc, h1⟩ := List.mem_map.1 (hmem _ hkn.2.2)
            have := (gr.dec c hc).2.2.2.1
            omega
          have hk0 : k.num ≠ 0 := by omega
          have he : topenE (heapOf h.size cs) k.num = 0 := by
            unfold topenE
            rw [if_neg (by rw [ho2]; simp), if_neg hk0, if_neg (by show ¬ (nodeAt (cs.map celOf) k.num).2 = false; rw [hkn.2.1]; simp), hrs]
            rw [if_neg (by simp [hi])]
          have hK : topenK (heapOf h.size cs) k.num = bs := by unfold topenK; rw [if_neg hk0, hrs]
          refine ⟨ho2, hi, ?_, he, ⟨?_, ?_, ?_, ?_, ?_, ?_⟩⟩
          · unfold allS topenI
            show (if topenE (heapOf h.size cs) k.num = 0 then _ else _) = l
            rw [if_pos he, if_neg hk0, hrs]
          · show (readS (heapOf h.size cs) k.num).2.items.length ≤ _; rw [hrs]; exact hml
          · show (readS (heapOf h.size cs) k.num).2.blocks.length ≤ _; rw [hrs]; simp only; omega
          · show (topenK (heapOf h.size cs) k.num).length ≤ _; rw [hK]; omega
          · show (topenK (heapOf h.size cs) k.num).Nodup; rw [hK]; exact hnod
          · show ∀ x ∈ topenK (heapOf h.size cs) k.num, _
            rw [hK]
            intro x hx
            obtain ⟨c, hc, h1⟩ := List.mem_map.1 (hmem x hx)
            have h2 := gr.dec c hc
            unfold u32Ok
            omega
          · intro _ _ _
            show (readS (heapOf h.size cs) k.num).2.blocks ≠ []
            rw [hrs]
            intro e
            have e' : bs = [] := e
            rw [e'] at hkn
            simp at hkn
end Go.Proofs.YthhmcjojnbaiiaaGreatDoor

/- Plain: in an empty heap a tree has as many cells as it needs. -/
namespace Go.Proofs.YthhmcjojnbaiiaaGreatDoor
open Go Go.RowKit
theorem freeGo_le : ∀ (ns : List Int) (n : Int), freeGo n ns ≤ n + ns.length
  | [], n => by simp [freeGo]
  | x :: r, n => by
    unfold freeGo
    by_cases h : x = n
    · rw [if_pos h]
      have := freeGo_le r (n + 1)
      simp only [List.length_cons]; omega
    · rw [if_neg h]; omega
/-- Nodes of a level with all blocks below. -/
def TrNsB (cs : List CC) (lv : Nat) : List Node → List Int → List Item → Prop
  | [], bs, is => bs = [] ∧ is = []
  | n :: r, bs, is => ∃ b1 i1 b2 i2, TrN cs lv n b1 i1 ∧ TrNsB cs lv r b2 i2 ∧ bs = b1 ++ b2 ∧ is = i1 ++ i2
theorem trNsB_mono {cs cs' : List CC} (h : ∀ t n, InN cs t n → InN cs' t n) {lv : Nat} : ∀ (ns : List Node) (bs : List Int) (is : List Item), TrNsB cs lv ns bs is → TrNsB cs' lv ns bs is
  | [], _, _, hk => hk
  | _ :: r, _, _, ⟨b1, i1, b2, i2, h1, h2, h3, h4⟩ => ⟨b1, i1, b2, i2, trN_mono h _ _ _ _ h1, trNsB_mono h r _ _ h2, h3, h4⟩
theorem trNsB_sub {cs : List CC} {lv : Nat} : ∀ (ns : List Node) (bs : List Int) (is : List Item) (x : Int), TrNsB cs lv ns bs is → x ∈ bs → ∃ lv' b i, lv' < lv ∧ Tr cs lv' x b i
  | [], _, _, x, ⟨h, _⟩, hx => by rw [h] at hx; simp at hx
  | n :: r, _, _, x, ⟨b1, i1, b2, i2, h1, h2, h3, _⟩, hx => by
    rw [h3] at hx
    rcases List.mem_append.1 hx with hx | hx
    · obtain ⟨lv', b, i, q1, q2, _⟩ := trN_sub lv n b1 i1 x h1 hx
      exact ⟨lv', b, i, q1, q2⟩
    · exact trNsB_sub r b2 i2 x h2 hx
/-- Cells to which only kids of the cells lead. -/
def Few (cs : List CC) : Prop := (∀ c ∈ cs, c.refs = c.led) ∧ (allKids cs).length ≤ 255 * cs.length
theorem trN_kids {cs : List CC} {lv : Nat} {n : Node} {b : List Int} {i : List Item} (h : TrN cs lv n b i) (he : nodeErr n = 0) : (kidNums n).length ≤ 255 := by
  cases lv with
  | zero =>
    obtain ⟨rfl, _⟩ := h
    simp [kidNums]
  | succ lv =>
    obtain ⟨ks, rfl, _⟩ := h
    have hs : shapedB ⟨2, [], ks, []⟩ = true := by
      unfold nodeErr at he
      cases hx : shapedB ⟨2, [], ks, []⟩ with
      | true => rfl
      | false => rw [hx] at he; simp at he
    unfold shapedB at hs
    rw [if_neg (by simp), if_pos rfl, Bool.and_eq_true] at hs
    have := ((kids_iff ks).1 hs.2).2.2.2
    simpa [kidNums] using this
theorem put_fresh {sz : Int} {cs : List CC} {n : Node} (g : Good sz cs) (hn : nodeErr n = 0) (hw : nodeWf n) (hl : leadsE cs n = 0) (hnew : ∀ t, ¬ InN cs t n) (hk : (kidNums n).length ≤ 255) (hf : Few cs) (hlen : cs.length ≤ 500) (hsz : 600 ≤ sz) :
    (putS sz cs n).2.1 = 0 ∧ (ccNums (putS sz cs n).2.2).Perm ((putS sz cs n).1.num :: ccNums cs) ∧ Few (putS sz cs n).2.2 := by
  rw [putS_kid hn hl]
  cases hd : cs[dataIx (cs.map (·.data)) (wholeB n)]? with
  | some c =>
    obtain ⟨hc, hcd⟩ := dataIx_get cs _ c hd
    refine absurd ⟨c, hc, rfl, ?_⟩ (hnew c.num)
    rw [(g.dec c hc).2.1, hcd]
    exact (dec_enc n hn hw).2
  | none =>
    simp only
    have hfl := freeGo_le (ccNums cs) 2
    have hcl : (ccNums cs).length = cs.length := by simp [ccNums]
    have hff : freeNum (ccNums cs) < sz := by unfold freeNum; omega
    have ha : (kidNums n).any (fun t => decide (16777216 - (countL (kidNums n) t : Int) < refsOf cs t)) = false := by
      rw [List.any_eq_false]
      intro t _
      rw [decide_eq_true_eq]
      have h1 := countL_le (kidNums n) t
      have h2 : refsOf cs t ≤ 127500 := by
        unfold refsOf
        cases hx : ccFind cs t with
        | none => simp
        | some c =>
          have hc := ((find_uniq g.ris).1 hx).1
          have h3 := hf.1 c hc
          have h4 := (g.cnt c hc).1
          have h5 := countL_le (allKids cs) c.num
          have h6 := hf.2
          simp only [Option.map_some, Option.getD_some]
          omega
      omega
    rw [if_neg (by simpa using hff), ha, if_neg Bool.false_ne_true]
    refine ⟨rfl, ?_, ?_, ?_⟩
    · simp only [holds_map]
      rw [nums_map (by intro; rfl)]
      exact (ins_perm _ _).map _
    · intro c hc
      simp only [holds_map] at hc
      obtain ⟨d, hd', rfl⟩ := List.mem_map.1 hc
      rcases ins_mem.1 hd' with rfl | hd'
      · simp [newCC]
      · simp only
        rw [hf.1 d hd']
    · simp only [holds_map]
      rw [allKids_map (by intro; rfl), List.length_map, (ins_perm _ _).length_eq]
      have h1 : (allKids (insCC (newCC (freeNum (ccNums cs)) n) cs)).Perm (allKids (newCC (freeNum (ccNums cs)) n :: cs)) := (ins_perm _ cs).flatMap_right _
      rw [h1.length_eq]
      have h2 : allKids (newCC (freeNum (ccNums cs)) n :: cs) = kidNums n ++ allKids cs := rfl
      have := hf.2
      rw [h2, List.length_append, List.length_cons]
      omega
theorem putAll_fresh {sz : Int} {lv : Nat} (hsz : 600 ≤ sz) : ∀ (ns : List Node) (acc : List Kid) (cs : List CC) (ba bs : List Int) (ia is : List Item), Good sz cs → (∀ n ∈ ns, nodeErr n = 0 ∧ nodeWf n ∧ ∀ k ∈ namedK n, Has cs k.num k.hash) →
    TrKids (Tr cs lv) acc ba ia → TrNsB cs lv ns bs is → (ia ++ is).Nodup → (ba ++ bs).Perm (ccNums cs) → Few cs → cs.length + ns.length ≤ 500 →
    (putAll (putS sz) acc cs ns).2.1 = 0 ∧ (∃ bs', TrKids (Tr (putAll (putS sz) acc cs ns).2.2 lv) (putAll (putS sz) acc cs ns).1 bs' (ia ++ is) ∧ bs'.Perm (ccNums (putAll (putS sz) acc cs ns).2.2)) ∧
      Few (putAll (putS sz) acc cs ns).2.2 ∧ (putAll (putS sz) acc cs ns).2.2.length = cs.length + ns.length
  | [], acc, cs, ba, bs, ia, is, _, _, hk, ⟨hb, hi⟩, _, hp, hf, _ => by
    subst hb hi
    rw [List.append_nil] at hp
    exact ⟨rfl, ⟨ba, by rw [List.append_nil]; exact hk, hp⟩, hf, rfl⟩
  | n :: r, acc, cs, ba, bs, ia, is, g, hn, hk, ⟨b1, i1, b2, i2, h1, h2, hb, hi⟩, hd, hp, hf, hlen => by
    subst hb hi
    obtain ⟨e1, e2, e3⟩ := hn n (by simp)
    have hl := (leads_zero g.ris n).2 e3
    rw [List.length_cons] at hlen
    have hnew : ∀ t, ¬ InN cs t n := by
      intro t ht
      have htr : Tr cs lv t (t :: b1) i1 := ⟨n, b1, ht, h1, rfl⟩
      have htm : t ∈ ba ++ (b1 ++ b2) := hp.mem_iff.2 (by obtain ⟨c, hc, hct, _⟩ := ht; exact List.mem_map.2 ⟨c, hc, hct⟩)
      rcases List.mem_append.1 htm with htm | htm
      · obtain ⟨t', b, i, k1, k2, k3⟩ := kids_sub acc ba ia t hk htm
        obtain ⟨lv', b', i', _, q2, q3, q4⟩ := tr_sub k1 t k2
        have hei := (tr_fun g q2 htr).2.2
        subst hei
        obtain ⟨z, zr, rfl⟩ := List.exists_cons_of_ne_nil q4
        have hz1 : z ∈ ia := k3.subset (q3.subset (by simp))
        rw [List.nodup_append] at hd
        exact hd.2.2 z hz1 z (by simp) rfl
      · rcases List.mem_append.1 htm with htm | htm
        · obtain ⟨lv', b, i, q1, q2, _⟩ := trN_sub lv n b1 i1 t h1 htm
          have := (tr_fun g q2 htr).1
          omega
        · obtain ⟨lv', b, i, q1, q2⟩ := trNsB_sub r b2 i2 t h2 htm
          have := (tr_fun g q2 htr).1
          omega
    obtain ⟨p0, p1, p2⟩ := put_fresh g e1 e2 hl hnew (trN_kids h1 e1) hf (by omega) hsz
    obtain ⟨hm, hin⟩ := put_in g e1 e2 hl p0
    rcases put_good g e1 e2 hl with h8 | ⟨_, p⟩
    · omega
    · have hl1 : (putS sz cs n).2.2.length = cs.length + 1 := by
        have := p1.length_eq
        simpa [ccNums] using this
      have hk' : TrKids (Tr (putS sz cs n).2.2 lv) (acc ++ [{ (putS sz cs n).1 with key := keyOf n }]) (ba ++ ((putS sz cs n).1.num :: b1)) (ia ++ i1) :=
        (trKids_app _ _ _ _).2 ⟨ba, ia, _, i1, trKids_mono (fun _ _ _ h => tr_mono hm h) _ _ _ hk, ⟨_, i1, [], [], ⟨n, b1, hin, trN_mono hm _ _ _ _ h1, rfl⟩, trN_key lv n b1 i1 h1, ⟨rfl, rfl⟩, (List.append_nil _).symm, (List.append_nil _).symm⟩, rfl, rfl⟩
      have hp' : (ba ++ ((putS sz cs n).1.num :: b1) ++ b2).Perm (ccNums (putS sz cs n).2.2) := by
        refine List.Perm.trans ?_ p1.symm
        rw [List.append_assoc, List.cons_append]
        exact List.perm_middle.trans (hp.cons _)
      have ih := putAll_fresh hsz r _ _ _ b2 _ i2 p.good (fun n' hn' => ⟨(hn n' (by simp [hn'])).1, (hn n' (by simp [hn'])).2.1, fun k hk => p.mono _ _ ((hn n' (by simp [hn'])).2.2 k hk)⟩) hk' (trNsB_mono hm r b2 i2 h2) (by rw [List.append_assoc]; exact hd) hp' p2 (by omega)
      rw [putAll_cons, if_neg (by rw [p0]; simp)]
      obtain ⟨j0, ⟨bs', j1, j2⟩, j3, j4⟩ := ih
      exact ⟨j0, ⟨bs', by rw [← List.append_assoc]; exact j1, j2⟩, j3, by rw [j4, hl1, List.length_cons]; omega⟩
theorem chunks_trB {cs : List CC} {lv : Nat} : ∀ (L : List (List Kid)) (bs : List Int) (is : List Item), (∀ c ∈ L, c ≠ []) → TrKids (Tr cs lv) L.flatten bs is → TrNsB cs (lv + 1) (L.map fun c => ⟨2, [], c, []⟩) bs is
  | [], _, _, _, h => h
  | c :: L, bs, is, hne, h => by
    rw [List.flatten_cons] at h
    obtain ⟨b1, i1, b2, i2, h1, h2, hb, hi⟩ := (trKids_app _ _ _ _).1 h
    exact ⟨b1, i1, b2, i2, ⟨c, rfl, hne c (by simp), h1⟩, chunks_trB L b2 i2 (fun c' hc' => hne c' (by simp [hc'])) h2, hb, hi⟩
theorem branches_trB {cs : List CC} {lv : Nat} (d : Int) (ks : List Kid) (bs : List Int) (is : List Item) (hne : ks ≠ []) (h : TrKids (Tr cs lv) ks bs is) : TrNsB cs (lv + 1) (branchesL d ks) bs is := by
  refine chunks_trB _ bs is (level_ne ks [] 2 hne) ?_
  rw [level_flat, List.nil_append]
  exact h
theorem leaves_trB {cs : List CC} (l : List Item) (hne : l ≠ []) : TrNsB cs 0 (leavesL l) [] l := by
  have key : ∀ (L : List (List Item)), (∀ c ∈ L, c ≠ []) → TrNsB cs 0 (L.map fun c => ⟨1, c, [], []⟩) [] L.flatten := by
    intro L
    induction L with
    | nil => intro _; exact ⟨rfl, rfl⟩
    | cons c L ih => intro h; exact ⟨[], c, [], L.flatten, ⟨rfl, rfl, h c (by simp)⟩, ih (fun c' hc' => h c' (by simp [hc'])), rfl, by simp⟩
  have := key _ (level_ne (sz := itemSz) (last := fun x m => lastB x.key 0 m) l [] 2 hne)
  rw [level_flat, List.nil_append] at this
  exact this
theorem needN_mono : ∀ (f : Nat) (d : Int) (s : Nat) (ms : List Node), s ≤ (raiseGo putN f d s ms).2.2
  | 0, d, s, ms => Nat.le_refl _
  | f + 1, d, s, ms => by
    unfold raiseGo
    rw [putAll_N, if_neg (by simp)]
    simp only
    split
    · simp
    · exact Nat.le_trans (Nat.le_add_right s ms.length) (needN_mono f _ (s + ms.length) _)
theorem pow_half {j L L' : Nat} (h1 : 2 * L' ≤ L + 1) (h2 : 2 ≤ L) (h : j = 0 ∧ L' = 1 ∨ 2 ≤ L' ∧ 2 ^ j ≤ 2 * (L' - 1)) : 2 ^ (j + 1) ≤ 2 * (L - 1) := by
  rw [Nat.pow_succ]
  rcases h with ⟨rfl, _⟩ | ⟨_, h⟩
  · rw [Nat.pow_zero]; omega
  · omega
/-- The tree that raise makes where there is nothing yet of what it makes. -/
theorem raise_fresh {sz : Int} (hsz : 600 ≤ sz) : ∀ (f : Nat) (d : Int) (cs : List CC) (ns ms : List Node) (lv : Nat) (bs : List Int) (is : List Item), Good sz cs → NodesOk cs ns → ns ≠ [] → ns.length ≤ f → ns.map keyOf = ms.map keyOf → TrNsB cs lv ns bs is → is.Nodup → bs.Perm (ccNums cs) → Few cs →
    (raiseGo putN f d cs.length ms).2.2 ≤ 500 →
    (raiseGo (putS sz) f d cs ns).2.1 = 0 ∧ (raiseGo (putS sz) f d cs ns).2.2.length = (raiseGo putN f d cs.length ms).2.2 ∧ (raiseGo putN f d cs.length ms).2.2 + 1 ≤ cs.length + 3 * ns.length ∧
      ∃ j bs', Tr (raiseGo (putS sz) f d cs ns).2.2 (lv + j) (raiseGo (putS sz) f d cs ns).1.num bs' is ∧ bs'.Perm (ccNums (raiseGo (putS sz) f d cs ns).2.2) ∧ (j = 0 ∧ ns.length = 1 ∨ 2 ≤ ns.length ∧ 2 ^ j ≤ 2 * (ns.length - 1))
  | 0, d, cs, ns, ms, lv, bs, is, _, _, hne, hf, _, _, _, _, _, _ => absurd (List.length_eq_zero_iff.1 (by omega)) hne
  | f + 1, d, cs, ns, ms, lv, bs, is, g, hn, hne, hf, hm, ht, hd, hp, hfew, h500 => by
    have hlen : ns.length = ms.length := by have := congrArg List.length hm; simpa using this
    have hN := putAll_N ms [] cs.length
    unfold raiseGo at h500 ⊢
    rw [hN] at h500 ⊢
    simp only [ne_eq, not_true_eq_false, if_false, List.nil_append] at h500 ⊢
    have hml : (ms.map (fun n => ({ noKid with key := keyOf n } : Kid))).length = ns.length := by rw [List.length_map]; omega
    have hmk : (ms.map (fun n => ({ noKid with key := keyOf n } : Kid))).map (·.key) = ns.map keyOf := by rw [List.map_map, hm]; rfl
    generalize ms.map (fun n => ({ noKid with key := keyOf n } : Kid)) = js at *
    have h5 : cs.length + ns.length ≤ 500 := by
      match js, hml with
      | [], hml => exact absurd (List.length_eq_zero_iff.1 hml.symm) hne
      | [j], _ => simp only at h500; omega
      | j1 :: j2 :: jr, _ =>
        simp only at h500
        have := needN_mono f ((d + 1) % 256) (cs.length + ms.length) (branchesL d (j1 :: j2 :: jr))
        omega
    obtain ⟨p0, ⟨bs1, hb, hbp⟩, hfew1, hlen1⟩ := putAll_fresh (lv := lv) hsz ns [] cs [] bs [] is g hn.ok ⟨rfl, rfl⟩ ht hd hp hfew h5
    rcases putAll_good (sz := sz) ns [] cs g hn.ok (fun k hk => by simp at hk) with h8 | ⟨_, h1, h2, h3, _, _⟩
    · omega
    · simp only [p0, ne_eq, not_true_eq_false, if_false]
      simp only [List.nil_append] at hb
      simp only [List.map_nil, List.nil_append] at h3
      have hkl : (putAll (putS sz) [] cs ns).1.length = ns.length := by have := congrArg List.length h3; simpa using this
      have hkk : KeysOk ((putAll (putS sz) [] cs ns).1.map (·.key)) := by rw [h3]; exact hn.keys
      have hkm : (putAll (putS sz) [] cs ns).1.map (·.key) = js.map (·.key) := by rw [h3, hmk]
      generalize (putAll (putS sz) [] cs ns).1 = ks at *
      generalize (putAll (putS sz) [] cs ns).2.2 = cs1 at *
      match ks, js, hml with
      | [], _, _ => exact absurd (List.length_eq_zero_iff.1 (by simpa using hkl.symm)) hne
      | [k], [j], hml =>
        obtain ⟨b1, i1, b2, i2, t1, _, ⟨rfl, rfl⟩, hb2, hi⟩ := hb
        rw [List.append_nil] at hi hb2
        subst hi hb2
        simp only [List.length_cons, List.length_nil] at hml
        refine ⟨rfl, by simp only; omega, by simp only; omega, 0, _, t1, hbp, Or.inl ⟨rfl, hml.symm⟩⟩
      | k1 :: k2 :: kr, j1 :: j2 :: jr, hml =>
        have hbr := branches_len d (k1 :: k2 :: kr) (fun x hx => (hkk.1 x.key (List.mem_map.2 ⟨x, hx, rfl⟩)).1) (by simp)
        have hl2 : 2 ≤ ns.length := by simp only [List.length_cons] at hkl; omega
        simp only at h500
        rw [← hlen, ← hlen1] at h500
        have ih := raise_fresh hsz f ((d + 1) % 256) cs1 (branchesL d (k1 :: k2 :: kr)) (branchesL d (j1 :: j2 :: jr)) (lv + 1) bs1 is h1 (branches_ok g.hi d _ hkk (by simp) cs1 h2) hbr.2 (by omega) (branches_keys d _ _ hkm) (branches_trB d _ bs1 is (by simp) hb) hd hbp hfew1 h500
        dsimp only
        rw [← hlen, ← hlen1]
        obtain ⟨i0, i1, i2, j, bs', i3, i4, i5⟩ := ih
        rw [hkl] at hbr
        refine ⟨i0, i1, by omega, j + 1, bs', by rw [show lv + (j + 1) = lv + 1 + j by omega]; exact i3, i4, Or.inr ⟨hl2, pow_half hbr.1 hl2 i5⟩⟩
      | [k], [], hml => simp at hml hkl; omega
      | [k], _ :: _ :: _, hml => simp only [List.length_cons] at hml hkl; simp at hkl; omega
      | _ :: _ :: _, [], hml => simp only [List.length_cons] at hml hkl; simp at hml; omega
      | _ :: _ :: _, [_], hml => simp only [List.length_cons] at hml hkl; simp at hml; omega
def h64 : Hp := ⟨65536, []⟩
theorem good64 : Good 65536 [] := ⟨by omega, by omega, (fun c hc => by cases hc), List.Pairwise.nil, (fun c hc => by cases hc), (fun c hc => by cases hc)⟩
theorem open64 : openB h64 = true ∧ opened h64 = [] := ⟨rfl, rfl⟩
/-- What GrowNeeds asks. -/
structure NeedsOk (l : List Item) (n : Int) : Prop where
  err : (buildS h64 l).2.2 = 0
  blocks : ((topenK (buildS h64 l).1 (buildS h64 l).2.1.num).length : Int) = n
  cells : ((buildS h64 l).1.cells.length : Int) = n
  levels : ∀ m, l.length < 2 ^ m → topenL (buildS h64 l).1 (buildS h64 l).2.1.num ≤ m + 1
  few : n ≤ 2 * l.length
theorem needs_law (l : List Item) (h0 : (needS l).2 = 0) (hn : (needS l).1 ≤ 500) : NeedsOk l (needS l).1 := by
  unfold needS at h0 hn ⊢
  cases hi : itemsOk l with
  | false => rw [hi, if_pos rfl] at h0; exact absurd h0 (show ¬ (4 : Int) = 0 by decide)
  | true =>
    rw [hi, if_neg (by simp)] at h0 hn
    rw [if_neg (by simp)]
    by_cases hl : l = []
    · subst hl
      rw [if_pos rfl]
      have hb : buildS h64 [] = (h64, noKid, 0) := by
        unfold buildS
        rw [if_neg (by rw [open64.1]; simp), if_neg (by rw [hi]; simp), if_pos rfl]
      exact ⟨by rw [hb], by rw [hb]; rfl, by rw [hb]; rfl, fun m _ => by rw [hb]; show 0 ≤ m + 1; omega, by simp⟩
    · rw [if_neg hl] at h0 hn ⊢
      simp only at hn ⊢
      obtain ⟨l1, l2, l3, l4⟩ := leaves_ok l hi hl ([] : List CC)
      have hnd := items_nodup hi
      have hN : (raiseGo putN (l.length + 1) 1 ([] : List CC).length (leavesL l)).2.2 ≤ 500 := by
        have : (raiseS putN 0 l).2.2 ≤ 500 := by omega
        exact this
      obtain ⟨i0, i1, i2, j, bs, i3, i4, i5⟩ := raise_fresh (sz := 65536) (by omega) (l.length + 1) 1 [] (leavesL l) (leavesL l) 0 [] l good64 l1 l3 (by omega) rfl (leaves_trB l hl) hnd List.Perm.nil ⟨(fun c hc => by cases hc), Nat.le_refl _⟩ hN
      have hlaw := raise_law (sz := 65536) (l.length + 1) 1 [] (leavesL l) (leavesL l) 0 good64 l1 l3 rfl (by omega)
      change (raiseS (putS 65536) [] l).2.1 = 0 at i0
      change (raiseS (putS 65536) [] l).2.2.length = (raiseS putN 0 l).2.2 at i1
      change (raiseS putN 0 l).2.2 + 1 ≤ 0 + 3 * (leavesL l).length at i2
      change Tr (raiseS (putS 65536) [] l).2.2 (0 + j) (raiseS (putS 65536) [] l).1.num bs l at i3
      change bs.Perm (ccNums (raiseS (putS 65536) [] l).2.2) at i4
      have gr : Good 65536 (raiseS (putS 65536) [] l).2.2 := by
        rcases hlaw with h8 | ⟨_, r1, _⟩
        · change (raiseS (putS 65536) [] l).2.1 = 8 ∨ (raiseS (putS 65536) [] l).2.1 = 1 at h8
          omega
        · exact r1
      have hb : buildS h64 l = (heapOf 65536 (raiseS (putS 65536) [] l).2.2, (raiseS (putS 65536) [] l).1, 0) := by
        unfold buildS
        rw [if_neg (by rw [open64.1]; simp), if_neg (by rw [hi]; simp), if_neg hl, open64.2, show h64.size = 65536 from rfl, if_neg (by rw [i0]; simp)]
      rw [Nat.zero_add] at i3 i2
      generalize (raiseS (putS 65536) [] l).2.2 = cs at *
      generalize (raiseS (putS 65536) [] l).1 = k at *
      generalize (raiseS putN 0 l).2.2 = nn at *
      have hroom := tr_room gr i3 hnd
      have hread := tr_read gr j _ _ _ i3 cs.length ⟨[], [], false⟩ (Nat.lt_of_lt_of_le hroom.1 hroom.2) rfl
      have hmem := tr_mem i3
      have hrs : readS (heapOf 65536 cs) k.num = (j + 1, ⟨bs, l, false⟩) := by
        unfold readS heapOf
        rw [List.length_map]
        exact hread
      have hk0 : k.num ≠ 0 := by
        have hkb : k.num ∈ bs := by obtain ⟨m, b', _, _, k3⟩ := i3; rw [k3]; simp
        obtain ⟨c, hc, h1⟩ := List.mem_map.1 (hmem _ hkb)
        have := (gr.dec c hc).2.2.2.1
        omega
      have hbl := i4.length_eq
      have hcl : (ccNums cs).length = cs.length := by simp [ccNums]
      refine ⟨by rw [hb], ?_, ?_, ?_, by omega⟩
      · rw [hb]
        show ((topenK (heapOf 65536 cs) k.num).length : Int) = _
        unfold topenK
        rw [if_neg hk0, hrs]
        simp only; omega
      · rw [hb]
        show ((heapOf 65536 cs).cells.length : Int) = _
        unfold heapOf
        simp only [List.length_map]; omega
      · intro m hm
        rw [hb]
        show topenL (heapOf 65536 cs) k.num ≤ m + 1
        unfold topenL
        rw [if_neg hk0, hrs]
        simp only
        rcases i5 with ⟨rfl, _⟩ | ⟨h2, h3⟩
        · omega
        · have h4 : 2 ^ j < 2 ^ m := by omega
          have := (Nat.pow_lt_pow_iff_right (by omega : 1 < 2)).1 h4
          omega
end Go.Proofs.YthhmcjojnbaiiaaGreatDoor

/- GrowNeeds: the walk. -/
namespace Go.Proofs.YthhmcjojnbaiiaaGreatDoor
open Go Go.RowKit
theorem need_err (l : List Item) (h : (needS l).2 ≠ 0) : (needS l).1 = 0 := by
  unfold needS at h ⊢
  split
  · rfl
  · split
    · rfl
    · rename_i h1 h2
      rw [if_neg h1, if_neg h2] at h
      exact absurd rfl h
theorem half_step {n m i : Nat} (h : n < 2 ^ i * (m + 1)) : n < 2 ^ (i + 1) * (m / 2 + 1) := by
  rw [Nat.pow_succ, Nat.mul_assoc]
  exact Nat.lt_of_lt_of_le h (Nat.mul_le_mul_left _ (by omega))
set_option maxRecDepth 100000 in
set_option maxHeartbeats 4000000 in
theorem growNeeds_any (w : World) (vl : Value) (l : List Item) (hvl : Sl itemE w vl l) (hml : l.length ≤ 4194304) :
    Calls Tryz.prog 11 #[vl] w fun e w' => e = .returned (.bool true) ∧ Below w.heap.size w w' := by
  have HVL := Lib.hid hvl
  obtain ⟨A, m, c, rfl⟩ := sl_slice hvl
  have hm1 := (hvl.len_eq).1
  subst hm1
  clear hvl
  go_enter Tryz.func11, Tryz.ntmps11
  go_wp2_with (fail)
  go_at_call 30
  refine (lives_any w).mono ?_
  rintro e w1 ⟨rfl, hb1⟩
  have H1 := Lib.hid hb1
  clear hb1
  go_wp2_with (fail)
  go_at_call 32
  refine (need_any w1 _ l (HVL.out.below H1.out (Nat.le_refl _)) hml).mono ?_
  rintro e w2 ⟨rfl, hb2⟩
  have H2 := Lib.hid (H1.out.trans (hb2.mono H1.out.size))
  clear hb2
  have hn1 := need_err l
  have hn2 := needs_law l
  generalize needS l = N at *
  obtain ⟨nn, ne⟩ := N
  simp only at hn1 hn2 ⊢
  by_cases hne : ne ≠ 0
  · have h0 := hn1 hne
    have hq : (ne != 0) = true := by simpa using hne
    subst h0
    clear hn1 hn2 hne
    go_wp2_with (fail)
    go_ret
    exact ⟨rfl, H2.out⟩
  · have hne0 : ne = 0 := by simpa using hne
    subst hne0
    by_cases h5 : 500 < nn
    · have hq : decide (500 < nn) = true := decide_eq_true h5
      clear hn1 hn2 hne
      go_wp2_with (fail)
      go_ret
      exact ⟨rfl, H2.out⟩
    · have hq : decide (500 < nn) = false := decide_eq_false h5
      obtain ⟨q1, q2, q3, q4, q5⟩ := hn2 rfl (by omega)
      have hbo := build_read h64 l (by omega) q1
      have hlen := build_len h64 l (by show 0 ≤ 1073741824; omega)
      clear hn1 hne
      have HQ5 := Lib.hid (And.intro q5 h5)
      clear q5 h5
      go_wp2_with (fail)
      go_at_call 34
      refine (build_any w2 _ _ h64 l ⟨.slice none 0 0, rfl, Sl.nil _, by unfold u32Ok h64; simp⟩ (HVL.out.below H2.out (Nat.le_refl _)) (by show 0 ≤ 1073741824; omega) hml).mono ?_
      rintro e w4 ⟨r4, rfl, hr4, hk4, hb4⟩
      generalize buildS h64 l = B at *
      obtain ⟨hB, kB, eB⟩ := B
      simp only at q1 q2 q3 q4 hbo hlen hr4 hk4 ⊢
      subst q1
      obtain ⟨cB, rfl, hcB, huB⟩ := hr4
      obtain ⟨CB, mB, dB, rfl⟩ := sl_slice hcB
      have hmB := (hcB.len_eq).1
      have hnum : (kidA kB)[1]? = some (.int .u32 kB.num) := rfl
      have hs4 := kidA_size hk4
      have ha4 := kidA_all hk4
      generalize kidA kB = ka4 at *
      have ka4S := Lib.hid (And.intro hs4 ha4)
      have HNUM := Lib.hid hnum
      clear hnum
      have HLAW := Lib.hid (And.intro hbo (And.intro hlen (And.intro q2 (And.intro q3 (And.intro q4 hmB)))))
      have H4 := Lib.hid (And.intro hcB (And.intro huB (H2.out.trans (hb4.mono H2.out.size))))
      clear hs4 ha4 hk4 hbo hlen q2 q3 q4 hmB hcB huB hb4
      go_upto_region 9 with (
        ((with_reducible refine probe_storeT 58 ?_); (refine wpList_store_row rfl 58 (.tmp 6) _ rfl (w4.heap.size + 1) ka4 rfl rfl 58 _ (two_new w4 _ _ _ _) (by rw [kid_size, ka4S.out.1]) (by rw [ka4S.out.1]; rfl) ka4S.out.2 ?_)))
      obtain ⟨w5, hw5⟩ : ∃ w5, w5 = ((w4.alloc (.cells #[.int .u32 hB.size, .slice CB mB dB] 25)).alloc (.cells (kidA noKid) 58)).setRow (w4.heap.size + 1) ka4 := ⟨_, rfl⟩
      obtain ⟨hbw5, hhw5, hkw5⟩ := two_boxes (w1 := w4) (z2 := kidA noKid) (h := #[.int .u32 hB.size, .slice CB mB dB]) (k := ka4)
      rw [← hw5] at hbw5 hhw5 hkw5
      rw [kidA_zero] at hw5
      rw [← hw5]
      clear hw5
      have f0 : w5.cell? ⟨w4.heap.size, 0, none⟩ = some (.int .u32 hB.size) := by rw [cell_of_row _ _ _ _ _ _ hhw5]; rfl
      have f1 : w5.cell? ⟨w4.heap.size, 1, none⟩ = some (.slice CB mB dB) := by rw [cell_of_row _ _ _ _ _ _ hhw5]; rfl
      have hl5 := lt_of_block hhw5
      have hcB5 : Sl celE w5 (.slice CB mB dB) hB.cells := H4.out.1.below hbw5 (Nat.le_refl _)
      have H5 := Lib.hid (And.intro (show HeapV w5 (.agg #[.int .u32 hB.size, .slice CB mB dB]) hB from ⟨_, rfl, hcB5, H4.out.2.1⟩) (H4.out.2.2.trans (hbw5.mono H4.out.2.2.size)))
      have g1 : w5.cell? ⟨w4.heap.size + 1, 1, none⟩ = some (.int .u32 kB.num) := by rw [cell_of_row _ _ _ _ _ _ hkw5]; exact HNUM.out
      have hl5k := lt_of_block hkw5
      clear hbw5 hhw5 hkw5 hcB5
      go_wp2_with (fail)
      go_at_call 16
      refine (tblocks_any 1073741824 sort_any compact_any w5 _ hB kB.num H5.out.1 HLAW.out.2.1 HLAW.out.1.read).mono ?_
      rintro e w6 ⟨r6, ks, rfl, hr6, hpm, hb6⟩
      rw [HLAW.out.1.err]
      have hkl : ((ks.length : Int) == nn) = true := by
        have h9 := (hpm HLAW.out.1.err).length_eq
        have := HLAW.out.2.2.1
        simp; omega
      obtain ⟨A6, n6, c6, rfl⟩ := sl_slice hr6
      have hn6 := (hr6.len_eq).1
      subst hn6
      have i0 := (hb6.cell (p := ⟨w4.heap.size, 0, none⟩) hl5).trans f0
      have i1 := (hb6.cell (p := ⟨w4.heap.size, 1, none⟩) hl5).trans f1
      have j1 := (hb6.cell (p := ⟨w4.heap.size + 1, 1, none⟩) hl5k).trans g1
      have hl6 : w4.heap.size < w6.heap.size := Nat.lt_of_lt_of_le hl5 hb6.size
      have hl6k : w4.heap.size + 1 < w6.heap.size := Nat.lt_of_lt_of_le hl5k hb6.size
      have H6 := Lib.hid (And.intro (H5.out.1.below hb6 (Nat.le_refl _)) (H5.out.2.trans (hb6.mono H5.out.2.size)))
      clear hb6 hr6 hpm f0 f1 g1 hl5 hl5k
      go_wp2_with (fail)
      go_at_call 18
      refine (tlevels_any 1073741824 sort_any compact_any w6 _ hB kB.num H6.out.1 HLAW.out.2.1 HLAW.out.1.read).mono ?_
      rintro e w7 ⟨⟨tl, rfl, htl⟩, hb7⟩
      rw [HLAW.out.1.err]
      have HTL := Lib.hid (htl HLAW.out.1.err)
      have k1 := (hb7.cell (p := ⟨w4.heap.size, 1, none⟩) hl6).trans i1
      have hl7 : w4.heap.size < w7.heap.size := Nat.lt_of_lt_of_le hl6 hb7.size
      have H7 := Lib.hid (H6.out.2.trans (hb7.mono H6.out.2.size))
      clear hb7 htl i0 i1 j1 hl6 hl6k
      have hcl : ((mB : Int) == nn) = true := by
        have := HLAW.out.2.2.2.1
        have h9 := HLAW.out.2.2.2.2.2
        simp; omega
      have hfew : decide (nn ≤ 2 * (l.length : Int)) = true := decide_eq_true HQ5.out.1
      have hwm : IntKind.i64.wrap (2 * (l.length : Int)) = 2 * (l.length : Int) := by rw [IntKind.wrap_i64]; omega
      go_wp2_with (fail)
      go_loopg [12, 13] l.length (fun k vi vm wr => wr = w7 ∧ ∃ i : Nat, vi = .int .i64 i ∧ vm = .int .i64 k ∧ i + k ≤ l.length ∧ l.length < 2 ^ i * (k + 1))
      case atStart => exact ⟨rfl, 0, rfl, rfl, by omega, by rw [Nat.pow_zero]; omega⟩
      case round =>
        obtain ⟨rfl, i, rfl, rfl, hik, hpw⟩ := hrel
        have HPW := Lib.hid hpw
        clear hpw
        by_cases hk0 : 0 < gk
        · have hg : decide (0 < (gk : Int)) = true := by simp; omega
          have hdv : ((gk : Int).tdiv 2) = ((gk / 2 : Nat) : Int) := by rw [Int.tdiv_eq_ediv_of_nonneg (by omega)]; omega
          have hwi : IntKind.i64.wrap ((i : Int) + 1) = (i : Int) + 1 := by rw [IntKind.wrap_i64]; omega
          have hwk : IntKind.i64.wrap ((gk / 2 : Nat) : Int) = ((gk / 2 : Nat) : Int) := by rw [IntKind.wrap_i64]; omega
          go_wp2_with (fail)
          go_roundg (gk / 2)
          case measure => omega
          case rel => exact ⟨rfl, i + 1, by go_num, by go_num, by omega, half_step HPW.out⟩
        · have hk1 : gk = 0 := by omega
          subst hk1
          have hlv := HLAW.out.2.2.2.2.1 i (by have := HPW.out; omega)
          have hwi : IntKind.i64.wrap ((i : Int) + 1) = (i : Int) + 1 := by rw [IntKind.wrap_i64]; omega
          have hle : decide ((tl : Int) ≤ (i : Int) + 1) = true := decide_eq_true (by have := HTL.out; omega)
          clear hlv
          go_wp2_with (fail)
          go_ret
          exact ⟨rfl, H7.out⟩
end Go.Proofs.YthhmcjojnbaiiaaGreatDoor
