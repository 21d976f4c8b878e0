/- Texts of the proof: Wp Pw Ne Nd Bl. -/
import Derived.Test.YthhmcjojnbaiiaaGreatDoorM27
import Derived.Test.YthhmcjojnbaiiaaGreatDoorM22
import Derived.Test.YthhmcjojnbaiiaaGreatDoorM29
import Derived.Shelf.Abstract
import Derived.IntWalk
import Derived.Test.YthhmcjojnbaiiaaGreatDoorM32
set_option linter.all false
/- Heap: Writer.Put. -/
namespace Go.Proofs.YthhmcjojnbaiiaaGreatDoor
open Go Go.RowKit
theorem putS_good {sz : Int} {cs : List CC} {n : Node} (g : Good sz cs) (hw : nodeWf n) : Good sz (putS sz cs n).2.2 := by
  by_cases h0 : orL [nodeErr n, leadsE cs n] = 0
  · obtain ⟨h1, h2⟩ : nodeErr n = 0 ∧ leadsE cs n = 0 := by
      rw [orL_two] at h0
      split at h0
      · exact ⟨by assumption, h0⟩
      · exact absurd h0 (by assumption)
    rcases put_good g h1 hw h2 with h | h
    · rw [putS_kid h1 h2] at h ⊢
      cases hd : cs[dataIx (cs.map (·.data)) (wholeB n)]? with
      | some c => simp only [hd]; exact g
      | none =>
        simp only [hd] at h ⊢
        by_cases ha : ¬ freeNum (ccNums cs) < sz
        · rw [if_pos ha]; exact g
        · by_cases hb : (kidNums n).any (fun t => decide (16777216 - (countL (kidNums n) t : Int) < refsOf cs t)) = true
          · rw [if_neg ha, if_pos hb]; exact g
          · rw [if_neg ha, if_neg hb] at h; simp at h
    · exact h.2.good
  · unfold putS
    rw [if_pos h0]
    exact g
theorem WrAt.keep {w w' : World} {q p : Nat} (h : WrAt w q p) (hf : Fr w w') : WrAt w' q p := Fr.keep hf h (by unfold BadT; decide)
set_option maxRecDepth 100000 in
set_option maxHeartbeats 1000000 in
theorem wput_any (B : Nat) (w : World) (q p : Nat) (sz : Int) (pcs : List (Nat × CC)) (v : Value) (n : Node) (hq : WrAt w q p) (h : St B w p sz pcs) (hBw : B ≤ w.heap.size) (hg : Good sz (pcs.map (·.2))) (hmax : pcs.length ≤ 1048576) (hv : NodeV w v n) (hsm : smallN n) (hl : n.kids.length ≤ 100000 ∧ n.vols.length ≤ 100000) :
    Calls Tryz.prog 55 #[.pointer (some ⟨q, 0, none⟩), v] w fun e w' => PutPost B w p sz pcs v n e w' := by
  have HS := Lib.hid (And.intro h (And.intro hg (And.intro hq hv)))
  obtain ⟨va, vb, vc, rfl, ha, hb0, hc0, hk0, hk1⟩ := hv
  obtain ⟨A1, n1, c1, rfl⟩ := sl_slice ha
  obtain ⟨A2, n2, c2, rfl⟩ := sl_slice hb0
  obtain ⟨A3, n3, c3, rfl⟩ := sl_slice hc0
  have hplt := h.plt
  clear ha hb0 hc0 h hg hq
  generalize hkd : n.kind = kd at *
  clear hkd
  obtain ⟨W0, hW0⟩ : ∃ W0, W0 = (w.alloc (.cells #[.int .u8 kd, .slice A1 n1 c1, .slice A2 n2 c2, .slice A3 n3 c3] 44)).alloc (.cells (kidA noKid) 58) := ⟨_, rfl⟩
  have hP0 : Pc B w W0 p sz pcs [(w.heap.size + 1, kidA noKid, 58), (w.heap.size, #[.int .u8 kd, .slice A1 n1 c1, .slice A2 n2 c2, .slice A3 n3 c3], 44)] := by
    have h0 : Pc B w w p sz pcs [] := ⟨HS.out.1, Below.refl _ _, Fr.refl _, fun x hx => by simp at hx⟩
    have h1 := (h0.alloc hBw #[.int .u8 kd, .slice A1 n1 c1, .slice A2 n2 c2, .slice A3 n3 c3] 44 (by unfold BadT; decide)).alloc hBw (kidA noKid) 58 (by unfold BadT; decide)
    rw [← hW0] at h1
    simpa using h1
  have hnb : ¬ w.heap.size + 1 = w.heap.size := by omega
  have HP0 := Lib.hid hP0
  have HW0 := Lib.hid hW0
  have HD0 := Lib.hid (hP0.pure hBw (Below.refl _ _).drew)
  have hq0 := HS.out.2.2.1.keep hP0.fr
  have q0 : W0.cell? ⟨q, 0, none⟩ = some (.pointer (some ⟨p, 0, none⟩)) := by rw [cell_of_row _ _ _ _ _ _ hq0]; rfl
  have kn := (hP0.keep (w.heap.size, #[.int .u8 kd, .slice A1 n1 c1, .slice A2 n2 c2, .slice A3 n3 c3], 44) (by simp)).1
  have y0 : W0.cell? ⟨w.heap.size, 0, none⟩ = some (.int .u8 kd) := by rw [cell_of_row _ _ _ _ _ _ kn]; rfl
  have y1 : W0.cell? ⟨w.heap.size, 1, none⟩ = some (.slice A1 n1 c1) := by rw [cell_of_row _ _ _ _ _ _ kn]; rfl
  have y2 : W0.cell? ⟨w.heap.size, 2, none⟩ = some (.slice A2 n2 c2) := by rw [cell_of_row _ _ _ _ _ _ kn]; rfl
  have y3 : W0.cell? ⟨w.heap.size, 3, none⟩ = some (.slice A3 n3 c3) := by rw [cell_of_row _ _ _ _ _ _ kn]; rfl
  clear hP0 hW0 hq0 kn
  rw [kidA_zero] at HW0
  go_enter Tryz.func55, Tryz.ntmps55
  go_wp2_with (fail)
  rw [← HW0.out]
  clear HW0
  have HB := Lib.hid hBw
  go_region_held3 (fun x => x.cell? ⟨q, 0, none⟩ = some (.pointer (some ⟨p, 0, none⟩)) ∧ x.cell? ⟨w.heap.size, 0, none⟩ = some (.int .u8 kd) ∧ x.cell? ⟨w.heap.size, 1, none⟩ = some (.slice A1 n1 c1) ∧ x.cell? ⟨w.heap.size, 2, none⟩ = some (.slice A2 n2 c2) ∧ x.cell? ⟨w.heap.size, 3, none⟩ = some (.slice A3 n3 c3)) (go_keep) (first
    | (go_at_call 59; refine (putH_any B W0.drew p sz pcs _ n HD0.out.st (Nat.le_trans HB.out HD0.out.bl.size) HS.out.2.1 hmax (HD0.out.node HS.out.2.2.2) hsm hl).mono ?_; rintro e w1 ⟨k, er, qcs, rfl, hput, hkwf, hst, hbl, hfr, hids⟩; have HIDS := Lib.hid hids; clear hids; have HP1 := Lib.hid (HD0.out.op hst hbl hfr); have hkb := (HP1.out.keep (w.heap.size + 1, kidA noKid, 58) (by simp)).1; have hkn := (HP1.out.keep (w.heap.size, #[.int .u8 kd, .slice A1 n1 c1, .slice A2 n2 c2, .slice A3 n3 c3], 44) (by simp)).1; have hkq := HS.out.2.2.1.keep HP1.out.fr; have j0 : w1.cell? ⟨q, 0, none⟩ = some (.pointer (some ⟨p, 0, none⟩)) := (by rw [cell_of_row _ _ _ _ _ _ hkq]; rfl); have j1 : w1.cell? ⟨w.heap.size, 0, none⟩ = some (.int .u8 kd) := (by rw [cell_of_row _ _ _ _ _ _ hkn]; rfl); have j2 : w1.cell? ⟨w.heap.size, 1, none⟩ = some (.slice A1 n1 c1) := (by rw [cell_of_row _ _ _ _ _ _ hkn]; rfl); have j3 : w1.cell? ⟨w.heap.size, 2, none⟩ = some (.slice A2 n2 c2) := (by rw [cell_of_row _ _ _ _ _ _ hkn]; rfl); have j4 : w1.cell? ⟨w.heap.size, 3, none⟩ = some (.slice A3 n3 c3) := (by rw [cell_of_row _ _ _ _ _ _ hkn]; rfl); have hgd := (show Good sz (qcs.map (·.2)) from by (have h9 := putS_good (n := n) HS.out.2.1 HS.out.2.2.2.wfs; rw [hput] at h9; exact h9)); have HF := Lib.hid (And.intro (HP1.out.out HB.out (kb := w.heap.size + 1) (by omega) hkb (kidA_size noKid_wf) (kidE.enc k) (kidE.len _ hkwf) hgd (kid_noText _ rfl)) (And.intro hput hkwf)); have hsc := run_storeCells_at (P := Tryz.prog) (w.heap.size + 1) 0 58 (kidE.enc k) 0 (kidA noKid) w1 hkb (by rw [kidA_size noKid_wf, kidE.len _ hkwf]; decide) (kidE.one _ hkwf); have hs34 := kidA_size hkwf; rw [show kidE.enc k = (kidA k).toList from rfl] at hsc; simp only [Nat.add_zero, Nat.zero_add] at hsc; rw [show kidE.enc k = (kidA k).toList from rfl] at HF; have hql := lt_of_block HS.out.2.2.1; obtain ⟨wz, hwz⟩ : ∃ wz, wz = w1.setRow (w.heap.size + 1) (List.take 0 (kidA noKid).toList ++ (kidA k).toList ++ List.drop (kidA k).toList.length (kidA noKid).toList).toArray := ⟨_, rfl⟩; have jb : ∀ t, t ≠ w.heap.size + 1 → ∀ i, wz.cell? ⟨t, i, none⟩ = w1.cell? ⟨t, i, none⟩ := (fun t ht i => World.cell?_of_block (by rw [hwz]; exact heap_setRow_other _ _ _ _ ht)); rw [← hwz] at hsc; simp only [Nat.zero_add] at HF; rw [← hwz] at HF; have z0 := (jb q (by omega) 0).trans j0; have z1 := (jb w.heap.size (by omega) 0).trans j1; have z2 := (jb w.heap.size (by omega) 1).trans j2; have z3 := (jb w.heap.size (by omega) 2).trans j3; have z4 := (jb w.heap.size (by omega) 3).trans j4; obtain ⟨kz, hkz⟩ : ∃ kz, kidA k = kz := ⟨_, rfl⟩; rw [hkz] at hsc hs34 ⊢; have HKE := Lib.hid hkz; clear jb hwz hkz; clear hput hst hbl hfr hkb hgd hkn hkq))
  all_goals (
    go_wp2_with (fail)
    refine bodyPost_ret (results_kid rfl _ (w.heap.size + 1) _ (0, 0) _ rfl HF.out.1.1 (kidA_size HF.out.2.2)) rfl ⟨k, er, qcs, rfl, HF.out.2.1, HF.out.2.2, HF.out.1.2.1, HF.out.1.2.2.1, HF.out.1.2.2.2.1, fun y hy => (HIDS.out y hy).imp id fun ⟨h1, a, b, c, d, h2, h3⟩ => ⟨Nat.le_trans HP0.out.fr.size h1, a, b, c, d, h2, HF.out.1.2.2.2.2 _ _ _ _ h3⟩⟩)
end Go.Proofs.YthhmcjojnbaiiaaGreatDoor

/- Grow: the two functions that raise is handed: Writer.Put, and Need's counter. -/
namespace Go.Proofs.YthhmcjojnbaiiaaGreatDoor
open Go Go.RowKit
/-- A slice that is empty, or lies in a block below M. -/
def LowS (M : Nat) (v : Value) : Prop := ∀ a n c, v = .slice (some a) n c → n = 0 ∨ a.block < M
theorem LowS.mono {M M' : Nat} {v : Value} (h : LowS M v) (hm : M ≤ M') : LowS M' v := fun a n c e => (h a n c e).imp id fun h1 => Nat.lt_of_lt_of_le h1 hm
theorem sl_low {α : Type} {E : Enc α} {w : World} {v : Value} {xs : List α} (h : Sl E w v xs) : LowS w.heap.size v := by
  intro a n c e
  obtain ⟨A, cp, rfl, h1, h2, h3⟩ := h
  injection e with e1 e2 _
  by_cases hx : xs = []
  · exact Or.inl (by rw [← e2, hx]; rfl)
  · obtain ⟨b, o, e4, hlt⟩ := h3.addr hx
    rw [e1] at e4
    injection e4 with e4
    exact Or.inr (by rw [e4]; exact hlt)
/-- The rows of the store's cells lie in blocks below M. -/
def AwayM (M : Nat) (w : World) (pcs : List (Nat × CC)) : Prop := ∀ x ∈ pcs, ∃ s1 s2 s3, Slots w x.1 s1 s2 s3 ∧ LowS M s1 ∧ LowS M s2 ∧ LowS M s3
theorem AwayM.kp {M : Nat} {w w' : World} {pcs : List (Nat × CC)} (h : AwayM M w pcs) (hk : Kp w w') : AwayM M w' pcs := fun x hx => by
  obtain ⟨s1, s2, s3, hs, h1⟩ := h x hx
  exact ⟨s1, s2, s3, hk _ _ _ _ hs, h1⟩
theorem AwayM.mono {M M' : Nat} {w : World} {pcs : List (Nat × CC)} (h : AwayM M w pcs) (hm : M ≤ M') : AwayM M' w pcs := fun x hx => by
  obtain ⟨s1, s2, s3, hs, h1, h2, h3⟩ := h x hx
  exact ⟨s1, s2, s3, hs, h1.mono hm, h2.mono hm, h3.mono hm⟩
theorem St.awaySelf {B : Nat} {w : World} {p : Nat} {sz : Int} {pcs : List (Nat × CC)} (h : St B w p sz pcs) : AwayM w.heap.size w pcs := fun x hx => by
  obtain ⟨vi, vk, vv, hb, h1, h2, h3⟩ := (h.cells x hx).1
  exact ⟨vi, vk, vv, ⟨_, hb, by simp [ccRow], by simp [ccRow], by simp [ccRow]⟩, sl_low h1, sl_low h2, sl_low h3⟩
theorem sl_off {α : Type} {E : Enc α} {w w' : World} {g M : Nat} (hk : w.grownBy w' (some g)) (hM : M ≤ g) {v : Value} {xs : List α} (hv : LowS M v) (hpos : ∀ x ∈ xs, E.enc x ≠ []) (hs : Sl E w v xs) : Sl E w' v xs := by
  obtain ⟨A, cp, e, h1, h2, h3⟩ := hs
  refine ⟨A, cp, e, h1, h2, fun k hk' => ?_⟩
  obtain ⟨b, o, eA, hat, hwf⟩ := h3 k hk'
  have hne := hpos _ (List.getElem_mem hk')
  have c0 := hat.cell 0 _ (List.getElem?_eq_getElem (List.length_pos_iff.2 hne))
  refine ⟨b, o, eA, hat.heap (hk.block b (block_lt_of_cell c0) fun e' => ?_), hwf⟩
  injection e' with e'
  subst e'
  rcases hv ⟨b, o, none⟩ xs.length cp (by rw [e, eA]) with h9 | h9
  · omega
  · simp only at h9; omega
/-- The store stands while a row beyond its own is appended to. -/
theorem St.awayM {B M : Nat} {w w' : World} {p : Nat} {sz : Int} {pcs : List (Nat × CC)} (h : St B w p sz pcs) (ha : AwayM M w pcs) {g : Nat} (hM : M ≤ g) {cs : Array Value} {t : TypeId} {fr : Nat × Nat} (hc : w.heap[g]? = some (.cells cs t fr)) (ht : ¬ BadT t) (hk : w.grownBy w' (some g)) : St B w' p sz pcs := by
  have hne : ∀ (b : Nat) (cs' : Array Value) (t' : TypeId) (fr' : Nat × Nat), w.heap[b]? = some (Obj.cells cs' t' fr') → (t' = 114 ∨ t' = 96 ∨ t' = 91) → w'.heap[b]? = w.heap[b]? := by
    intro b cs' t' fr' hb ht'
    refine hk.block b (lt_of_block hb) fun e => ?_
    injection e with e
    subst e
    rw [hc] at hb
    injection hb with hb
    injection hb with _ hb _
    subst hb
    apply ht
    rcases ht' with h1 | h1 | h1
    · exact Or.inl h1
    · exact Or.inr (Or.inl h1)
    · exact Or.inr (Or.inr (Or.inl h1))
  obtain ⟨v, a, hp, hown⟩ := h.row
  refine ⟨h.low, ⟨v, a, by rw [hne p _ _ _ hp (Or.inl rfl)]; exact hp, hown.1, hown.2.imp id ?_⟩, fun x hx => ⟨?_, (h.cells x hx).2⟩, h.nodup, h.wf, ?_⟩
  · rintro ⟨g', cap, cur, h1, h2, h3, h4⟩
    exact ⟨g', cap, cur, h1, h2, by rw [hne g' _ _ _ h3 (Or.inr (Or.inr rfl))]; exact h3, h4⟩
  · obtain ⟨vi, vk, vv, hb, h1, h2, h3⟩ := (h.cells x hx).1
    obtain ⟨s1, s2, s3, ⟨cs', hb', e1, e2, e3⟩, n1, n2, n3⟩ := ha x hx
    rw [hb] at hb'
    injection hb' with hb'
    injection hb' with hb' _ _
    subst hb'
    have f1 : s1 = vi := by simpa [ccRow] using e1.symm
    have f2 : s2 = vk := by simpa [ccRow] using e2.symm
    have f3 : s3 = vv := by simpa [ccRow] using e3.symm
    subst f1; subst f2; subst f3
    exact ⟨s1, s2, s3, by rw [hne x.1 _ _ _ hb (Or.inr (Or.inl rfl))]; exact hb, sl_off hk hM n1 (fun x _ => by simp [itemE]) h1, sl_off hk hM n2 (fun x _ => by simp [kidE]) h2, sl_off hk hM n3 (fun x _ => by simp [volE]) h3⟩
  · intro v' g' cs' t' fr' hc' ho hgb
    have hp' : w'.heap[p]? = some (.cells #[.int .u32 sz, v, .int .i64 a] 114 (0, 0)) := by rw [hne p _ _ _ hp (Or.inl rfl)]; exact hp
    have hv : v' = v := by
      rw [cell_of_row _ _ _ _ _ _ hp'] at hc'
      simpa using hc'.symm
    subst hv
    rcases hown.2 with ⟨e1, _⟩ | ⟨g2, cap, cur, e1, h2, h3, h4⟩
    · rw [e1] at ho; cases ho
    · have e2 : g2 = g' := by rw [e1] at ho; simpa [Value.ownBlock] using ho
      subst e2
      rw [hne g2 _ _ _ h3 (Or.inr (Or.inr rfl))] at hgb
      exact h.spare v' g2 cs' t' fr' (by rw [cell_of_row _ _ _ _ _ _ hp]; rfl) ho hgb
theorem rise_len : ∀ (l : List Int) (a b : Int), l.Pairwise (· < ·) → (∀ x ∈ l, a ≤ x ∧ x < b) → a ≤ b → (l.length : Int) ≤ b - a
  | [], a, b, _, _, h => by simp; omega
  | x :: r, a, b, hp, hr, h => by
    rw [List.pairwise_cons] at hp
    have hx := hr x (by simp)
    have ih := rise_len r (x + 1) b hp.2 (fun y hy => ⟨by have := hp.1 y hy; omega, (hr y (by simp [hy])).2⟩) (by omega)
    simp only [List.length_cons]; omega
theorem good_len {sz : Int} {cs : List CC} (g : Good sz cs) : cs.length ≤ 65536 := by
  have h := rise_len (ccNums cs) 0 65536 g.ris (fun x hx => by
    obtain ⟨c, hc, rfl⟩ := List.mem_map.1 hx
    have := (g.dec c hc).2.2.2
    have := g.hi
    omega) (by omega)
  unfold ccNums at h
  rw [List.length_map] at h
  omega
/-- A store behind a writer, as a list of cells. -/
def InvS (B q p : Nat) (sz : Int) (W : World) (M : Nat) (s : List CC) : Prop := ∃ pcs, St B W p sz pcs ∧ pcs.map (·.2) = s ∧ Good sz s ∧ WrAt W q p ∧ AwayM M W pcs
theorem wr_ne {W : World} {q p g : Nat} {cs : Array Value} {fr : Nat × Nat} (h : WrAt W q p) (hg : W.heap[g]? = some (.cells cs 58 fr)) : q ≠ g := by
  intro e
  subst e
  unfold WrAt at h
  rw [h] at hg
  injection hg with hg
  injection hg with _ hg _
  exact absurd hg (by decide)
theorem puts_store (B q p : Nat) (sz : Int) : Puts B 55 #[.pointer (some ⟨q, 0, none⟩)] #[] (putS sz) (InvS B q p sz) where
  enter := enters_of Tryz.func55 (by kernel_rfl) rfl
  below := by
    rintro W W' M s ⟨pcs, h1, h2, h3, h4, h5⟩ hb
    exact ⟨pcs, h1.below hb, h2, h3, (hb.block _ (lt_of_block h4)).trans h4, h5.kp (Kp.of_below hb)⟩
  rise := by
    rintro W M M' s ⟨pcs, h1, h2, h3, h4, h5⟩ hm
    exact ⟨pcs, h1, h2, h3, h4, h5.mono hm⟩
  away := by
    rintro W W' M s g cs fr ⟨pcs, h1, h2, h3, h4, h5⟩ hM hg hk
    exact ⟨pcs, h1.awayM h5 hM hg nb_kid hk, h2, h3, (hk.block _ (lt_of_block h4) (by have := wr_ne h4 hg; simpa using this)).trans h4, h5.kp (Kp.of_grown hk hg (by decide))⟩
  zero := by
    rintro W W' M s g fr ⟨pcs, h1, h2, h3, h4, h5⟩ hg hk
    exact ⟨pcs, h1.noText (by rw [h2]; exact h3) hg nb_kid (kid_noText _ rfl) hk, h2, h3, (hk.block _ (lt_of_block h4) (by have := wr_ne h4 hg; simpa using this)).trans h4, h5.kp (Kp.of_grown hk hg (by decide))⟩
  call := by
    rintro W0 W M s v n ⟨pcs, h1, h2, h3, h4, h5⟩ hB hM hv0 hv hl1 hl2 hl3
    have hlen : pcs.length ≤ 1048576 := by
      have := good_len h3
      rw [← h2, List.length_map] at this
      omega
    refine (wput_any B W q p sz pcs v n h4 h1 hB (by rw [h2]; exact h3) hlen hv ⟨by omega, by omega, by omega⟩ ⟨by omega, by omega⟩).mono ?_
    rintro e W' ⟨k, er, qcs, rfl, hput, hkw, hst, hbl, hfr, hids⟩
    rw [h2] at hput
    have hgood : Good sz (qcs.map (·.2)) := by have h9 := putS_good (n := n) h3 hv.wfs; rw [hput] at h9; exact h9
    unfold PutsPost
    rw [hput]
    refine ⟨rfl, hkw, ⟨qcs, hst, rfl, hgood, h4.keep hfr, fun y hy => ?_⟩, hbl, hfr⟩
    rcases hids y hy with ⟨x, hx, e⟩ | ⟨_, k', a, b, c, e, hs⟩
    · obtain ⟨s1, s2, s3, hs, h6⟩ := h5 x hx
      rw [e] at hs
      exact ⟨s1, s2, s3, hfr.kp _ _ _ _ hs, h6⟩
    · obtain ⟨va, vb, vc, e2, ha, hb, hc, _⟩ := hv0
      rw [e] at e2
      simp only [Value.agg.injEq, Array.mk.injEq, List.cons.injEq, and_true] at e2
      obtain ⟨_, rfl, rfl, rfl⟩ := e2
      exact ⟨_, _, _, hs, (sl_low ha).mono hM, (sl_low hb).mono hM, (sl_low hc).mono hM⟩
end Go.Proofs.YthhmcjojnbaiiaaGreatDoor

/- Grow: Need's counter. -/
namespace Go.Proofs.YthhmcjojnbaiiaaGreatDoor
open Go Go.RowKit
set_option maxRecDepth 100000 in
set_option maxHeartbeats 1000000 in
theorem need1_any (w : World) (g : Nat) (m : Int) (a b c d : Value) (hg : w.heap[g]? = some (.cells #[.int .i64 m] 3 (0, 0))) (ha : ∃ k, a = .int .u8 k) (hb : ∃ A n e, b = .slice A n e) (hc : ∃ A n e, c = .slice A n e) (hd : ∃ A n e, d = .slice A n e) :
    Calls Tryz.prog 53 #[.agg #[a, b, c, d], .pointer (some ⟨g, 0, none⟩)] w fun e w' => e = .returned (.tuple #[.agg (kidA noKid), .int .i64 0]) ∧ w.grownBy w' (some g) ∧ ∃ m', (0 ≤ m ∧ m ≤ 1000000000 → m' = m + 1) ∧ w'.heap[g]? = some (.cells #[.int .i64 m'] 3 (0, 0)) := by
  obtain ⟨kk, rfl⟩ := ha
  obtain ⟨A1, n1, c1, rfl⟩ := hb
  obtain ⟨A2, n2, c2, rfl⟩ := hc
  obtain ⟨A3, n3, c3, rfl⟩ := hd
  have hgl := lt_of_block hg
  obtain ⟨W0, hW0⟩ : ∃ W0, W0 = (w.alloc (.cells #[.int .u8 kk, .slice A1 n1 c1, .slice A2 n2 c2, .slice A3 n3 c3] 44)).alloc (.cells (kidA noKid) 58) := ⟨_, rfl⟩
  have hb0 : Below w.heap.size w W0 := by rw [hW0]; exact (below_box w _).alloc (by simp) _
  have hkb : W0.heap[w.heap.size + 1]? = some (.cells (kidA noKid) 58 (0, 0)) := by
    have := heap_alloc_new (w.alloc (.cells #[.int .u8 kk, .slice A1 n1 c1, .slice A2 n2 c2, .slice A3 n3 c3] 44)) (.cells (kidA noKid) 58)
    rw [← hW0] at this
    simpa using this
  have hg0 : W0.heap[g]? = some (.cells #[.int .i64 m] 3 (0, 0)) := (hb0.block g hgl).trans hg
  have g0 : W0.cell? ⟨g, 0, none⟩ = some (.int .i64 m) := by rw [cell_of_row _ _ _ _ _ _ hg0]; rfl
  have gf : W0.frozen? ⟨g, 0, none⟩ = false := frozen_of_row _ _ _ _ _ hg0
  have hs1 := blk_set hg0 0 (.int .i64 (wrap64 (m + 1)))
  have hg1 := grown_set (World.grownBy.refl W0 (some g)) 0 (.int .i64 (wrap64 (m + 1)))
  have hkb1 := (hg1.block (w.heap.size + 1) (lt_of_block hkb) (by simp; omega)).trans hkb
  have HW0 := Lib.hid hW0
  have HK := Lib.hid hkb1
  have HS := Lib.hid (And.intro hb0 (And.intro hs1 hg1))
  clear hW0 hkb hkb1 hb0 hs1 hg1 hg0 hg
  rw [kidA_zero] at HW0
  go_enter Tryz.func53, Tryz.ntmps53
  go_upto_region 1 with (fail)
  rw [← HW0.out]
  clear HW0
  generalize hkz : kidA noKid = kz at *
  have HKZ := Lib.hid hkz
  clear hkz
  go_wp2_with (first
    | ((with_reducible refine probe_build 58 ?_); refine wpList_build_cells rfl 58 _ rfl [] rfl kz (by rw [← HKZ.out]; exact built_kid0') ?_)
    | ((with_reducible refine probe_storeT 58 ?_); refine wpList_store_at rfl 58 (.tmp 3) _ rfl (w.heap.size + 1) 0 rfl (kidE.enc noKid) (by rw [show (kidE.enc noKid).toArray = kz from HKZ.out]; rfl) 58 kz HK.out (by rw [← HKZ.out, kidA_size noKid_wf, kidE.len _ noKid_wf]; decide) (kidE.one _ noKid_wf) (kid_len _ noKid_wf) ?_))
  have hBg : Below w.heap.size w W0 := HS.out.1
  have hks := kid_store (w := W0.setCell ⟨g, 0, none⟩ (.int .i64 (wrap64 (m + 1)))) (B := w.heap.size) (Below.refl _ _) (kb := w.heap.size + 1) (by omega) HK.out (by rw [← HKZ.out]; exact kidA_size noKid_wf) (kidE.enc noKid) (kidE.len _ noKid_wf)
  simp only [List.take_zero, List.nil_append, Nat.zero_add] at hks
  refine bodyPost_ret (results_kid rfl _ (w.heap.size + 1) _ (0, 0) _ rfl hks.1 (kidA_size noKid_wf)) rfl ⟨rfl, ⟨hks.2.1.os.trans hBg.os, hks.2.1.tape.trans hBg.tape, hks.2.1.output.trans hBg.output, Nat.le_trans hBg.size (Nat.le_trans HS.out.2.2.size hks.2.1.size), fun k hk hne => ?_⟩, ?_⟩
  · rw [hks.2.1.block k hk, HS.out.2.2.block k (Nat.lt_of_lt_of_le hk hBg.size) hne]
    exact hBg.block k hk
  · refine ⟨wrap64 (m + 1), fun hm => ?_, by rw [hks.2.1.block g hgl, HS.out.2.1]; rfl⟩
    exact IntWalk.wrap64_in _ (by omega)
/-- Need's counter at block g: as many as were put, while these are few. -/
def InvN (g : Nat) (W : World) (_ : Nat) (s : Nat) : Prop := ∃ m : Int, W.heap[g]? = some (.cells #[.int .i64 m] 3 (0, 0)) ∧ (s ≤ 1000000000 → m = s)
theorem cnt_ne {W : World} {g b : Nat} {m : Int} {cs : Array Value} {fr : Nat × Nat} (h : W.heap[g]? = some (.cells #[.int .i64 m] 3 (0, 0))) (hb : W.heap[b]? = some (.cells cs 58 fr)) : g ≠ b := by
  intro e
  subst e
  rw [h] at hb
  injection hb with hb
  injection hb with _ hb _
  exact absurd hb (by decide)
theorem puts_count (B g : Nat) (hB : B ≤ g) : Puts B 53 #[] #[.pointer (some ⟨g, 0, none⟩)] putN (InvN g) where
  enter := enters_of Tryz.func53 (by kernel_rfl) rfl
  below := by
    rintro W W' M s ⟨m, h1, h2⟩ hb
    exact ⟨m, (hb.block _ (lt_of_block h1)).trans h1, h2⟩
  rise := fun _ _ _ _ h _ => h
  away := by
    rintro W W' M s b cs fr ⟨m, h1, h2⟩ _ hg hk
    exact ⟨m, (hk.block _ (lt_of_block h1) (by have := cnt_ne h1 hg; simpa using this)).trans h1, h2⟩
  zero := by
    rintro W W' M s b fr ⟨m, h1, h2⟩ hg hk
    exact ⟨m, (hk.block _ (lt_of_block h1) (by have := cnt_ne h1 hg; simpa using this)).trans h1, h2⟩
  call := by
    rintro W0 W M s v n ⟨m, h1, h2⟩ _ _ _ hv _ _ _
    obtain ⟨va, vb, vc, rfl, ha, hb, hc, _⟩ := hv
    refine (need1_any W g m _ _ _ _ h1 ⟨_, rfl⟩ (sl_slice ha) (sl_slice hb) (sl_slice hc)).mono ?_
    rintro e W' ⟨rfl, hg, m', hm, hb'⟩
    refine ⟨rfl, noKid_wf, ⟨m', hb', fun hs => ?_⟩, ⟨hg.os, hg.tape, hg.output, hg.size, fun k hk => hg.block k (by have := lt_of_block h1; omega) (by simp; omega)⟩, Fr.of_grown hg h1 (Or.inr (Or.inr (Or.inr rfl))) ?_ (fun e => absurd e (by decide))⟩
    · have hs' : s ≤ 1000000000 := by simp only [putN] at hs; omega
      have := h2 hs'
      rw [hm (by omega), this]
      simp [putN]
    · intro i s' v' h0 _
      match i with
      | 0 => simp at h0
      | i + 1 => simp at h0
end Go.Proofs.YthhmcjojnbaiiaaGreatDoor

/- Grow: Need. -/
namespace Go.Proofs.YthhmcjojnbaiiaaGreatDoor
open Go Go.RowKit
theorem count_le : ∀ (f : Nat) (d : Int) (s : Nat) (ns : List Node), (∀ n ∈ ns, LevelOk n) → ns ≠ [] → (raiseGo putN f d s ns).2.2 + 2 ≤ s + 3 * ns.length
  | 0, d, s, ns, _, hne => by
    have := List.length_pos_iff.2 hne
    simp only [raiseGo]; omega
  | f + 1, d, s, ns, hl, hne => by
    have hpos := List.length_pos_iff.2 hne
    have hN := putAll_N ns [] s
    simp only [List.nil_append] at hN
    have hl2 : (putAll putN [] s ns).1.length = ns.length := by rw [hN]; simp
    have hsz : ∀ x ∈ (putAll putN [] s ns).1, x.key.size ≤ 48 := by
      rw [hN]
      intro x hx
      obtain ⟨n, hn, rfl⟩ := List.mem_map.1 hx
      exact (hl n hn).2.2.2.2
    have hN2 : putAll putN [] s ns = ((putAll putN [] s ns).1, 0, s + ns.length) := by rw [hN]
    generalize (putAll putN [] s ns).1 = ks at *
    by_cases h1 : ns.length = 1
    · obtain ⟨k, rfl⟩ : ∃ k, ks = [k] := by
        match ks, hl2.trans h1 with
        | [k], _ => exact ⟨_, rfl⟩
      rw [raise_one putN hN2 (by omega)]
      simp only; omega
    · rw [raise_more putN hN2 (by omega) (by omega)]
      obtain ⟨b1, b2, b3⟩ := branches_level d ks (by intro e; rw [e] at hl2; simp at hl2; omega) hsz
      have ih := count_le f ((d + 1) % 256) (s + ns.length) _ b1 b2
      have hp2 := List.length_pos_iff.2 b2
      rw [hl2] at b3
      simp only [Nat.add_sub_cancel] at ih ⊢
      omega
theorem items_small {l : List Item} (h : itemsOk l = true) : ∀ x ∈ l, x.key.size ≤ 48 ∧ x.val.size ≤ 160 := by
  obtain ⟨hk, hv⟩ := (items_iff l).1 h
  exact fun x hx => ⟨(hk.1 x.key (List.mem_map.2 ⟨x, hx, rfl⟩)).1, hv x hx⟩
set_option maxRecDepth 100000 in
set_option maxHeartbeats 1000000 in
theorem need_any (w : World) (v : Value) (l : List Item) (hv : Sl itemE w v l) (hmax : l.length ≤ 4194304) :
    Calls Tryz.prog 32 #[v] w fun e w' => e = .returned (.tuple #[.int .i64 (needS l).1, .int .i64 (needS l).2]) ∧ Below w.heap.size w w' := by
  have HS := Lib.hid hv
  obtain ⟨A, c, rfl, hc1, hc2, hrow⟩ := hv
  have HR := Lib.hid hrow
  clear hrow
  go_enter Tryz.func32, Tryz.ntmps32
  go_wp2_with (fail)
  go_at_call 29
  refine (itemCheck_any _ _ l HS.out).mono ?_
  rintro e w1 ⟨rfl, hb1⟩
  have HB1 := Lib.hid hb1
  clear hb1
  cases hok : itemsOk l with
  | false =>
    have HN := Lib.hid (show needS l = (0, 4) by unfold needS; rw [if_pos hok])
    rw [show errIf false 4 = 4 from rfl]
    go_wp2_with (fail)
    go_ret2
    exact ⟨by rw [HN.out]; rfl, HB1.out⟩
  | true =>
    rw [show errIf true 4 = 0 from rfl]
    by_cases hl : l = []
    · have HN := Lib.hid (show needS l = (0, 0) by unfold needS; rw [if_neg (by simp [hok]), if_pos hl])
      have hq : ((l.length : Int) == 0) = true := by simp [hl]
      clear hl
      go_wp2_with (fail)
      go_ret2
      exact ⟨by rw [HN.out]; rfl, HB1.out⟩
    · have hpos := List.length_pos_iff.2 hl
      have hq : ((l.length : Int) == 0) = false := by simp; omega
      have hsm := items_small hok
      obtain ⟨b, o, rfl, _⟩ := HR.out.addr hl
      have hlv := leaves_level l hl hsm
      have hcnt := count_le (l.length + 1) 1 0 (leavesL l) hlv.1 hlv.2.1
      have HN := Lib.hid (show needS l = ((((raiseS putN 0 l).2.2 : Nat) : Int), 0) by unfold needS; rw [if_neg (by simp [hok]), if_neg hl])
      have HC := Lib.hid (show (raiseS putN 0 l).2.2 ≤ 1000000000 by unfold raiseS; omega)
      have HL := Lib.hid (And.intro hl hsm)
      clear hl hsm hlv hcnt
      go_wp2_with (fail)
      go_at_call 52
      have hcb := heap_alloc_new w1 (.cells #[.int .i64 0] 3)
      have hb1 := below_box w1 (.cells #[.int .i64 0] 3)
      have hsz1 := HB1.out.size
      refine (raise_any (puts_count w1.heap.size w1.heap.size (Nat.le_refl _)) _ b o l.length c 0 l 0 ((HS.out.below HB1.out (Nat.le_refl _)).below hb1 (Nat.le_refl _)) HL.out.1 HL.out.2 hmax ⟨0, hcb, fun _ => rfl⟩ (Nat.zero_le _) (by simp)).mono ?_
      rintro e w2 ⟨rfl, _, ⟨_, m, hm1, hm2⟩, hb2, _⟩
      have hm := hm2 HC.out
      subst hm
      have hc2 : w2.cell? ⟨w1.heap.size, 0, none⟩ = some (.int .i64 ((raiseS putN 0 l).2.2 : Nat)) := by rw [cell_of_row _ _ _ _ _ _ hm1]; rfl
      have HB2 := Lib.hid (HB1.out.trans ((hb1.trans hb2).mono hsz1))
      clear hm1 hm2 hb2 hcb hb1
      go_wp2_with (fail)
      go_ret2
      exact ⟨by rw [HN.out]; rfl, HB2.out⟩
end Go.Proofs.YthhmcjojnbaiiaaGreatDoor

/- Grow: Build. -/
namespace Go.Proofs.YthhmcjojnbaiiaaGreatDoor
open Go Go.RowKit
theorem results_hke {fn : Func} {t u s : Tmp} (h : fn.results = #[.cell t 25, .cell u 58, .tmp s]) (tmps : Array Value) (g gk : Nat) (cs ks : Array Value) (fr fr' : Nat × Nat) (w : World) (ht : tmps.getD t undef = .pointer (some ⟨g, 0, none⟩)) (hu : tmps.getD u undef = .pointer (some ⟨gk, 0, none⟩))
    (hg : w.heap[g]? = some (.cells cs 25 fr)) (hsz : cs.size = 2) (hgk : w.heap[gk]? = some (.cells ks 58 fr')) (hszk : ks.size = 34) :
    (results fn tmps).run Tryz.prog w = .ok (.tuple #[.agg cs, .agg ks, tmps.getD s undef]) w := by
  have hp1 : tmps[t]?.getD undef = .pointer (some ⟨g, 0, none⟩) := by simpa using ht
  have hp2 : tmps[u]?.getD undef = .pointer (some ⟨gk, 0, none⟩) := by simpa using hu
  have hl := run_loadVar_row (P := Tryz.prog) w g 25 25 cs fr _ hg Tryz.underlying25 rfl (by rw [heap_size, hsz])
  have hk := run_loadVar_row (P := Tryz.prog) w gk 58 58 ks fr' _ hgk Tryz.underlying58 rfl (by rw [kid_size, hszk])
  simp [results, h, hp1, hp2, asAddr, hl, hk, Sem.run_bind]
theorem built_heap0 : Tryz.prog.built 25 [] = some #[.int .u32 0, .slice none 0 0] := by kernel_rfl
/-- The two result blocks, as they are when all is done. -/
structure Outs (w W : World) (hb kb : Nat) (hv kv : Array Value) : Prop where
  bl : Below w.heap.size w W
  hh : W.heap[hb]? = some (.cells hv 25 (0, 0))
  kk : W.heap[kb]? = some (.cells kv 58 (0, 0))
theorem Outs.heap {w W : World} {hb kb : Nat} {hv kv : Array Value} (h : Outs w W hb kb hv kv) (h2 : hv.size = 2) (hn : w.heap.size ≤ hb) (hne : hb ≠ kb) (a b : Value) :
    Outs w (W.setRow hb ([a, b] ++ List.drop 2 hv.toList).toArray) hb kb #[a, b] kv ∧ W.grownBy (W.setRow hb ([a, b] ++ List.drop 2 hv.toList).toArray) (some hb) := by
  have hd : List.drop 2 hv.toList = [] := List.drop_of_length_le (by simp; omega)
  rw [hd]
  refine ⟨⟨h.bl.trans ⟨rfl, rfl, rfl, by simp [World.setRow], fun k hk => heap_setRow_other _ _ _ _ (by omega)⟩, heap_setRow_same _ _ _ _ _ h.hh, (heap_setRow_other _ _ _ _ (fun e => hne e.symm)).trans h.kk⟩, ⟨rfl, rfl, rfl, by simp [World.setRow], fun k _ hk => heap_setRow_other _ _ _ _ (by simpa using hk)⟩⟩
theorem Outs.kid {w W : World} {hb kb : Nat} {hv kv : Array Value} (h : Outs w W hb kb hv kv) (h2 : kv.size = 34) (hn : w.heap.size ≤ kb) (hne : hb ≠ kb) (vs : List Value) (hl : vs.length = 34) :
    Outs w (W.setRow kb (vs ++ List.drop vs.length kv.toList).toArray) hb kb hv vs.toArray ∧ W.grownBy (W.setRow kb (vs ++ List.drop vs.length kv.toList).toArray) (some kb) := by
  have hd : List.drop vs.length kv.toList = [] := List.drop_of_length_le (by simp; omega)
  rw [hd, List.append_nil]
  refine ⟨⟨h.bl.trans ⟨rfl, rfl, rfl, by simp [World.setRow], fun k hk => heap_setRow_other _ _ _ _ (by omega)⟩, (heap_setRow_other _ _ _ _ hne).trans h.hh, heap_setRow_same _ _ _ _ _ h.kk⟩, ⟨rfl, rfl, rfl, by simp [World.setRow], fun k _ hk => heap_setRow_other _ _ _ _ (by simpa using hk)⟩⟩
theorem Outs.pure {w W W' : World} {hb kb : Nat} {hv kv : Array Value} (h : Outs w W hb kb hv kv) (hb' : Below W.heap.size W W') : Outs w W' hb kb hv kv :=
  ⟨h.bl.trans (hb'.mono h.bl.size), (hb'.block _ (lt_of_block h.hh)).trans h.hh, (hb'.block _ (lt_of_block h.kk)).trans h.kk⟩
/-- Rows of cells lie in no block where no uint32 stands ahead of a text. -/
theorem sl_cel_off {w w' : World} {g : Nat} {cs : Array Value} {t : TypeId} {fr : Nat × Nat} (hg : w.heap[g]? = some (.cells cs t fr)) (hno : ∀ (i : Nat) (n : Int) (s : ByteArray), cs[i]? = some (.int .u32 n) → cs[i + 1]? = some (.string s) → False) (hk : w.grownBy w' (some g)) {v : Value} {xs : List Cel} (hs : Sl celE w v xs) : Sl celE w' v xs := by
  obtain ⟨A', cp, e, h1, h2, h3⟩ := hs
  refine ⟨A', cp, e, h1, h2, fun k hk' => ?_⟩
  obtain ⟨b, o, eA, hat, hwf⟩ := h3 k hk'
  have c0 := hat.cell 0 (.int .u32 xs[k].num) rfl
  have c1 := hat.cell 1 (.string xs[k].data) rfl
  refine ⟨b, o, eA, hat.heap (hk.block b (block_lt_of_cell c0) fun e => ?_), hwf⟩
  injection e with e
  subst e
  rw [cell_of_row _ _ _ _ _ _ hg] at c0 c1
  exact hno _ _ _ c0 c1
theorem kid_noPair (k : Kid) : ∀ (i : Nat) (n : Int) (s : ByteArray), (kidA k)[i]? = some (.int .u32 n) → (kidA k)[i + 1]? = some (.string s) → False := by
  intro i n s _ h1
  unfold kidA kidE at h1
  simp only [List.getElem?_toArray] at h1
  match i with
  | 0 => simp at h1
  | i + 1 => simp [hashV] at h1
theorem heap_noPair (a : Int) (b : Value) (hb : ∃ x y z, b = .slice x y z) : ∀ (i : Nat) (n : Int) (s : ByteArray), (#[.int .u32 a, b] : Array Value)[i]? = some (.int .u32 n) → (#[.int .u32 a, b] : Array Value)[i + 1]? = some (.string s) → False := by
  obtain ⟨x, y, z, rfl⟩ := hb
  intro i n s _ h1
  match i with
  | 0 => simp at h1
  | i + 1 => simp at h1
theorem Outs.keep {w W W' : World} {hb kb : Nat} {hv kv : Array Value} (h : Outs w W hb kb hv kv) {B : Nat} (hb' : Below B W W') (hB : w.heap.size ≤ B) (h1 : hb < B) (h2 : kb < B) : Outs w W' hb kb hv kv :=
  ⟨h.bl.trans (hb'.mono hB), (hb'.block _ h1).trans h.hh, (hb'.block _ h2).trans h.kk⟩
/-- A whole struct stored, as a region that draws meets it. -/
theorem wp_store_row {P : Program} {op : Oper} {a : Act} {w : World} {K : Act → World → Prop} {Q : Exit → Act → World → Prop} (ty : TypeId) (x v : Operand) (ho : op.op = .store ty x v)
    (g i : Nat) (hx : a.eval x = .pointer (some ⟨g, i, none⟩)) (vs : List Value) (hv : a.eval v = .agg vs.toArray) (t : TypeId) (cur : Array Value) (hg : w.heap[g]? = some (.cells cur t (0, 0)))
    (hl : i + vs.length ≤ cur.size) (h1 : ∀ v ∈ vs, v.oneCell' = true) (hi : (P.info? ty).map (·.size) = some vs.length)
    (h : K (a.put op.dst undef) (w.setRow g (cur.toList.take i ++ vs ++ cur.toList.drop (i + vs.length)).toArray)) : op.wp P a w K Q := by
  unfold Oper.wp execOp
  simp only [ho, hx, hv, Instr.storeAt, Instr.sureAddr, Sem.run_bind, Sem.run_pure, Result.andThen_ok, run_storeVar_at w g i ty t vs cur hg hl h1 hi]
  exact h
theorem rangeAt_below {w w' : World} {b : Nat} {vs : List Value} (h : w.rangeAt b 0 vs) (hb : w'.heap[b]? = w.heap[b]?) : w'.rangeAt b 0 vs := fun j v hj => (World.cell?_of_block (a := ⟨b, 0 + j, none⟩) hb).trans (h j v hj)
def BuildPost (w : World) (h : Hp) (l : List Item) (e : Ending) (w' : World) : Prop :=
  ∃ r, e = .returned (.tuple #[r, .agg (kidA (buildS h l).2.1), .int .i64 (buildS h l).2.2]) ∧ HeapV w' r (buildS h l).1 ∧ kidE.wf (buildS h l).2.1 ∧ Below w.heap.size w w'
set_option maxRecDepth 100000 in
set_option maxHeartbeats 1000000 in
theorem build_any (w : World) (v vl : Value) (h : Hp) (l : List Item) (hv : HeapV w v h) (hvl : Sl itemE w vl l) (hmax : h.cells.length ≤ 1073741824) (hml : l.length ≤ 4194304) :
    Calls Tryz.prog 34 #[v, vl] w fun e w' => BuildPost w h l e w' := by
  have HVV := Lib.hid hv
  obtain ⟨cv, rfl, hsl, hsz⟩ := hv
  obtain ⟨C, cn, cc, rfl⟩ := sl_slice hsl
  have HL := Lib.hid hvl
  obtain ⟨A, cl, rfl, _, _, hrow⟩ := hvl
  have HR := Lib.hid hrow
  clear hrow hsl
  obtain ⟨kz, hkz⟩ : ∃ kz, kidA noKid = kz := ⟨_, rfl⟩
  obtain ⟨W0, hW0⟩ : ∃ W0, W0 = ((w.alloc (.cells #[.int .u32 h.size, .slice C cn cc] 25)).alloc (.cells #[.int .u32 0, .slice none 0 0] 25)).alloc (.cells kz 58) := ⟨_, rfl⟩
  have hbA := below_box w (.cells #[.int .u32 h.size, .slice C cn cc] 25)
  have hbB := hbA.alloc (by simp) (.cells #[.int .u32 0, .slice none 0 0] 25)
  have hO0 : Outs w W0 (w.heap.size + 1) (w.heap.size + 2) #[.int .u32 0, .slice none 0 0] kz := by
    refine ⟨by rw [hW0]; exact hbB.alloc (by simp; omega) _, ?_, ?_⟩
    · rw [hW0, Lib.alloc_old _ _ _ (by simp)]
      have := heap_alloc_new (w.alloc (.cells #[.int .u32 h.size, .slice C cn cc] 25)) (.cells #[.int .u32 0, .slice none 0 0] 25)
      simpa using this
    · rw [hW0]
      have := heap_alloc_new ((w.alloc (.cells #[.int .u32 h.size, .slice C cn cc] 25)).alloc (.cells #[.int .u32 0, .slice none 0 0] 25)) (.cells kz 58)
      simpa using this
  have hin : W0.heap[w.heap.size]? = some (.cells #[.int .u32 h.size, .slice C cn cc] 25 (0, 0)) := by
    rw [hW0, Lib.alloc_old _ _ _ (by simp; omega), Lib.alloc_old _ _ _ (by simp)]; exact heap_alloc_new _ _
  have HKZ := Lib.hid hkz
  have HW0 := Lib.hid hW0
  have HO := Lib.hid (And.intro hO0 hin)
  have hinl := lt_of_block hin
  clear hbA hbB hO0 hW0
  rw [← hkz, kidA_zero] at HW0
  clear hkz
  have i0 : W0.cell? ⟨w.heap.size, 0, none⟩ = some (.int .u32 h.size) := by rw [cell_of_row _ _ _ _ _ _ hin]; rfl
  have i1 : W0.cell? ⟨w.heap.size, 1, none⟩ = some (.slice C cn cc) := by rw [cell_of_row _ _ _ _ _ _ hin]; rfl
  clear hin
  go_enter Tryz.func34, Tryz.ntmps34
  go_upto_region 1 with (fail)
  rw [← HW0.out]
  clear HW0
  go_wp2_with (fail)
  go_at_call 54
  refine (write_call W0 _ h (HVV.out.below HO.out.1.bl (Nat.le_refl _)) hmax).mono ?_
  rintro e w1 ⟨hb1, h1⟩
  have hO1 := HO.out.1.pure hb1
  have hin1 := (hb1.block _ hinl).trans HO.out.2
  have H1 := Lib.hid (And.intro hO1 (And.intro hin1 hb1))
  have j0 : w1.cell? ⟨w.heap.size, 0, none⟩ = some (.int .u32 h.size) := by rw [cell_of_row _ _ _ _ _ _ hin1]; rfl
  have j1 : w1.cell? ⟨w.heap.size, 1, none⟩ = some (.slice C cn cc) := by rw [cell_of_row _ _ _ _ _ _ hin1]; rfl
  have hin1l := lt_of_block hin1
  clear hb1 hO1 hin1
  rcases h1 with ⟨ho, q, p, pcs, rfl, hq, hst, hop⟩ | ⟨ho, rfl⟩
  · have HS := Lib.hid (And.intro ho (And.intro hq (And.intro hst hop)))
    clear ho hq hst hop
    go_wp2_with (fail)
    go_at_call 29
    refine (itemCheck_any _ _ l ((HL.out.below HO.out.1.bl (Nat.le_refl _)).below H1.out.2.2 (Nat.le_refl _))).mono ?_
    rintro e w2 ⟨rfl, hb2⟩
    have hO2 := H1.out.1.pure hb2
    have hin2 := (hb2.block _ hin1l).trans H1.out.2.1
    have H2 := Lib.hid (And.intro hO2 (And.intro hin2 hb2))
    have k0 : w2.cell? ⟨w.heap.size, 0, none⟩ = some (.int .u32 h.size) := by rw [cell_of_row _ _ _ _ _ _ hin2]; rfl
    have k1 : w2.cell? ⟨w.heap.size, 1, none⟩ = some (.slice C cn cc) := by rw [cell_of_row _ _ _ _ _ _ hin2]; rfl
    have hin2l := lt_of_block hin2
    clear hb2 hO2 hin2 j0 j1 i0 i1
    obtain ⟨er, her⟩ : ∃ er, errIf (itemsOk l) 4 = er := ⟨_, rfl⟩
    rw [her]
    by_cases hbad : er ≠ 0 ∨ l = []
    · have HB := Lib.hid (show buildS h l = (h, noKid, er) by
        unfold buildS
        rw [if_neg (by rw [HS.out.1]; simp)]
        cases hok : itemsOk l with
        | false => rw [if_pos rfl, ← her, hok]; rfl
        | true =>
          rw [hok] at her
          have he0 : er = 0 := her.symm
          rw [if_neg (by simp), if_pos (by rcases hbad with h9 | h9; exact absurd he0 h9; exact h9), he0])
      have hg : (er != 0) = true ∨ ((er != 0) = false ∧ ((l.length : Int) == 0) = true) := by
        by_cases h0 : er = 0
        · exact Or.inr ⟨by simp [h0], by rcases hbad with h9 | h9; exact absurd h0 h9; simp [h9]⟩
        · exact Or.inl (by simpa using h0)
      clear hbad her
      have g1 := kidE.one _ noKid_wf
      have g2 := kid_len _ noKid_wf
      have g3 := kidE.len _ noKid_wf
      have HX := Lib.hid (And.intro g3 (show (kidE.enc noKid).toArray = kz from HKZ.out))
      clear g3
      generalize hkw : kidE.enc noKid = kw at *
      clear hkw
      rcases hg with hg | ⟨hg, hg2⟩
      all_goals (
        go_wp2_with (fail)
        go_at_call 51
        refine (own_any w2 _ h (HVV.out.below H2.out.1.bl (Nat.le_refl _)) hmax).mono ?_
        rintro e w3 ⟨r, rfl, hr, hb3⟩
        obtain ⟨cr, rfl, hslr, _⟩ := hr
        obtain ⟨Cr, nr, ccr, rfl⟩ := sl_slice hslr
        have hO3 := H2.out.1.pure hb3
        have HO2 := Lib.hid (hO3.heap rfl (by omega) (by omega) (.int .u32 h.size) (.slice Cr nr ccr))
        have HO3 := Lib.hid (HO2.out.1.kid (by rw [← HKZ.out]; exact kidA_size noKid_wf) (by omega) (by omega) kw HX.out.1)
        have HSL := Lib.hid (sl_cel_off HO2.out.1.kk (by rw [← HKZ.out]; exact kid_noPair noKid) HO3.out.2 (sl_cel_off hO3.hh (heap_noPair _ _ ⟨_, _, _, rfl⟩) HO2.out.2 hslr))
        have HO1 := Lib.hid hO3
        clear hO3 hb3 hslr
        go_wp2_with (first
          | ((with_reducible refine probe_build 58 ?_); refine wpList_build_cells rfl 58 _ rfl [] rfl kz (by rw [← HKZ.out]; exact built_kid0') ?_)
          | ((with_reducible refine probe_storeT 25 ?_); refine wpList_store_at rfl 25 (.tmp 4) _ rfl (w.heap.size + 1) 0 rfl [.int .u32 h.size, .slice Cr nr ccr] rfl 25 _ HO1.out.hh (by simp) (by intro v hv; simp at hv; rcases hv with rfl | rfl <;> rfl) heap_size ?_)
          | ((with_reducible refine probe_storeT 58 ?_); refine wpList_store_at rfl 58 (.tmp 5) _ rfl (w.heap.size + 2) 0 rfl kw (by rw [HX.out.2]; rfl) 58 kz HO2.out.1.kk (by rw [← HKZ.out, kidA_size noKid_wf, HX.out.1]; decide) g1 g2 ?_))
        refine bodyPost_ret (results_hke rfl _ (w.heap.size + 1) (w.heap.size + 2) _ _ (0, 0) (0, 0) _ rfl rfl HO3.out.1.hh rfl HO3.out.1.kk (by rw [List.size_toArray]; exact HX.out.1)) rfl ⟨.agg #[.int .u32 h.size, .slice Cr nr ccr], ?_, ?_, ?_, HO3.out.1.bl⟩
        · rw [HB.out, HX.out.2, ← HKZ.out]; rfl
        · rw [HB.out]; exact ⟨_, rfl, HSL.out, hsz⟩
        · rw [HB.out]; exact noKid_wf)
    · have he0 : er = 0 := Decidable.byContradiction fun h9 => hbad (Or.inl h9)
      have hl : l ≠ [] := fun h9 => hbad (Or.inr h9)
      have hok : itemsOk l = true := by
        cases hok : itemsOk l with
        | true => rfl
        | false => rw [hok] at her; have : (4 : Int) = er := her; omega
      subst he0
      have hpos := List.length_pos_iff.2 hl
      obtain ⟨b, o, rfl, _⟩ := HR.out.addr hl
      have hq : ((l.length : Int) == 0) = false := by simp; omega
      have hI : InvS W0.heap.size q p h.size w2 w2.heap.size (opened h) :=
        ⟨pcs, HS.out.2.2.1.below H2.out.2.2, HS.out.2.2.2, good_open h HS.out.1, (H2.out.2.2.block _ (lt_of_block HS.out.2.1)).trans HS.out.2.1, (HS.out.2.2.1.below H2.out.2.2).awaySelf⟩
      have hBe : buildS h l = if (raiseS (putS h.size) (opened h) l).2.1 ≠ 0 then (h, noKid, (raiseS (putS h.size) (opened h) l).2.1) else (heapOf h.size (raiseS (putS h.size) (opened h) l).2.2, (raiseS (putS h.size) (opened h) l).1, 0) := by
        unfold buildS
        rw [if_neg (by rw [HS.out.1]; simp), if_neg (by rw [hok]; simp), if_neg hl]
      have HI := Lib.hid (And.intro hI (And.intro hBe (And.intro hl hok)))
      clear hI hBe hl hok hbad her
      have hW02 : W0.heap.size ≤ w2.heap.size := Nat.le_trans H1.out.2.2.size H2.out.2.2.size
      have hW0s : w.heap.size + 2 < W0.heap.size := lt_of_block HO.out.1.kk
      go_wp2_with (fail)
      go_at_call 52
      refine (raise_any (puts_store W0.heap.size q p h.size) w2 b o l.length cl w2.heap.size l (opened h) (((HL.out.below HO.out.1.bl (Nat.le_refl _)).below H1.out.2.2 (Nat.le_refl _)).below H2.out.2.2 (Nat.le_refl _)) HI.out.2.2.1 (items_small HI.out.2.2.2) hml HI.out.1 (Nat.le_refl _) hW02).mono ?_
      rintro e w3 ⟨rfl, hkw, ⟨M, qcs, hst3, hop3, hgd3, hq3, haw3⟩, hbl3, hfr3⟩
      have hBe := HI.out.2.1
      generalize raiseS (putS h.size) (opened h) l = R at *
      obtain ⟨rk, re, rs⟩ := R
      simp only at hBe hkw hop3 hgd3 ⊢
      have hO3 := H2.out.1.keep hbl3 (by omega) (by omega) (by omega)
      have hin3 := (hbl3.block w.heap.size (by omega)).trans H2.out.2.1
      have h1' := kidE.one rk hkw
      have hkl := kid_len rk hkw
      have hkn := kidE.len rk hkw
      have hlen3 := good_len hgd3
      rw [← hop3, List.length_map] at hlen3
      obtain ⟨kv, hkv⟩ : ∃ kv, kidE.enc rk = kv := ⟨_, rfl⟩
      obtain ⟨ka, hka⟩ : ∃ ka, kidA rk = ka := ⟨_, rfl⟩
      have hkk : kv.toArray = ka := by rw [← hkv, ← hka]; rfl
      rw [hkv] at h1' hkl hkn
      rw [hka]
      have H3 := Lib.hid (And.intro hO3 (And.intro hin3 (And.intro hst3 (And.intro hop3 (And.intro hgd3 (And.intro hq3 (And.intro hkn (And.intro hkk (And.intro hkv (And.intro hka (And.intro hkw hBe)))))))))))
      have hin3l := lt_of_block hin3
      clear hO3 hin3 hst3 hop3 hgd3 hq3 haw3 hbl3 hfr3 hkn hkk hkv hka hkw hBe k0 k1
      have HO4 := Lib.hid (H3.out.1.pure (below_box w3 (.cells ka 58)))
      have hin4 := (Lib.alloc_old w3 (.cells ka 58) _ hin3l).trans H3.out.2.1
      have k0 : w3.cell? ⟨w.heap.size, 0, none⟩ = some (.int .u32 h.size) := by rw [cell_of_row _ _ _ _ _ _ H3.out.2.1]; rfl
      have k1 : w3.cell? ⟨w.heap.size, 1, none⟩ = some (.slice C cn cc) := by rw [cell_of_row _ _ _ _ _ _ H3.out.2.1]; rfl
      clear hin4
      by_cases hre : re = 0
      · subst hre
        go_wp2_with (first
          | ((with_reducible refine probe_storeT 58 ?_); refine wpList_store_new rfl 58 (.tmp 10) (.tmp 39) rfl 58 _ rfl kv (by rw [H3.out.2.2.2.2.2.2.2.1]; rfl) (by rw [H3.out.2.2.2.2.2.2.1]; rfl) h1' hkl ?_; rw [H3.out.2.2.2.2.2.2.2.1]))
        have hra : (w3.alloc (.cells ka 58)).rangeAt w3.heap.size 0 kv := by
          intro j v hj
          rw [← H3.out.2.2.2.2.2.2.2.1, Nat.zero_add]
          exact new_cell (w := w3) (vs := kv) (t := 58) j v hj
        have hq4 : (w3.alloc (.cells ka 58)).heap[q]? = some (.cells #[.pointer (some ⟨p, 0, none⟩)] 146 (0, 0)) := (Lib.alloc_old _ _ _ (lt_of_block H3.out.2.2.2.2.2.1)).trans H3.out.2.2.2.2.2.1
        have HQ4 := Lib.hid (show WrAt (w3.alloc (.cells ka 58)).drew q p from hq4)
        have HST4 := Lib.hid (St.below (w' := (w3.alloc (.cells ka 58)).drew) H3.out.2.2.1 ((below_box w3 (.cells ka 58)).drew))
        have HRA := Lib.hid hra
        clear hq4
        have HKVL := Lib.hid (show kv.length = 34 from H3.out.2.2.2.2.2.2.1)
        refine wp_region_held_drew (S := fun x => x.rangeAt w3.heap.size 0 kv) (by kernel_rfl) ?_ (fun hHeld => ?_)
        · exact hra
        refine wpAnyH_take (i := 0) (v := .pointer (some ⟨q, 0, none⟩)) rfl (by kernel_rfl) (by kernel_rfl) (by kernel_rfl) (fun _ _ _ h => h) (Or.inl ⟨by rfl, fun x _ => by go_simp⟩) hHeld ?_
        try simp only [Act.put, List.setIfInBounds_toArray, List.set_cons_zero, List.set_cons_succ]
        refine wpAnyH_take (i := 2) (v := .agg kv.toArray) rfl (by kernel_rfl) (by kernel_rfl) (by kernel_rfl) (fun _ _ _ h => h) (yieldsIf_load_mid (by rfl) 58 (.tmp 10) rfl w3.heap.size 0 rfl kv _ (fun x hx => hx) Tryz.underlying58 rfl hkl) hHeld ?_
        try simp only [Act.put, List.setIfInBounds_toArray, List.set_cons_zero, List.set_cons_succ]
        refine wpAnyH_ready (rs := [1]) (by kernel_rfl) (by simp) ?_
        refine AllReadyH.cons rfl (fun K hK => ?_) AllReadyH.nil
        go_simp
        refine (wheap_any W0.heap.size _ q p h.size qcs HQ4.out HST4.out (by omega) hsz).mono ?_
        rintro e w5 ⟨r, rfl, ⟨cr, rfl, hslr, _⟩, hb5⟩
        obtain ⟨Cr, nr, ccr, rfl⟩ := sl_slice hslr
        have hb5' : Below (w3.alloc (.cells ka 58)).heap.size (w3.alloc (.cells ka 58)) w5 := (show Below _ _ _ from (Below.refl _ _).drew.trans hb5)
        have hO5 := HO4.out.pure hb5'
        have hra5 := rangeAt_below HRA.out (hb5'.block w3.heap.size (by simp))
        have hne3 : w.heap.size + 2 < w3.heap.size := lt_of_block H3.out.1.kk
        have HO6 := Lib.hid (hO5.heap rfl (by omega) (by omega) (.int .u32 h.size) (.slice Cr nr ccr))
        have hra6 := rangeAt_below hra5 (HO6.out.2.block w3.heap.size (Nat.lt_of_lt_of_le (by simp) hb5'.size) (by simp; omega))
        have HO7 := Lib.hid (HO6.out.1.kid (by rw [← HKZ.out]; exact kidA_size noKid_wf) (by omega) (by omega) kv HKVL.out)
        have hsz56 := HO6.out.2.size
        have hra7 := rangeAt_below hra6 (HO7.out.2.block w3.heap.size (Nat.lt_of_lt_of_le (Nat.lt_of_lt_of_le (by simp) hb5'.size) hsz56) (by simp; omega))
        have HSL := Lib.hid (sl_cel_off HO6.out.1.kk (by rw [← HKZ.out]; exact kid_noPair noKid) HO7.out.2 (sl_cel_off hO5.hh (heap_noPair _ _ ⟨_, _, _, rfl⟩) HO6.out.2 hslr))
        refine hK.out _ _ hra5 (fun hHeld => ?_)
        clear hK K
        try simp only [Act.put, List.setIfInBounds_toArray, List.set_cons_zero, List.set_cons_succ]
        refine wpAnyH_ready (rs := [3]) (by kernel_rfl) (by simp) ?_
        refine AllReadyH.cons rfl (fun K hK => ?_) AllReadyH.nil
        rw [if_pos (by rfl)]
        refine wp_store_row 25 (.tmp 4) (.tmp 48) rfl (w.heap.size + 1) 0 rfl [.int .u32 h.size, .slice Cr nr ccr] rfl 25 _ hO5.hh (by simp) (by intro v hv; simp at hv; rcases hv with rfl | rfl <;> rfl) heap_size ?_
        refine hK.out _ _ hra6 (fun hHeld => ?_)
        clear hK K
        try simp only [Act.put, List.setIfInBounds_toArray, List.set_cons_zero, List.set_cons_succ]
        refine wpAnyH_ready (rs := [4]) (by kernel_rfl) (by simp) ?_
        refine AllReadyH.cons rfl (fun K hK => ?_) AllReadyH.nil
        rw [if_pos (by rfl)]
        refine wp_store_row 58 (.tmp 5) (.tmp 49) rfl (w.heap.size + 2) 0 rfl kv rfl 58 kz HO6.out.1.kk (by rw [← HKZ.out, kidA_size noKid_wf, HKVL.out]; decide) h1' hkl ?_
        simp only [List.take_zero, List.nil_append, Nat.zero_add]
        refine hK.out _ _ hra7 (fun hHeld => ?_)
        clear hK K
        try simp only [Act.put, List.setIfInBounds_toArray, List.set_cons_zero, List.set_cons_succ]
        refine wpAnyH_take (i := 5) (v := .int .i64 0) rfl (by kernel_rfl) (by kernel_rfl) (by kernel_rfl) (fun _ _ _ h => h) (Or.inl ⟨by rfl, fun x _ => by go_simp⟩) hHeld ?_
        try simp only [Act.put, List.setIfInBounds_toArray, List.set_cons_zero, List.set_cons_succ]
        refine wpAnyH_done (by kernel_rfl) ?_ _
        have HB := Lib.hid (show buildS h l = (heapOf h.size rs, rk, 0) by rw [H3.out.2.2.2.2.2.2.2.2.2.2.2, if_neg (by simp)])
        go_wp2_with (fail)
        refine bodyPost_ret (results_hke rfl _ (w.heap.size + 1) (w.heap.size + 2) _ _ (0, 0) (0, 0) _ rfl rfl HO7.out.1.hh rfl HO7.out.1.kk (by rw [List.size_toArray]; exact HKVL.out)) rfl ⟨.agg #[.int .u32 h.size, .slice Cr nr ccr], ?_, ?_, ?_, HO7.out.1.bl⟩
        · rw [HB.out, H3.out.2.2.2.2.2.2.2.1, ← H3.out.2.2.2.2.2.2.2.2.2.1]; rfl
        · rw [HB.out]; exact ⟨_, rfl, by have h9 := HSL.out; rw [H3.out.2.2.2.1] at h9; exact h9, hsz⟩
        · rw [HB.out]; exact H3.out.2.2.2.2.2.2.2.2.2.2.1
      · have hg : (re != 0) = true := by simpa using hre
        have HB := Lib.hid (show buildS h l = (h, noKid, re) by rw [H3.out.2.2.2.2.2.2.2.2.2.2.2, if_pos hre])
        have q1 := kidE.one _ noKid_wf
        have q2 := kid_len _ noKid_wf
        have q3 := kidE.len _ noKid_wf
        have HX := Lib.hid (And.intro q3 (show (kidE.enc noKid).toArray = kz from HKZ.out))
        clear q3 hre
        generalize hkw : kidE.enc noKid = kw at *
        clear hkw
        go_wp2_with (first
          | ((with_reducible refine probe_storeT 58 ?_); refine wpList_store_new rfl 58 (.tmp 10) (.tmp 39) rfl 58 _ rfl kv (by rw [H3.out.2.2.2.2.2.2.2.1]; rfl) (by rw [H3.out.2.2.2.2.2.2.1]; rfl) h1' hkl ?_; rw [H3.out.2.2.2.2.2.2.2.1]))
        go_at_call 51
        refine (own_any _ _ h (HVV.out.below HO4.out.bl (Nat.le_refl _)) hmax).mono ?_
        rintro e w5 ⟨r, rfl, hr, hb5⟩
        obtain ⟨cr, rfl, hslr, _⟩ := hr
        obtain ⟨Cr, nr, ccr, rfl⟩ := sl_slice hslr
        have hO5 := HO4.out.pure hb5
        have HO2 := Lib.hid (hO5.heap rfl (by omega) (by omega) (.int .u32 h.size) (.slice Cr nr ccr))
        have HO3 := Lib.hid (HO2.out.1.kid (by rw [← HKZ.out]; exact kidA_size noKid_wf) (by omega) (by omega) kw HX.out.1)
        have HSL := Lib.hid (sl_cel_off HO2.out.1.kk (by rw [← HKZ.out]; exact kid_noPair noKid) HO3.out.2 (sl_cel_off hO5.hh (heap_noPair _ _ ⟨_, _, _, rfl⟩) HO2.out.2 hslr))
        have HO1 := Lib.hid hO5
        clear hO5 hb5 hslr
        go_wp2_with (first
          | ((with_reducible refine probe_build 58 ?_); refine wpList_build_cells rfl 58 _ rfl [] rfl kz (by rw [← HKZ.out]; exact built_kid0') ?_)
          | ((with_reducible refine probe_storeT 25 ?_); refine wpList_store_at rfl 25 (.tmp 4) _ rfl (w.heap.size + 1) 0 rfl [.int .u32 h.size, .slice Cr nr ccr] rfl 25 _ HO1.out.hh (by simp) (by intro v hv; simp at hv; rcases hv with rfl | rfl <;> rfl) heap_size ?_)
          | ((with_reducible refine probe_storeT 58 ?_); refine wpList_store_at rfl 58 (.tmp 5) _ rfl (w.heap.size + 2) 0 rfl kw (by rw [HX.out.2]; rfl) 58 kz HO2.out.1.kk (by rw [← HKZ.out, kidA_size noKid_wf, HX.out.1]; decide) q1 q2 ?_))
        refine bodyPost_ret (results_hke rfl _ (w.heap.size + 1) (w.heap.size + 2) _ _ (0, 0) (0, 0) _ rfl rfl HO3.out.1.hh rfl HO3.out.1.kk (by rw [List.size_toArray]; exact HX.out.1)) rfl ⟨.agg #[.int .u32 h.size, .slice Cr nr ccr], ?_, ?_, ?_, HO3.out.1.bl⟩
        · rw [HB.out, HX.out.2, ← HKZ.out]; rfl
        · rw [HB.out]; exact ⟨_, rfl, HSL.out, hsz⟩
        · rw [HB.out]; exact noKid_wf
  · have HB := Lib.hid (show buildS h l = (⟨0, []⟩, noKid, 7) by unfold buildS; rw [if_pos ho])
    have g1 := kidE.one _ noKid_wf
    have g2 := kid_len _ noKid_wf
    have g3 := kidE.len _ noKid_wf
    have HX := Lib.hid (And.intro g3 (show (kidE.enc noKid).toArray = kz from HKZ.out))
    clear ho g3
    generalize hkw : kidE.enc noKid = kw at *
    clear hkw
    have HO2 := Lib.hid (H1.out.1.heap rfl (by omega) (by omega) (.int .u32 0) (.slice none 0 0))
    have HO3 := Lib.hid (HO2.out.1.kid (by rw [← HKZ.out]; exact kidA_size noKid_wf) (by omega) (by omega) kw HX.out.1)
    go_wp2_with (first
      | ((with_reducible refine probe_build 25 ?_); refine wpList_build_cells rfl 25 _ rfl [] rfl _ built_heap0 ?_)
      | ((with_reducible refine probe_build 58 ?_); refine wpList_build_cells rfl 58 _ rfl [] rfl kz (by rw [← HKZ.out]; exact built_kid0') ?_)
      | ((with_reducible refine probe_storeT 25 ?_); refine wpList_store_at rfl 25 (.tmp 4) _ rfl (w.heap.size + 1) 0 rfl [.int .u32 0, .slice none 0 0] rfl 25 _ H1.out.1.hh (by simp) (by intro v hv; simp at hv; rcases hv with rfl | rfl <;> rfl) heap_size ?_)
      | ((with_reducible refine probe_storeT 58 ?_); refine wpList_store_at rfl 58 (.tmp 5) _ rfl (w.heap.size + 2) 0 rfl kw (by rw [HX.out.2]; rfl) 58 kz HO2.out.1.kk (by rw [← HKZ.out, kidA_size noKid_wf, HX.out.1]; decide) g1 g2 ?_))
    refine bodyPost_ret (results_hke rfl _ (w.heap.size + 1) (w.heap.size + 2) _ _ (0, 0) (0, 0) _ rfl rfl HO3.out.1.hh rfl HO3.out.1.kk (by rw [List.size_toArray]; exact HX.out.1)) rfl ⟨.agg #[.int .u32 0, .slice none 0 0], ?_, ?_, ?_, HO3.out.1.bl⟩
    · rw [HB.out, HX.out.2, ← HKZ.out]; rfl
    · rw [HB.out]; exact ⟨_, rfl, Sl.nil _, by unfold u32Ok; simp⟩
    · rw [HB.out]; exact noKid_wf
end Go.Proofs.YthhmcjojnbaiiaaGreatDoor
