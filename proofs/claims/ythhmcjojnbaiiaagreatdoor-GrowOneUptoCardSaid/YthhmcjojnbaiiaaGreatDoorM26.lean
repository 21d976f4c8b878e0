/- Texts of the proof: In Kp. -/
import Derived.Test.YthhmcjojnbaiiaaGreatDoorM25
import Derived.Test.YthhmcjojnbaiiaaGreatDoorM24
set_option linter.all false
/- Heap: slices.Insert of a pointer, in one contract. -/
namespace Go.Proofs.YthhmcjojnbaiiaaGreatDoor
open Go Go.RowKit Go.Lib
def insL (i : Nat) (u : Value) (xs : List Value) : List Value := xs.take i ++ u :: xs.drop i
theorem insL_get (i : Nat) (u : Value) (xs : List Value) (hi : i ≤ xs.length) (j : Nat) : (insL i u xs)[j]? = if j < i then xs[j]? else if j = i then some u else xs[j - 1]? := by
  unfold insL
  by_cases h : j < i
  · rw [if_pos h, List.getElem?_append_left (by simp; omega), List.getElem?_take, if_pos h]
  · rw [if_neg h, List.getElem?_append_right (by simp; omega), List.length_take, Nat.min_eq_left hi]
    by_cases e : j = i
    · subst e; simp
    · rw [if_neg e, show j - i = (j - 1 - i) + 1 by omega, List.getElem?_cons_succ, List.getElem?_drop]
      congr 1; omega
theorem take_of_get (cur : Array Value) (l : List Value) (n : Nat) (hl : l.length = n) (hs : n ≤ cur.size) (h : ∀ j, j < n → cur[j]? = l[j]?) : cur.toList.take n = l := by
  apply List.ext_getElem?
  intro j
  rw [List.getElem?_take]
  by_cases hj : j < n
  · rw [if_pos hj, Array.getElem?_toList, h j hj]
  · rw [if_neg hj, List.getElem?_eq_none (by omega)]
set_option maxHeartbeats 1000000 in
set_option maxRecDepth 100000 in
theorem insPtr_any (B : Nat) (w : World) (v : Value) (n i g : Nat) (u : Value) (xs : List Value) (hown : w.ownsRow B 91 1 v n xs) (hns : NoStr w v) (hxs : ∀ x ∈ xs, ∀ s, x ≠ .string s) (hx1 : ∀ x ∈ xs, x.oneCell' = true) (hi : i ≤ n)
    (hg : w.heap[g]? = some (.cells #[u] 91 (0, 0))) (hgv : v.ownBlock ≠ some g) (hu : u.oneCell' = true) (hus : ∀ s, u ≠ .string s) (hn : n + 1 ≤ 1073741825) (hB : B ≤ w.heap.size) :
    Calls Tryz.prog 90 #[v, .int .i64 i, .slice (some ⟨g, 0, none⟩) 1 1] w fun e w' => ∃ g' cap, e = .returned (.slice (some ⟨g', 0, none⟩) (n + 1) cap) ∧
      w'.ownsRow B 91 1 (.slice (some ⟨g', 0, none⟩) (n + 1) cap) (n + 1) (insL i u xs) ∧ NoStr w' (.slice (some ⟨g', 0, none⟩) (n + 1) cap) ∧ w.grownBy w' v.ownBlock := by
  have hxl : xs.length = n := by simpa using hown.1
  have hgc : w.cell? ⟨g, 0, none⟩ = some u := by rw [cell_of_row _ _ _ _ _ _ hg]; rfl
  by_cases hin : i = n
  · subst hin
    obtain ⟨g', cap, w', hr, h1, h2, h3⟩ := append_ptr w B v i xs hown hns hxs ⟨g, 0, none⟩ 1 u hu hus hgc hn hB
    have hins : insL i u xs = xs ++ [u] := by unfold insL; rw [List.take_of_length_le (by omega), List.drop_of_length_le (by omega)]
    have HF := Lib.hid (And.intro h1 (And.intro h2 h3))
    have HR := Lib.hid hr
    have HI := Lib.hid hins
    clear h1 h2 h3 hins hr
    rcases hown.2 with ⟨rfl, rfl⟩ | ⟨b, c, cur, rfl, hbg, hb, hnc, hcm, hcs, htake⟩
    · go_enter Tryz.func90, Tryz.ntmps90
      go_wp2_with (at_builtin; refine Lib.wpList_append_run _ rfl _ _ _ _ rfl _ _ rfl rfl _ _ HR.out ?_)
      go_ret
      exact ⟨g', cap, rfl, by rw [HI.out]; exact HF.out.1, HF.out.2.1, HF.out.2.2⟩
    · have hcm' : c ≤ 9223372036854775807 := by unfold maxLen at hcm; omega
      clear hcm htake hcs
      go_enter Tryz.func90, Tryz.ntmps90
      go_wp2_with (at_builtin; refine Lib.wpList_append_run _ rfl _ _ _ _ rfl _ _ rfl rfl _ _ HR.out ?_)
      all_goals go_ret
      all_goals exact ⟨g', cap, rfl, by rw [HI.out]; exact HF.out.1, HF.out.2.1, HF.out.2.2⟩
  · rcases hown.2 with ⟨rfl, rfl⟩ | ⟨b, c, cur, rfl, hbg, hb, hnc, hcm, hcs, htake⟩
    · omega
    · have hgb : g ≠ b := by intro e; subst e; exact hgv rfl
      have hcm' : c ≤ 9223372036854775807 := by unfold maxLen at hcm; omega
      have hcsz : cur.size = c := by rw [hcs, Nat.mul_one]
      have hcur : ∀ j v, xs[j]? = some v → w.cell? ⟨b, 0 + j, none⟩ = some v := by
        intro j v hj
        have := hown.cells (g := b) rfl j v hj
        rwa [add_at] at this
      have hcj : ∀ j, j < n → cur[j]? = xs[j]? := by
        intro j hj
        rw [← htake, List.getElem?_take, if_pos (by omega), Array.getElem?_toList]
      have hfz : ∀ j, w.frozen? ⟨b, j, none⟩ = false := fun j => frozen_of_row _ _ _ _ _ hb
      have hfg : ∀ j, w.frozen? ⟨g, j, none⟩ = false := fun j => frozen_of_row _ _ _ _ _ hg
      have hvs : ∀ j v, [u][j]? = some v → w.cell? ⟨g, 0 + j, none⟩ = some v := by
        intro j v hj
        match j with
        | 0 => simp at hj; subst hj; exact hgc
        | j + 1 => simp at hj
      have h1v : ∀ v ∈ [u], v.oneCell' = true := by intro v hv; simp at hv; subst hv; exact hu
      by_cases hroom : n + 1 ≤ c
      · have hsa : w.shape? g = some (91, 1) := by unfold World.shape?; rw [hg]; rfl
        have hsb : w.shape? b = some (91, c) := by unfold World.shape?; rw [hb, ← hcsz]
        refine (insPtr_shift b 0 n c i g 0 1 1 xs [u] w (by omega) (by omega) hroom hcm' hgb hxl rfl hcur (fun j hj => by
          rw [cell_of_row _ _ _ _ _ _ hb, Array.getElem?_eq_getElem (by omega)]; rfl) (fun j _ => hfz _) hvs hx1 h1v _ _ 1 c hsa hsb (by omega) (hfg _) (hfg _)).mono ?_
        rintro e w' ⟨rfl, rfl⟩
        obtain ⟨cur1, k1, k2, k3, k4⟩ := setCells_row b (xs.drop i) (0 + (i + 1)) w.drew cur _ hb
        obtain ⟨cur2, m1, m2, m3, m4⟩ := setCells_row b [u] (0 + i) _ cur1 _ k1
        have hdl : (xs.drop i).length = n - i := by rw [List.length_drop, hxl]
        have hget : ∀ j, j < n + 1 → cur2[j]? = (insL i u xs)[j]? := by
          intro j hj
          rw [insL_get i u xs (by omega), m3, k3]
          simp only [List.length_singleton, hdl, k2, Nat.zero_add]
          by_cases h1 : j < i
          · rw [if_neg (by omega), if_neg (by omega), if_pos h1]; exact hcj j (by omega)
          · by_cases h2 : j = i
            · subst h2; rw [if_pos (by omega), if_neg h1, if_pos rfl]; simp
            · rw [if_neg (by omega), if_pos (by omega), if_neg h1, if_neg h2, List.getElem?_drop]
              congr 1; omega
        have hlen : (insL i u xs).length = n + 1 := by unfold insL; simp; omega
        refine ⟨b, c, rfl, ⟨by rw [hlen]; simp, Or.inr ⟨b, c, cur2, rfl, hbg, m1, hroom, hcm, by rw [m2, k2, hcs], ?_⟩⟩, ?_, ?_⟩
        · rw [Nat.mul_one]; exact take_of_get cur2 _ _ hlen (by rw [m2, k2]; omega) hget
        · intro g' cs t fr ho hh x hx s
          have e : b = g' := by simpa [Value.ownBlock] using ho
          subst e
          rw [m1] at hh
          injection hh with hh
          injection hh with hh _ _
          subst hh
          obtain ⟨j, hj, rfl⟩ := List.getElem_of_mem hx
          have hcur0 := hns b cur _ _ rfl hb
          have hq := List.getElem?_eq_getElem hj
          rw [Array.getElem?_toList, m3, k3] at hq
          split at hq
          · have h9 := List.mem_singleton.1 (List.mem_of_getElem? hq); rw [h9]; exact hus s
          · split at hq
            · exact hxs _ ((List.drop_subset _ _) (List.mem_of_getElem? hq)) s
            · exact hcur0 _ (by rw [Array.mem_toList_iff]; exact Array.mem_of_getElem? hq) s
        · exact ⟨m4.os.trans k4.os, m4.tape.trans k4.tape, m4.output.trans k4.output, Nat.le_trans k4.size m4.size, fun k hk hne => (m4.block k (Nat.lt_of_lt_of_le hk k4.size) hne).trans (k4.block k hk hne)⟩
      · have hdraw : ∀ j, w.frozen? ⟨b, j, none⟩ = false := hfz
        refine (insPtr_grow b 0 n c i g 0 1 1 xs [u] w (by omega) (by omega) hnc (by omega) (by omega) hxl rfl hcur hvs hx1 h1v).mono ?_
        rintro e w' ⟨rfl, rfl⟩
        have hge := grownCap_ge w (n + 1) c 91
        have hcmx : grownCap w (n + 1) c 91 ≤ maxLen := grownCap_le_maxLen w (n + 1) c 91 (by unfold maxLen; omega)
        generalize grownCap w (n + 1) c 91 = G at *
        obtain ⟨ROW, hROW⟩ : ∃ ROW : Array Value, ROW = (xs.take i).toArray ++ Builtin.zeroCells (Value.pointer none).cells (n + 1 - i) ++ Builtin.zeroCells (Value.pointer none).cells (G - (n + 1)) := ⟨_, rfl⟩
        have hRs : ROW.size = G := by
          rw [hROW]
          simp [Builtin.zeroCells, Value.cells]
          omega
        have hRg : ∀ j, j < i → ROW[j]? = xs[j]? := by
          intro j hj
          rw [hROW, Array.append_assoc, Array.getElem?_append_left (by simp; omega), List.getElem?_toArray, List.getElem?_take, if_pos hj]
        have hRn : ∀ x ∈ ROW.toList, ∀ s, x ≠ .string s := by
          intro x hx s
          rw [hROW] at hx
          simp only [Array.toList_append, List.mem_append] at hx
          rcases hx with (hx | hx) | hx
          · exact hxs x ((List.take_subset _ _) hx) s
          · simp [Builtin.zeroCells, Value.cells] at hx
            obtain ⟨j, _, rfl⟩ := hx
            simp [Nat.mod_one]
          · simp [Builtin.zeroCells, Value.cells] at hx
            obtain ⟨j, _, rfl⟩ := hx
            simp [Nat.mod_one]
        rw [← hROW]
        have hnew : (w.alloc (.cells ROW 91)).drew.heap[w.heap.size]? = some (.cells ROW 91 (0, 0)) := heap_alloc_new _ _
        obtain ⟨cur1, k1, k2, k3, k4⟩ := setCells_row w.heap.size [u] i _ ROW _ hnew
        have k1' : ((w.alloc (.cells ROW 91)).drew.setCells w.heap.size i [u]).drew.heap[w.heap.size]? = some (.cells cur1 91 (0, 0)) := k1
        obtain ⟨cur2, m1, m2, m3, m4⟩ := setCells_row w.heap.size (xs.drop i) (i + 1) _ cur1 _ k1'
        have hdl : (xs.drop i).length = n - i := by rw [List.length_drop, hxl]
        have hget : ∀ j, j < n + 1 → cur2[j]? = (insL i u xs)[j]? := by
          intro j hj
          rw [insL_get i u xs (by omega), m3, k3]
          simp only [List.length_singleton, hdl, k2]
          by_cases h1 : j < i
          · rw [if_neg (by omega), if_neg (by omega), if_pos h1]; exact hRg j h1
          · by_cases h2 : j = i
            · subst h2; rw [if_neg (by omega), if_pos (by omega), if_neg h1, if_pos rfl]; simp
            · rw [if_pos (by omega), if_neg h1, if_neg h2, List.getElem?_drop]
              congr 1; omega
        have hlen : (insL i u xs).length = n + 1 := by unfold insL; simp; omega
        refine ⟨w.heap.size, G, rfl, ⟨by rw [hlen]; simp, Or.inr ⟨w.heap.size, G, cur2, rfl, hB, m1, hge, hcmx, by rw [m2, k2, hRs, Nat.mul_one], ?_⟩⟩, ?_, ?_⟩
        · rw [Nat.mul_one]; exact take_of_get cur2 _ _ hlen (by rw [m2, k2]; omega) hget
        · intro g' cs t fr ho hh x hx s
          have e : w.heap.size = g' := by simpa [Value.ownBlock] using ho
          subst e
          rw [m1] at hh
          injection hh with hh
          injection hh with hh _ _
          subst hh
          obtain ⟨j, hj, rfl⟩ := List.getElem_of_mem hx
          have hq := List.getElem?_eq_getElem hj
          rw [Array.getElem?_toList, m3, k3] at hq
          split at hq
          · exact hxs _ ((List.drop_subset _ _) (List.mem_of_getElem? hq)) s
          · split at hq
            · have h9 := List.mem_singleton.1 (List.mem_of_getElem? hq); rw [h9]; exact hus s
            · exact hRn _ (by rw [Array.mem_toList_iff]; exact Array.mem_of_getElem? hq) s
        · refine ⟨m4.os.trans k4.os, m4.tape.trans k4.tape, m4.output.trans k4.output, ?_, fun k hk _ => ?_⟩
          · exact Nat.le_trans (show w.heap.size ≤ (w.alloc (.cells ROW 91)).drew.heap.size by simp [World.drew]) (Nat.le_trans k4.size m4.size)
          · have hkn : k ≠ w.heap.size := by omega
            have hk1 : k < (w.alloc (.cells ROW 91)).drew.heap.size := by simp [World.drew]; omega
            rw [m4.block k (Nat.lt_of_lt_of_le hk1 k4.size) (by simpa using hkn), show ((w.alloc (.cells ROW 91)).drew.setCells w.heap.size i [u]).drew.heap[k]? = ((w.alloc (.cells ROW 91)).drew.setCells w.heap.size i [u]).heap[k]? from rfl, k4.block k hk1 (by simpa using hkn)]
            exact Lib.alloc_old w _ k hk
end Go.Proofs.YthhmcjojnbaiiaaGreatDoor

/- Heap: what keeps the rows of the store's cells (slots 4, 5, 6 of a cell's block); a store kept over an append to another row. -/
namespace Go.Proofs.YthhmcjojnbaiiaaGreatDoor
open Go Go.RowKit
/-- The three slices of a cell at block b. -/
def Slots (w : World) (b : Nat) (s1 s2 s3 : Value) : Prop :=
  ∃ cs, w.heap[b]? = some (.cells cs 96 (0, 0)) ∧ cs[4]? = some s1 ∧ cs[5]? = some s2 ∧ cs[6]? = some s3
/-- Cells' slices are as they were. -/
def Kp (w w' : World) : Prop := ∀ b s1 s2 s3, Slots w b s1 s2 s3 → Slots w' b s1 s2 s3
theorem Kp.refl (w : World) : Kp w w := fun _ _ _ _ h => h
theorem Kp.trans {a b c : World} (h : Kp a b) (k : Kp b c) : Kp a c := fun g s1 s2 s3 hs => k g s1 s2 s3 (h g s1 s2 s3 hs)
theorem Kp.of_below {w w' : World} (h : Below w.heap.size w w') : Kp w w' := by
  rintro b s1 s2 s3 ⟨cs, h1, h2⟩
  exact ⟨cs, (h.block b (lt_of_block h1)).trans h1, h2⟩
/-- A block that is no cell has changed. -/
theorem Kp.of_grown {w w' : World} {g : Nat} {cs : Array Value} {t : TypeId} {fr : Nat × Nat} (h : w.grownBy w' (some g)) (hg : w.heap[g]? = some (.cells cs t fr)) (ht : t ≠ 96) : Kp w w' := by
  rintro b s1 s2 s3 ⟨cs', h1, h2⟩
  refine ⟨cs', (h.block b (lt_of_block h1) fun e => ?_).trans h1, h2⟩
  injection e with e
  subst e
  rw [hg] at h1
  injection h1 with h1
  injection h1 with _ h1 _
  exact ht h1
theorem Kp.own {w w' : World} {B : Nat} {e : TypeId} {s : Nat} {v : Value} {n : Nat} {xs : List Value} (ho : w.ownsRow B e s v n xs) (he : e ≠ 96) (hg : w.grownBy w' v.ownBlock) : Kp w w' := by
  rintro b s1 s2 s3 ⟨cs', h1, h2⟩
  exact ⟨cs', (hg.block b (lt_of_block h1) fun e' => own_ne ho h1 (fun h => he h.symm) e'.symm).trans h1, h2⟩
/-- One cell of a cell's block is written: none of the three. -/
theorem Kp.set (w : World) (q i : Nat) (v : Value) (hi : i ≠ 4 ∧ i ≠ 5 ∧ i ≠ 6) : Kp w (w.setCell ⟨q, i, none⟩ v) := by
  rintro b s1 s2 s3 ⟨cs, h1, h2, h3, h4⟩
  by_cases e : b = q
  · subst e
    refine ⟨cs.setIfInBounds i v, blk_set h1 i v, ?_, ?_, ?_⟩
    · rw [Array.getElem?_setIfInBounds_ne (by omega)]; exact h2
    · rw [Array.getElem?_setIfInBounds_ne (by omega)]; exact h3
    · rw [Array.getElem?_setIfInBounds_ne (by omega)]; exact h4
  · exact ⟨cs, (Below.heap_setCell w ⟨q, i, none⟩ v b e).trans h1, h2, h3, h4⟩
theorem Fr.kp {w w' : World} (h : Fr w w') : Kp w w' := by
  rintro b s1 s2 s3 ⟨cs, h1, h2, h3, h4⟩
  rcases h.block b (lt_of_block h1) with e | ⟨cs', t, fr, e, _, _, hc⟩
  · exact ⟨cs, e.trans h1, h2, h3, h4⟩
  · rw [h1] at e
    injection e with e
    injection e with e1 e2 e3
    subst e1; subst e2; subst e3
    obtain ⟨cs2, f0, f4, f5, f6⟩ := hc rfl
    exact ⟨cs2, f0, f4.trans h2, f5.trans h3, f6.trans h4⟩
/-- No row of the store's lies in block g. -/
def Away (w : World) (g : Nat) (pcs : List (Nat × CC)) : Prop := ∀ x ∈ pcs, ∃ s1 s2 s3, Slots w x.1 s1 s2 s3 ∧ s1.ownBlock ≠ some g ∧ s2.ownBlock ≠ some g ∧ s3.ownBlock ≠ some g
theorem Away.kp {w w' : World} {g : Nat} {pcs : List (Nat × CC)} (h : Away w g pcs) (hk : Kp w w') : Away w' g pcs := fun x hx => by
  obtain ⟨s1, s2, s3, hs, h1⟩ := h x hx
  exact ⟨s1, s2, s3, hk _ _ _ _ hs, h1⟩
theorem sl_away {α : Type} {E : Enc α} {w w' : World} {g : Nat} (hk : w.grownBy w' (some g)) {v : Value} {xs : List α} (hv : v.ownBlock ≠ some g) (hpos : ∀ x ∈ xs, E.enc x ≠ []) (hs : Sl E w v xs) : Sl E w' v xs := by
  obtain ⟨A, cp, e, h1, h2, h3⟩ := hs
  refine ⟨A, cp, e, h1, h2, fun k hk' => ?_⟩
  obtain ⟨b, o, eA, hat, hwf⟩ := h3 k hk'
  have hne := hpos _ (List.getElem_mem hk')
  have c0 := hat.cell 0 _ (List.getElem?_eq_getElem (List.length_pos_iff.2 hne))
  refine ⟨b, o, eA, hat.heap (hk.block b (block_lt_of_cell c0) fun e' => ?_), hwf⟩
  injection e' with e'
  subst e'
  exact hv (by rw [e, eA]; rfl)
/-- The store stands while a row that none of its cells has is appended to. -/
theorem St.away {B : Nat} {w w' : World} {p : Nat} {sz : Int} {pcs : List (Nat × CC)} (h : St B w p sz pcs) {g : Nat} (ha : Away w g pcs) {cs : Array Value} {t : TypeId} {fr : Nat × Nat} (hc : w.heap[g]? = some (.cells cs t fr)) (ht : ¬ BadT t) (hk : w.grownBy w' (some g)) : St B w' p sz pcs := by
  have hne : ∀ (b : Nat) (cs' : Array Value) (t' : TypeId) (fr' : Nat × Nat), w.heap[b]? = some (Obj.cells cs' t' fr') → (t' = 114 ∨ t' = 96 ∨ t' = 91) → w'.heap[b]? = w.heap[b]? := by
    intro b cs' t' fr' hb ht'
    refine hk.block b (lt_of_block hb) fun e => ?_
    injection e with e
    subst e
    rw [hc] at hb
    injection hb with hb
    injection hb with _ hb _
    subst hb
    apply ht
    rcases ht' with h1 | h1 | h1
    · exact Or.inl h1
    · exact Or.inr (Or.inl h1)
    · exact Or.inr (Or.inr (Or.inl h1))
  obtain ⟨v, a, hp, hown⟩ := h.row
  refine ⟨h.low, ⟨v, a, by rw [hne p _ _ _ hp (Or.inl rfl)]; exact hp, hown.1, hown.2.imp id ?_⟩, fun x hx => ⟨?_, (h.cells x hx).2⟩, h.nodup, h.wf, ?_⟩
  · rintro ⟨g', cap, cur, h1, h2, h3, h4⟩
    exact ⟨g', cap, cur, h1, h2, by rw [hne g' _ _ _ h3 (Or.inr (Or.inr rfl))]; exact h3, h4⟩
  · obtain ⟨vi, vk, vv, hb, h1, h2, h3⟩ := (h.cells x hx).1
    obtain ⟨s1, s2, s3, ⟨cs', hb', e1, e2, e3⟩, n1, n2, n3⟩ := ha x hx
    rw [hb] at hb'
    injection hb' with hb'
    injection hb' with hb' _ _
    subst hb'
    have f1 : s1 = vi := by simpa [ccRow] using e1.symm
    have f2 : s2 = vk := by simpa [ccRow] using e2.symm
    have f3 : s3 = vv := by simpa [ccRow] using e3.symm
    subst f1; subst f2; subst f3
    exact ⟨s1, s2, s3, by rw [hne x.1 _ _ _ hb (Or.inr (Or.inl rfl))]; exact hb, sl_away hk n1 (fun x _ => by simp [itemE]) h1, sl_away hk n2 (fun x _ => by simp [kidE]) h2, sl_away hk n3 (fun x _ => by simp [volE]) h3⟩
  · intro v' g' cs' t' fr' hc' ho hgb
    have hp' : w'.heap[p]? = some (.cells #[.int .u32 sz, v, .int .i64 a] 114 (0, 0)) := by rw [hne p _ _ _ hp (Or.inl rfl)]; exact hp
    have hv : v' = v := by
      rw [cell_of_row _ _ _ _ _ _ hp'] at hc'
      simpa using hc'.symm
    subst hv
    rcases hown.2 with ⟨e1, _⟩ | ⟨g2, cap, cur, e1, h2, h3, h4⟩
    · rw [e1] at ho; cases ho
    · have e2 : g2 = g' := by rw [e1] at ho; simpa [Value.ownBlock] using ho
      subst e2
      rw [hne g2 _ _ _ h3 (Or.inr (Or.inr rfl))] at hgb
      exact h.spare v' g2 cs' t' fr' (by rw [cell_of_row _ _ _ _ _ _ hp]; rfl) ho hgb
end Go.Proofs.YthhmcjojnbaiiaaGreatDoor
