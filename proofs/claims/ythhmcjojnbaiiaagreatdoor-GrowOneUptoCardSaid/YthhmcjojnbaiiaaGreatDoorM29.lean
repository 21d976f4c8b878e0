/- Texts of the proof: Gr Lw Lk Ll Ri. -/
import Derived.Test.YthhmcjojnbaiiaaGreatDoorM19
import Derived.Test.YthhmcjojnbaiiaaGreatDoorM22
import Derived.Test.YthhmcjojnbaiiaaGreatDoorM23
import Derived.WalkMore
import Derived.Test.YthhmcjojnbaiiaaGreatDoorM27
set_option linter.all false
/- Grow: its small functions. -/
namespace Go.Proofs.YthhmcjojnbaiiaaGreatDoor
open Go Go.RowKit
theorem leafKey_any (k v : ByteArray) (w : World) : Calls Tryz.prog 115 #[.agg #[.string k, .string v]] w fun e w' => e = .returned (.string k) ∧ Below w.heap.size w w' := by
  have HB := Lib.hid (below_box w (.cells #[.string k, .string v] 32))
  go_enter Tryz.func115, Tryz.ntmps115
  go_wp2
  go_ret
  exact ⟨rfl, HB.out⟩
theorem leafOf_any (A : Option Addr) (n c : Nat) (w : World) : Calls Tryz.prog 116 #[.slice A n c] w fun e w' => e = .returned (.agg #[.int .u8 1, .slice A n c, .slice none 0 0, .slice none 0 0]) ∧ Below w.heap.size w w' := by
  have HB := Lib.hid (below_box w (.cells #[.int .u8 1, .slice A n c, .slice none 0 0, .slice none 0 0] 44))
  go_enter Tryz.func116, Tryz.ntmps116
  go_wp2
  refine bodyPost_ret (results_cell_row rfl _ _ w.heap.size 44 _ (0, 0) _ rfl (heap_alloc_new _ _) Tryz.underlying44 rfl node_size) rfl ⟨rfl, HB.out⟩
theorem branchOf_any (A : Option Addr) (n c : Nat) (w : World) : Calls Tryz.prog 119 #[.slice A n c] w fun e w' => e = .returned (.agg #[.int .u8 2, .slice none 0 0, .slice A n c, .slice none 0 0]) ∧ Below w.heap.size w w' := by
  have HB := Lib.hid (below_box w (.cells #[.int .u8 2, .slice none 0 0, .slice A n c, .slice none 0 0] 44))
  go_enter Tryz.func119, Tryz.ntmps119
  go_wp2
  refine bodyPost_ret (results_cell_row rfl _ _ w.heap.size 44 _ (0, 0) _ rfl (heap_alloc_new _ _) Tryz.underlying44 rfl node_size) rfl ⟨rfl, HB.out⟩
theorem branchKey_any (k : Kid) (w : World) : Calls Tryz.prog 118 #[.agg (kidE.enc k).toArray] w fun e w' => e = .returned (.string k.key) ∧ Below w.heap.size w w' := by
  have h0 : (w.alloc (.cells (kidE.enc k).toArray 58)).cell? ⟨w.heap.size, 0, none⟩ = some (.string k.key) := by
    rw [cell_of_row _ _ _ _ _ _ (heap_alloc_new _ _)]; rfl
  have HB := Lib.hid (below_box w (.cells (kidE.enc k).toArray 58))
  generalize (kidE.enc k).toArray = ka at *
  go_enter Tryz.func118, Tryz.ntmps118
  go_wp2
  go_ret
  exact ⟨rfl, HB.out⟩
set_option maxRecDepth 100000 in
set_option maxHeartbeats 400000 in
theorem last_any (k : ByteArray) (d : Int) (m : Nat) (w : World) (hd : 0 ≤ d ∧ d ≤ 255) (hk : k.size ≤ 1000000) (hm : m ≤ 1000000) : Calls Tryz.prog 157 #[.string k, .int .u8 d, .int .i64 m] w fun e w' => e = .returned (.bool (lastB k d m)) ∧ Below w.heap.size w w' := by
  go_enter Tryz.func157, Tryz.ntmps157
  by_cases h2 : 2 ≤ m
  · have hst : (convert 196 9 (.slice (some ⟨w.heap.size, 0, none⟩) 1 1)).run Tryz.prog (w.alloc (.cells #[.int .u8 d] 5)) = .ok (.string (strOfNums [d])) (w.alloc (.cells #[.int .u8 d] 5)) := by
      refine run_convert_bytes_arg _ 196 5 Tryz.underlying196 Tryz.underlying5 w.heap.size 0 1 1 [d] rfl (fun i hi => ?_) 9 Tryz.underlying9
      obtain rfl : i = 0 := by omega
      rw [cell_of_row _ _ _ _ _ _ (heap_alloc_new _ _)]; rfl
    have HB := Lib.hid (below_box w (.cells #[.int .u8 d] 5))
    have hsz : (k ++ strOfNums [d]).size ≤ 9223372036854775807 := by rw [ByteArray.size_append, strOfNums_size]; simp; omega
    have hcr : crcOf (k ++ strOfNums [d]).data.toList = crcOf (k.data.toList ++ [d.toNat.toUInt8]) := by rw [ByteArray.data_append, Array.toList_append, strOfNums_data]; rfl
    have HC := Lib.hid (And.intro hsz hcr)
    clear hsz hcr
    have hsz2 : ¬ 9223372036854775807 < k.size + (strOfNums [d]).size := by rw [strOfNums_size]; simp; omega
    go_wp2_with (go_at_call 162; refine (sum_any _ _ HC.out.1).mono ?_; rintro e w1 ⟨rfl, hb1⟩)
    go_ret
    refine ⟨?_, HB.out.trans (hb1.mono (by simp))⟩
    have h9 := HC.out.2
    rw [ByteArray.data_append, Array.toList_append] at h9
    show Ending.returned (Value.bool ((crcOf (k.data.toList ++ (strOfNums [d]).data.toList)).tmod 4 == 0)) = _
    rw [h9, Int.tmod_eq_emod_of_nonneg (crcOf_range _).1]
    unfold lastB
    rw [decide_eq_true h2, Bool.true_and]
    congr 2
  · go_wp2_with (fail)
    go_ret
    exact ⟨by unfold lastB; rw [decide_eq_false h2, Bool.false_and]; rfl, Below.refl _ _⟩
set_option maxRecDepth 100000 in
set_option maxHeartbeats 400000 in
theorem key_any (v : Value) (n : Node) (w : World) (hv : NodeV w v n) (hn : (n.kind = 1 ∧ n.items ≠ []) ∨ (n.kind = 2 ∧ n.kids ≠ [])) : Calls Tryz.prog 83 #[v] w fun e w' => e = .returned (.string (keyOf n)) ∧ Below w.heap.size w w' := by
  obtain ⟨va, vb, vc, rfl, ha, hb0, hc0, hk0, hk1⟩ := hv
  obtain ⟨A1, n1, c1, rfl⟩ := sl_slice ha
  obtain ⟨A2, n2, c2, rfl⟩ := sl_slice hb0
  obtain ⟨A3, n3, c3, rfl⟩ := sl_slice hc0
  have HB := Lib.hid (below_box w (.cells #[.int .u8 n.kind, .slice A1 n1 c1, .slice A2 n2 c2, .slice A3 n3 c3] 44))
  rcases hn with ⟨h1, hne⟩ | ⟨h1, hne⟩
  · obtain ⟨x, r, hx⟩ := List.exists_cons_of_ne_nil hne
    rw [hx] at ha
    obtain ⟨b, o, rfl, hat, _⟩ := (ha.len_eq).2.2.2 0 (by simp)
    have hln := (ha.len_eq).1
    have e0 : w.cell? ⟨b, o, none⟩ = some (.string x.key) := by have := hat.cell 0 _ rfl; simpa using this
    have hbl := block_lt_of_cell e0
    have hky : keyOf n = x.key := by unfold keyOf; rw [if_pos h1]; unfold hdKey; rw [hx]; rfl
    rw [h1] at HB ⊢
    rw [hky]
    have hpos' : 0 < n1 := by rw [List.length_cons] at hln; omega
    clear ha hb0 hc0 hat hky hk0 hk1 hln
    go_enter Tryz.func83, Tryz.ntmps83
    go_wp2_with (fail)
    go_ret
    exact ⟨rfl, HB.out⟩
  · obtain ⟨x, r, hx⟩ := List.exists_cons_of_ne_nil hne
    rw [hx] at hb0
    obtain ⟨b, o, rfl, hat, _⟩ := (hb0.len_eq).2.2.2 0 (by simp)
    have hln := (hb0.len_eq).1
    have e0 : w.cell? ⟨b, o, none⟩ = some (.string x.key) := by have := hat.cell 0 _ rfl; simpa using this
    have hbl := block_lt_of_cell e0
    have hky : keyOf n = x.key := by unfold keyOf; rw [if_neg (by omega)]; unfold hdKey; rw [hx]; rfl
    rw [h1] at HB ⊢
    rw [hky]
    have hpos' : 0 < n2 := by rw [List.length_cons] at hln; omega
    clear ha hb0 hc0 hat hky hk0 hk1 hln
    go_enter Tryz.func83, Tryz.ntmps83
    go_wp2_with (fail)
    go_ret
    exact ⟨rfl, HB.out⟩
end Go.Proofs.YthhmcjojnbaiiaaGreatDoor

/- Grow: level (items). -/
namespace Go.Proofs.YthhmcjojnbaiiaaGreatDoor
open Go Go.RowKit
/-- Nodes in a row, as cells. -/
def NodesAt (w : World) : List Value → List Node → Prop
  | [], [] => True
  | k :: a :: b :: c :: xs, n :: ns => NodeV w (.agg #[k, a, b, c]) n ∧ NodesAt w xs ns
  | _, _ => False
theorem NodesAt.mono {w w' : World} (hm : ∀ v n, NodeV w v n → NodeV w' v n) : ∀ (xs : List Value) (ns : List Node), NodesAt w xs ns → NodesAt w' xs ns
  | [], [], _ => trivial
  | _ :: _ :: _ :: _ :: xs, _ :: ns, h => ⟨hm _ _ h.1, NodesAt.mono hm xs ns h.2⟩
  | [], _ :: _, h => h.elim
  | [_], _, h => h.elim
  | [_, _], _, h => h.elim
  | [_, _, _], _, h => h.elim
  | _ :: _ :: _ :: _ :: _, [], h => h.elim
theorem NodesAt.snoc {w : World} {k a b c : Value} {n : Node} (hn : NodeV w (.agg #[k, a, b, c]) n) : ∀ (xs : List Value) (ns : List Node), NodesAt w xs ns → NodesAt w (xs ++ [k, a, b, c]) (ns ++ [n])
  | [], [], _ => ⟨hn, trivial⟩
  | _ :: _ :: _ :: _ :: xs, _ :: ns, h => ⟨h.1, NodesAt.snoc hn xs ns h.2⟩
  | [], _ :: _, h => h.elim
  | [_], _, h => h.elim
  | [_, _], _, h => h.elim
  | [_, _, _], _, h => h.elim
  | _ :: _ :: _ :: _ :: _, [], h => h.elim
theorem sl_sub {α : Type} {E : Enc α} {w : World} {b o n c : Nat} {xs : List α} (h : Sl E w (.slice (some ⟨b, o, none⟩) n c) xs) {i j : Nat} (hij : i ≤ j) (hj : j ≤ n) {c' : Nat} (hc1 : j - i ≤ c') (hc2 : c' ≤ 9223372036854775807) :
    Sl E w (.slice (some ⟨b, o + i * E.sz, none⟩) (j - i) c') ((xs.take j).drop i) := by
  obtain ⟨hn, h1, h2, hr⟩ := h.len_eq
  have hl : ((xs.take j).drop i).length = j - i := by rw [List.length_drop, List.length_take]; omega
  refine ⟨_, c', by rw [hl], by omega, hc2, fun k hk => ?_⟩
  obtain ⟨b', o', e, hat, hw⟩ := hr (i + k) (by omega)
  injection e with e
  injection e with e1 e2
  subst e1; subst e2
  refine ⟨b, o + i * E.sz, rfl, ?_, ?_⟩
  · rw [show o + i * E.sz + k * E.sz = o + (i + k) * E.sz by rw [Nat.add_mul, Nat.add_assoc]]
    simpa using hat
  · simpa using hw
def leafN (c : List Item) : Node := ⟨1, c, [], []⟩
theorem leaf_nodeV {w : World} {A : Option Addr} {n c : Nat} {l : List Item} (h : Sl itemE w (.slice A n c) l) : NodeV w (.agg #[.int .u8 1, .slice A n c, .slice none 0 0, .slice none 0 0]) ⟨1, l, [], []⟩ :=
  ⟨_, _, _, rfl, h, Sl.nil _, Sl.nil _, by simp, by simp⟩
theorem nodeT_info : (Tryz.prog.info? 44).map (fun i => (i.zero.map (fun z => z.cells.size), i.size, i.bytes)) = some (some 4, 4, 80) := by kernel_rfl
theorem last_int (k : ByteArray) (d mi : Int) (m : Nat) (w : World) (hd : 0 ≤ d ∧ d ≤ 255) (hk : k.size ≤ 1000000) (hm : m ≤ 1000000) (e : mi = (m : Int)) : Calls Tryz.prog 157 #[.string k, .int .u8 d, .int .i64 mi] w fun e w' => e = .returned (.bool (lastB k d m)) ∧ Below w.heap.size w w' := by
  subst e
  exact last_any k d m w hd hk hm
/-- One round of level, as lists. -/
theorem level_step {α : Type} (sz : α → Nat) (last : α → Nat → Bool) (l : List α) (j fr bt : Nat) (hfj : fr ≤ j) (hj1 : j + 1 < l.length) :
    levelGo sz last ((l.take j).drop fr) bt (l.drop j) = if (j - fr + 1 < 255 ∧ bt + sz l[j] + sz l[j + 1] ≤ 508) ∧ last l[j] (j - fr + 1) = false then levelGo sz last ((l.take (j + 1)).drop fr) (bt + sz l[j]) (l.drop (j + 1))
      else (l.take (j + 1)).drop fr :: levelGo sz last ((l.take (j + 1)).drop (j + 1)) 2 (l.drop (j + 1)) := by
  have hj : j < l.length := by omega
  have h1 : l.drop j = l[j] :: l[j + 1] :: l.drop (j + 2) := by rw [List.drop_eq_getElem_cons hj, List.drop_eq_getElem_cons hj1]
  have h2 : l.drop (j + 1) = l[j + 1] :: l.drop (j + 2) := List.drop_eq_getElem_cons hj1
  have h3 : (l.take (j + 1)).drop fr = (l.take j).drop fr ++ [l[j]] := by rw [List.take_succ_eq_append_getElem hj, List.drop_append_of_le_length (by simp; omega)]
  have h4 : ((l.take j).drop fr).length = j - fr := by rw [List.length_drop, List.length_take]; omega
  have h5 : (l.take (j + 1)).drop (j + 1) = [] := List.drop_of_length_le (by simp; omega)
  rw [h1, h2, h3, h5, levelGo, h4]
/-- What level comes to. -/
def LvPost (w : World) (LV : List (List Item)) (e : Ending) (w' : World) : Prop :=
  ∃ v xs, e = .returned v ∧ w'.ownsRow w.heap.size 44 4 v LV.length xs ∧ NodesAt w xs (LV.map leafN) ∧ Below w.heap.size w w'
theorem node_cells_one (A : Option Addr) (n c : Nat) (kd : Int) : ∀ u ∈ [Value.int .u8 kd, .slice A n c, .slice none 0 0, .slice none 0 0], u.oneCell' = true := by
  intro u hu
  simp at hu
  rcases hu with rfl | rfl | rfl <;> rfl
/-- A node pushed to the row under way. -/
theorem push_row {w w4 wd : World} {v : Value} {k : Nat} {xs : List Value} (hB : Below w.heap.size w w4) (hown : w4.ownsRow w.heap.size 44 4 v k xs) (o1 : Obj) (hg : (w4.alloc o1).grownBy wd v.ownBlock) : Below w.heap.size w wd :=
  (hB.alloc hB.size o1).grown hg (by have := hB.size; simp; omega) (fun q hq => (hown.lt q hq).1)
set_option maxRecDepth 100000 in
set_option maxHeartbeats 1000000 in
theorem levelI_any (w : World) (b o n c : Nat) (l : List Item) (d : Int) (hs : Sl itemE w (.slice (some ⟨b, o, none⟩) n c) l) (hd : 0 ≤ d ∧ d ≤ 255) (hne : l ≠ []) (hsz : ∀ x ∈ l, x.key.size ≤ 48 ∧ x.val.size ≤ 160) (hmax : l.length ≤ 4194304) :
    Calls Tryz.prog 114 #[.slice (some ⟨b, o, none⟩) n c, .int .u8 d, .func (.func 115) #[] #[], .func (.func 116) #[] #[]] w fun e w' => LvPost w (levelGo itemSz (fun x m => lastB x.key d m) [] 2 l) e w' := by
  obtain ⟨i0, z0, hi, hz0, hzz1, hz2, hzs⟩ := info_open nodeT_info
  obtain ⟨LV, hLV⟩ : ∃ LV, levelGo itemSz (fun x m => lastB x.key d m) [] 2 l = LV := ⟨_, rfl⟩
  rw [hLV]
  have HLV := Lib.hid hLV
  clear hLV
  obtain ⟨rfl, hc1, hc2, _⟩ := hs.len_eq
  have HS := Lib.hid hs
  clear hs
  have hpos := List.length_pos_iff.2 hne
  go_enter Tryz.func114, Tryz.ntmps114
  go_wp2_with (fail)
  go_step3
  go_wp2_with (fail)
  go_at_call 156
  refine (size_any _ _ noNode (nil_node _) (by decide)).mono ?_
  rintro e w1 ⟨rfl, hb1⟩
  have HB1 := Lib.hid hb1
  clear hb1
  go_wp2_with (fail)
  rw [show ((sizeF noNode : Nat) : Int) = 2 from rfl]
  go_step3
  go_wp2_with (fail)
  go_loopw [9, 11, 12, 13, 14, 15, 21, 22, 23, 24, 25, 26, 27, 28, 29, 30, 31, 32, 33, 34, 35, 36, 37, 38, 39, 40, 41, 42, 43, 44, 45, 46, 47, 48, 49, 50, 51, 52, 53, 54, 55, 56, 57, 58, 59, 60, 61, 62, 63, 64, 65, 66, 67, 68, 69, 70, 71, 72, 73, 74, 75, 76, 77, 78, 79, 80, 81, 82, 83, 84, 85, 86, 87, 88, 89] (fun v f t _ _ _ i _ _ _ _ _ _ _ _ _ _ _ _ _ _ _ _ _ _ _ _ _ _ _ _ _ _ _ _ _ _ _ _ _ _ _ _ _ _ _ _ _ _ _ _ _ _ _ _ _ _ _ _ _ _ _ _ _ _ _ _ _ _ _ _ _ _ _ _ wr => ∃ (j fr bt : Nat) (outs : List (List Item)) (xs : List Value), fr ≤ j ∧ outs.length ≤ fr ∧ j < l.length ∧ i = .int .i64 j ∧ f = .int .i64 fr ∧ t = .int .i64 bt ∧ bt ≤ 508 ∧ LV = outs ++ levelGo itemSz (fun x m => lastB x.key d m) ((l.take j).drop fr) bt (l.drop j) ∧ wr.ownsRow w.heap.size 44 4 v outs.length xs ∧ NodesAt w xs (outs.map leafN) ∧ Below w.heap.size w wr) (fun _ _ _ _ _ _ i _ _ _ _ _ _ _ _ _ _ _ _ _ _ _ _ _ _ _ _ _ _ _ _ _ _ _ _ _ _ _ _ _ _ _ _ _ _ _ _ _ _ _ _ _ _ _ _ _ _ _ _ _ _ _ _ _ _ _ _ _ _ _ _ _ _ _ _ _ => l.length - (intOf i).toNat)
  case atStart => exact ⟨0, 0, 2, [], [], Nat.le_refl _, Nat.le_refl _, hpos, rfl, rfl, rfl, by omega, by rw [← HLV.out]; simp, ⟨rfl, Or.inl ⟨rfl, rfl⟩⟩, trivial, HB1.out⟩
  case round =>
    obtain ⟨j, fr, bt, outs, xs, hfj, hof, hj, rfl, rfl, rfl, hbt, hlg, hown, hnds, hB⟩ := hrel
    have hx := List.getElem_mem hj
    have hdj : l.drop j = l[j] :: l.drop (j + 1) := List.drop_eq_getElem_cons hj
    have hsx := hsz l[j] hx
    have hs1 := sl_sub (HS.out.below hB (Nat.le_refl _)) (i := j) (j := j + 1) (by omega) (by omega) (c' := c - j) (by omega) (by omega)
    rw [show (l.take (j + 1)).drop j = [l[j]] by rw [List.take_succ_eq_append_getElem hj, List.drop_append_of_le_length (by simp; omega)]; simp] at hs1
    rw [show j + 1 - j = 1 by omega] at hs1
    have HG := Lib.hid (And.intro hlg (And.intro hown (And.intro hnds (And.intro hB hs1))))
    clear hlg hown hnds hB hs1 hx
    go_wp2_with (fail)
    go_at_call 116
    refine (leafOf_any _ _ _ _).mono ?_
    rintro e w2 ⟨rfl, hb2⟩
    have hs2 := HG.out.2.2.2.2.below hb2 (Nat.le_refl _)
    go_wp2_with (fail)
    go_at_call 156
    refine (size_any _ _ (leafN [l[j]]) (leaf_nodeV hs2) (by unfold leafN sizeF itemSz; simp [sumBy]; omega)).mono ?_
    rintro e w3 ⟨rfl, hb3⟩
    have hz1 : ((sizeF (leafN [l[j]]) : Nat) : Int) = 2 + (itemSz l[j] : Nat) := by unfold leafN sizeF; simp [sumBy]
    rw [hz1]
    have hi1 : itemSz l[j] ≤ 210 := by unfold itemSz; omega
    have hB3 : Below w.heap.size w w3 := HG.out.2.2.2.1.trans ((hb2.trans (hb3.mono hb2.size)).mono HG.out.2.2.2.1.size)
    have hb23 : Below wr.heap.size wr w3 := hb2.trans (hb3.mono hb2.size)
    have HB3 := Lib.hid (And.intro hB3 hb23)
    clear hb2 hs2 hb3 hz1 hB3 hb23
    obtain ⟨z1, hz1⟩ : ∃ z1, itemSz l[j] = z1 := ⟨_, rfl⟩
    rw [hz1] at hi1 ⊢
    have HZ1 := Lib.hid hz1
    clear hz1
    by_cases hlast : j + 1 = l.length
    · have hq : ((j : Int) == (l.length : Int) - 1) = true := by simp; omega
      have hfin : LV = outs ++ [l.drop fr] := by
        rw [HG.out.1, hdj, List.drop_of_length_le (by omega : l.length ≤ j + 1)]
        unfold levelGo
        have : l = l.take j ++ [l[j]] := by rw [← List.take_succ_eq_append_getElem hj, List.take_of_length_le (by omega)]
        rw [show l.drop fr = (l.take j).drop fr ++ [l[j]] by conv => lhs; rw [this]; rw [List.drop_append_of_le_length (by simp; omega)]]
      have hsf := sl_sub HS.out (i := fr) (j := l.length) (by omega) (Nat.le_refl _) (c' := c - fr) (by omega) (by omega)
      rw [List.take_length] at hsf
      have HFI := Lib.hid (And.intro hfin hsf)
      clear hfin hsf
      go_wp2_with (fail)
      go_at_call 116
      refine (leafOf_any _ _ _ _).mono ?_
      rintro e w4 ⟨rfl, hb4⟩
      have hb4r := HB3.out.2.trans (hb4.mono HB3.out.2.size)
      have ho4 := (Fr.of_below hb4r).own HG.out.2.1 (by unfold BadT; decide)
      have hB4 := HG.out.2.2.2.1.trans (hb4r.mono HG.out.2.2.2.1.size)
      have H4 := Lib.hid (And.intro ho4 hB4)
      have hsz4 := hB4.size
      clear hb4 hb4r ho4 hB4
      go_wp2_with (first
        | (refine wpList_append_lies (w := w4.alloc (.cells #[.int .u8 1, .slice (some ⟨b, o + fr * 2, none⟩) (l.length - fr) (c - fr), .slice none 0 0, .slice none 0 0] 44)) rfl (.tmp 90) (.tmp 96) 141 rfl w.heap.size 44 i0 z0 4 80 Tryz.underlying141 hi hz0 hzz1 hz2 hzs (by decide) u9 outs.length xs rfl (H4.out.1.alloc _) ⟨w4.heap.size, 0, none⟩ 1 1 [.int .u8 1, .slice (some ⟨b, o + fr * 2, none⟩) (l.length - fr) (c - fr), .slice none 0 0, .slice none 0 0] rfl rfl (fun j u hj => by rw [add_at, Nat.zero_add]; exact new_cell (w := w4) (t := 44) j u hj) (node_cells_one _ _ _ _) (by decide) (by unfold maxLen; omega) (by omega) (by simp; omega) _ rfl ?_; intro g cap wd ho2 hg2 _ _))
      (try rw [Exit.noGoto_ret])
      go_ret
      have hbw := push_row H4.out.2 H4.out.1 _ hg2
      refine ⟨_, _, rfl, by rw [HFI.out.1]; simpa using ho2, ?_, hbw⟩
      rw [HFI.out.1, List.map_append]
      exact NodesAt.snoc (leaf_nodeV HFI.out.2) _ _ HG.out.2.2.1
    · have hq : ((j : Int) == (l.length : Int) - 1) = false := by simp; omega
      have hj1 : j + 1 < l.length := by omega
      have hdj1 : l.drop (j + 1) = l[j + 1] :: l.drop (j + 2) := List.drop_eq_getElem_cons hj1
      have hsy := hsz l[j + 1] (List.getElem_mem hj1)
      have hs1 := sl_sub (HS.out.below (HG.out.2.2.2.1.trans (HB3.out.2.mono HG.out.2.2.2.1.size)) (Nat.le_refl _)) (i := j + 1) (j := j + 2) (by omega) (by omega) (c' := c - (j + 1)) (by omega) (by omega)
      rw [show (l.take (j + 2)).drop (j + 1) = [l[j + 1]] by rw [List.take_succ_eq_append_getElem hj1, List.drop_append_of_le_length (by simp; omega)]; simp, show j + 2 - (j + 1) = 1 by omega] at hs1
      have HS1 := Lib.hid hs1
      clear hs1
      have h1c : 1 ≤ c - (j + 1) := by omega
      have hj2 : j + 2 ≤ l.length := by omega
      go_wp2_with (fail)
      go_at_call 116
      refine (leafOf_any _ _ _ _).mono ?_
      rintro e w4 ⟨rfl, hb4⟩
      have hs4 := HS1.out.below hb4 (Nat.le_refl _)
      go_wp2_with (fail)
      go_at_call 156
      refine (size_any _ _ (leafN [l[j + 1]]) (leaf_nodeV hs4) (by unfold leafN sizeF itemSz; simp [sumBy]; omega)).mono ?_
      rintro e w5 ⟨rfl, hb5⟩
      have hz2 : ((sizeF (leafN [l[j + 1]]) : Nat) : Int) = 2 + (itemSz l[j + 1] : Nat) := by unfold leafN sizeF; simp [sumBy]
      rw [hz2]
      have hi2 : itemSz l[j + 1] ≤ 210 := by unfold itemSz; omega
      have hb35 := hb4.trans (hb5.mono hb4.size)
      have HB5 := Lib.hid (HB3.out.2.trans (hb35.mono HB3.out.2.size))
      clear hb4 hs4 hb5 hz2 hb35
      obtain ⟨z2, hz2⟩ : ∃ z2, itemSz l[j + 1] = z2 := ⟨_, rfl⟩
      rw [hz2] at hi2 ⊢
      have HZ2 := Lib.hid hz2
      clear hz2
      have hw5 : Below w.heap.size w w5 := HG.out.2.2.2.1.trans (HB5.out.mono HG.out.2.2.2.1.size)
      obtain ⟨b', o', e', hat, _⟩ := (HS.out.len_eq).2.2.2 j hj
      injection e' with e'
      injection e' with e1 e2
      subst e1
      subst e2
      have c0 : w.cell? ⟨b, o + j * 2, none⟩ = some (.string l[j].key) := by have := hat.cell 0 _ rfl; simpa [show itemE.sz = 2 from rfl] using this
      have c1 : w.cell? ⟨b, o + j * 2 + 1, none⟩ = some (.string l[j].val) := by have := hat.cell 1 _ rfl; simpa [show itemE.sz = 2 from rfl] using this
      have d0 := (hw5.cell (p := ⟨b, o + j * 2, none⟩) (block_lt_of_cell c0)).trans c0
      have d1 := (hw5.cell (p := ⟨b, o + j * 2 + 1, none⟩) (block_lt_of_cell c1)).trans c1
      clear c0 c1 hat hw5
      by_cases hm : j - fr + 1 < 255
      · have hm' : (j : Int) - fr + 1 < 255 := by omega
        by_cases hz : bt + z1 + z2 ≤ 508
        · have hz' : (bt : Int) + (2 + z1 - 2) + (2 + z2 - 2) ≤ 508 := by omega
          go_wp2_with (fail)
          go_at_call 115
          refine (leafKey_any _ _ _).mono ?_
          rintro e w6 ⟨rfl, hb6⟩
          go_wp2_with (fail)
          go_at_call 157
          refine (last_int _ d _ (j - fr + 1) _ hd (by omega) (by omega) (by omega)).mono ?_
          rintro e w7 ⟨rfl, hb7⟩
          have hb57 := hb6.trans (hb7.mono hb6.size)
          have HB7 := Lib.hid (HB5.out.trans (hb57.mono HB5.out.size))
          clear hb6 hb7 hb57
          cases hlB : lastB l[j].key d (j - fr + 1) with
          | false =>
            have hnx : LV = outs ++ levelGo itemSz (fun x m => lastB x.key d m) ((l.take (j + 1)).drop fr) (bt + z1) (l.drop (j + 1)) := by
              rw [HG.out.1, level_step _ _ l j fr bt hfj hj1, if_pos ⟨⟨hm, by rw [HZ1.out, HZ2.out]; exact hz⟩, hlB⟩, HZ1.out]
            have HF := Lib.hid (And.intro hnx (And.intro ((Fr.of_below HB7.out).own HG.out.2.1 (by unfold BadT; decide)) (HG.out.2.2.2.1.trans (HB7.out.mono HG.out.2.2.2.1.size))))
            clear hnx
            go_wp2_with (fail)
            exact ⟨⟨j + 1, fr, bt + z1, outs, xs, by omega, hof, hj1, by go_num, rfl, by go_num, by omega, HF.out.1, HF.out.2.1, HG.out.2.2.1, HF.out.2.2⟩, by simp [intOf]; omega⟩
          | true =>
            have hfin : LV = (outs ++ [(l.take (j + 1)).drop fr]) ++ levelGo itemSz (fun x m => lastB x.key d m) ((l.take (j + 1)).drop (j + 1)) 2 (l.drop (j + 1)) := by
              rw [HG.out.1, level_step _ _ l j fr bt hfj hj1, if_neg (by rw [hlB]; simp), List.append_assoc]; rfl
            have hsf := sl_sub HS.out (i := fr) (j := j + 1) (by omega) (by omega) (c' := c - fr) (by omega) (by omega)
            have HFI := Lib.hid (And.intro hfin hsf)
            clear hfin hsf
            go_wp2_with (fail)
            go_at_call 116
            refine (leafOf_any _ _ _ _).mono ?_
            rintro e w8 ⟨rfl, hb8⟩
            have hb8r := HB7.out.trans (hb8.mono HB7.out.size)
            have ho8 := (Fr.of_below hb8r).own HG.out.2.1 (by unfold BadT; decide)
            have hB8 := HG.out.2.2.2.1.trans (hb8r.mono HG.out.2.2.2.1.size)
            have H8 := Lib.hid (And.intro ho8 hB8)
            have hsz8 := hB8.size
            clear hb8 hb8r ho8 hB8
            go_wp2_with (first
              | (refine wpList_append_lies (w := w8.alloc (.cells #[.int .u8 1, .slice (some ⟨b, o + fr * 2, none⟩) (j + 1 - fr) (c - fr), .slice none 0 0, .slice none 0 0] 44)) rfl (.tmp 76) (.tmp 84) 141 rfl w.heap.size 44 i0 z0 4 80 Tryz.underlying141 hi hz0 hzz1 hz2 hzs (by decide) u9 outs.length xs rfl (H8.out.1.alloc _) ⟨w8.heap.size, 0, none⟩ 1 1 [.int .u8 1, .slice (some ⟨b, o + fr * 2, none⟩) (j + 1 - fr) (c - fr), .slice none 0 0, .slice none 0 0] rfl rfl (fun j u hj => by rw [add_at, Nat.zero_add]; exact new_cell (w := w8) (t := 44) j u hj) (node_cells_one _ _ _ _) (by decide) (by unfold maxLen; omega) (by omega) (by simp; omega) _ rfl ?_; intro g cap wd ho2 hg2 _ _))
            have hbw := push_row H8.out.2 H8.out.1 _ hg2
            refine ⟨⟨j + 1, j + 1, 2, outs ++ [(l.take (j + 1)).drop fr], _, Nat.le_refl _, by simp; omega, hj1, by go_num, by go_num, rfl, by omega, HFI.out.1, by simpa using ho2, ?_, hbw⟩, by simp [intOf]; omega⟩
            rw [List.map_append]
            exact NodesAt.snoc (leaf_nodeV HFI.out.2) _ _ HG.out.2.2.1
        · have hz' : ¬ (bt : Int) + (2 + z1 - 2) + (2 + z2 - 2) ≤ 508 := by omega
          have HB7 := HB5
          have hfin : LV = (outs ++ [(l.take (j + 1)).drop fr]) ++ levelGo itemSz (fun x m => lastB x.key d m) ((l.take (j + 1)).drop (j + 1)) 2 (l.drop (j + 1)) := by
            rw [HG.out.1, level_step _ _ l j fr bt hfj hj1, if_neg (by rw [HZ1.out, HZ2.out]; simp only [not_and]; omega), List.append_assoc]; rfl
          have hsf := sl_sub HS.out (i := fr) (j := j + 1) (by omega) (by omega) (c' := c - fr) (by omega) (by omega)
          have HFI := Lib.hid (And.intro hfin hsf)
          clear hfin hsf
          go_wp2_with (fail)
          go_at_call 116
          refine (leafOf_any _ _ _ _).mono ?_
          rintro e w8 ⟨rfl, hb8⟩
          have hb8r := HB7.out.trans (hb8.mono HB7.out.size)
          have ho8 := (Fr.of_below hb8r).own HG.out.2.1 (by unfold BadT; decide)
          have hB8 := HG.out.2.2.2.1.trans (hb8r.mono HG.out.2.2.2.1.size)
          have H8 := Lib.hid (And.intro ho8 hB8)
          have hsz8 := hB8.size
          clear hb8 hb8r ho8 hB8
          go_wp2_with (first
            | (refine wpList_append_lies (w := w8.alloc (.cells #[.int .u8 1, .slice (some ⟨b, o + fr * 2, none⟩) (j + 1 - fr) (c - fr), .slice none 0 0, .slice none 0 0] 44)) rfl (.tmp 76) (.tmp 84) 141 rfl w.heap.size 44 i0 z0 4 80 Tryz.underlying141 hi hz0 hzz1 hz2 hzs (by decide) u9 outs.length xs rfl (H8.out.1.alloc _) ⟨w8.heap.size, 0, none⟩ 1 1 [.int .u8 1, .slice (some ⟨b, o + fr * 2, none⟩) (j + 1 - fr) (c - fr), .slice none 0 0, .slice none 0 0] rfl rfl (fun j u hj => by rw [add_at, Nat.zero_add]; exact new_cell (w := w8) (t := 44) j u hj) (node_cells_one _ _ _ _) (by decide) (by unfold maxLen; omega) (by omega) (by simp; omega) _ rfl ?_; intro g cap wd ho2 hg2 _ _))
          have hbw := push_row H8.out.2 H8.out.1 _ hg2
          refine ⟨⟨j + 1, j + 1, 2, outs ++ [(l.take (j + 1)).drop fr], _, Nat.le_refl _, by simp; omega, hj1, by go_num, by go_num, rfl, by omega, HFI.out.1, by simpa using ho2, ?_, hbw⟩, by simp [intOf]; omega⟩
          rw [List.map_append]
          exact NodesAt.snoc (leaf_nodeV HFI.out.2) _ _ HG.out.2.2.1
      · have hm' : ¬ (j : Int) - fr + 1 < 255 := by omega
        have HB7 := HB5
        have hfin : LV = (outs ++ [(l.take (j + 1)).drop fr]) ++ levelGo itemSz (fun x m => lastB x.key d m) ((l.take (j + 1)).drop (j + 1)) 2 (l.drop (j + 1)) := by
          rw [HG.out.1, level_step _ _ l j fr bt hfj hj1, if_neg (by rw [HZ1.out, HZ2.out]; simp only [not_and]; omega), List.append_assoc]; rfl
        have hsf := sl_sub HS.out (i := fr) (j := j + 1) (by omega) (by omega) (c' := c - fr) (by omega) (by omega)
        have HFI := Lib.hid (And.intro hfin hsf)
        clear hfin hsf
        go_wp2_with (fail)
        go_at_call 116
        refine (leafOf_any _ _ _ _).mono ?_
        rintro e w8 ⟨rfl, hb8⟩
        have hb8r := HB7.out.trans (hb8.mono HB7.out.size)
        have ho8 := (Fr.of_below hb8r).own HG.out.2.1 (by unfold BadT; decide)
        have hB8 := HG.out.2.2.2.1.trans (hb8r.mono HG.out.2.2.2.1.size)
        have H8 := Lib.hid (And.intro ho8 hB8)
        have hsz8 := hB8.size
        clear hb8 hb8r ho8 hB8
        go_wp2_with (first
          | (refine wpList_append_lies (w := w8.alloc (.cells #[.int .u8 1, .slice (some ⟨b, o + fr * 2, none⟩) (j + 1 - fr) (c - fr), .slice none 0 0, .slice none 0 0] 44)) rfl (.tmp 76) (.tmp 84) 141 rfl w.heap.size 44 i0 z0 4 80 Tryz.underlying141 hi hz0 hzz1 hz2 hzs (by decide) u9 outs.length xs rfl (H8.out.1.alloc _) ⟨w8.heap.size, 0, none⟩ 1 1 [.int .u8 1, .slice (some ⟨b, o + fr * 2, none⟩) (j + 1 - fr) (c - fr), .slice none 0 0, .slice none 0 0] rfl rfl (fun j u hj => by rw [add_at, Nat.zero_add]; exact new_cell (w := w8) (t := 44) j u hj) (node_cells_one _ _ _ _) (by decide) (by unfold maxLen; omega) (by omega) (by simp; omega) _ rfl ?_; intro g cap wd ho2 hg2 _ _))
        have hbw := push_row H8.out.2 H8.out.1 _ hg2
        refine ⟨⟨j + 1, j + 1, 2, outs ++ [(l.take (j + 1)).drop fr], _, Nat.le_refl _, by simp; omega, hj1, by go_num, by go_num, rfl, by omega, HFI.out.1, by simpa using ho2, ?_, hbw⟩, by simp [intOf]; omega⟩
        rw [List.map_append]
        exact NodesAt.snoc (leaf_nodeV HFI.out.2) _ _ HG.out.2.2.1
end Go.Proofs.YthhmcjojnbaiiaaGreatDoor

/- Grow: level (kids). -/
namespace Go.Proofs.YthhmcjojnbaiiaaGreatDoor
open Go Go.RowKit
def branchN (c : List Kid) : Node := ⟨2, [], c, []⟩
theorem branch_nodeV {w : World} {A : Option Addr} {n c : Nat} {l : List Kid} (h : Sl kidE w (.slice A n c) l) : NodeV w (.agg #[.int .u8 2, .slice none 0 0, .slice A n c, .slice none 0 0]) ⟨2, [], l, []⟩ :=
  ⟨_, _, _, rfl, Sl.nil _, h, Sl.nil _, by simp, by simp⟩
theorem node_cells_oneB (A : Option Addr) (n c : Nat) (kd : Int) : ∀ u ∈ [Value.int .u8 kd, .slice none 0 0, .slice A n c, .slice none 0 0], u.oneCell' = true := by
  intro u hu
  simp at hu
  rcases hu with rfl | rfl | rfl | rfl <;> rfl
theorem wpList_load_arrw {P : Program} {ops : Array Oper} {rest : List Oper} {o : Oper} {a : Act} {w : World} {Q : Exit → Act → World → Prop} (hgd : Region.wanted o (yielded ops a.tmps) = true) (ty : TypeId) (x : Operand) (ho : o.op = .load ty x)
    (b i : Nat) (hx : a.eval x = .pointer (some ⟨b, i, none⟩)) (vs : List Value) (d : TypeDesc) (hat : At w b i vs)
    (hu : P.underlying ty = some d) (hd : (match d with | .struct _ | .array _ _ => true | _ => false) = true) (hi : (P.info? ty).map (·.size) = some vs.length) (ka : Array Value) (hka : vs.toArray = ka)
    (h : wpList P ops Q rest (a.put o.dst (.agg ka)) w) : wpList P ops Q (o :: rest) a w :=
  wpList_load_atw hgd ty x ho b i hx vs d hat hu hd hi (by rw [hka]; exact h)
/-- What level of kids comes to. -/
def LkPost (w : World) (LV : List (List Kid)) (e : Ending) (w' : World) : Prop :=
  ∃ v xs, e = .returned v ∧ w'.ownsRow w.heap.size 44 4 v LV.length xs ∧ NodesAt w xs (LV.map branchN) ∧ Below w.heap.size w w'
set_option maxRecDepth 100000 in
set_option maxHeartbeats 1000000 in
theorem levelK_any (w : World) (b o n c : Nat) (l : List Kid) (d : Int) (hs : Sl kidE w (.slice (some ⟨b, o, none⟩) n c) l) (hd : 0 ≤ d ∧ d ≤ 255) (hne : l ≠ []) (hsz : ∀ x ∈ l, x.key.size ≤ 48) (hmax : l.length ≤ 4194304) :
    Calls Tryz.prog 117 #[.slice (some ⟨b, o, none⟩) n c, .int .u8 d, .func (.func 118) #[] #[], .func (.func 119) #[] #[]] w fun e w' => LkPost w (levelGo kidSz (fun x m => lastB x.key d m) [] 2 l) e w' := by
  obtain ⟨i0, z0, hi, hz0, hzz1, hz2, hzs⟩ := info_open nodeT_info
  obtain ⟨LV, hLV⟩ : ∃ LV, levelGo kidSz (fun x m => lastB x.key d m) [] 2 l = LV := ⟨_, rfl⟩
  rw [hLV]
  have HLV := Lib.hid hLV
  clear hLV
  obtain ⟨rfl, hc1, hc2, _⟩ := hs.len_eq
  have HS := Lib.hid hs
  clear hs
  have hpos := List.length_pos_iff.2 hne
  go_enter Tryz.func117, Tryz.ntmps117
  go_wp2_with (fail)
  go_step3
  go_wp2_with (fail)
  go_at_call 156
  refine (size_any _ _ noNode (nil_node _) (by decide)).mono ?_
  rintro e w1 ⟨rfl, hb1⟩
  have HB1 := Lib.hid hb1
  clear hb1
  go_wp2_with (fail)
  rw [show ((sizeF noNode : Nat) : Int) = 2 from rfl]
  go_step3
  go_wp2_with (fail)
  go_loopw [9, 11, 12, 13, 14, 15, 21, 22, 23, 24, 25, 26, 27, 28, 29, 30, 31, 32, 33, 34, 35, 36, 37, 38, 39, 40, 41, 42, 43, 44, 45, 46, 47, 48, 49, 50, 51, 52, 53, 54, 55, 56, 57, 58, 59, 60, 61, 62, 63, 64, 65, 66, 67, 68, 69, 70, 71, 72, 73, 74, 75, 76, 77, 78, 79, 80, 81, 82, 83, 84, 85, 86, 87, 88, 89] (fun v f t _ _ _ i _ _ _ _ _ _ _ _ _ _ _ _ _ _ _ _ _ _ _ _ _ _ _ _ _ _ _ _ _ _ _ _ _ _ _ _ _ _ _ _ _ _ _ _ _ _ _ _ _ _ _ _ _ _ _ _ _ _ _ _ _ _ _ _ _ _ _ _ wr => ∃ (j fr bt : Nat) (outs : List (List Kid)) (xs : List Value), fr ≤ j ∧ outs.length ≤ fr ∧ j < l.length ∧ i = .int .i64 j ∧ f = .int .i64 fr ∧ t = .int .i64 bt ∧ bt ≤ 508 ∧ LV = outs ++ levelGo kidSz (fun x m => lastB x.key d m) ((l.take j).drop fr) bt (l.drop j) ∧ wr.ownsRow w.heap.size 44 4 v outs.length xs ∧ NodesAt w xs (outs.map branchN) ∧ Below w.heap.size w wr) (fun _ _ _ _ _ _ i _ _ _ _ _ _ _ _ _ _ _ _ _ _ _ _ _ _ _ _ _ _ _ _ _ _ _ _ _ _ _ _ _ _ _ _ _ _ _ _ _ _ _ _ _ _ _ _ _ _ _ _ _ _ _ _ _ _ _ _ _ _ _ _ _ _ _ _ _ => l.length - (intOf i).toNat)
  case atStart => exact ⟨0, 0, 2, [], [], Nat.le_refl _, Nat.le_refl _, hpos, rfl, rfl, rfl, by omega, by rw [← HLV.out]; simp, ⟨rfl, Or.inl ⟨rfl, rfl⟩⟩, trivial, HB1.out⟩
  case round =>
    obtain ⟨j, fr, bt, outs, xs, hfj, hof, hj, rfl, rfl, rfl, hbt, hlg, hown, hnds, hB⟩ := hrel
    have hx := List.getElem_mem hj
    have hdj : l.drop j = l[j] :: l.drop (j + 1) := List.drop_eq_getElem_cons hj
    have hsx := hsz l[j] hx
    have hs1 := sl_sub (HS.out.below hB (Nat.le_refl _)) (i := j) (j := j + 1) (by omega) (by omega) (c' := c - j) (by omega) (by omega)
    rw [show (l.take (j + 1)).drop j = [l[j]] by rw [List.take_succ_eq_append_getElem hj, List.drop_append_of_le_length (by simp; omega)]; simp] at hs1
    rw [show j + 1 - j = 1 by omega] at hs1
    have HG := Lib.hid (And.intro hlg (And.intro hown (And.intro hnds (And.intro hB hs1))))
    clear hlg hown hnds hB hs1 hx
    go_wp2_with (fail)
    go_at_call 119
    refine (branchOf_any _ _ _ _).mono ?_
    rintro e w2 ⟨rfl, hb2⟩
    have hs2 := HG.out.2.2.2.2.below hb2 (Nat.le_refl _)
    go_wp2_with (fail)
    go_at_call 156
    refine (size_any _ _ (branchN [l[j]]) (branch_nodeV hs2) (by unfold branchN sizeF kidSz; simp [sumBy]; omega)).mono ?_
    rintro e w3 ⟨rfl, hb3⟩
    have hz1 : ((sizeF (branchN [l[j]]) : Nat) : Int) = 2 + (kidSz l[j] : Nat) := by unfold branchN sizeF; simp [sumBy]
    rw [hz1]
    have hi1 : kidSz l[j] ≤ 85 := by unfold kidSz; omega
    have hB3 : Below w.heap.size w w3 := HG.out.2.2.2.1.trans ((hb2.trans (hb3.mono hb2.size)).mono HG.out.2.2.2.1.size)
    have hb23 : Below wr.heap.size wr w3 := hb2.trans (hb3.mono hb2.size)
    have HB3 := Lib.hid (And.intro hB3 hb23)
    clear hb2 hs2 hb3 hz1 hB3 hb23
    obtain ⟨z1, hz1⟩ : ∃ z1, kidSz l[j] = z1 := ⟨_, rfl⟩
    rw [hz1] at hi1 ⊢
    have HZ1 := Lib.hid hz1
    clear hz1
    by_cases hlast : j + 1 = l.length
    · have hq : ((j : Int) == (l.length : Int) - 1) = true := by simp; omega
      have hfin : LV = outs ++ [l.drop fr] := by
        rw [HG.out.1, hdj, List.drop_of_length_le (by omega : l.length ≤ j + 1)]
        unfold levelGo
        have : l = l.take j ++ [l[j]] := by rw [← List.take_succ_eq_append_getElem hj, List.take_of_length_le (by omega)]
        rw [show l.drop fr = (l.take j).drop fr ++ [l[j]] by conv => lhs; rw [this]; rw [List.drop_append_of_le_length (by simp; omega)]]
      have hsf := sl_sub HS.out (i := fr) (j := l.length) (by omega) (Nat.le_refl _) (c' := c - fr) (by omega) (by omega)
      rw [List.take_length] at hsf
      have HFI := Lib.hid (And.intro hfin hsf)
      clear hfin hsf
      go_wp2_with (fail)
      go_at_call 119
      refine (branchOf_any _ _ _ _).mono ?_
      rintro e w4 ⟨rfl, hb4⟩
      have hb4r := HB3.out.2.trans (hb4.mono HB3.out.2.size)
      have ho4 := (Fr.of_below hb4r).own HG.out.2.1 (by unfold BadT; decide)
      have hB4 := HG.out.2.2.2.1.trans (hb4r.mono HG.out.2.2.2.1.size)
      have H4 := Lib.hid (And.intro ho4 hB4)
      have hsz4 := hB4.size
      clear hb4 hb4r ho4 hB4
      go_wp2_with (first
        | (refine wpList_append_lies (w := w4.alloc (.cells #[.int .u8 2, .slice none 0 0, .slice (some ⟨b, o + fr * 34, none⟩) (l.length - fr) (c - fr), .slice none 0 0] 44)) rfl (.tmp 90) (.tmp 96) 141 rfl w.heap.size 44 i0 z0 4 80 Tryz.underlying141 hi hz0 hzz1 hz2 hzs (by decide) u9 outs.length xs rfl (H4.out.1.alloc _) ⟨w4.heap.size, 0, none⟩ 1 1 [.int .u8 2, .slice none 0 0, .slice (some ⟨b, o + fr * 34, none⟩) (l.length - fr) (c - fr), .slice none 0 0] rfl rfl (fun j u hj => by rw [add_at, Nat.zero_add]; exact new_cell (w := w4) (t := 44) j u hj) (node_cells_oneB _ _ _ _) (by decide) (by unfold maxLen; omega) (by omega) (by simp; omega) _ rfl ?_; intro g cap wd ho2 hg2 _ _))
      (try rw [Exit.noGoto_ret])
      go_ret
      have hbw := push_row H4.out.2 H4.out.1 _ hg2
      refine ⟨_, _, rfl, by rw [HFI.out.1]; simpa using ho2, ?_, hbw⟩
      rw [HFI.out.1, List.map_append]
      exact NodesAt.snoc (branch_nodeV HFI.out.2) _ _ HG.out.2.2.1
    · have hq : ((j : Int) == (l.length : Int) - 1) = false := by simp; omega
      have hj1 : j + 1 < l.length := by omega
      have hdj1 : l.drop (j + 1) = l[j + 1] :: l.drop (j + 2) := List.drop_eq_getElem_cons hj1
      have hsy := hsz l[j + 1] (List.getElem_mem hj1)
      have hs1 := sl_sub (HS.out.below (HG.out.2.2.2.1.trans (HB3.out.2.mono HG.out.2.2.2.1.size)) (Nat.le_refl _)) (i := j + 1) (j := j + 2) (by omega) (by omega) (c' := c - (j + 1)) (by omega) (by omega)
      rw [show (l.take (j + 2)).drop (j + 1) = [l[j + 1]] by rw [List.take_succ_eq_append_getElem hj1, List.drop_append_of_le_length (by simp; omega)]; simp, show j + 2 - (j + 1) = 1 by omega] at hs1
      have HS1 := Lib.hid hs1
      clear hs1
      have h1c : 1 ≤ c - (j + 1) := by omega
      have hj2 : j + 2 ≤ l.length := by omega
      go_wp2_with (fail)
      go_at_call 119
      refine (branchOf_any _ _ _ _).mono ?_
      rintro e w4 ⟨rfl, hb4⟩
      have hs4 := HS1.out.below hb4 (Nat.le_refl _)
      go_wp2_with (fail)
      go_at_call 156
      refine (size_any _ _ (branchN [l[j + 1]]) (branch_nodeV hs4) (by unfold branchN sizeF kidSz; simp [sumBy]; omega)).mono ?_
      rintro e w5 ⟨rfl, hb5⟩
      have hz2 : ((sizeF (branchN [l[j + 1]]) : Nat) : Int) = 2 + (kidSz l[j + 1] : Nat) := by unfold branchN sizeF; simp [sumBy]
      rw [hz2]
      have hi2 : kidSz l[j + 1] ≤ 85 := by unfold kidSz; omega
      have hb35 := hb4.trans (hb5.mono hb4.size)
      have HB5 := Lib.hid (HB3.out.2.trans (hb35.mono HB3.out.2.size))
      clear hb4 hs4 hb5 hz2 hb35
      obtain ⟨z2, hz2⟩ : ∃ z2, kidSz l[j + 1] = z2 := ⟨_, rfl⟩
      rw [hz2] at hi2 ⊢
      have HZ2 := Lib.hid hz2
      clear hz2
      have hw5 : Below w.heap.size w w5 := HG.out.2.2.2.1.trans (HB5.out.mono HG.out.2.2.2.1.size)
      obtain ⟨b', o', e', hat, _⟩ := (HS.out.len_eq).2.2.2 j hj
      injection e' with e'
      injection e' with e1 e2
      subst e1
      subst e2
      obtain ⟨b2, o2, e2, hat5, hwf5⟩ := ((HS.out.below hw5 (Nat.le_refl _)).len_eq).2.2.2 j hj
      injection e2 with e2
      injection e2 with e3 e4
      subst e3
      subst e4
      rw [show kidE.sz = 34 from rfl] at hat5
      have hkl := kid_len _ hwf5
      have hbk := fun w' => branchKey_any l[j] w'
      obtain ⟨kv, hkv⟩ : ∃ kv, kidE.enc l[j] = kv := ⟨_, rfl⟩
      rw [hkv] at hat5 hkl
      simp only [hkv] at hbk
      obtain ⟨ka, hka⟩ : ∃ ka, kv.toArray = ka := ⟨_, rfl⟩
      simp only [hka] at hbk
      have HKA := Lib.hid (And.intro hka hbk)
      clear hat hw5 hkv hka hbk hwf5
      by_cases hm : j - fr + 1 < 255
      · have hm' : (j : Int) - fr + 1 < 255 := by omega
        by_cases hz : bt + z1 + z2 ≤ 508
        · have hz' : (bt : Int) + (2 + z1 - 2) + (2 + z2 - 2) ≤ 508 := by omega
          go_wp2_with ((with_reducible refine probe_loadT 58 ?_); refine wpList_load_arrw rfl 58 (.tmp 68) rfl b (o + j * 34) rfl kv _ hat5 Tryz.underlying58 rfl hkl ka HKA.out.1 ?_)
          go_at_call 118
          refine (HKA.out.2 _).mono ?_
          rintro e w6 ⟨rfl, hb6⟩
          go_wp2_with (fail)
          go_at_call 157
          refine (last_int _ d _ (j - fr + 1) _ hd (by omega) (by omega) (by omega)).mono ?_
          rintro e w7 ⟨rfl, hb7⟩
          have hb57 := hb6.trans (hb7.mono hb6.size)
          have HB7 := Lib.hid (HB5.out.trans (hb57.mono HB5.out.size))
          clear hb6 hb7 hb57
          cases hlB : lastB l[j].key d (j - fr + 1) with
          | false =>
            have hnx : LV = outs ++ levelGo kidSz (fun x m => lastB x.key d m) ((l.take (j + 1)).drop fr) (bt + z1) (l.drop (j + 1)) := by
              rw [HG.out.1, level_step _ _ l j fr bt hfj hj1, if_pos ⟨⟨hm, by rw [HZ1.out, HZ2.out]; exact hz⟩, hlB⟩, HZ1.out]
            have HF := Lib.hid (And.intro hnx (And.intro ((Fr.of_below HB7.out).own HG.out.2.1 (by unfold BadT; decide)) (HG.out.2.2.2.1.trans (HB7.out.mono HG.out.2.2.2.1.size))))
            clear hnx
            go_wp2_with (fail)
            exact ⟨⟨j + 1, fr, bt + z1, outs, xs, by omega, hof, hj1, by go_num, rfl, by go_num, by omega, HF.out.1, HF.out.2.1, HG.out.2.2.1, HF.out.2.2⟩, by simp [intOf]; omega⟩
          | true =>
            have hfin : LV = (outs ++ [(l.take (j + 1)).drop fr]) ++ levelGo kidSz (fun x m => lastB x.key d m) ((l.take (j + 1)).drop (j + 1)) 2 (l.drop (j + 1)) := by
              rw [HG.out.1, level_step _ _ l j fr bt hfj hj1, if_neg (by rw [hlB]; simp), List.append_assoc]; rfl
            have hsf := sl_sub HS.out (i := fr) (j := j + 1) (by omega) (by omega) (c' := c - fr) (by omega) (by omega)
            have HFI := Lib.hid (And.intro hfin hsf)
            clear hfin hsf
            go_wp2_with (fail)
            go_at_call 119
            refine (branchOf_any _ _ _ _).mono ?_
            rintro e w8 ⟨rfl, hb8⟩
            have hb8r := HB7.out.trans (hb8.mono HB7.out.size)
            have ho8 := (Fr.of_below hb8r).own HG.out.2.1 (by unfold BadT; decide)
            have hB8 := HG.out.2.2.2.1.trans (hb8r.mono HG.out.2.2.2.1.size)
            have H8 := Lib.hid (And.intro ho8 hB8)
            have hsz8 := hB8.size
            clear hb8 hb8r ho8 hB8
            go_wp2_with (first
              | (refine wpList_append_lies (w := w8.alloc (.cells #[.int .u8 2, .slice none 0 0, .slice (some ⟨b, o + fr * 34, none⟩) (j + 1 - fr) (c - fr), .slice none 0 0] 44)) rfl (.tmp 76) (.tmp 84) 141 rfl w.heap.size 44 i0 z0 4 80 Tryz.underlying141 hi hz0 hzz1 hz2 hzs (by decide) u9 outs.length xs rfl (H8.out.1.alloc _) ⟨w8.heap.size, 0, none⟩ 1 1 [.int .u8 2, .slice none 0 0, .slice (some ⟨b, o + fr * 34, none⟩) (j + 1 - fr) (c - fr), .slice none 0 0] rfl rfl (fun j u hj => by rw [add_at, Nat.zero_add]; exact new_cell (w := w8) (t := 44) j u hj) (node_cells_oneB _ _ _ _) (by decide) (by unfold maxLen; omega) (by omega) (by simp; omega) _ rfl ?_; intro g cap wd ho2 hg2 _ _))
            have hbw := push_row H8.out.2 H8.out.1 _ hg2
            refine ⟨⟨j + 1, j + 1, 2, outs ++ [(l.take (j + 1)).drop fr], _, Nat.le_refl _, by simp; omega, hj1, by go_num, by go_num, rfl, by omega, HFI.out.1, by simpa using ho2, ?_, hbw⟩, by simp [intOf]; omega⟩
            rw [List.map_append]
            exact NodesAt.snoc (branch_nodeV HFI.out.2) _ _ HG.out.2.2.1
        · have hz' : ¬ (bt : Int) + (2 + z1 - 2) + (2 + z2 - 2) ≤ 508 := by omega
          have HB7 := HB5
          have hfin : LV = (outs ++ [(l.take (j + 1)).drop fr]) ++ levelGo kidSz (fun x m => lastB x.key d m) ((l.take (j + 1)).drop (j + 1)) 2 (l.drop (j + 1)) := by
            rw [HG.out.1, level_step _ _ l j fr bt hfj hj1, if_neg (by rw [HZ1.out, HZ2.out]; simp only [not_and]; omega), List.append_assoc]; rfl
          have hsf := sl_sub HS.out (i := fr) (j := j + 1) (by omega) (by omega) (c' := c - fr) (by omega) (by omega)
          have HFI := Lib.hid (And.intro hfin hsf)
          clear hfin hsf
          go_wp2_with (fail)
          go_at_call 119
          refine (branchOf_any _ _ _ _).mono ?_
          rintro e w8 ⟨rfl, hb8⟩
          have hb8r := HB7.out.trans (hb8.mono HB7.out.size)
          have ho8 := (Fr.of_below hb8r).own HG.out.2.1 (by unfold BadT; decide)
          have hB8 := HG.out.2.2.2.1.trans (hb8r.mono HG.out.2.2.2.1.size)
          have H8 := Lib.hid (And.intro ho8 hB8)
          have hsz8 := hB8.size
          clear hb8 hb8r ho8 hB8
          go_wp2_with (first
            | (refine wpList_append_lies (w := w8.alloc (.cells #[.int .u8 2, .slice none 0 0, .slice (some ⟨b, o + fr * 34, none⟩) (j + 1 - fr) (c - fr), .slice none 0 0] 44)) rfl (.tmp 76) (.tmp 84) 141 rfl w.heap.size 44 i0 z0 4 80 Tryz.underlying141 hi hz0 hzz1 hz2 hzs (by decide) u9 outs.length xs rfl (H8.out.1.alloc _) ⟨w8.heap.size, 0, none⟩ 1 1 [.int .u8 2, .slice none 0 0, .slice (some ⟨b, o + fr * 34, none⟩) (j + 1 - fr) (c - fr), .slice none 0 0] rfl rfl (fun j u hj => by rw [add_at, Nat.zero_add]; exact new_cell (w := w8) (t := 44) j u hj) (node_cells_oneB _ _ _ _) (by decide) (by unfold maxLen; omega) (by omega) (by simp; omega) _ rfl ?_; intro g cap wd ho2 hg2 _ _))
          have hbw := push_row H8.out.2 H8.out.1 _ hg2
          refine ⟨⟨j + 1, j + 1, 2, outs ++ [(l.take (j + 1)).drop fr], _, Nat.le_refl _, by simp; omega, hj1, by go_num, by go_num, rfl, by omega, HFI.out.1, by simpa using ho2, ?_, hbw⟩, by simp [intOf]; omega⟩
          rw [List.map_append]
          exact NodesAt.snoc (branch_nodeV HFI.out.2) _ _ HG.out.2.2.1
      · have hm' : ¬ (j : Int) - fr + 1 < 255 := by omega
        have HB7 := HB5
        have hfin : LV = (outs ++ [(l.take (j + 1)).drop fr]) ++ levelGo kidSz (fun x m => lastB x.key d m) ((l.take (j + 1)).drop (j + 1)) 2 (l.drop (j + 1)) := by
          rw [HG.out.1, level_step _ _ l j fr bt hfj hj1, if_neg (by rw [HZ1.out, HZ2.out]; simp only [not_and]; omega), List.append_assoc]; rfl
        have hsf := sl_sub HS.out (i := fr) (j := j + 1) (by omega) (by omega) (c' := c - fr) (by omega) (by omega)
        have HFI := Lib.hid (And.intro hfin hsf)
        clear hfin hsf
        go_wp2_with (fail)
        go_at_call 119
        refine (branchOf_any _ _ _ _).mono ?_
        rintro e w8 ⟨rfl, hb8⟩
        have hb8r := HB7.out.trans (hb8.mono HB7.out.size)
        have ho8 := (Fr.of_below hb8r).own HG.out.2.1 (by unfold BadT; decide)
        have hB8 := HG.out.2.2.2.1.trans (hb8r.mono HG.out.2.2.2.1.size)
        have H8 := Lib.hid (And.intro ho8 hB8)
        have hsz8 := hB8.size
        clear hb8 hb8r ho8 hB8
        go_wp2_with (first
          | (refine wpList_append_lies (w := w8.alloc (.cells #[.int .u8 2, .slice none 0 0, .slice (some ⟨b, o + fr * 34, none⟩) (j + 1 - fr) (c - fr), .slice none 0 0] 44)) rfl (.tmp 76) (.tmp 84) 141 rfl w.heap.size 44 i0 z0 4 80 Tryz.underlying141 hi hz0 hzz1 hz2 hzs (by decide) u9 outs.length xs rfl (H8.out.1.alloc _) ⟨w8.heap.size, 0, none⟩ 1 1 [.int .u8 2, .slice none 0 0, .slice (some ⟨b, o + fr * 34, none⟩) (j + 1 - fr) (c - fr), .slice none 0 0] rfl rfl (fun j u hj => by rw [add_at, Nat.zero_add]; exact new_cell (w := w8) (t := 44) j u hj) (node_cells_oneB _ _ _ _) (by decide) (by unfold maxLen; omega) (by omega) (by simp; omega) _ rfl ?_; intro g cap wd ho2 hg2 _ _))
        have hbw := push_row H8.out.2 H8.out.1 _ hg2
        refine ⟨⟨j + 1, j + 1, 2, outs ++ [(l.take (j + 1)).drop fr], _, Nat.le_refl _, by simp; omega, hj1, by go_num, by go_num, rfl, by omega, HFI.out.1, by simpa using ho2, ?_, hbw⟩, by simp [intOf]; omega⟩
        rw [List.map_append]
        exact NodesAt.snoc (branch_nodeV HFI.out.2) _ _ HG.out.2.2.1
end Go.Proofs.YthhmcjojnbaiiaaGreatDoor

/- Grow: leaves, branches. -/
namespace Go.Proofs.YthhmcjojnbaiiaaGreatDoor
open Go Go.RowKit
/-- A row of nodes. -/
def NodesPost (w : World) (ns : List Node) (e : Ending) (w' : World) : Prop :=
  ∃ v xs, e = .returned v ∧ w'.ownsRow w.heap.size 44 4 v ns.length xs ∧ NodesAt w xs ns ∧ Below w.heap.size w w'
theorem leaves_any (w : World) (b o n c : Nat) (l : List Item) (hs : Sl itemE w (.slice (some ⟨b, o, none⟩) n c) l) (hne : l ≠ []) (hsz : ∀ x ∈ l, x.key.size ≤ 48 ∧ x.val.size ≤ 160) (hmax : l.length ≤ 4194304) :
    Calls Tryz.prog 82 #[.slice (some ⟨b, o, none⟩) n c] w fun e w' => NodesPost w (leavesL l) e w' := by
  have HS := Lib.hid hs
  clear hs
  go_enter Tryz.func82, Tryz.ntmps82
  go_wp2_with (go_at_call 114; refine (levelI_any w b o n c l 0 HS.out (by omega) hne hsz hmax).mono ?_; rintro e w1 ⟨v, xs, rfl, h1, h2, h3⟩)
  go_ret
  refine ⟨v, xs, rfl, ?_, h2, h3⟩
  unfold leavesL
  rw [List.length_map]
  exact h1
theorem branches_any (w : World) (b o n c : Nat) (l : List Kid) (d : Int) (hs : Sl kidE w (.slice (some ⟨b, o, none⟩) n c) l) (hd : 0 ≤ d ∧ d ≤ 255) (hne : l ≠ []) (hsz : ∀ x ∈ l, x.key.size ≤ 48) (hmax : l.length ≤ 4194304) :
    Calls Tryz.prog 84 #[.slice (some ⟨b, o, none⟩) n c, .int .u8 d] w fun e w' => NodesPost w (branchesL d l) e w' := by
  have HS := Lib.hid hs
  clear hs
  go_enter Tryz.func84, Tryz.ntmps84
  go_wp2_with (go_at_call 117; refine (levelK_any w b o n c l d HS.out hd hne hsz hmax).mono ?_; rintro e w1 ⟨v, xs, rfl, h1, h2, h3⟩)
  go_ret
  refine ⟨v, xs, rfl, ?_, h2, h3⟩
  unfold branchesL
  rw [List.length_map]
  exact h1
end Go.Proofs.YthhmcjojnbaiiaaGreatDoor

/- Grow: what raise asks of the function that puts; the frame of its rounds. -/
namespace Go.Proofs.YthhmcjojnbaiiaaGreatDoor
open Go Go.RowKit
/-- What a put, called by raise, comes to. -/
def PutsPost (B : Nat) {σ : Type} (put : σ → Node → Kid × Int × σ) (Inv : World → Nat → σ → Prop) (W : World) (M : Nat) (s : σ) (n : Node) (e : Ending) (W' : World) : Prop :=
  e = .returned (.tuple #[.agg (kidA (put s n).1), .int .i64 (put s n).2.1]) ∧ kidE.wf (put s n).1 ∧ Inv W' M (put s n).2.2 ∧ Below B W W' ∧ Fr W W'
/-- What raise asks of a function that puts nodes: M bounds the blocks in which the rows of what was put may lie. -/
structure Puts (B N : Nat) (pre post : Array Value) {σ : Type} (put : σ → Node → Kid × Int × σ) (Inv : World → Nat → σ → Prop) : Prop where
  enter : ∀ args w, (callFunc N args).run Tryz.prog w = .ok (.enter N args) w
  below : ∀ (W W' : World) (M : Nat) (s : σ), Inv W M s → Below W.heap.size W W' → Inv W' M s
  rise : ∀ (W : World) (M M' : Nat) (s : σ), Inv W M s → M ≤ M' → Inv W M' s
  away : ∀ (W W' : World) (M : Nat) (s : σ) (g : Nat) (cs : Array Value) (fr : Nat × Nat), Inv W M s → M ≤ g → W.heap[g]? = some (.cells cs 58 fr) → W.grownBy W' (some g) → Inv W' M s
  zero : ∀ (W W' : World) (M : Nat) (s : σ) (g : Nat) (fr : Nat × Nat), Inv W M s → W.heap[g]? = some (.cells (kidA noKid) 58 fr) → W.grownBy W' (some g) → Inv W' M s
  call : ∀ (W0 W : World) (M : Nat) (s : σ) (v : Value) (n : Node), Inv W M s → B ≤ W.heap.size → W0.heap.size ≤ M → NodeV W0 v n → NodeV W v n → n.items.length ≤ 255 → n.kids.length ≤ 255 → n.vols.length ≤ 255 →
    Calls Tryz.prog N (pre.push v ++ post) W fun e W' => PutsPost B put Inv W M s n e W'
/-- What holds of a world in a level of raise that began at wl. -/
structure Rc (B : Nat) {σ : Type} (Inv : World → Nat → σ → Prop) (wl W : World) (s : σ) : Prop where
  inv : Inv W wl.heap.size s
  bl : Below B wl W
  fr : Fr wl W
section
variable {B N : Nat} {pre post : Array Value} {σ : Type} {put : σ → Node → Kid × Int × σ} {Inv : World → Nat → σ → Prop} {wl W W' : World} {s s' : σ}
theorem Rc.pure (h : Rc B Inv wl W s) (hp : Puts B N pre post put Inv) (hB : B ≤ wl.heap.size) (hb : Below W.heap.size W W') : Rc B Inv wl W' s :=
  ⟨hp.below _ _ _ _ h.inv hb, h.bl.trans (hb.mono (Nat.le_trans hB h.bl.size)), h.fr.trans (Fr.of_below hb)⟩
theorem Rc.op (h : Rc B Inv wl W s) (hi : Inv W' wl.heap.size s') (hb : Below B W W') (hf : Fr W W') : Rc B Inv wl W' s' := ⟨hi, h.bl.trans hb, h.fr.trans hf⟩
/-- A block of a kid's, made in this level, is written. -/
theorem Rc.set (h : Rc B Inv wl W s) (hp : Puts B N pre post put Inv) (hB : B ≤ wl.heap.size) {g : Nat} {cs : Array Value} {fr : Nat × Nat} (hg : wl.heap.size ≤ g) (hc : W.heap[g]? = some (.cells cs 58 fr)) (hk : W.grownBy W' (some g)) : Rc B Inv wl W' s :=
  ⟨hp.away _ _ _ _ g cs fr h.inv hg hc hk, h.bl.trans ⟨hk.os, hk.tape, hk.output, hk.size, fun k hk' => hk.block k (Nat.lt_of_lt_of_le hk' (Nat.le_trans hB h.bl.size)) (by simp; omega)⟩, h.fr.new hk hg⟩
/-- A row of kids, made in this level, is appended to. -/
theorem Rc.row (h : Rc B Inv wl W s) (hp : Puts B N pre post put Inv) (hB : B ≤ wl.heap.size) {v : Value} {n : Nat} {xs : List Value} (ho : W.ownsRow wl.heap.size 58 34 v n xs) (hk : W.grownBy W' v.ownBlock) : Rc B Inv wl W' s := by
  cases hv : v.ownBlock with
  | none =>
    rw [hv] at hk
    exact h.pure hp hB ⟨hk.os, hk.tape, hk.output, hk.size, fun k hk' => hk.block k hk' (by simp)⟩
  | some g =>
    obtain ⟨h1, h2⟩ := ho
    rcases h2 with ⟨rfl, _⟩ | ⟨g', cap, cur, rfl, hb, hg, _⟩
    · simp [Value.ownBlock] at hv
    · rw [hv] at hk
      simp [Value.ownBlock] at hv
      subst hv
      exact h.set hp hB hb hg hk
end
theorem kidA_key (k : Kid) (s : ByteArray) : (kidA k).setIfInBounds 0 (.string s) = kidA { k with key := s } := by unfold kidA kidE; simp
theorem kidA_key0 (k : Kid) : (kidA k)[0]? = some (.string k.key) := by unfold kidA kidE; simp
theorem putAll_cons {σ : Type} (put : σ → Node → Kid × Int × σ) (acc : List Kid) (s : σ) (n : Node) (r : List Node) :
    putAll put acc s (n :: r) = if (put s n).2.1 ≠ 0 then (acc, (put s n).2.1, (put s n).2.2) else putAll put (acc ++ [{ (put s n).1 with key := keyOf n }]) (put s n).2.2 r := rfl
theorem raise_err {σ : Type} (put : σ → Node → Kid × Int × σ) {f : Nat} {d : Int} {s s2 : σ} {ns : List Node} {ks : List Kid} {er : Int} (h : putAll put [] s ns = (ks, er, s2)) (he : er ≠ 0) (hf : 0 < f) : raiseGo put f d s ns = (noKid, er, s2) := by
  obtain ⟨f', rfl⟩ : ∃ f', f = f' + 1 := ⟨f - 1, by omega⟩
  unfold raiseGo
  rw [h, if_pos he]
theorem raise_one {σ : Type} (put : σ → Node → Kid × Int × σ) {f : Nat} {d : Int} {s s2 : σ} {ns : List Node} {k : Kid} (h : putAll put [] s ns = ([k], 0, s2)) (hf : 0 < f) : raiseGo put f d s ns = (bare k, 0, s2) := by
  obtain ⟨f', rfl⟩ : ∃ f', f = f' + 1 := ⟨f - 1, by omega⟩
  unfold raiseGo
  rw [h, if_neg (by simp)]
theorem raise_more {σ : Type} (put : σ → Node → Kid × Int × σ) {f : Nat} {d : Int} {s s2 : σ} {ns : List Node} {ks : List Kid} (h : putAll put [] s ns = (ks, 0, s2)) (hl : ks.length ≠ 1) (hf : 0 < f) : raiseGo put f d s ns = raiseGo put (f - 1) ((d + 1) % 256) s2 (branchesL d ks) := by
  obtain ⟨f', rfl⟩ : ∃ f', f = f' + 1 := ⟨f - 1, by omega⟩
  conv => lhs; unfold raiseGo
  rw [h, if_neg (by simp)]
  match ks, hl with
  | [], _ => rfl
  | [k], hl => exact absurd rfl hl
  | a :: b :: r, _ => rfl
theorem nodesAt_get {w : World} : ∀ (xs : List Value) (ns : List Node), NodesAt w xs ns → ∀ j (hj : j < ns.length), ∃ k a b c, NodeV w (.agg #[k, a, b, c]) ns[j] ∧ xs[j * 4]? = some k ∧ xs[j * 4 + 1]? = some a ∧ xs[j * 4 + 2]? = some b ∧ xs[j * 4 + 3]? = some c
  | [], [], _, j, hj => by simp at hj
  | k :: a :: b :: c :: xs, n :: ns, h, 0, _ => ⟨k, a, b, c, h.1, rfl, rfl, rfl, rfl⟩
  | k :: a :: b :: c :: xs, n :: ns, h, j + 1, hj => by
    obtain ⟨k', a', b', c', h1, h2, h3, h4, h5⟩ := nodesAt_get xs ns h.2 j (by simpa using hj)
    refine ⟨k', a', b', c', by simpa using h1, ?_, ?_, ?_, ?_⟩
    · rw [show (j + 1) * 4 = j * 4 + 4 by omega]; simpa using h2
    · rw [show (j + 1) * 4 + 1 = j * 4 + 1 + 4 by omega]; simpa using h3
    · rw [show (j + 1) * 4 + 2 = j * 4 + 2 + 4 by omega]; simpa using h4
    · rw [show (j + 1) * 4 + 3 = j * 4 + 3 + 4 by omega]; simpa using h5
  | [], _ :: _, h, _, _ => h.elim
  | [_], _, h, _, _ => h.elim
  | [_, _], _, h, _, _ => h.elim
  | [_, _, _], _, h, _, _ => h.elim
  | _ :: _ :: _ :: _ :: _, [], h, _, _ => h.elim
theorem nodesAt_row {w W : World} {xs : List Value} {ns : List Node} (h : NodesAt w xs ns) {base g m cap : Nat} (ho : W.ownsRow base 44 4 (.slice (some ⟨g, 0, none⟩) m cap) m xs) (j : Nat) (hj : j < ns.length) :
    ∃ A1 n1 c1 A2 n2 c2 A3 n3 c3, NodeV w (.agg #[.int .u8 ns[j].kind, .slice A1 n1 c1, .slice A2 n2 c2, .slice A3 n3 c3]) ns[j] ∧ At W g (j * 4) [.int .u8 ns[j].kind, .slice A1 n1 c1, .slice A2 n2 c2, .slice A3 n3 c3] := by
  obtain ⟨k, a, b, c, hv, h0, h1, h2, h3⟩ := nodesAt_get xs ns h j hj
  obtain ⟨va, vb, vc, he, ha, hb, hc, hk⟩ := hv
  simp only [Value.agg.injEq, Array.mk.injEq, List.cons.injEq, and_true] at he
  obtain ⟨rfl, rfl, rfl, rfl⟩ := he
  obtain ⟨A1, n1, c1, rfl⟩ := sl_slice ha
  obtain ⟨A2, n2, c2, rfl⟩ := sl_slice hb
  obtain ⟨A3, n3, c3, rfl⟩ := sl_slice hc
  refine ⟨A1, n1, c1, A2, n2, c2, A3, n3, c3, ⟨_, _, _, rfl, ha, hb, hc, hk⟩, ?_⟩
  have hcell := ho.cells (g := g) rfl
  intro i hi
  match i, hi with
  | 0, _ => have := hcell _ _ h0; rw [add_at] at this; simpa using this
  | 1, _ => have := hcell _ _ h1; rw [add_at] at this; simpa using this
  | 2, _ => have := hcell _ _ h2; rw [add_at] at this; simpa using this
  | 3, _ => have := hcell _ _ h3; rw [add_at] at this; simpa using this
theorem nodesAt_len {w : World} : ∀ (xs : List Value) (ns : List Node), NodesAt w xs ns → xs.length = ns.length * 4
  | [], [], _ => rfl
  | _ :: _ :: _ :: _ :: xs, _ :: ns, h => by
    have := nodesAt_len xs ns h.2
    simp only [List.length_cons]; omega
  | [], _ :: _, h => h.elim
  | [_], _, h => h.elim
  | [_, _], _, h => h.elim
  | [_, _, _], _, h => h.elim
  | _ :: _ :: _ :: _ :: _, [], h => h.elim
/-- Nodes that raise may come by. -/
def LevelOk (n : Node) : Prop := ((n.kind = 1 ∧ n.items ≠ []) ∨ (n.kind = 2 ∧ n.kids ≠ [])) ∧ n.items.length ≤ 255 ∧ n.kids.length ≤ 255 ∧ n.vols.length ≤ 255 ∧ (keyOf n).size ≤ 48
theorem leaves_level (l : List Item) (hne : l ≠ []) (hsz : ∀ x ∈ l, x.key.size ≤ 48 ∧ x.val.size ≤ 160) : (∀ n ∈ leavesL l, LevelOk n) ∧ leavesL l ≠ [] ∧ (leavesL l).length ≤ l.length := by
  obtain ⟨f1, f2, f3⟩ := level_facts itemSz (fun x m => lastB x.key 0 m) l hne (fun x hx => by have := item_two x (hsz x hx); omega) (fun x => last_one _ _)
  have hpos := List.length_pos_iff.2 hne
  refine ⟨fun n hn => ?_, fun e => ?_, by unfold leavesL; rw [List.length_map]; omega⟩
  · obtain ⟨c, hc, rfl⟩ := List.mem_map.1 hn
    obtain ⟨g1, g2, _⟩ := f2 c hc
    obtain ⟨x, r, rfl⟩ := List.exists_cons_of_ne_nil g1
    have hx : x ∈ l := by
      have := (chunk_sub _ _ hc).subset (List.mem_cons_self (a := x) (l := r))
      rwa [f1] at this
    exact ⟨Or.inl ⟨rfl, g1⟩, g2, by simp, by simp, by unfold keyOf hdKey; simpa using (hsz x hx).1⟩
  · unfold leavesL at e
    rw [List.map_eq_nil_iff.1 e] at f1; exact hne f1.symm
theorem branches_level (d : Int) (l : List Kid) (hne : l ≠ []) (hsz : ∀ x ∈ l, x.key.size ≤ 48) : (∀ n ∈ branchesL d l, LevelOk n) ∧ branchesL d l ≠ [] ∧ 2 * (branchesL d l).length ≤ l.length + 1 := by
  obtain ⟨f1, f2, f3⟩ := level_facts kidSz (fun x m => lastB x.key d m) l hne (fun x hx => by have := hsz x hx; unfold kidSz; omega) (fun x => last_one _ _)
  refine ⟨fun n hn => ?_, (branches_len d l hsz hne).2, (branches_len d l hsz hne).1⟩
  obtain ⟨c, hc, rfl⟩ := List.mem_map.1 hn
  obtain ⟨g1, g2, _⟩ := f2 c hc
  obtain ⟨x, r, rfl⟩ := List.exists_cons_of_ne_nil g1
  have hx : x ∈ l := by
    have := (chunk_sub _ _ hc).subset (List.mem_cons_self (a := x) (l := r))
    rwa [f1] at this
  exact ⟨Or.inr ⟨rfl, g1⟩, by simp, g2, by simp, by unfold keyOf hdKey; simpa using hsz x hx⟩
theorem own_low {w : World} {b b' : Nat} {e : TypeId} {sz : Nat} {v : Value} {n : Nat} {xs : List Value} (h : w.ownsRow b e sz v n xs) (hb : b' ≤ b) : w.ownsRow b' e sz v n xs :=
  ⟨h.1, h.2.imp id fun ⟨g, cap, cur, h1, h2, h3⟩ => ⟨g, cap, cur, h1, Nat.le_trans hb h2, h3⟩⟩
def sliceLen : Value → Nat
  | .slice _ n _ => n
  | _ => 0
def RaisePost (B : Nat) {σ : Type} (Inv : World → Nat → σ → Prop) (w : World) (r : Kid × Int × σ) (e : Ending) (w' : World) : Prop :=
  e = .returned (.tuple #[.agg (kidA r.1), .int .i64 r.2.1]) ∧ kidE.wf r.1 ∧ (∃ M, Inv w' M r.2.2) ∧ Below B w w' ∧ Fr w w'
end Go.Proofs.YthhmcjojnbaiiaaGreatDoor
