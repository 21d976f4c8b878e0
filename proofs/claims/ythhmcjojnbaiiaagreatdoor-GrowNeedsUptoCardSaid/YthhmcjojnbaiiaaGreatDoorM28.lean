/- Texts of the proof: Tr Rn Dw. -/
import Derived.Test.YthhmcjojnbaiiaaGreatDoorM22
import Derived.Test.YthhmcjojnbaiiaaGreatDoorM24
import Derived.Test.YthhmcjojnbaiiaaGreatDoorM12
import Derived.Test.YthhmcjojnbaiiaaGreatDoorM27
set_option linter.all false
/- Tree: the reader's node. -/
namespace Go.Proofs.YthhmcjojnbaiiaaGreatDoor
open Go Go.RowKit
set_option maxRecDepth 100000 in
set_option maxHeartbeats 400000 in
theorem rnode1_any (w : World) (n : Int) (d : ByteArray) (r t : Int) :
    Calls Tryz.prog 92 #[.agg #[.int .u32 n, .string d, .int .i64 r], .int .u32 t] w fun e w' => e = .returned (.int .i64 (cmpI n t)) ∧ Below w.heap.size w w' := by
  go_enter Tryz.func92, Tryz.ntmps92
  go_wp2_with (go_at_call 93; refine (cmpU32_any _ _ _).mono ?_; rintro e _ ⟨rfl, rfl⟩)
  go_ret
  exact ⟨rfl, (Below.refl _ _).alloc (Nat.le_refl _) _⟩
set_option maxRecDepth 100000 in
set_option maxHeartbeats 1000000 in
theorem bsCel_any (w : World) (v : Value) (xs : List Cel) (t : Int) (hv : Sl celE w v xs) (hso : Rising (xs.map (·.num))) (hlen : xs.length ≤ 4398046511104) :
    Calls Tryz.prog 91 #[v, .int .u32 t, .func (.func 92) #[] #[]] w fun e w' => e = .returned (.tuple #[.int .i64 (numPos (xs.map (·.num)) t), .bool (numHas (xs.map (·.num)) t)]) ∧ Below w.heap.size w w' := by
  obtain ⟨A, c, rfl, hc, hc2, hrow⟩ := hv
  have HR := Lib.hid hrow
  have HS := Lib.hid hso
  clear hrow hso
  go_enter Tryz.func91, Tryz.ntmps91
  go_wp2
  go_loopw [9, 10, 11] (fun vi vj _ wr => ∃ i j : Nat, i ≤ j ∧ j ≤ xs.length ∧ vi = .int .i64 i ∧ vj = .int .i64 j ∧ (∀ k (h : k < xs.length), k < i → xs[k].num < t) ∧ (∀ k (h : k < xs.length), j ≤ k → t ≤ xs[k].num) ∧ Below w.heap.size w wr) (fun vi vj _ _ => (intOf vj).toNat - (intOf vi).toNat)
  case atStart => exact ⟨0, xs.length, Nat.zero_le _, Nat.le_refl _, rfl, rfl, fun k _ h => by omega, fun k h h' => by omega, Below.refl _ _⟩
  case round =>
    obtain ⟨i, j, hij, hj, rfl, rfl, hlo, hhi, hB⟩ := hrel
    by_cases hlt : i < j
    · have hm : (i + j) / 2 < xs.length := by omega
      obtain ⟨b, o, rfl, hat, hwf⟩ := HR.out ((i + j) / 2) hm
      have hb : b < w.heap.size := hat.lt (by simp [celE])
      have hat2 := hat.below hB (Nat.le_refl _)
      have d0 := hat2.cell 0 _ rfl
      have d1 := hat2.cell 1 _ rfl
      have d2 := hat2.cell 2 _ rfl
      have hbr : b < wr.heap.size := Nat.lt_of_lt_of_le hb hB.size
      have HL := Lib.hid (And.intro hlo (And.intro hhi hB))
      clear hlo hhi hB hat hat2 hwf
      simp only [celE, Nat.add_zero] at d0 d1 d2
      by_cases hbl : xs[(i + j) / 2].num < t
      · have hn := cmpI_neg xs[(i + j) / 2].num t
        rw [decide_eq_true hbl] at hn
        have HBL := Lib.hid (show ∀ k (h : k < xs.length), k < (i + j) / 2 + 1 → xs[k].num < t from fun k hk hki => by have := rising_mono HS.out t k ((i + j) / 2) (by simpa using hk) (by simpa using hm) (by omega) (by simpa using hbl); simpa using this)
        clear hbl
        generalize xs[(i + j) / 2].num = kk at *
        generalize xs[(i + j) / 2].data = kv at *
        generalize xs[(i + j) / 2].refs = kr at *
        go_wp2_with (go_at_call 92; refine (rnode1_any _ _ _ _ _).mono ?_; rintro e w1 ⟨rfl, hb1⟩)
        refine ⟨⟨(i + j) / 2 + 1, j, by omega, hj, by go_num, rfl, HBL.out, HL.out.2.1, Below.step HL.out.2.2 hb1⟩, ?_⟩
        simp [intOf]; omega
      · have hn := cmpI_neg xs[(i + j) / 2].num t
        rw [decide_eq_false hbl] at hn
        have HBL := Lib.hid (show ∀ k (h : k < xs.length), (i + j) / 2 ≤ k → t ≤ xs[k].num from fun k hk hki => Int.not_lt.1 fun hh => hbl (by have := rising_mono HS.out t ((i + j) / 2) k (by simpa using hm) (by simpa using hk) hki (by simpa using hh); simpa using this))
        clear hbl
        generalize xs[(i + j) / 2].num = kk at *
        generalize xs[(i + j) / 2].data = kv at *
        generalize xs[(i + j) / 2].refs = kr at *
        go_wp2_with (go_at_call 92; refine (rnode1_any _ _ _ _ _).mono ?_; rintro e w1 ⟨rfl, hb1⟩)
        refine ⟨⟨i, (i + j) / 2, by omega, by omega, rfl, by go_num, HL.out.1, HBL.out, Below.step HL.out.2.2 hb1⟩, ?_⟩
        simp [intOf]; omega
    · obtain rfl : i = j := by omega
      have hpos : numPos (xs.map (·.num)) t = i := by
        refine takeWhile_len _ (xs.map (·.num)) i (by simpa using hj) (fun k h hk => ?_) (fun h => ?_)
        · have := hlo k (by simpa using h) hk; simpa using this
        · have := hhi i (by simpa using h) (Nat.le_refl _); simpa using this
      by_cases hi : i < xs.length
      · obtain ⟨b, o, rfl, hat, hwf⟩ := HR.out i hi
        have hb : b < w.heap.size := hat.lt (by simp [celE])
        have hat2 := hat.below hB (Nat.le_refl _)
        have d0 := hat2.cell 0 _ rfl
        have d1 := hat2.cell 1 _ rfl
        have d2 := hat2.cell 2 _ rfl
        have hbr : b < wr.heap.size := Nat.lt_of_lt_of_le hb hB.size
        have hhas : numHas (xs.map (·.num)) t = (cmpI xs[i].num t == 0) := by unfold numHas hasAt; rw [hpos, List.getElem?_map, List.getElem?_eq_getElem hi, cmpI_zero]; rfl
        have HL := Lib.hid (And.intro hpos (And.intro hhas hB))
        clear hlo hhi hB hat hat2 hwf hpos hhas
        simp only [celE, Nat.add_zero] at d0 d1 d2
        generalize xs[i].num = kk at *
        generalize xs[i].data = kv at *
        generalize xs[i].refs = kr at *
        go_wp2_with (go_at_call 92; refine (rnode1_any _ _ _ _ _).mono ?_; rintro e w1 ⟨rfl, hb1⟩)
        go_ret2
        obtain ⟨e1, e2, e3⟩ := HL.out
        exact ⟨by rw [e1, e2]; rfl, Below.step e3 hb1⟩
      · have hhas : numHas (xs.map (·.num)) t = false := by unfold numHas hasAt; rw [hpos, List.getElem?_eq_none (by rw [List.length_map]; omega)]
        have HL := Lib.hid (And.intro hpos (And.intro hhas hB))
        clear hlo hhi hB hpos hhas
        go_wp2
        go_ret2
        obtain ⟨e1, e2, e3⟩ := HL.out
        exact ⟨by rw [e1, e2]; rfl, e3⟩
end Go.Proofs.YthhmcjojnbaiiaaGreatDoor

/- Tree: the reader's state; its node. -/
namespace Go.Proofs.YthhmcjojnbaiiaaGreatDoor
open Go Go.RowKit
structure RdS where
  blocks : List Int
  items : List Item
  bad : Bool
def celAt (cs : List Cel) (t : Int) : Option Cel := if numHas (cs.map (·.num)) t then cs[numPos (cs.map (·.num)) t]? else none
def nodeAt (cs : List Cel) (t : Int) : Node × Bool := match celAt cs t with
  | none => (noNode, false)
  | some c => (decN c.data, decB c.data)
/-- The reader at block rp, made at w0. -/
structure RdAt (w0 w : World) (rp : Nat) (C bv iv : Value) (cs : List Cel) (r : RdS) : Prop where
  low : w0.heap.size ≤ rp
  bl : Below w0.heap.size w0 w
  src : Sl celE w0 C cs
  blk : ∃ m, w.heap[rp]? = some (.cells #[C, bv, iv, .bool r.bad, .int .u64 m] 87 (0, 0))
  ob : w.ownsRow w0.heap.size 22 1 bv r.blocks.length (r.blocks.map (Value.int .u32))
  oi : w.ownsRow w0.heap.size 32 2 iv r.items.length (r.items.flatMap itemE.enc)
  wf : ∀ x ∈ r.items, itemE.wf x
/-- What the reader's steps change: its block, its two rows. -/
structure Rs (rp : Nat) (w : World) (bv iv : Value) (w' : World) (bv' iv' : Value) : Prop where
  os : w'.os = w.os
  tape : w'.tape = w.tape
  output : w'.output = w.output
  size : w.heap.size ≤ w'.heap.size
  block : ∀ b, b < w.heap.size → b ≠ rp → some b ≠ bv.ownBlock → some b ≠ iv.ownBlock → w'.heap[b]? = w.heap[b]?
  nb : ∀ g, bv'.ownBlock = some g → bv.ownBlock = some g ∨ w.heap.size ≤ g
  ni : ∀ g, iv'.ownBlock = some g → iv.ownBlock = some g ∨ w.heap.size ≤ g
theorem Rs.of_below {rp : Nat} {w w' : World} {bv iv : Value} (h : Below w.heap.size w w') : Rs rp w bv iv w' bv iv :=
  ⟨h.os, h.tape, h.output, h.size, fun b hb _ _ _ => h.block b hb, fun _ h => Or.inl h, fun _ h => Or.inl h⟩
theorem Rs.trans {rp : Nat} {w w1 w2 : World} {bv iv b1 i1 b2 i2 : Value} (h : Rs rp w bv iv w1 b1 i1) (k : Rs rp w1 b1 i1 w2 b2 i2) : Rs rp w bv iv w2 b2 i2 := by
  refine ⟨k.os.trans h.os, k.tape.trans h.tape, k.output.trans h.output, Nat.le_trans h.size k.size, fun b hb n1 n2 n3 => ?_, fun g hg => ?_, fun g hg => ?_⟩
  · have hb1 := Nat.lt_of_lt_of_le hb h.size
    refine (k.block b hb1 n1 (fun e => ?_) (fun e => ?_)).trans (h.block b hb n1 n2 n3)
    · rcases h.nb b e.symm with h1 | h1
      · exact n2 h1.symm
      · omega
    · rcases h.ni b e.symm with h1 | h1
      · exact n3 h1.symm
      · omega
  · rcases k.nb g hg with h1 | h1
    · exact h.nb g h1
    · exact Or.inr (Nat.le_trans h.size h1)
  · rcases k.ni g hg with h1 | h1
    · exact h.ni g h1
    · exact Or.inr (Nat.le_trans h.size h1)
section
variable {w0 w w' : World} {rp : Nat} {C bv iv : Value} {cs : List Cel} {r : RdS}
theorem RdAt.lt (h : RdAt w0 w rp C bv iv cs r) : rp < w.heap.size := by
  obtain ⟨m, hb⟩ := h.blk
  exact lt_of_block hb
theorem RdAt.below (h : RdAt w0 w rp C bv iv cs r) (hb : Below w.heap.size w w') : RdAt w0 w' rp C bv iv cs r := by
  obtain ⟨m, hm⟩ := h.blk
  exact ⟨h.low, h.bl.trans (hb.mono h.bl.size), h.src, ⟨m, (hb.block _ (lt_of_block hm)).trans hm⟩, (Fr.of_below hb).own h.ob (by unfold BadT; decide), (Fr.of_below hb).own h.oi (by unfold BadT; decide), h.wf⟩
/-- Only the meter has changed. -/
theorem RdAt.meter (h : RdAt w0 w rp C bv iv cs r) (u : Int) : RdAt w0 (w.setCell ⟨rp, 4, none⟩ (.int .u64 u)) rp C bv iv cs r ∧ Rs rp w bv iv (w.setCell ⟨rp, 4, none⟩ (.int .u64 u)) bv iv := by
  obtain ⟨m, hm⟩ := h.blk
  have hg : w.grownBy (w.setCell ⟨rp, 4, none⟩ (.int .u64 u)) (some rp) := grown_set (World.grownBy.refl w (some rp)) 4 _
  exact ⟨⟨h.low, h.bl.setCell (p := ⟨rp, 4, none⟩) h.low _, h.src, ⟨u, blk_set hm 4 _⟩, own_keep h.ob hg hm (by decide), own_keep h.oi hg hm (by decide), h.wf⟩,
    ⟨hg.os, hg.tape, hg.output, hg.size, fun b hb n1 _ _ => hg.block b hb (by simpa using n1), fun _ h => Or.inl h, fun _ h => Or.inl h⟩⟩
/-- A block of another type, made since w0, is written. -/
theorem RdAt.other (h : RdAt w0 w rp C bv iv cs r) {g : Nat} {zs : Array Value} {t : TypeId} {fr : Nat × Nat} (hz : w.heap[g]? = some (.cells zs t fr)) (ht : t ≠ 87 ∧ t ≠ 22 ∧ t ≠ 32) (hg0 : w0.heap.size ≤ g) (hg : w.grownBy w' (some g)) : RdAt w0 w' rp C bv iv cs r := by
  obtain ⟨m, hm⟩ := h.blk
  have hne : g ≠ rp := by
    intro e
    subst e
    rw [hz] at hm
    injection hm with hm
    injection hm with _ hm _
    exact ht.1 hm
  exact ⟨h.low, h.bl.trans ⟨hg.os, hg.tape, hg.output, hg.size, fun k hk => hg.block k (Nat.lt_of_lt_of_le hk h.bl.size) (by simp; omega)⟩, h.src, ⟨m, (hg.block _ (lt_of_block hm) (by simpa using fun e => hne e.symm)).trans hm⟩, own_keep h.ob hg hz ht.2.1, own_keep h.oi hg hz ht.2.2, h.wf⟩
theorem Rs.new {w1 : World} {b1 i1 : Value} (h : Rs rp w bv iv w1 b1 i1) {g : Nat} (hn : w.heap.size ≤ g) (hg : w1.grownBy w' (some g)) : Rs rp w bv iv w' b1 i1 :=
  ⟨hg.os.trans h.os, hg.tape.trans h.tape, hg.output.trans h.output, Nat.le_trans h.size hg.size, fun b hb n1 n2 n3 => (hg.block b (Nat.lt_of_lt_of_le hb h.size) (by simp; omega)).trans (h.block b hb n1 n2 n3), h.nb, h.ni⟩
end
/-- Rows that lie in blocks that stay. -/
theorem sl_fresh {α : Type} {E : Enc α} {w w' : World} {B : Nat} {v : Value} {xs : List α} (h : Sl E w v xs) (hf : ∀ g, v.ownBlock = some g → B ≤ g) (hk : ∀ b, B ≤ b → b < w.heap.size → w'.heap[b]? = w.heap[b]?) : Sl E w' v xs := by
  obtain ⟨A, c, rfl, h1, h2, h3⟩ := h
  refine ⟨A, c, rfl, h1, h2, fun k hk' => ?_⟩
  obtain ⟨b, o, rfl, hat, hwf⟩ := h3 k hk'
  refine ⟨b, o, rfl, hat.heap (hk b (hf b rfl) (hat.lt ?_)), hwf⟩
  intro e
  have := E.len _ hwf
  rw [e] at this
  have := E.pos
  simp at *; omega
theorem NodeF.keep {B : Nat} {w w' : World} {v : Value} {n : Node} (h : NodeF B w v n) (hk : ∀ b, B ≤ b → b < w.heap.size → w'.heap[b]? = w.heap[b]?) : NodeF B w' v n := by
  obtain ⟨⟨a, b, c, rfl, h1, h2, h3, h4⟩, hf⟩ := h
  obtain ⟨f1, f2, f3⟩ := hf _ _ _ _ rfl
  exact ⟨⟨a, b, c, rfl, sl_fresh h1 f1 hk, sl_fresh h2 f2 hk, sl_fresh h3 f3 hk, h4⟩, hf⟩
theorem NodeF.le {B B' : Nat} {w : World} {v : Value} {n : Node} (h : NodeF B w v n) (hB : B' ≤ B) : NodeF B' w v n := ⟨h.1, fresh_le h.2 hB⟩
theorem built_node0 : Tryz.prog.built 44 [] = some #[.int .u8 0, .slice none 0 0, .slice none 0 0, .slice none 0 0] := by kernel_rfl
theorem numPos_lt {ns : List Int} {t : Int} (h : numHas ns t = true) : numPos ns t < ns.length := by
  unfold numHas hasAt at h
  split at h
  · rename_i x hx
    exact (List.getElem?_eq_some_iff.1 hx).1
  · cases h
theorem node_cells_one' (kd : Int) (A1 : Option Addr) (n1 c1 : Nat) (A2 : Option Addr) (n2 c2 : Nat) (A3 : Option Addr) (n3 c3 : Nat) : ∀ u ∈ [Value.int .u8 kd, .slice A1 n1 c1, .slice A2 n2 c2, .slice A3 n3 c3], u.oneCell' = true := by
  intro u hu
  simp at hu
  rcases hu with rfl | rfl | rfl | rfl <;> rfl
def RnPost (w0 w : World) (rp : Nat) (C bv iv : Value) (cs : List Cel) (r : RdS) (n : Node × Bool) (e : Ending) (w' : World) : Prop :=
  ∃ v, e = .returned (.tuple #[v, .bool n.2]) ∧ NodeF w.heap.size w' v n.1 ∧ RdAt w0 w' rp C bv iv cs r ∧ Rs rp w bv iv w' bv iv
set_option maxRecDepth 100000 in
set_option maxHeartbeats 1000000 in
theorem rnode_any (w0 w : World) (rp : Nat) (C bv iv : Value) (cs : List Cel) (r : RdS) (num : Int) (h : RdAt w0 w rp C bv iv cs r) (hris : Rising (cs.map (·.num))) (hlen : cs.length ≤ 1073741824) :
    Calls Tryz.prog 61 #[.pointer (some ⟨rp, 0, none⟩), .int .u32 num] w fun e w' => RnPost w0 w rp C bv iv cs r (nodeAt cs num) e w' := by
  have hB0 := below_box w (.cells #[.int .u8 0, .slice none 0 0, .slice none 0 0, .slice none 0 0] 44)
  have hr0 : (w.alloc (.cells #[.int .u8 0, .slice none 0 0, .slice none 0 0, .slice none 0 0] 44)).heap[w.heap.size]? = some (.cells #[.int .u8 0, .slice none 0 0, .slice none 0 0, .slice none 0 0] 44 (0, 0)) := heap_alloc_new _ _
  obtain ⟨A, cn, cc, hC⟩ := sl_slice h.src
  subst hC
  have hrl := h.lt
  obtain ⟨m, hm⟩ := h.blk
  have c0 : w.cell? ⟨rp, 0, none⟩ = some (.slice A cn cc) := by rw [cell_of_row _ _ _ _ _ _ hm]; rfl
  have H0 := Lib.hid (And.intro h (And.intro hB0 (And.intro hr0 hris)))
  clear h hm hB0 hr0 hris
  go_enter Tryz.func61, Tryz.ntmps61
  go_wp2_with (fail)
  go_at_call 91
  refine (bsCel_any _ _ cs num ((H0.out.1.src.below H0.out.1.bl (Nat.le_refl _)).below H0.out.2.1 (Nat.le_refl _)) H0.out.2.2.2 (by omega)).mono ?_
  rintro e w1 ⟨rfl, hb1⟩
  have hB1 : Below w.heap.size w w1 := H0.out.2.1.trans (hb1.mono (by simp))
  have hr1 := (hb1.block w.heap.size (by simp)).trans H0.out.2.2.1
  have H1 := Lib.hid (And.intro hB1 (And.intro hr1 (H0.out.1.below hB1)))
  have hrl1 := lt_of_block hr1
  clear hb1 hB1 hr1
  cases hhas : numHas (cs.map (·.num)) num with
  | false =>
    have HN := Lib.hid (show nodeAt cs num = (noNode, false) by unfold nodeAt celAt; rw [hhas]; rfl)
    have HS := Lib.hid (fresh_drop H1.out.1 #[.int .u8 0, .slice none 0 0, .slice none 0 0, .slice none 0 0] _ _ H1.out.2.1)
    clear hhas
    go_wp2_with (first
      | ((with_reducible refine probe_build 44 ?_); refine wpList_build_cells rfl 44 _ rfl [] rfl _ built_node0 ?_)
      | ((with_reducible refine probe_storeT 44 ?_); refine wpList_store_at rfl 44 (.tmp 4) _ rfl w.heap.size 0 rfl [.int .u8 0, .slice none 0 0, .slice none 0 0, .slice none 0 0] rfl 44 _ H1.out.2.1 (by simp) (by intro v hv; simp at hv; rcases hv with rfl | rfl | rfl | rfl <;> rfl) node_size ?_))
    refine bodyPost_ret (results_node rfl _ w.heap.size _ (0, 0) _ rfl HS.out.1 rfl) rfl ⟨.agg #[.int .u8 0, .slice none 0 0, .slice none 0 0, .slice none 0 0], ?_, ?_, H0.out.1.below HS.out.2, Rs.of_below HS.out.2⟩
    · rw [HN.out]; rfl
    · rw [HN.out]; exact nil_nodeF _ _
  | true =>
    have hpl := numPos_lt hhas
    rw [List.length_map] at hpl
    obtain ⟨cl, hcl⟩ : ∃ cl, cs[numPos (cs.map (·.num)) num] = cl := ⟨_, rfl⟩
    have HN := Lib.hid (show nodeAt cs num = (decN cl.data, decB cl.data) by
      unfold nodeAt celAt
      rw [hhas, if_pos rfl, List.getElem?_eq_getElem hpl, hcl])
    obtain ⟨b, o, rfl, hat, hwf⟩ := (H0.out.1.src.len_eq).2.2.2 _ hpl
    have hcn := (H0.out.1.src.len_eq).1
    rw [hcl] at hat hwf
    have hb0 : b < w0.heap.size := hat.lt (by simp [celE])
    have hrl0 : w0.heap.size ≤ rp := H0.out.1.low
    clear hhas hcl
    generalize numPos (cs.map (·.num)) num = ix at *
    have hipos : 0 ≤ (ix : Int) := by omega
    have hilt : (ix : Int) < cn := by omega
    obtain ⟨m1, hm1⟩ := H1.out.2.2.blk
    have c4 : w1.cell? ⟨rp, 4, none⟩ = some (.int .u64 m1) := by rw [cell_of_row _ _ _ _ _ _ hm1]; rfl
    have f4 := frozen_of_row w1 rp 4 _ _ hm1
    have HWF := Lib.hid (And.intro hat hwf)
    clear hm1 hat hwf c0
    go_wp2_with (fail)
    go_at_call 94
    refine (meter_add _ _ _ _ _ c4 f4).mono ?_
    rintro e _ ⟨vm, u, rfl, rfl⟩
    obtain ⟨hr2, hs2⟩ := H1.out.2.2.meter u
    have hrr2 := (hs2.block w.heap.size hrl1 (by omega) (fun e => by have := (H0.out.1.ob.lt _ e.symm).2; omega) (fun e => by have := (H0.out.1.oi.lt _ e.symm).2; omega)).trans H1.out.2.1
    obtain ⟨m2, hm2⟩ := hr2.blk
    have d0 : (w1.setCell ⟨rp, 4, none⟩ (.int .u64 u)).cell? ⟨rp, 0, none⟩ = some (.slice (some ⟨b, o, none⟩) cn cc) := by rw [cell_of_row _ _ _ _ _ _ hm2]; rfl
    have hatc := HWF.out.1.below hr2.bl (Nat.le_refl _)
    have d1 := hatc.cell 1 _ rfl
    simp only [celE] at d1
    have H2 := Lib.hid (And.intro hr2 (And.intro hs2 hrr2))
    clear hr2 hs2 hrr2 hm2 c4 f4 hatc
    generalize w1.setCell ⟨rp, 4, none⟩ (.int .u64 u) = w2 at *
    go_wp2_with (fail)
    go_at_call 65
    refine (decode_fresh _ cl.data HWF.out.2.2.1).mono ?_
    rintro e w3 ⟨v, rfl, hnf, _, hb3⟩
    have HNF := Lib.hid hnf
    obtain ⟨⟨va, vb, vc, rfl, ha, hb, hc, _⟩, _⟩ := hnf
    obtain ⟨A1, n1, c1, rfl⟩ := sl_slice ha
    obtain ⟨A2, n2, c2, rfl⟩ := sl_slice hb
    obtain ⟨A3, n3, c3, rfl⟩ := sl_slice hc
    generalize hkd : (decN cl.data).kind = kd at *
    have hb4 := hb3.trans ((below_box w3 (.cells #[.int .u8 kd, .slice A1 n1 c1, .slice A2 n2 c2, .slice A3 n3 c3] 44)).mono hb3.size)
    have hrr4 := (hb4.block _ (lt_of_block H2.out.2.2)).trans H2.out.2.2
    have hat4 := at_block (heap_alloc_new w3 (.cells (List.toArray [.int .u8 kd, .slice A1 n1 c1, .slice A2 n2 c2, .slice A3 n3 c3]) 44))
    have hw2 : w.heap.size ≤ w2.heap.size := Nat.le_trans (Nat.le_of_lt hrl1) H2.out.2.1.size
    have hset : (w3.alloc (.cells #[.int .u8 kd, .slice A1 n1 c1, .slice A2 n2 c2, .slice A3 n3 c3] 44)).grownBy ((w3.alloc (.cells #[.int .u8 kd, .slice A1 n1 c1, .slice A2 n2 c2, .slice A3 n3 c3] 44)).setRow w.heap.size #[.int .u8 kd, .slice A1 n1 c1, .slice A2 n2 c2, .slice A3 n3 c3]) (some w.heap.size) :=
      ⟨rfl, rfl, rfl, by simp [World.setRow], fun k _ hk => heap_setRow_other _ _ _ _ (by simpa using hk)⟩
    have hrd := (H2.out.1.below hb4).other hrr4 ⟨by decide, by decide, by decide⟩ (H0.out.1.bl.size) hset
    have hrs := (((Rs.of_below (rp := rp) (bv := bv) (iv := iv) H1.out.1).trans H2.out.2.1).trans (Rs.of_below hb4)).new (Nat.le_refl _) hset
    have hrlw2 := lt_of_block H2.out.2.2
    have hnf2 := (HNF.out.keep (w' := (w3.alloc (.cells #[.int .u8 kd, .slice A1 n1 c1, .slice A2 n2 c2, .slice A3 n3 c3] 44)).setRow w.heap.size #[.int .u8 kd, .slice A1 n1 c1, .slice A2 n2 c2, .slice A3 n3 c3]) (fun b' hb' hlt => by
      rw [heap_setRow_other _ _ _ _ (by omega)]; exact Lib.alloc_old _ _ _ hlt)).le hw2
    have HF := Lib.hid (And.intro (heap_setRow_same _ w.heap.size #[.int .u8 kd, .slice A1 n1 c1, .slice A2 n2 c2, .slice A3 n3 c3] _ _ hrr4) (And.intro hrd (And.intro hrs (And.intro hnf2 hrr4))))
    have HKD := Lib.hid hkd
    have HD := Lib.hid (show decE cl.data = if decB cl.data then 0 else 9 from rfl)
    clear hb3 hb4 hset hrd hrs hnf2 ha hb hc hkd hrr4 d0 d1 hb0
    cases hdb : decB cl.data with
    | true =>
      have HDB := Lib.hid hdb
      have HE := Lib.hid (show decE cl.data = 0 by rw [HD.out, hdb]; rfl)
      rw [HE.out]
      clear hdb
      go_wp2_with (first
        | ((with_reducible refine probe_storeT 44 ?_); refine wpList_store_new rfl 44 (.tmp 8) (.tmp 36) rfl 44 _ rfl [.int .u8 kd, .slice A1 n1 c1, .slice A2 n2 c2, .slice A3 n3 c3] rfl rfl (node_cells_one' _ _ _ _ _ _ _ _ _ _) node_size ?_)
        | ((with_reducible refine probe_loadT 44 ?_); refine wpList_load_at rfl 44 (.tmp 8) rfl w3.heap.size 0 rfl [.int .u8 kd, .slice A1 n1 c1, .slice A2 n2 c2, .slice A3 n3 c3] _ hat4 Tryz.underlying44 rfl node_size ?_)
        | ((with_reducible refine probe_storeT 44 ?_); refine wpList_store_at rfl 44 (.tmp 4) _ rfl w.heap.size 0 rfl [.int .u8 kd, .slice A1 n1 c1, .slice A2 n2 c2, .slice A3 n3 c3] rfl 44 _ HF.out.2.2.2.2 (by simp) (node_cells_one' _ _ _ _ _ _ _ _ _ _) node_size ?_))
      refine bodyPost_ret (results_node rfl _ w.heap.size _ (0, 0) _ rfl HF.out.1 rfl) rfl ⟨.agg #[.int .u8 kd, .slice A1 n1 c1, .slice A2 n2 c2, .slice A3 n3 c3], ?_, ?_, HF.out.2.1, HF.out.2.2.1⟩
      · rw [HN.out, HDB.out]; rfl
      · rw [HN.out]; exact HF.out.2.2.2.1
    | false =>
      have HDB := Lib.hid hdb
      have HE := Lib.hid (show decE cl.data = 9 by rw [HD.out, hdb]; rfl)
      rw [HE.out]
      clear hdb
      go_wp2_with (first
        | ((with_reducible refine probe_storeT 44 ?_); refine wpList_store_new rfl 44 (.tmp 8) (.tmp 36) rfl 44 _ rfl [.int .u8 kd, .slice A1 n1 c1, .slice A2 n2 c2, .slice A3 n3 c3] rfl rfl (node_cells_one' _ _ _ _ _ _ _ _ _ _) node_size ?_)
        | ((with_reducible refine probe_loadT 44 ?_); refine wpList_load_at rfl 44 (.tmp 8) rfl w3.heap.size 0 rfl [.int .u8 kd, .slice A1 n1 c1, .slice A2 n2 c2, .slice A3 n3 c3] _ hat4 Tryz.underlying44 rfl node_size ?_)
        | ((with_reducible refine probe_storeT 44 ?_); refine wpList_store_at rfl 44 (.tmp 4) _ rfl w.heap.size 0 rfl [.int .u8 kd, .slice A1 n1 c1, .slice A2 n2 c2, .slice A3 n3 c3] rfl 44 _ HF.out.2.2.2.2 (by simp) (node_cells_one' _ _ _ _ _ _ _ _ _ _) node_size ?_))
      refine bodyPost_ret (results_node rfl _ w.heap.size _ (0, 0) _ rfl HF.out.1 rfl) rfl ⟨.agg #[.int .u8 kd, .slice A1 n1 c1, .slice A2 n2 c2, .slice A3 n3 c3], ?_, ?_, HF.out.2.1, HF.out.2.2.1⟩
      · rw [HN.out, HDB.out]; rfl
      · rw [HN.out]; exact HF.out.2.2.2.1
end Go.Proofs.YthhmcjojnbaiiaaGreatDoor

/- Plain: the reader's walk down, as a function. -/
namespace Go.Proofs.YthhmcjojnbaiiaaGreatDoor
open Go Go.RowKit
def keyAt (l : List Item) (i : Nat) : ByteArray := (l[i]?.map (·.key)).getD ByteArray.empty
/-- What makes a kid's walk bad. -/
def kidBad (k : Kid) (at_ i lv : Nat) (x : Nat × RdS) : Bool := x.2.bad || (!beqB (keyAt x.2.items at_) k.key || (decide (0 < i) && decide (x.1 ≠ lv)))
def downKids (f : Int → RdS → Nat × RdS) : List Kid → Nat → Nat → RdS → Nat × RdS
  | [], _, lv, r => (lv + 1, r)
  | k :: ks, i, lv, r =>
    if kidBad k r.items.length i lv (f k.num r) then (0, { (f k.num r).2 with bad := true })
    else downKids f ks (i + 1) (f k.num r).1 (f k.num r).2
def downS (cs : List Cel) : Nat → Int → RdS → Nat × RdS
  | 0, _, r => (0, { r with bad := true })
  | m + 1, num, r =>
    if (nodeAt cs num).2 = false ∨ (nodeAt cs num).1.kind = 3 then (0, { r with bad := true })
    else if (nodeAt cs num).1.kind = 1 then (1, { r with blocks := r.blocks ++ [num], items := r.items ++ (nodeAt cs num).1.items })
    else downKids (downS cs m) (nodeAt cs num).1.kids 0 0 { r with blocks := r.blocks ++ [num] }
theorem dec_shape {s : ByteArray} (h : decB s = true) : nodeErr (decN s) = 0 := by
  unfold decN
  rw [if_pos h]
  unfold decB at h
  simp only [Bool.and_eq_true, decide_eq_true_eq, beq_iff_eq] at h
  exact h.2.2.1
theorem node_kinds {n : Node} (h : nodeErr n = 0) : (n.kind = 1 ∧ n.items ≠ []) ∨ (n.kind = 2 ∧ n.kids ≠ []) ∨ n.kind = 3 := by
  have hs : shapedB n = true := by
    unfold nodeErr at h
    cases hs : shapedB n with
    | true => rfl
    | false => rw [hs] at h; simp at h
  unfold shapedB at hs
  split at hs
  · rename_i hk
    simp only [Bool.and_eq_true, decide_eq_true_eq] at hs
    exact Or.inl ⟨hk, fun e => by rw [e] at hs; simp at hs⟩
  · split at hs
    · rename_i hk
      simp only [Bool.and_eq_true] at hs
      exact Or.inr (Or.inl ⟨hk, fun e => by have := hs.2; rw [e] at this; simp [kidsOk] at this⟩)
    · split at hs
      · rename_i hk
        exact Or.inr (Or.inr hk)
      · cases hs
theorem nodeAt_kinds {cs : List Cel} {t : Int} (h : (nodeAt cs t).2 = true) : ((nodeAt cs t).1.kind = 1 ∧ (nodeAt cs t).1.items ≠ []) ∨ ((nodeAt cs t).1.kind = 2 ∧ (nodeAt cs t).1.kids ≠ []) ∨ (nodeAt cs t).1.kind = 3 := by
  unfold nodeAt at h ⊢
  cases hc : celAt cs t with
  | none => rw [hc] at h; cases h
  | some c => rw [hc] at h; exact node_kinds (dec_shape h)
/-- A walk only adds; one that is not bad adds an item. -/
def Grows (r : RdS) (x : Nat × RdS) : Prop := r.items.length ≤ x.2.items.length ∧ r.blocks.length ≤ x.2.blocks.length ∧ (x.2.bad = false → r.items.length < x.2.items.length)
theorem downKids_grows {f : Int → RdS → Nat × RdS} (hf : ∀ t r, Grows r (f t r)) : ∀ (ks : List Kid) (i lv : Nat) (r : RdS), (r.items.length ≤ (downKids f ks i lv r).2.items.length ∧ r.blocks.length ≤ (downKids f ks i lv r).2.blocks.length) ∧ (ks ≠ [] → Grows r (downKids f ks i lv r))
  | [], i, lv, r => ⟨⟨Nat.le_refl _, Nat.le_refl _⟩, fun h => absurd rfl h⟩
  | k :: ks, i, lv, r => by
    have h := hf k.num r
    unfold downKids
    split
    · exact ⟨⟨h.1, h.2.1⟩, fun _ => ⟨h.1, h.2.1, fun e => by cases e⟩⟩
    · rename_i hb
      have ih := (downKids_grows hf ks (i + 1) (f k.num r).1 (f k.num r).2).1
      refine ⟨⟨Nat.le_trans h.1 ih.1, Nat.le_trans h.2.1 ih.2⟩, fun _ => ⟨Nat.le_trans h.1 ih.1, Nat.le_trans h.2.1 ih.2, fun _ => ?_⟩⟩
      have hbf : (f k.num r).2.bad = false := by
        cases hx : (f k.num r).2.bad with
        | false => rfl
        | true => exact absurd (by unfold kidBad; rw [hx]; rfl) hb
      exact Nat.lt_of_lt_of_le (h.2.2 hbf) ih.1
theorem downS_grows (cs : List Cel) : ∀ (m : Nat) (t : Int) (r : RdS), Grows r (downS cs m t r)
  | 0, t, r => ⟨Nat.le_refl _, Nat.le_refl _, fun e => by cases e⟩
  | m + 1, t, r => by
    unfold downS
    split
    · exact ⟨Nat.le_refl _, Nat.le_refl _, fun e => by cases e⟩
    · rename_i hn
      have hi : (nodeAt cs t).2 = true := by
        cases hx : (nodeAt cs t).2 with
        | true => rfl
        | false => exact absurd (Or.inl hx) hn
      have hk := nodeAt_kinds hi
      split
      · rename_i h1
        rcases hk with ⟨_, hne⟩ | ⟨h2, _⟩ | h3
        · have := List.length_pos_iff.2 hne
          refine ⟨by simp, by simp, fun _ => by simp; omega⟩
        · omega
        · omega
      · rename_i h1
        rcases hk with ⟨h2, _⟩ | ⟨_, hne⟩ | h3
        · exact absurd h2 h1
        · have := (downKids_grows (fun t r => downS_grows cs m t r) (nodeAt cs t).1.kids 0 0 { r with blocks := r.blocks ++ [t] }).2 hne
          exact ⟨this.1, Nat.le_trans (by simp) this.2.1, this.2.2⟩
        · exact absurd (Or.inr h3) hn
theorem downKids_le {f : Int → RdS → Nat × RdS} {m : Nat} (hf : ∀ t r, (f t r).1 ≤ m) : ∀ (ks : List Kid) (i lv : Nat) (r : RdS), lv ≤ m → (downKids f ks i lv r).1 ≤ m + 1
  | [], i, lv, r, h => by unfold downKids; simp only; omega
  | k :: ks, i, lv, r, h => by
    unfold downKids
    split
    · exact Nat.zero_le _
    · exact downKids_le hf ks (i + 1) _ _ (hf _ _)
theorem downS_le (cs : List Cel) : ∀ (m : Nat) (t : Int) (r : RdS), (downS cs m t r).1 ≤ m
  | 0, _, _ => Nat.le_refl _
  | m + 1, t, r => by
    unfold downS
    split
    · exact Nat.zero_le _
    · split
      · exact Nat.succ_le_succ (Nat.zero_le _)
      · exact downKids_le (fun t r => downS_le cs m t r) _ _ _ _ (Nat.zero_le _)
end Go.Proofs.YthhmcjojnbaiiaaGreatDoor
