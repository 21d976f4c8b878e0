/- Texts of the proof: Rn Dw Do. -/
import Derived.Test.YthhmcjojnbaiiaaGreatDoorM32
import Derived.Test.YthhmcjojnbaiiaaGreatDoorM24
import Derived.Test.YthhmcjojnbaiiaaGreatDoorM35
import Derived.Deep.RegionLaw
import Derived.Deep.AppendLies
import Derived.Test.YthhmcjojnbaiiaaGreatDoorM37
import Derived.BigRegion
set_option linter.all false
/- Tree: the reader's state; its node. -/
namespace Go.Proofs.YthhmcjojnbaiiaaGreatDoor
open Go Go.RowKit
structure RdS where
  blocks : List Int
  items : List Item
  bad : Bool
def celAt (cs : List Cel) (t : Int) : Option Cel := if numHas (cs.map (·.num)) t then cs[numPos (cs.map (·.num)) t]? else none
def nodeAt (cs : List Cel) (t : Int) : Node × Bool := match celAt cs t with
  | none => (noNode, false)
  | some c => (decN c.data, decB c.data)
/-- The reader at block rp, made at w0. -/
structure RdAt (w0 w : World) (rp : Nat) (C bv iv : Value) (cs : List Cel) (r : RdS) : Prop where
  low : w0.heap.size ≤ rp
  bl : Below w0.heap.size w0 w
  src : Sl celE w0 C cs
  blk : ∃ m, w.heap[rp]? = some (.cells #[C, bv, iv, .bool r.bad, .int .u64 m] 87 (0, 0))
  ob : w.ownsRow w0.heap.size 22 1 bv r.blocks.length (r.blocks.map (Value.int .u32))
  oi : w.ownsRow w0.heap.size 32 2 iv r.items.length (r.items.flatMap itemE.enc)
  wf : ∀ x ∈ r.items, itemE.wf x
/-- What the reader's steps change: its block, its two rows. -/
structure Rs (rp : Nat) (w : World) (bv iv : Value) (w' : World) (bv' iv' : Value) : Prop where
  os : w'.os = w.os
  tape : w'.tape = w.tape
  output : w'.output = w.output
  size : w.heap.size ≤ w'.heap.size
  block : ∀ b, b < w.heap.size → b ≠ rp → some b ≠ bv.ownBlock → some b ≠ iv.ownBlock → w'.heap[b]? = w.heap[b]?
  nb : ∀ g, bv'.ownBlock = some g → bv.ownBlock = some g ∨ w.heap.size ≤ g
  ni : ∀ g, iv'.ownBlock = some g → iv.ownBlock = some g ∨ w.heap.size ≤ g
theorem Rs.of_below {rp : Nat} {w w' : World} {bv iv : Value} (h : Below w.heap.size w w') : Rs rp w bv iv w' bv iv :=
  ⟨h.os, h.tape, h.output, h.size, fun b hb _ _ _ => h.block b hb, fun _ h => Or.inl h, fun _ h => Or.inl h⟩
theorem Rs.trans {rp : Nat} {w w1 w2 : World} {bv iv b1 i1 b2 i2 : Value} (h : Rs rp w bv iv w1 b1 i1) (k : Rs rp w1 b1 i1 w2 b2 i2) : Rs rp w bv iv w2 b2 i2 := by
  refine ⟨k.os.trans h.os, k.tape.trans h.tape, k.output.trans h.output, Nat.le_trans h.size k.size, fun b hb n1 n2 n3 => ?_, fun g hg => ?_, fun g hg => ?_⟩
  · have hb1 := Nat.lt_of_lt_of_le hb h.size
    refine (k.block b hb1 n1 (fun e => ?_) (fun e => ?_)).trans (h.block b hb n1 n2 n3)
    · rcases h.nb b e.symm with h1 | h1
      · exact n2 h1.symm
      · omega
    · rcases h.ni b e.symm with h1 | h1
      · exact n3 h1.symm
      · omega
  · rcases k.nb g hg with h1 | h1
    · exact h.nb g h1
    · exact Or.inr (Nat.le_trans h.size h1)
  · rcases k.ni g hg with h1 | h1
    · exact h.ni g h1
    · exact Or.inr (Nat.le_trans h.size h1)
section
variable {w0 w w' : World} {rp : Nat} {C bv iv : Value} {cs : List Cel} {r : RdS}
theorem RdAt.lt (h : RdAt w0 w rp C bv iv cs r) : rp < w.heap.size := by
  obtain ⟨m, hb⟩ := h.blk
  exact lt_of_block hb
theorem RdAt.below (h : RdAt w0 w rp C bv iv cs r) (hb : Below w.heap.size w w') : RdAt w0 w' rp C bv iv cs r := by
  obtain ⟨m, hm⟩ := h.blk
  exact ⟨h.low, h.bl.trans (hb.mono h.bl.size), h.src, ⟨m, (hb.block _ (lt_of_block hm)).trans hm⟩, (Fr.of_below hb).own h.ob (by unfold BadT; decide), (Fr.of_below hb).own h.oi (by unfold BadT; decide), h.wf⟩
/-- Only the meter has changed. -/
theorem RdAt.meter (h : RdAt w0 w rp C bv iv cs r) (u : Int) : RdAt w0 (w.setCell ⟨rp, 4, none⟩ (.int .u64 u)) rp C bv iv cs r ∧ Rs rp w bv iv (w.setCell ⟨rp, 4, none⟩ (.int .u64 u)) bv iv := by
  obtain ⟨m, hm⟩ := h.blk
  have hg : w.grownBy (w.setCell ⟨rp, 4, none⟩ (.int .u64 u)) (some rp) := grown_set (World.grownBy.refl w (some rp)) 4 _
  exact ⟨⟨h.low, h.bl.setCell (p := ⟨rp, 4, none⟩) h.low _, h.src, ⟨u, blk_set hm 4 _⟩, own_keep h.ob hg hm (by decide), own_keep h.oi hg hm (by decide), h.wf⟩,
    ⟨hg.os, hg.tape, hg.output, hg.size, fun b hb n1 _ _ => hg.block b hb (by simpa using n1), fun _ h => Or.inl h, fun _ h => Or.inl h⟩⟩
/-- A block of another type, made since w0, is written. -/
theorem RdAt.other (h : RdAt w0 w rp C bv iv cs r) {g : Nat} {zs : Array Value} {t : TypeId} {fr : Nat × Nat} (hz : w.heap[g]? = some (.cells zs t fr)) (ht : t ≠ 87 ∧ t ≠ 22 ∧ t ≠ 32) (hg0 : w0.heap.size ≤ g) (hg : w.grownBy w' (some g)) : RdAt w0 w' rp C bv iv cs r := by
  obtain ⟨m, hm⟩ := h.blk
  have hne : g ≠ rp := by
    intro e
    subst e
    rw [hz] at hm
    injection hm with hm
    injection hm with _ hm _
    exact ht.1 hm
  exact ⟨h.low, h.bl.trans ⟨hg.os, hg.tape, hg.output, hg.size, fun k hk => hg.block k (Nat.lt_of_lt_of_le hk h.bl.size) (by simp; omega)⟩, h.src, ⟨m, (hg.block _ (lt_of_block hm) (by simpa using fun e => hne e.symm)).trans hm⟩, own_keep h.ob hg hz ht.2.1, own_keep h.oi hg hz ht.2.2, h.wf⟩
theorem Rs.new {w1 : World} {b1 i1 : Value} (h : Rs rp w bv iv w1 b1 i1) {g : Nat} (hn : w.heap.size ≤ g) (hg : w1.grownBy w' (some g)) : Rs rp w bv iv w' b1 i1 :=
  ⟨hg.os.trans h.os, hg.tape.trans h.tape, hg.output.trans h.output, Nat.le_trans h.size hg.size, fun b hb n1 n2 n3 => (hg.block b (Nat.lt_of_lt_of_le hb h.size) (by simp; omega)).trans (h.block b hb n1 n2 n3), h.nb, h.ni⟩
end
/-- Rows that lie in blocks that stay. -/
theorem sl_fresh {α : Type} {E : Enc α} {w w' : World} {B : Nat} {v : Value} {xs : List α} (h : Sl E w v xs) (hf : ∀ g, v.ownBlock = some g → B ≤ g) (hk : ∀ b, B ≤ b → b < w.heap.size → w'.heap[b]? = w.heap[b]?) : Sl E w' v xs := by
  obtain ⟨A, c, rfl, h1, h2, h3⟩ := h
  refine ⟨A, c, rfl, h1, h2, fun k hk' => ?_⟩
  obtain ⟨b, o, rfl, hat, hwf⟩ := h3 k hk'
  refine ⟨b, o, rfl, hat.heap (hk b (hf b rfl) (hat.lt ?_)), hwf⟩
  intro e
  have := E.len _ hwf
  rw [e] at this
  have := E.pos
  simp at *; omega
theorem NodeF.keep {B : Nat} {w w' : World} {v : Value} {n : Node} (h : NodeF B w v n) (hk : ∀ b, B ≤ b → b < w.heap.size → w'.heap[b]? = w.heap[b]?) : NodeF B w' v n := by
  obtain ⟨⟨a, b, c, rfl, h1, h2, h3, h4⟩, hf⟩ := h
  obtain ⟨f1, f2, f3⟩ := hf _ _ _ _ rfl
  exact ⟨⟨a, b, c, rfl, sl_fresh h1 f1 hk, sl_fresh h2 f2 hk, sl_fresh h3 f3 hk, h4⟩, hf⟩
theorem NodeF.le {B B' : Nat} {w : World} {v : Value} {n : Node} (h : NodeF B w v n) (hB : B' ≤ B) : NodeF B' w v n := ⟨h.1, fresh_le h.2 hB⟩
theorem built_node0 : Tryz.prog.built 44 [] = some #[.int .u8 0, .slice none 0 0, .slice none 0 0, .slice none 0 0] := by kernel_rfl
theorem numPos_lt {ns : List Int} {t : Int} (h : numHas ns t = true) : numPos ns t < ns.length := by
  unfold numHas hasAt at h
  split at h
  · rename_i x hx
    exact (List.getElem?_eq_some_iff.1 hx).1
  · cases h
theorem node_cells_one' (kd : Int) (A1 : Option Addr) (n1 c1 : Nat) (A2 : Option Addr) (n2 c2 : Nat) (A3 : Option Addr) (n3 c3 : Nat) : ∀ u ∈ [Value.int .u8 kd, .slice A1 n1 c1, .slice A2 n2 c2, .slice A3 n3 c3], u.oneCell' = true := by
  intro u hu
  simp at hu
  rcases hu with rfl | rfl | rfl | rfl <;> rfl
def RnPost (w0 w : World) (rp : Nat) (C bv iv : Value) (cs : List Cel) (r : RdS) (n : Node × Bool) (e : Ending) (w' : World) : Prop :=
  ∃ v, e = .returned (.tuple #[v, .bool n.2]) ∧ NodeF w.heap.size w' v n.1 ∧ RdAt w0 w' rp C bv iv cs r ∧ Rs rp w bv iv w' bv iv
set_option maxRecDepth 100000 in
set_option maxHeartbeats 1000000 in
theorem rnode_any (w0 w : World) (rp : Nat) (C bv iv : Value) (cs : List Cel) (r : RdS) (num : Int) (h : RdAt w0 w rp C bv iv cs r) (hris : Rising (cs.map (·.num))) (hlen : cs.length ≤ 1073741824) :
    Calls Tryz.prog 61 #[.pointer (some ⟨rp, 0, none⟩), .int .u32 num] w fun e w' => RnPost w0 w rp C bv iv cs r (nodeAt cs num) e w' := by
  have hB0 := below_box w (.cells #[.int .u8 0, .slice none 0 0, .slice none 0 0, .slice none 0 0] 44)
  have hr0 : (w.alloc (.cells #[.int .u8 0, .slice none 0 0, .slice none 0 0, .slice none 0 0] 44)).heap[w.heap.size]? = some (.cells #[.int .u8 0, .slice none 0 0, .slice none 0 0, .slice none 0 0] 44 (0, 0)) := heap_alloc_new _ _
  obtain ⟨A, cn, cc, hC⟩ := sl_slice h.src
  subst hC
  have hrl := h.lt
  obtain ⟨m, hm⟩ := h.blk
  have c0 : w.cell? ⟨rp, 0, none⟩ = some (.slice A cn cc) := by rw [cell_of_row _ _ _ _ _ _ hm]; rfl
  have H0 := Lib.hid (And.intro h (And.intro hB0 (And.intro hr0 hris)))
  clear h hm hB0 hr0 hris
  go_enter Tryz.func61, Tryz.ntmps61
  go_wp2_with (fail)
  go_at_call 91
  refine (bsCel_any _ _ cs num ((H0.out.1.src.below H0.out.1.bl (Nat.le_refl _)).below H0.out.2.1 (Nat.le_refl _)) H0.out.2.2.2 (by omega)).mono ?_
  rintro e w1 ⟨rfl, hb1⟩
  have hB1 : Below w.heap.size w w1 := H0.out.2.1.trans (hb1.mono (by simp))
  have hr1 := (hb1.block w.heap.size (by simp)).trans H0.out.2.2.1
  have H1 := Lib.hid (And.intro hB1 (And.intro hr1 (H0.out.1.below hB1)))
  have hrl1 := lt_of_block hr1
  clear hb1 hB1 hr1
  cases hhas : numHas (cs.map (·.num)) num with
  | false =>
    have HN := Lib.hid (show nodeAt cs num = (noNode, false) by unfold nodeAt celAt; rw [hhas]; rfl)
    have HS := Lib.hid (fresh_drop H1.out.1 #[.int .u8 0, .slice none 0 0, .slice none 0 0, .slice none 0 0] _ _ H1.out.2.1)
    clear hhas
    go_wp2_with (first
      | ((with_reducible refine probe_build 44 ?_); refine wpList_build_cells rfl 44 _ rfl [] rfl _ built_node0 ?_)
      | ((with_reducible refine probe_storeT 44 ?_); refine wpList_store_at rfl 44 (.tmp 4) _ rfl w.heap.size 0 rfl [.int .u8 0, .slice none 0 0, .slice none 0 0, .slice none 0 0] rfl 44 _ H1.out.2.1 (by simp) (by intro v hv; simp at hv; rcases hv with rfl | rfl | rfl | rfl <;> rfl) node_size ?_))
    refine bodyPost_ret (results_node rfl _ w.heap.size _ (0, 0) _ rfl HS.out.1 rfl) rfl ⟨.agg #[.int .u8 0, .slice none 0 0, .slice none 0 0, .slice none 0 0], ?_, ?_, H0.out.1.below HS.out.2, Rs.of_below HS.out.2⟩
    · rw [HN.out]; rfl
    · rw [HN.out]; exact nil_nodeF _ _
  | true =>
    have hpl := numPos_lt hhas
    rw [List.length_map] at hpl
    obtain ⟨cl, hcl⟩ : ∃ cl, cs[numPos (cs.map (·.num)) num] = cl := ⟨_, rfl⟩
    have HN := Lib.hid (show nodeAt cs num = (decN cl.data, decB cl.data) by
      unfold nodeAt celAt
      rw [hhas, if_pos rfl, List.getElem?_eq_getElem hpl, hcl])
    obtain ⟨b, o, rfl, hat, hwf⟩ := (H0.out.1.src.len_eq).2.2.2 _ hpl
    have hcn := (H0.out.1.src.len_eq).1
    rw [hcl] at hat hwf
    have hb0 : b < w0.heap.size := hat.lt (by simp [celE])
    have hrl0 : w0.heap.size ≤ rp := H0.out.1.low
    clear hhas hcl
    generalize numPos (cs.map (·.num)) num = ix at *
    have hipos : 0 ≤ (ix : Int) := by omega
    have hilt : (ix : Int) < cn := by omega
    obtain ⟨m1, hm1⟩ := H1.out.2.2.blk
    have c4 : w1.cell? ⟨rp, 4, none⟩ = some (.int .u64 m1) := by rw [cell_of_row _ _ _ _ _ _ hm1]; rfl
    have f4 := frozen_of_row w1 rp 4 _ _ hm1
    have HWF := Lib.hid (And.intro hat hwf)
    clear hm1 hat hwf c0
    go_wp2_with (fail)
    go_at_call 94
    refine (meter_add _ _ _ _ _ c4 f4).mono ?_
    rintro e _ ⟨vm, u, rfl, rfl⟩
    obtain ⟨hr2, hs2⟩ := H1.out.2.2.meter u
    have hrr2 := (hs2.block w.heap.size hrl1 (by omega) (fun e => by have := (H0.out.1.ob.lt _ e.symm).2; omega) (fun e => by have := (H0.out.1.oi.lt _ e.symm).2; omega)).trans H1.out.2.1
    obtain ⟨m2, hm2⟩ := hr2.blk
    have d0 : (w1.setCell ⟨rp, 4, none⟩ (.int .u64 u)).cell? ⟨rp, 0, none⟩ = some (.slice (some ⟨b, o, none⟩) cn cc) := by rw [cell_of_row _ _ _ _ _ _ hm2]; rfl
    have hatc := HWF.out.1.below hr2.bl (Nat.le_refl _)
    have d1 := hatc.cell 1 _ rfl
    simp only [celE] at d1
    have H2 := Lib.hid (And.intro hr2 (And.intro hs2 hrr2))
    clear hr2 hs2 hrr2 hm2 c4 f4 hatc
    generalize w1.setCell ⟨rp, 4, none⟩ (.int .u64 u) = w2 at *
    go_wp2_with (fail)
    go_at_call 65
    refine (decode_fresh _ cl.data HWF.out.2.2.1).mono ?_
    rintro e w3 ⟨v, rfl, hnf, _, hb3⟩
    have HNF := Lib.hid hnf
    obtain ⟨⟨va, vb, vc, rfl, ha, hb, hc, _⟩, _⟩ := hnf
    obtain ⟨A1, n1, c1, rfl⟩ := sl_slice ha
    obtain ⟨A2, n2, c2, rfl⟩ := sl_slice hb
    obtain ⟨A3, n3, c3, rfl⟩ := sl_slice hc
    generalize hkd : (decN cl.data).kind = kd at *
    have hb4 := hb3.trans ((below_box w3 (.cells #[.int .u8 kd, .slice A1 n1 c1, .slice A2 n2 c2, .slice A3 n3 c3] 44)).mono hb3.size)
    have hrr4 := (hb4.block _ (lt_of_block H2.out.2.2)).trans H2.out.2.2
    have hat4 := at_block (heap_alloc_new w3 (.cells (List.toArray [.int .u8 kd, .slice A1 n1 c1, .slice A2 n2 c2, .slice A3 n3 c3]) 44))
    have hw2 : w.heap.size ≤ w2.heap.size := Nat.le_trans (Nat.le_of_lt hrl1) H2.out.2.1.size
    have hset : (w3.alloc (.cells #[.int .u8 kd, .slice A1 n1 c1, .slice A2 n2 c2, .slice A3 n3 c3] 44)).grownBy ((w3.alloc (.cells #[.int .u8 kd, .slice A1 n1 c1, .slice A2 n2 c2, .slice A3 n3 c3] 44)).setRow w.heap.size #[.int .u8 kd, .slice A1 n1 c1, .slice A2 n2 c2, .slice A3 n3 c3]) (some w.heap.size) :=
      ⟨rfl, rfl, rfl, by simp [World.setRow], fun k _ hk => heap_setRow_other _ _ _ _ (by simpa using hk)⟩
    have hrd := (H2.out.1.below hb4).other hrr4 ⟨by decide, by decide, by decide⟩ (H0.out.1.bl.size) hset
    have hrs := (((Rs.of_below (rp := rp) (bv := bv) (iv := iv) H1.out.1).trans H2.out.2.1).trans (Rs.of_below hb4)).new (Nat.le_refl _) hset
    have hrlw2 := lt_of_block H2.out.2.2
    have hnf2 := (HNF.out.keep (w' := (w3.alloc (.cells #[.int .u8 kd, .slice A1 n1 c1, .slice A2 n2 c2, .slice A3 n3 c3] 44)).setRow w.heap.size #[.int .u8 kd, .slice A1 n1 c1, .slice A2 n2 c2, .slice A3 n3 c3]) (fun b' hb' hlt => by
      rw [heap_setRow_other _ _ _ _ (by omega)]; exact Lib.alloc_old _ _ _ hlt)).le hw2
    have HF := Lib.hid (And.intro (heap_setRow_same _ w.heap.size #[.int .u8 kd, .slice A1 n1 c1, .slice A2 n2 c2, .slice A3 n3 c3] _ _ hrr4) (And.intro hrd (And.intro hrs (And.intro hnf2 hrr4))))
    have HKD := Lib.hid hkd
    have HD := Lib.hid (show decE cl.data = if decB cl.data then 0 else 9 from rfl)
    clear hb3 hb4 hset hrd hrs hnf2 ha hb hc hkd hrr4 d0 d1 hb0
    cases hdb : decB cl.data with
    | true =>
      have HDB := Lib.hid hdb
      have HE := Lib.hid (show decE cl.data = 0 by rw [HD.out, hdb]; rfl)
      rw [HE.out]
      clear hdb
      go_wp2_with (first
        | ((with_reducible refine probe_storeT 44 ?_); refine wpList_store_new rfl 44 (.tmp 8) (.tmp 36) rfl 44 _ rfl [.int .u8 kd, .slice A1 n1 c1, .slice A2 n2 c2, .slice A3 n3 c3] rfl rfl (node_cells_one' _ _ _ _ _ _ _ _ _ _) node_size ?_)
        | ((with_reducible refine probe_loadT 44 ?_); refine wpList_load_at rfl 44 (.tmp 8) rfl w3.heap.size 0 rfl [.int .u8 kd, .slice A1 n1 c1, .slice A2 n2 c2, .slice A3 n3 c3] _ hat4 Tryz.underlying44 rfl node_size ?_)
        | ((with_reducible refine probe_storeT 44 ?_); refine wpList_store_at rfl 44 (.tmp 4) _ rfl w.heap.size 0 rfl [.int .u8 kd, .slice A1 n1 c1, .slice A2 n2 c2, .slice A3 n3 c3] rfl 44 _ HF.out.2.2.2.2 (by simp) (node_cells_one' _ _ _ _ _ _ _ _ _ _) node_size ?_))
      refine bodyPost_ret (results_node rfl _ w.heap.size _ (0, 0) _ rfl HF.out.1 rfl) rfl ⟨.agg #[.int .u8 kd, .slice A1 n1 c1, .slice A2 n2 c2, .slice A3 n3 c3], ?_, ?_, HF.out.2.1, HF.out.2.2.1⟩
      · rw [HN.out, HDB.out]; rfl
      · rw [HN.out]; exact HF.out.2.2.2.1
    | false =>
      have HDB := Lib.hid hdb
      have HE := Lib.hid (show decE cl.data = 9 by rw [HD.out, hdb]; rfl)
      rw [HE.out]
      clear hdb
      go_wp2_with (first
        | ((with_reducible refine probe_storeT 44 ?_); refine wpList_store_new rfl 44 (.tmp 8) (.tmp 36) rfl 44 _ rfl [.int .u8 kd, .slice A1 n1 c1, .slice A2 n2 c2, .slice A3 n3 c3] rfl rfl (node_cells_one' _ _ _ _ _ _ _ _ _ _) node_size ?_)
        | ((with_reducible refine probe_loadT 44 ?_); refine wpList_load_at rfl 44 (.tmp 8) rfl w3.heap.size 0 rfl [.int .u8 kd, .slice A1 n1 c1, .slice A2 n2 c2, .slice A3 n3 c3] _ hat4 Tryz.underlying44 rfl node_size ?_)
        | ((with_reducible refine probe_storeT 44 ?_); refine wpList_store_at rfl 44 (.tmp 4) _ rfl w.heap.size 0 rfl [.int .u8 kd, .slice A1 n1 c1, .slice A2 n2 c2, .slice A3 n3 c3] rfl 44 _ HF.out.2.2.2.2 (by simp) (node_cells_one' _ _ _ _ _ _ _ _ _ _) node_size ?_))
      refine bodyPost_ret (results_node rfl _ w.heap.size _ (0, 0) _ rfl HF.out.1 rfl) rfl ⟨.agg #[.int .u8 kd, .slice A1 n1 c1, .slice A2 n2 c2, .slice A3 n3 c3], ?_, ?_, HF.out.2.1, HF.out.2.2.1⟩
      · rw [HN.out, HDB.out]; rfl
      · rw [HN.out]; exact HF.out.2.2.2.1
end Go.Proofs.YthhmcjojnbaiiaaGreatDoor

/- Plain: the reader's walk down, as a function. -/
namespace Go.Proofs.YthhmcjojnbaiiaaGreatDoor
open Go Go.RowKit
def keyAt (l : List Item) (i : Nat) : ByteArray := (l[i]?.map (·.key)).getD ByteArray.empty
/-- What makes a kid's walk bad. -/
def kidBad (k : Kid) (at_ i lv : Nat) (x : Nat × RdS) : Bool := x.2.bad || (!beqB (keyAt x.2.items at_) k.key || (decide (0 < i) && decide (x.1 ≠ lv)))
def downKids (f : Int → RdS → Nat × RdS) : List Kid → Nat → Nat → RdS → Nat × RdS
  | [], _, lv, r => (lv + 1, r)
  | k :: ks, i, lv, r =>
    if kidBad k r.items.length i lv (f k.num r) then (0, { (f k.num r).2 with bad := true })
    else downKids f ks (i + 1) (f k.num r).1 (f k.num r).2
def downS (cs : List Cel) : Nat → Int → RdS → Nat × RdS
  | 0, _, r => (0, { r with bad := true })
  | m + 1, num, r =>
    if (nodeAt cs num).2 = false ∨ (nodeAt cs num).1.kind = 3 then (0, { r with bad := true })
    else if (nodeAt cs num).1.kind = 1 then (1, { r with blocks := r.blocks ++ [num], items := r.items ++ (nodeAt cs num).1.items })
    else downKids (downS cs m) (nodeAt cs num).1.kids 0 0 { r with blocks := r.blocks ++ [num] }
theorem dec_shape {s : ByteArray} (h : decB s = true) : nodeErr (decN s) = 0 := by
  unfold decN
  rw [if_pos h]
  unfold decB at h
  simp only [Bool.and_eq_true, decide_eq_true_eq, beq_iff_eq] at h
  exact h.2.2.1
theorem node_kinds {n : Node} (h : nodeErr n = 0) : (n.kind = 1 ∧ n.items ≠ []) ∨ (n.kind = 2 ∧ n.kids ≠ []) ∨ n.kind = 3 := by
  have hs : shapedB n = true := by
    unfold nodeErr at h
    cases hs : shapedB n with
    | true => rfl
    | false => rw [hs] at h; simp at h
  unfold shapedB at hs
  split at hs
  · rename_i hk
    simp only [Bool.and_eq_true, decide_eq_true_eq] at hs
    exact Or.inl ⟨hk, fun e => by rw [e] at hs; simp at hs⟩
  · split at hs
    · rename_i hk
      simp only [Bool.and_eq_true] at hs
      exact Or.inr (Or.inl ⟨hk, fun e => by have := hs.2; rw [e] at this; simp [kidsOk] at this⟩)
    · split at hs
      · rename_i hk
        exact Or.inr (Or.inr hk)
      · cases hs
theorem nodeAt_kinds {cs : List Cel} {t : Int} (h : (nodeAt cs t).2 = true) : ((nodeAt cs t).1.kind = 1 ∧ (nodeAt cs t).1.items ≠ []) ∨ ((nodeAt cs t).1.kind = 2 ∧ (nodeAt cs t).1.kids ≠ []) ∨ (nodeAt cs t).1.kind = 3 := by
  unfold nodeAt at h ⊢
  cases hc : celAt cs t with
  | none => rw [hc] at h; cases h
  | some c => rw [hc] at h; exact node_kinds (dec_shape h)
/-- A walk only adds; one that is not bad adds an item. -/
def Grows (r : RdS) (x : Nat × RdS) : Prop := r.items.length ≤ x.2.items.length ∧ r.blocks.length ≤ x.2.blocks.length ∧ (x.2.bad = false → r.items.length < x.2.items.length)
theorem downKids_grows {f : Int → RdS → Nat × RdS} (hf : ∀ t r, Grows r (f t r)) : ∀ (ks : List Kid) (i lv : Nat) (r : RdS), (r.items.length ≤ (downKids f ks i lv r).2.items.length ∧ r.blocks.length ≤ (downKids f ks i lv r).2.blocks.length) ∧ (ks ≠ [] → Grows r (downKids f ks i lv r))
  | [], i, lv, r => ⟨⟨Nat.le_refl _, Nat.le_refl _⟩, fun h => absurd rfl h⟩
  | k :: ks, i, lv, r => by
    have h := hf k.num r
    unfold downKids
    split
    · exact ⟨⟨h.1, h.2.1⟩, fun _ => ⟨h.1, h.2.1, fun e => by cases e⟩⟩
    · rename_i hb
      have ih := (downKids_grows hf ks (i + 1) (f k.num r).1 (f k.num r).2).1
      refine ⟨⟨Nat.le_trans h.1 ih.1, Nat.le_trans h.2.1 ih.2⟩, fun _ => ⟨Nat.le_trans h.1 ih.1, Nat.le_trans h.2.1 ih.2, fun _ => ?_⟩⟩
      have hbf : (f k.num r).2.bad = false := by
        cases hx : (f k.num r).2.bad with
        | false => rfl
        | true => exact absurd (by unfold kidBad; rw [hx]; rfl) hb
      exact Nat.lt_of_lt_of_le (h.2.2 hbf) ih.1
theorem downS_grows (cs : List Cel) : ∀ (m : Nat) (t : Int) (r : RdS), Grows r (downS cs m t r)
  | 0, t, r => ⟨Nat.le_refl _, Nat.le_refl _, fun e => by cases e⟩
  | m + 1, t, r => by
    unfold downS
    split
    · exact ⟨Nat.le_refl _, Nat.le_refl _, fun e => by cases e⟩
    · rename_i hn
      have hi : (nodeAt cs t).2 = true := by
        cases hx : (nodeAt cs t).2 with
        | true => rfl
        | false => exact absurd (Or.inl hx) hn
      have hk := nodeAt_kinds hi
      split
      · rename_i h1
        rcases hk with ⟨_, hne⟩ | ⟨h2, _⟩ | h3
        · have := List.length_pos_iff.2 hne
          refine ⟨by simp, by simp, fun _ => by simp; omega⟩
        · omega
        · omega
      · rename_i h1
        rcases hk with ⟨h2, _⟩ | ⟨_, hne⟩ | h3
        · exact absurd h2 h1
        · have := (downKids_grows (fun t r => downS_grows cs m t r) (nodeAt cs t).1.kids 0 0 { r with blocks := r.blocks ++ [t] }).2 hne
          exact ⟨this.1, Nat.le_trans (by simp) this.2.1, this.2.2⟩
        · exact absurd (Or.inr h3) hn
theorem downKids_le {f : Int → RdS → Nat × RdS} {m : Nat} (hf : ∀ t r, (f t r).1 ≤ m) : ∀ (ks : List Kid) (i lv : Nat) (r : RdS), lv ≤ m → (downKids f ks i lv r).1 ≤ m + 1
  | [], i, lv, r, h => by unfold downKids; simp only; omega
  | k :: ks, i, lv, r, h => by
    unfold downKids
    split
    · exact Nat.zero_le _
    · exact downKids_le hf ks (i + 1) _ _ (hf _ _)
theorem downS_le (cs : List Cel) : ∀ (m : Nat) (t : Int) (r : RdS), (downS cs m t r).1 ≤ m
  | 0, _, _ => Nat.le_refl _
  | m + 1, t, r => by
    unfold downS
    split
    · exact Nat.zero_le _
    · split
      · exact Nat.succ_le_succ (Nat.zero_le _)
      · exact downKids_le (fun t r => downS_le cs m t r) _ _ _ _ (Nat.zero_le _)
end Go.Proofs.YthhmcjojnbaiiaaGreatDoor

/- Tree: the reader's walk down. -/
namespace Go.Proofs.YthhmcjojnbaiiaaGreatDoor
open Go Go.RowKit
theorem u32_info2 : (Tryz.prog.info? 22).map (fun i => (i.zero.map (fun z => z.cells.size), i.size, i.bytes)) = some (some 1, 1, 4) := by kernel_rfl
section
variable {w0 w w' : World} {rp : Nat} {C bv iv : Value} {cs : List Cel} {r : RdS}
theorem blk_ne {w : World} {a b : Nat} {xs ys : Array Value} {t u : TypeId} {fr fr' : Nat × Nat} (h : w.heap[a]? = some (.cells xs t fr)) (k : w.heap[b]? = some (.cells ys u fr')) (ht : t ≠ u) : a ≠ b := by
  intro e
  subst e
  rw [h] at k
  injection k with k
  injection k with _ k _
  exact ht k
/-- One cell of the reader's block is written: the rows stand. -/
theorem RdAt.setBad (h : RdAt w0 w rp C bv iv cs r) (b : Bool) : RdAt w0 (w.setCell ⟨rp, 3, none⟩ (.bool b)) rp C bv iv cs { r with bad := b } ∧ Rs rp w bv iv (w.setCell ⟨rp, 3, none⟩ (.bool b)) bv iv := by
  obtain ⟨m, hm⟩ := h.blk
  have hg : w.grownBy (w.setCell ⟨rp, 3, none⟩ (.bool b)) (some rp) := grown_set (World.grownBy.refl w (some rp)) 3 _
  exact ⟨⟨h.low, h.bl.setCell (p := ⟨rp, 3, none⟩) h.low _, h.src, ⟨m, blk_set hm 3 _⟩, own_keep h.ob hg hm (by decide), own_keep h.oi hg hm (by decide), h.wf⟩,
    ⟨hg.os, hg.tape, hg.output, hg.size, fun b hb n1 _ _ => hg.block b hb (by simpa using n1), fun _ h => Or.inl h, fun _ h => Or.inl h⟩⟩
/-- A block was pushed, its row stored. -/
theorem RdAt.pushB (h : RdAt w0 w rp C bv iv cs r) {wd : World} {v' : Value} {num : Int} {o1 : Obj} (hown : wd.ownsRow w0.heap.size 22 1 v' (r.blocks.length + 1) (r.blocks.map (Value.int .u32) ++ [.int .u32 num])) (hg : (w.alloc o1).grownBy wd bv.ownBlock) :
    RdAt w0 (wd.setCell ⟨rp, 1, none⟩ v') rp C v' iv cs { r with blocks := r.blocks ++ [num] } ∧ ((∀ g, v'.ownBlock = some g → bv.ownBlock = some g ∨ w.heap.size ≤ g) → Rs rp w bv iv (wd.setCell ⟨rp, 1, none⟩ v') v' iv) := by
  obtain ⟨m, hm⟩ := h.blk
  have hm1 := (Lib.alloc_old w o1 _ (lt_of_block hm)).trans hm
  have hm2 := (hg.block rp (lt_of_block hm1) (fun e => own_ne (h.ob.alloc o1) hm1 (by decide) e.symm)).trans hm1
  have hoi : wd.ownsRow w0.heap.size 32 2 iv r.items.length (r.items.flatMap itemE.enc) := by
    refine (h.oi.alloc o1).kept hg ?_
    cases hbv : bv.ownBlock with
    | none =>
      cases hiv : iv.ownBlock with
      | none => exact Or.inl rfl
      | some g => exact Or.inr (by simp)
    | some g =>
      refine Or.inr fun e => ?_
      rcases h.ob.2 with ⟨rfl, _⟩ | ⟨g', _, cur, rfl, _, hb, _⟩
      · cases hbv
      · simp [Value.ownBlock] at hbv
        subst hbv
        exact own_ne h.oi hb (by decide) e
  have hs := grown_set (World.grownBy.refl wd (some rp)) 1 v'
  have hbl : Below w0.heap.size w0 wd := (h.bl.alloc h.bl.size o1).grown hg (by have := h.bl.size; simp; omega) (fun k hk => (h.ob.lt k hk).1)
  refine ⟨⟨h.low, hbl.setCell (p := ⟨rp, 1, none⟩) h.low _, h.src, ⟨m, blk_set hm2 1 _⟩, ?_, own_keep hoi hs hm2 (by decide), h.wf⟩, fun hv => ⟨hs.os.trans hg.os, hs.tape.trans hg.tape, hs.output.trans hg.output, Nat.le_trans (by simp) (Nat.le_trans hg.size hs.size), fun b hb n1 n2 _ => ?_, hv, fun _ h => Or.inl h⟩⟩
  · have := own_keep hown hs hm2 (by decide)
    simpa using this
  · have hlt : b < (w.alloc o1).heap.size := by simp; omega
    rw [hs.block b (Nat.lt_of_lt_of_le hlt hg.size) (by simpa using n1), hg.block b hlt n2]
    exact Lib.alloc_old w o1 b hb
/-- Items were added, their row stored. -/
theorem RdAt.pushI (h : RdAt w0 w rp C bv iv cs r) {wd : World} {v' : Value} {xs : List Item} (hx : ∀ x ∈ xs, itemE.wf x) (hown : wd.ownsRow w0.heap.size 32 2 v' (r.items.length + xs.length) (r.items.flatMap itemE.enc ++ xs.flatMap itemE.enc)) (hg : w.grownBy wd iv.ownBlock) :
    RdAt w0 (wd.setCell ⟨rp, 2, none⟩ v') rp C bv v' cs { r with items := r.items ++ xs } ∧ ((∀ g, v'.ownBlock = some g → iv.ownBlock = some g ∨ w.heap.size ≤ g) → Rs rp w bv iv (wd.setCell ⟨rp, 2, none⟩ v') bv v') := by
  obtain ⟨m, hm⟩ := h.blk
  have hm2 := (hg.block rp (lt_of_block hm) (fun e => own_ne h.oi hm (by decide) e.symm)).trans hm
  have hob : wd.ownsRow w0.heap.size 22 1 bv r.blocks.length (r.blocks.map (Value.int .u32)) := by
    refine h.ob.kept hg ?_
    cases hiv : iv.ownBlock with
    | none =>
      cases hbv : bv.ownBlock with
      | none => exact Or.inl rfl
      | some g => exact Or.inr (by simp)
    | some g =>
      refine Or.inr fun e => ?_
      rcases h.oi.2 with ⟨rfl, _⟩ | ⟨g', _, cur, rfl, _, hb, _⟩
      · cases hiv
      · simp [Value.ownBlock] at hiv
        subst hiv
        exact own_ne h.ob hb (by decide) e
  have hs := grown_set (World.grownBy.refl wd (some rp)) 2 v'
  have hbl : Below w0.heap.size w0 wd := h.bl.grown hg h.bl.size (fun k hk => (h.oi.lt k hk).1)
  refine ⟨⟨h.low, hbl.setCell (p := ⟨rp, 2, none⟩) h.low _, h.src, ⟨m, blk_set hm2 2 _⟩, own_keep hob hs hm2 (by decide), ?_, fun x hx' => ?_⟩, fun hv => ⟨hs.os.trans hg.os, hs.tape.trans hg.tape, hs.output.trans hg.output, Nat.le_trans hg.size hs.size, fun b hb n1 _ n3 => ?_, fun _ h => Or.inl h, hv⟩⟩
  · have := own_keep hown hs hm2 (by decide)
    simpa [List.flatMap_append] using this
  · rcases List.mem_append.1 hx' with h1 | h1
    · exact h.wf x h1
    · exact hx x h1
  · rw [hs.block b (Nat.lt_of_lt_of_le hb hg.size) (by simpa using n1), hg.block b hb n3]
end
theorem Rs.fresh {rp : Nat} {w w' : World} {bv iv b' i' : Value} (h : Rs rp w bv iv w' b' i') {B : Nat} (hrp : rp < B) (hb : ∀ g, bv.ownBlock = some g → g < B) (hi : ∀ g, iv.ownBlock = some g → g < B) : ∀ b, B ≤ b → b < w.heap.size → w'.heap[b]? = w.heap[b]? := fun b hB hlt =>
  h.block b hlt (by omega) (fun e => by have := hb b e.symm; omega) (fun e => by have := hi b e.symm; omega)
def DownPost (w0 w : World) (rp : Nat) (C bv iv : Value) (cs : List Cel) (x : Nat × RdS) (e : Ending) (w' : World) : Prop :=
  ∃ bv' iv', e = .returned (.int .i64 x.1) ∧ RdAt w0 w' rp C bv' iv' cs x.2 ∧ Rs rp w bv iv w' bv' iv'
def DoRel (w0 w2 : World) (rp : Nat) (C bv iv : Value) (cs : List Cel) (R : Nat × RdS) (m : Nat) (kids : List Kid) (vi vl : Value) (wr : World) : Prop :=
  ∃ (j lv : Nat) (r' : RdS) (bv' iv' : Value), j ≤ kids.length ∧ vi = .int .i64 j ∧ vl = .int .i64 lv ∧ R = downKids (downS cs m) (kids.drop j) j lv r' ∧ r'.bad = false ∧ lv ≤ 1073741824 ∧ RdAt w0 wr rp C bv' iv' cs r' ∧ Rs rp w2 bv iv wr bv' iv'
theorem doRel_mk {w0 w2 : World} {rp : Nat} {C bv iv : Value} {cs : List Cel} {R : Nat × RdS} {m : Nat} {kids : List Kid} {vi vl : Value} {wr : World} (j lv : Nat) (r' : RdS) (bv' iv' : Value) (h1 : j ≤ kids.length) (h2 : vi = .int .i64 j) (h3 : vl = .int .i64 lv) (h4 : R = downKids (downS cs m) (kids.drop j) j lv r') (h5 : r'.bad = false) (h6 : lv ≤ 1073741824) (h7 : RdAt w0 wr rp C bv' iv' cs r') (h8 : Rs rp w2 bv iv wr bv' iv') :
    DoRel w0 w2 rp C bv iv cs R m kids vi vl wr := ⟨j, lv, r', bv', iv', h1, h2, h3, h4, h5, h6, h7, h8⟩
set_option maxRecDepth 100000 in
set_option maxHeartbeats 4000000 in
theorem down_any (w0 : World) (rp : Nat) (C : Value) (cs : List Cel) (hris : Rising (cs.map (·.num))) (hlen : cs.length ≤ 1073741824) : ∀ (most : Nat) (w : World) (bv iv : Value) (r : RdS) (num : Int), most ≤ 1073741824 → RdAt w0 w rp C bv iv cs r → r.bad = false → (downS cs most num r).2.items.length ≤ 1073741824 → (downS cs most num r).2.blocks.length ≤ 1073741824 →
    Calls Tryz.prog 62 #[.pointer (some ⟨rp, 0, none⟩), .int .u32 num, .int .i64 most] w fun e w' => DownPost w0 w rp C bv iv cs (downS cs most num r) e w' := by
  intro most
  induction most with
  | zero =>
    intro w bv iv r num hm h hbad hil hbl
    have H0 := Lib.hid (And.intro h (And.intro hbad (And.intro hil hbl)))
    have hrl := h.lt
    clear h hbad hil hbl
    have HD := Lib.hid (show downS cs 0 num r = (0, { r with bad := true }) from rfl)
    rw [show ((0 : Nat) : Int) = 0 from rfl]
    go_enter Tryz.func62, Tryz.ntmps62
    go_wp2_with (fail)
    go_at_call 61
    refine (rnode_any w0 w rp C bv iv cs r num H0.out.1 hris hlen).mono ?_
    rintro e w1 ⟨v, rfl, hnf, hr1, hs1⟩
    have HNF := Lib.hid hnf
    obtain ⟨⟨va, vb, vc, rfl, ha, hb, hc, hk0, hk1⟩, hfv⟩ := hnf
    obtain ⟨A1, n1, c1, rfl⟩ := sl_slice ha
    obtain ⟨A2, n2, c2, rfl⟩ := sl_slice hb
    obtain ⟨A3, n3, c3, rfl⟩ := sl_slice hc
    obtain ⟨nd, hnd⟩ : ∃ nd, nodeAt cs num = nd := ⟨_, rfl⟩
    obtain ⟨n, isn⟩ := nd
    rw [hnd] at HNF ha hb hc hk0 hk1 ⊢
    simp only at HNF ha hb hc hk0 hk1 ⊢
    have HND := Lib.hid hnd
    have H1 := Lib.hid (And.intro hr1 hs1)
    have hr2 := hr1.below (below_box w1 (.cells #[.int .u8 n.kind, .slice A1 n1 c1, .slice A2 n2 c2, .slice A3 n3 c3] 44))
    have hs2 := hs1.trans (Rs.of_below (below_box w1 (.cells #[.int .u8 n.kind, .slice A1 n1 c1, .slice A2 n2 c2, .slice A3 n3 c3] 44)))
    have H2 := Lib.hid (And.intro hr2 hs2)
    have hw1 : w.heap.size ≤ w1.heap.size := hs1.size
    generalize hkd : n.kind = kd at *
    have HKD := Lib.hid hkd
    clear hnd hkd hr1 hs1 hr2 hs2 ha hb hc hfv
    have hb7 := heap_alloc_new w1 (.cells #[.int .u8 kd, .slice A1 n1 c1, .slice A2 n2 c2, .slice A3 n3 c3] 44)
    have hb12 := below_box w1 (.cells #[.int .u8 kd, .slice A1 n1 c1, .slice A2 n2 c2, .slice A3 n3 c3] 44)
    have HB7 := Lib.hid (And.intro hb7 hb12)
    clear hb7 hb12
    go_upto_region 2 with (first
        | ((with_reducible refine probe_storeT 44 ?_); refine wpList_store_new rfl 44 (.tmp 7) (.tmp 18) rfl 44 _ rfl [.int .u8 kd, .slice A1 n1 c1, .slice A2 n2 c2, .slice A3 n3 c3] rfl rfl (node_cells_one' _ _ _ _ _ _ _ _ _ _) node_size ?_))
    generalize w1.alloc (.cells #[.int .u8 kd, .slice A1 n1 c1, .slice A2 n2 c2, .slice A3 n3 c3] 44) = w2 at *
    obtain ⟨m2, hm2⟩ := H2.out.1.blk
    have d3 : w2.cell? ⟨rp, 3, none⟩ = some (.bool r.bad) := by rw [cell_of_row _ _ _ _ _ _ hm2]; rfl
    have f3 := frozen_of_row _ rp 3 _ _ hm2
    have hrl1 : rp < w1.heap.size := Nat.lt_of_lt_of_le hrl hw1
    have d1 : w2.cell? ⟨rp, 1, none⟩ = some bv := by rw [cell_of_row _ _ _ _ _ _ hm2]; rfl
    have HM2 := Lib.hid hm2
    have y0 : w2.cell? ⟨w1.heap.size, 0, none⟩ = some (.int .u8 kd) := by rw [cell_of_row _ _ _ _ _ _ HB7.out.1]; rfl
    have y1 : w2.cell? ⟨w1.heap.size, 1, none⟩ = some (.slice A1 n1 c1) := by rw [cell_of_row _ _ _ _ _ _ HB7.out.1]; rfl
    have y2 : w2.cell? ⟨w1.heap.size, 2, none⟩ = some (.slice A2 n2 c2) := by rw [cell_of_row _ _ _ _ _ _ HB7.out.1]; rfl
    clear hm2
    cases isn with
    | false =>
      go_wp2_with (fail)
      go_ret
      have hsb := H2.out.1.setBad true
      refine ⟨bv, iv, ?_, ?_, H2.out.2.trans hsb.2⟩
      · rw [HD.out]; rfl
      · rw [HD.out]; exact hsb.1
    | true =>
      go_wp2_with (fail)
      go_ret
      have hsb := H2.out.1.setBad true
      refine ⟨bv, iv, ?_, ?_, H2.out.2.trans hsb.2⟩
      · rw [HD.out]; rfl
      · rw [HD.out]; exact hsb.1
  | succ m ih =>
    intro w bv iv r num hm h hbad hil hbl
    obtain ⟨i0, z0, hi, hz0, hz1, hz2, hzs⟩ := info_open u32_info2
    obtain ⟨j0, yz, hj, hy0, hy1, hy2, hys⟩ := info_open item_info
    have H0 := Lib.hid (And.intro h (And.intro hbad (And.intro hil (And.intro hbl ih))))
    have hrl := h.lt
    clear h hbad hil hbl ih
    go_enter Tryz.func62, Tryz.ntmps62
    go_wp2_with (fail)
    go_at_call 61
    refine (rnode_any w0 w rp C bv iv cs r num H0.out.1 hris hlen).mono ?_
    rintro e w1 ⟨v, rfl, hnf, hr1, hs1⟩
    have HNF := Lib.hid hnf
    obtain ⟨⟨va, vb, vc, rfl, ha, hb, hc, hk0, hk1⟩, hfv⟩ := hnf
    obtain ⟨A1, n1, c1, rfl⟩ := sl_slice ha
    obtain ⟨A2, n2, c2, rfl⟩ := sl_slice hb
    obtain ⟨A3, n3, c3, rfl⟩ := sl_slice hc
    obtain ⟨nd, hnd⟩ : ∃ nd, nodeAt cs num = nd := ⟨_, rfl⟩
    obtain ⟨n, isn⟩ := nd
    rw [hnd] at HNF ha hb hc hk0 hk1 ⊢
    simp only at HNF ha hb hc hk0 hk1 ⊢
    have HND := Lib.hid hnd
    have H1 := Lib.hid (And.intro hr1 hs1)
    have hr2 := hr1.below (below_box w1 (.cells #[.int .u8 n.kind, .slice A1 n1 c1, .slice A2 n2 c2, .slice A3 n3 c3] 44))
    have hs2 := hs1.trans (Rs.of_below (below_box w1 (.cells #[.int .u8 n.kind, .slice A1 n1 c1, .slice A2 n2 c2, .slice A3 n3 c3] 44)))
    have H2 := Lib.hid (And.intro hr2 hs2)
    have hw1 : w.heap.size ≤ w1.heap.size := hs1.size
    generalize hkd : n.kind = kd at *
    have HKD := Lib.hid hkd
    clear hnd hkd hr1 hs1 hr2 hs2 ha hb hc hfv
    have hb7 := heap_alloc_new w1 (.cells #[.int .u8 kd, .slice A1 n1 c1, .slice A2 n2 c2, .slice A3 n3 c3] 44)
    have hb12 := below_box w1 (.cells #[.int .u8 kd, .slice A1 n1 c1, .slice A2 n2 c2, .slice A3 n3 c3] 44)
    have HB7 := Lib.hid (And.intro hb7 hb12)
    clear hb7 hb12
    go_upto_region 2 with (first
        | ((with_reducible refine probe_storeT 44 ?_); refine wpList_store_new rfl 44 (.tmp 7) (.tmp 18) rfl 44 _ rfl [.int .u8 kd, .slice A1 n1 c1, .slice A2 n2 c2, .slice A3 n3 c3] rfl rfl (node_cells_one' _ _ _ _ _ _ _ _ _ _) node_size ?_))
    generalize w1.alloc (.cells #[.int .u8 kd, .slice A1 n1 c1, .slice A2 n2 c2, .slice A3 n3 c3] 44) = w2 at *
    obtain ⟨m2, hm2⟩ := H2.out.1.blk
    have d3 : w2.cell? ⟨rp, 3, none⟩ = some (.bool r.bad) := by rw [cell_of_row _ _ _ _ _ _ hm2]; rfl
    have f3 := frozen_of_row _ rp 3 _ _ hm2
    have hrl1 : rp < w1.heap.size := Nat.lt_of_lt_of_le hrl hw1
    have d1 : w2.cell? ⟨rp, 1, none⟩ = some bv := by rw [cell_of_row _ _ _ _ _ _ hm2]; rfl
    have HM2 := Lib.hid hm2
    have y0 : w2.cell? ⟨w1.heap.size, 0, none⟩ = some (.int .u8 kd) := by rw [cell_of_row _ _ _ _ _ _ HB7.out.1]; rfl
    have y1 : w2.cell? ⟨w1.heap.size, 1, none⟩ = some (.slice A1 n1 c1) := by rw [cell_of_row _ _ _ _ _ _ HB7.out.1]; rfl
    have y2 : w2.cell? ⟨w1.heap.size, 2, none⟩ = some (.slice A2 n2 c2) := by rw [cell_of_row _ _ _ _ _ _ HB7.out.1]; rfl
    clear hm2
    cases isn with
    | false =>
      have HD := Lib.hid (show downS cs (m + 1) num r = (0, { r with bad := true }) by unfold downS; rw [HND.out, if_pos (Or.inl rfl)])
      go_wp2_with (fail)
      go_ret
      have hsb := H2.out.1.setBad true
      refine ⟨bv, iv, ?_, ?_, H2.out.2.trans hsb.2⟩
      · rw [HD.out]; rfl
      · rw [HD.out]; exact hsb.1
    | true =>
      have HK := Lib.hid (show (n.kind = 1 ∧ n.items ≠ []) ∨ (n.kind = 2 ∧ n.kids ≠ []) ∨ n.kind = 3 from by have h9 := nodeAt_kinds (cs := cs) (t := num); rw [HND.out] at h9; exact h9 rfl)
      have hmq : ((m : Int) + 1 == 0) = false := by simp; omega
      by_cases hk3 : kd = 3
      · have HD := Lib.hid (show downS cs (m + 1) num r = (0, { r with bad := true }) by unfold downS; rw [HND.out, if_pos (Or.inr (HKD.out.trans hk3))])
        have hkq : (kd == 3) = true := by simpa using hk3
        go_wp2_with (fail)
        go_ret
        have hsb := H2.out.1.setBad true
        refine ⟨bv, iv, ?_, ?_, H2.out.2.trans hsb.2⟩
        · rw [HD.out]; rfl
        · rw [HD.out]; exact hsb.1
      · have hkq : (kd == 3) = false := by simpa using hk3
        have hgr := downS_grows cs (m + 1) num r
        have hbl1 : r.blocks.length ≤ 1073741824 := Nat.le_trans hgr.2.1 H0.out.2.2.2.1
        have hil1 : r.items.length ≤ 1073741824 := Nat.le_trans hgr.1 H0.out.2.2.1
        have hw02 := H2.out.1.bl.size
        have hone : ∀ u ∈ [Value.int .u32 num], u.oneCell' = true := by intro u hu; rw [List.mem_singleton.1 hu]; rfl
        have HONE := Lib.hid hone
        have hrl2 := H2.out.1.lt
        clear hgr hone
        go_upto_region 6 with (first
          | (at_builtin; go_loud (refine wpList_append_lies (w := w2.alloc (.cells #[.int .u32 num] 22)) rfl (.tmp 38) (.tmp 40) 33 rfl w0.heap.size 22 i0 z0 1 4 Tryz.underlying33 hi hz0 hz1 hz2 hzs (by decide) bv r.blocks.length _ rfl (H2.out.1.ob.alloc (.cells #[.int .u32 num] 22)) ⟨w2.heap.size, 0, none⟩ 1 1 [.int .u32 num] rfl rfl (fun j u hj => by rw [add_at, Nat.zero_add]; exact new_cell (w := w2) (vs := [.int .u32 num]) (t := 22) j u hj) HONE.out (by decide) (by unfold maxLen; omega) (by omega) (by simp; omega) (w2.heap.size + 1) (by simp) ?_); intro g cap wd ho2 hg2 hgh hglt; have hmd := (hg2.block rp (by simp; omega) (fun e => own_ne (H2.out.1.ob.alloc (.cells #[.int .u32 num] 22)) ((Lib.alloc_old w2 (.cells #[.int .u32 num] 22) _ hrl2).trans HM2.out) (by decide) e.symm)).trans ((Lib.alloc_old w2 (.cells #[.int .u32 num] 22) _ hrl2).trans HM2.out); have e1 : wd.cell? ⟨rp, 1, none⟩ = some bv := (by rw [cell_of_row _ _ _ _ _ _ hmd]; rfl); have e1f := frozen_of_row wd rp 1 _ _ hmd; have HOW := Lib.hid (And.intro ho2 (And.intro hg2 hgh)); clear ho2 hg2 hgh hmd))
        have hpb := H2.out.1.pushB HOW.out.1 HOW.out.2.1
        have hr5 := hpb.1
        have hs5 := hpb.2 (fun g' hg' => by
          rcases HOW.out.2.2 with h9 | h9
          · exact Or.inl (h9.trans hg')
          · have h8 : g = g' := Option.some.inj hg'
            exact Or.inr (by omega))
        generalize wd.setCell ⟨rp, 1, none⟩ (.slice (some ⟨g, 0, none⟩) (r.blocks.length + 1) cap) = w5 at *
        have hfr5 := hs5.fresh (B := w.heap.size) hrl (fun g' hg' => (H0.out.1.ob.lt _ hg').2) (fun g' hg' => (H0.out.1.oi.lt _ hg').2)
        have hnf5 := HNF.out.keep (w' := w5) (fun b hb' hlt => (hfr5 b hb' (Nat.lt_of_lt_of_le hlt HB7.out.2.size)).trans (HB7.out.2.block b hlt))
        have hb75 := (hfr5 w1.heap.size hw1 (lt_of_block HB7.out.1)).trans HB7.out.1
        have z0 : w5.cell? ⟨w1.heap.size, 0, none⟩ = some (.int .u8 kd) := by rw [cell_of_row _ _ _ _ _ _ hb75]; rfl
        have z1 : w5.cell? ⟨w1.heap.size, 1, none⟩ = some (.slice A1 n1 c1) := by rw [cell_of_row _ _ _ _ _ _ hb75]; rfl
        have z2 : w5.cell? ⟨w1.heap.size, 2, none⟩ = some (.slice A2 n2 c2) := by rw [cell_of_row _ _ _ _ _ _ hb75]; rfl
        obtain ⟨m5, hm5⟩ := hr5.blk
        have t2 : w5.cell? ⟨rp, 2, none⟩ = some iv := by rw [cell_of_row _ _ _ _ _ _ hm5]; rfl
        have H5 := Lib.hid (And.intro hr5 (And.intro hs5 (And.intro hnf5 (And.intro hb75 hm5))))
        have hrl5 := hr5.lt
        clear hpb hr5 hs5 hfr5 hnf5 hb75 hm5 d1 y0 y1 y2 d3 f3 e1 e1f
        by_cases hk1 : kd = 1
        · have hne : n.items ≠ [] := by
            rcases HK.out with ⟨_, h9⟩ | ⟨h9, _⟩ | h9
            · exact h9
            · have := HKD.out; omega
            · have := HKD.out; omega
          have HD := Lib.hid (show downS cs (m + 1) num r = (1, { r with blocks := r.blocks ++ [num], items := r.items ++ n.items }) by
            unfold downS
            rw [HND.out, if_neg (by simp only [Bool.true_eq_false, false_or]; rw [HKD.out]; exact hk3), if_pos (by rw [HKD.out]; exact hk1)])
          have hil2 := H0.out.2.2.1
          rw [HD.out] at hil2
          simp only [List.length_append] at hil2
          obtain ⟨va5, vb5, vc5, he5, ha5, _⟩ := H5.out.2.2.1.1
          simp only [Value.agg.injEq, Array.mk.injEq, List.cons.injEq, and_true] at he5
          obtain ⟨_, rfl, rfl, rfl⟩ := he5
          obtain ⟨ln, lc1, lc2, hrow⟩ := ha5.len_eq
          obtain ⟨b5, o5, rfl, hb5l⟩ := hrow.addr hne
          have hfl := flat_length itemE n.items ha5.wf
          have HA := Lib.hid (And.intro hfl (And.intro (flat_one itemE n.items ha5.wf) (And.intro (fun j u hj => row_flat hrow j u hj) ha5.wf)))
          have hpos := List.length_pos_iff.2 hne
          have hkq1 : (kd == 1) = true := by simpa using hk1
          subst ln
          clear ha5 hrow hfl
          go_wp2_with (fail)
          go_region_law ((refine step_append_lies (w := w5.drew) rfl (.tmp 51) (.tmp 53) 27 rfl w0.heap.size 32 j0 yz 2 32 Tryz.underlying27 hj hy0 hy1 hy2 hys (by decide) iv r.items.length _ (by simp [Act.eval, Act.put]) (H5.out.1.oi.drew) ⟨b5, o5, none⟩ n.items.length c1 (n.items.flatMap itemE.enc) (by simp [Act.eval, Act.put]) HA.out.1 (fun j u hj => by rw [add_at]; exact HA.out.2.2.1 j u hj) HA.out.2.1 hpos (by unfold maxLen; omega) (by omega) H5.out.1.bl.size w5.heap.size rfl ?_; intro g6 cap6 wd6 ho6 hg6 hgh6 hgl6; have hmd6 := (hg6.block rp hrl5 (fun e => own_ne H5.out.1.oi H5.out.2.2.2.2 (by decide) e.symm)).trans (show w5.drew.heap[rp]? = _ from H5.out.2.2.2.2); have e2 : wd6.cell? ⟨rp, 2, none⟩ = some iv := (by rw [cell_of_row _ _ _ _ _ _ hmd6]; rfl); have e2f := frozen_of_row wd6 rp 2 _ _ hmd6; have HO6 := Lib.hid (And.intro ho6 (And.intro (show w5.grownBy wd6 iv.ownBlock from ⟨hg6.os, hg6.tape, hg6.output, hg6.size, hg6.block⟩) hgh6)); clear ho6 hg6 hgh6 hgl6 hmd6))
          all_goals (
            go_wp2_with (fail)
            go_ret
            have hpi := H5.out.1.pushI HA.out.2.2.2 HO6.out.1 HO6.out.2.1
            have hsi := hpi.2 (fun g' hg' => by
              rcases HO6.out.2.2 with h9 | h9
              · exact Or.inl (h9.trans hg')
              · have h8 : g6 = g' := Option.some.inj hg'
                exact Or.inr (by omega))
            refine ⟨_, _, ?_, ?_, (H2.out.2.trans H5.out.2.1).trans hsi⟩
            · rw [HD.out]; rfl
            · rw [HD.out]; exact hpi.1)
        · have hk2 : kd = 2 ∧ n.kids ≠ [] := by
            rcases HK.out with ⟨h9, _⟩ | ⟨h9, h8⟩ | h9
            · have := HKD.out; omega
            · exact ⟨by have := HKD.out; omega, h8⟩
            · have := HKD.out; omega
          have hkq1 : (kd == 1) = false := by simpa using hk1
          obtain ⟨R, hR⟩ : ∃ R, downS cs (m + 1) num r = R := ⟨_, rfl⟩
          have hRd : R = downKids (downS cs m) n.kids 0 0 { r with blocks := r.blocks ++ [num] } := by
            rw [← hR]
            conv => lhs; unfold downS
            rw [HND.out, if_neg (by simp only [Bool.true_eq_false, false_or]; rw [HKD.out]; exact hk3), if_neg (by rw [HKD.out]; exact hk1)]
          have hil2 := H0.out.2.2.1
          have hbl2 := H0.out.2.2.2.1
          rw [hR] at hil2 hbl2
          have HRR := Lib.hid hR
          have HR := Lib.hid (And.intro hRd (And.intro hil2 (And.intro hbl2 hk2.2)))
          obtain ⟨vb5, hsk⟩ : ∃ vb5, vb5 = Value.slice A2 n2 c2 ∧ Sl kidE w5 vb5 n.kids := by
            obtain ⟨va5, vb5, vc5, he5, _, hb5, _⟩ := H5.out.2.2.1.1
            simp only [Value.agg.injEq, Array.mk.injEq, List.cons.injEq, and_true] at he5
            exact ⟨_, he5.2.2.1.symm, hb5⟩
          obtain ⟨rfl, hsk⟩ := hsk
          obtain ⟨ln, lc1, lc2, _⟩ := hsk.len_eq
          subst ln
          clear hR hRd hil2 hbl2 hk2 hsk
          go_wp2_with (fail)
          go_loopw [6, 9, 10, 11, 12, 13, 60, 61, 62, 63, 64, 65, 66, 67, 68, 69, 70, 71, 72, 73, 74, 75, 76, 77, 78, 79, 80, 81, 82, 83, 84, 85, 86, 87, 88, 89, 90, 91, 92, 93, 94, 95, 96, 97, 98, 99, 100, 101, 102, 103, 104, 105, 106, 107, 108, 109, 110] (fun _ vl _ _ _ _ vi _ _ _ _ _ _ _ _ _ _ _ _ _ _ _ _ _ _ _ _ _ _ _ _ _ _ _ _ _ _ _ _ _ _ _ _ _ _ _ _ _ _ _ _ _ _ _ _ _ _ wr => DoRel w0 w2 rp C bv iv cs R m n.kids vi vl wr) (fun _ _ _ _ _ _ vi _ _ _ _ _ _ _ _ _ _ _ _ _ _ _ _ _ _ _ _ _ _ _ _ _ _ _ _ _ _ _ _ _ _ _ _ _ _ _ _ _ _ _ _ _ _ _ _ _ _ _ => n.kids.length - (intOf vi).toNat)
          case atStart => exact doRel_mk 0 0 { r with blocks := r.blocks ++ [num] } _ _ (Nat.zero_le _) rfl rfl (by rw [List.drop_zero]; exact HR.out.1) H0.out.2.1 (Nat.zero_le _) H5.out.1 H5.out.2.1
          case round =>
            obtain ⟨j, lv, r', bv', iv', hj, rfl, rfl, hRj, hbad, hlv, hrd, hrs⟩ := hrel
            by_cases hlt : j < n.kids.length
            · have hfr := hrs.fresh (B := w.heap.size) hrl (fun g' hg' => (H0.out.1.ob.lt _ hg').2) (fun g' hg' => (H0.out.1.oi.lt _ hg').2)
              obtain ⟨va5, vb5, vc5, he5, _, hb5, _⟩ := (HNF.out.keep (w' := wr) (fun b hb' hlt => (hfr b hb' (Nat.lt_of_lt_of_le hlt HB7.out.2.size)).trans (HB7.out.2.block b hlt))).1
              simp only [Value.agg.injEq, Array.mk.injEq, List.cons.injEq, and_true] at he5
              obtain ⟨-, -, rfl, -⟩ := he5
              obtain ⟨b2, o2, rfl, hat, hkw⟩ := (hb5.len_eq).2.2.2 j hlt
              have hdr : n.kids.drop j = n.kids[j] :: n.kids.drop (j + 1) := List.drop_eq_getElem_cons hlt
              rw [hdr] at hRj
              generalize n.kids[j] = kj at *
              have hRj2 : R = if kidBad kj r'.items.length j lv (downS cs m kj.num r') then (0, { (downS cs m kj.num r').2 with bad := true }) else downKids (downS cs m) (n.kids.drop (j + 1)) (j + 1) (downS cs m kj.num r').1 (downS cs m kj.num r').2 := hRj
              have hgx := downS_grows cs m kj.num r'
              have hxl : (downS cs m kj.num r').2.items.length ≤ 1073741824 ∧ (downS cs m kj.num r').2.blocks.length ≤ 1073741824 := by
                have h8 := HR.out.2.1
                have h9 := HR.out.2.2.1
                rw [hRj2] at h8 h9
                split at h8
                · rename_i hb9
                  rw [if_pos hb9] at h9
                  exact ⟨h8, h9⟩
                · rename_i hb9
                  rw [if_neg hb9] at h9
                  have h7 := (downKids_grows (fun t r => downS_grows cs m t r) (n.kids.drop (j + 1)) (j + 1) (downS cs m kj.num r').1 (downS cs m kj.num r').2).1
                  exact ⟨Nat.le_trans h7.1 h8, Nat.le_trans h7.2 h9⟩
              have hkl := kid_len kj hkw
              have hkn := kidE.len kj hkw
              have h1' := kidE.one kj hkw
              have hb2l : b2 < wr.heap.size := hat.lt (by simp [kidE])
              have HJ := Lib.hid (And.intro hRj2 (And.intro hbad (And.intro hrd (And.intro hrs (And.intro hxl hgx)))))
              have hrdl := hrd.lt
              have HKJ := Lib.hid (And.intro hkn (show (kidE.enc kj).toArray = kidA kj from rfl))
              obtain ⟨kv, hkv⟩ : ∃ kv, kidE.enc kj = kv := ⟨_, rfl⟩
              obtain ⟨ka, hka⟩ : ∃ ka, kidA kj = ka := ⟨_, rfl⟩
              rw [hkv] at hat hkl h1' HKJ
              rw [hka] at HKJ
              have HKA := Lib.hid (And.intro hkv hka)
              simp only [show kidE.sz = 34 from rfl] at hat
              clear hRj hRj2 hbad hrd hrs hxl hgx hkn hkv hka hkw hdr hb5 hfr
              go_upto_region 13 with (first
                | ((with_reducible refine probe_loadT 58 ?_); refine wpList_load_arr rfl 58 (.tmp 63) rfl b2 (o2 + j * 34) rfl kv _ hat Tryz.underlying58 rfl hkl ka HKJ.out.2 ?_)
                | ((with_reducible refine probe_storeT 58 ?_); refine wpList_store_new rfl 58 (.tmp 11) (.tmp 64) rfl 58 _ rfl kv (by rw [HKJ.out.2]; rfl) (by rw [HKJ.out.1]; rfl) h1' hkl ?_; rw [HKJ.out.2]))
              have HB6 := Lib.hid (And.intro (heap_alloc_new wr (.cells ka 58)) (below_box wr (.cells ka 58)))
              have hrd6 := HJ.out.2.2.1.below HB6.out.2
              have hlt6 : wr.heap.size < (wr.alloc (.cells ka 58)).heap.size := by simp
              generalize wr.alloc (.cells ka 58) = w6 at *
              obtain ⟨m6, hm6⟩ := hrd6.blk
              have k0 : w6.cell? ⟨wr.heap.size, 0, none⟩ = some (.string kj.key) := by rw [cell_of_row _ _ _ _ _ _ HB6.out.1, ← HKA.out.2]; exact kidA_key0 kj
              have k1 : w6.cell? ⟨wr.heap.size, 1, none⟩ = some (.int .u32 kj.num) := by rw [cell_of_row _ _ _ _ _ _ HB6.out.1, ← HKA.out.2]; exact kidA_num kj
              obtain ⟨Ai, ci, rfl⟩ : ∃ Ai ci, iv' = .slice Ai r'.items.length ci := by
                rcases hrd6.oi.2 with ⟨h8, h9⟩ | ⟨g', cp', cur', h8, _⟩
                · exact ⟨none, 0, by rw [h8, h9]⟩
                · exact ⟨_, _, h8⟩
              have k2 : w6.cell? ⟨rp, 2, none⟩ = some (.slice Ai r'.items.length ci) := by rw [cell_of_row _ _ _ _ _ _ hm6]; rfl
              have hrl6 := hrd6.lt
              have H6 := Lib.hid hrd6
              clear hrd6 hm6
              go_wp2_with (fail)
              go_at_call 62
              refine (H0.out.2.2.2.2 w6 bv' _ r' kj.num (by omega) H6.out HJ.out.2.1 HJ.out.2.2.2.2.1.1 HJ.out.2.2.2.2.1.2).mono ?_
              rintro e w7 ⟨bv2, iv2, rfl, hr7, hs7⟩
              obtain ⟨X, hX⟩ : ∃ X, downS cs m kj.num r' = X := ⟨_, rfl⟩
              rw [hX] at HJ hr7 ⊢
              have hlm := downS_le cs m kj.num r'
              rw [hX] at hlm
              have HLM := Lib.hid hlm
              clear hlm
              obtain ⟨lx, rx⟩ := X
              simp only at HJ hr7 ⊢
              have hfr7 := hs7.fresh (B := wr.heap.size) hrdl (fun g' hg' => (HJ.out.2.2.1.ob.lt _ hg').2) (fun g' hg' => (HJ.out.2.2.1.oi.lt _ hg').2)
              have hb11 := (hfr7 wr.heap.size (Nat.le_refl _) hlt6).trans HB6.out.1
              obtain ⟨m7, hm7⟩ := hr7.blk
              have q0 : w7.cell? ⟨wr.heap.size, 0, none⟩ = some (.string kj.key) := by rw [cell_of_row _ _ _ _ _ _ hb11, ← HKA.out.2]; exact kidA_key0 kj
              have q3 : w7.cell? ⟨rp, 3, none⟩ = some (.bool rx.bad) := by rw [cell_of_row _ _ _ _ _ _ hm7]; rfl
              have q3f := frozen_of_row _ rp 3 _ _ hm7
              have q2 : w7.cell? ⟨rp, 2, none⟩ = some iv2 := by rw [cell_of_row _ _ _ _ _ _ hm7]; rfl
              have hrs7 := ((HJ.out.2.2.2.1.trans (Rs.of_below HB6.out.2)).trans hs7)
              have hrl7 := hr7.lt
              have H7 := Lib.hid (And.intro hr7 hrs7)
              clear hfr7 hm7 hr7 hrs7 hs7 hX k0 k1 k2 hat hb11
              cases hbx : rx.bad with
              | true =>
                rw [hbx] at q3
                have HRR2 := Lib.hid (show downS cs (m + 1) num r = (0, { rx with bad := true }) by
                  rw [HRR.out, HJ.out.1, if_pos (by unfold kidBad; simp only; rw [hbx]; rfl)])
                clear hbx
                go_wp2_with (fail)
                go_region
                all_goals (
                  go_wp2_with (fail)
                  go_ret
                  have hsb := H7.out.1.setBad true
                  have hdr := (Below.refl (w7.setCell ⟨rp, 3, none⟩ (.bool true)).heap.size (w7.setCell ⟨rp, 3, none⟩ (.bool true))).drew
                  refine ⟨bv2, _, ?_, ?_, ((H2.out.2.trans H7.out.2).trans hsb.2).trans (Rs.of_below hdr)⟩
                  · rw [HRR2.out]; rfl
                  · rw [HRR2.out]; exact hsb.1.below hdr)
              | false =>
                rw [hbx] at q3
                have hgx : r'.items.length < rx.items.length := HJ.out.2.2.2.2.2.2.2 hbx
                have HBX := Lib.hid (And.intro (show ({ rx with bad := false } : RdS) = rx by cases rx; simp only at hbx; subst hbx; rfl) hbx)
                have HLX := Lib.hid (show lx ≤ 1073741824 from Nat.le_trans (show lx ≤ m from HLM.out) (by omega))
                obtain ⟨g2, cp2, hiv2, hg20, hg2l⟩ := H7.out.1.oi.form (by omega)
                subst hiv2
                have hkc : w7.cell? ⟨g2, r'.items.length * 2, none⟩ = some (.string (keyAt rx.items r'.items.length)) := by
                  have hc := H7.out.1.oi.cells (g := g2) rfl (r'.items.length * 2) (.string (keyAt rx.items r'.items.length)) (by
                    have := flat_getElem itemE rx.items H7.out.1.wf r'.items.length hgx 0 (by decide)
                    simp only [show itemE.sz = 2 from rfl, Nat.add_zero] at this
                    rw [this]
                    unfold keyAt
                    rw [List.getElem?_eq_getElem hgx]
                    rfl)
                  rw [add_at, Nat.zero_add] at hc
                  exact hc
                have hkb : ∀ v, beqB (keyAt rx.items r'.items.length) kj.key = v → kidBad kj r'.items.length j lv (lx, rx) = (!v || (decide (0 < j) && decide (lx ≠ lv))) := fun v hv => by
                  unfold kidBad
                  simp only
                  rw [hbx, hv]
                  rfl
                have HKB := Lib.hid hkb
                have hatl : (r'.items.length : Int) < rx.items.length := by omega
                clear hkb hbx
                cases hbq : beqB (keyAt rx.items r'.items.length) kj.key with
                | false =>
                  have hbq2 : ((keyAt rx.items r'.items.length).toList == kj.key.toList) = false := hbq
                  have HRR2 := Lib.hid (show downS cs (m + 1) num r = (0, { rx with bad := true }) by
                    rw [HRR.out, HJ.out.1, if_pos (by rw [HKB.out _ hbq]; rfl)])
                  clear hbq
                  generalize keyAt rx.items r'.items.length = kx at *
                  go_wp2_with (fail)
                  go_region
                  all_goals (
                    go_wp2_with (fail)
                    go_ret
                    have hsb := H7.out.1.setBad true
                    have hdr := (Below.refl (w7.setCell ⟨rp, 3, none⟩ (.bool true)).heap.size (w7.setCell ⟨rp, 3, none⟩ (.bool true))).drew
                    refine ⟨bv2, _, ?_, ?_, ((H2.out.2.trans H7.out.2).trans hsb.2).trans (Rs.of_below hdr)⟩
                    · rw [HRR2.out]; rfl
                    · rw [HRR2.out]; exact hsb.1.below hdr)
                | true =>
                  have hbq2 : ((keyAt rx.items r'.items.length).toList == kj.key.toList) = true := hbq
                  have HB3 := Lib.hid (HKB.out _ hbq)
                  clear hbq
                  generalize keyAt rx.items r'.items.length = kx at *
                  by_cases hj0 : j = 0
                  · have hg0 : decide (0 < (j : Int)) = false := by simp; omega
                    have hg1 : decide (0 < j) = false := by simp; omega
                    have HRR2 := Lib.hid (show R = downKids (downS cs m) (n.kids.drop (j + 1)) (j + 1) lx rx by
                      rw [HJ.out.1, if_neg (by rw [HB3.out, hg1]; simp)])
                    clear hj0
                    go_wp2_with (fail)
                    go_region
                    all_goals (
                      go_wp2_with (fail)
                      have hsb := H7.out.1.setBad false
                      rw [HBX.out.1] at hsb
                      have hdr := (Below.refl (w7.setCell ⟨rp, 3, none⟩ (.bool false)).heap.size (w7.setCell ⟨rp, 3, none⟩ (.bool false))).drew
                      exact ⟨doRel_mk (j + 1) lx rx bv2 _ (by omega) (by go_num) rfl HRR2.out HBX.out.2 HLX.out (hsb.1.below hdr) ((H7.out.2.trans hsb.2).trans (Rs.of_below hdr)), by simp [intOf]; omega⟩)
                  · have hg0 : decide (0 < (j : Int)) = true := by simp; omega
                    have hg1 : decide (0 < j) = true := by simp; omega
                    by_cases hll : lx = lv
                    · have hl0 : ((lx : Int) != (lv : Int)) = false := by simp [hll]
                      have HRR2 := Lib.hid (show R = downKids (downS cs m) (n.kids.drop (j + 1)) (j + 1) lx rx by
                        rw [HJ.out.1, if_neg (by rw [HB3.out, hll]; simp)])
                      clear hll
                      go_wp2_with (fail)
                      go_region
                      all_goals (
                        go_wp2_with (fail)
                        have hsb := H7.out.1.setBad false
                        rw [HBX.out.1] at hsb
                        have hdr := (Below.refl (w7.setCell ⟨rp, 3, none⟩ (.bool false)).heap.size (w7.setCell ⟨rp, 3, none⟩ (.bool false))).drew
                        exact ⟨doRel_mk (j + 1) lx rx bv2 _ (by omega) (by go_num) rfl HRR2.out HBX.out.2 HLX.out (hsb.1.below hdr) ((H7.out.2.trans hsb.2).trans (Rs.of_below hdr)), by simp [intOf]; omega⟩)
                    · have hl0 : ((lx : Int) != (lv : Int)) = true := by simp; omega
                      have HRR2 := Lib.hid (show downS cs (m + 1) num r = (0, { rx with bad := true }) by
                        rw [HRR.out, HJ.out.1, if_pos (by rw [HB3.out, hg1, decide_eq_true hll]; rfl)])
                      clear hll
                      go_wp2_with (fail)
                      go_region
                      all_goals (
                        go_wp2_with (fail)
                        go_ret
                        have hsb := H7.out.1.setBad true
                        have hdr := (Below.refl (w7.setCell ⟨rp, 3, none⟩ (.bool true)).heap.size (w7.setCell ⟨rp, 3, none⟩ (.bool true))).drew
                        refine ⟨bv2, _, ?_, ?_, ((H2.out.2.trans H7.out.2).trans hsb.2).trans (Rs.of_below hdr)⟩
                        · rw [HRR2.out]; rfl
                        · rw [HRR2.out]; exact hsb.1.below hdr)
            · obtain rfl : j = n.kids.length := by omega
              rw [List.drop_length] at hRj
              have hRe : R = (lv + 1, r') := hRj
              have HE := Lib.hid (And.intro (HRR.out.trans hRe) (And.intro hrd hrs))
              clear hRj hRe hrd hrs
              go_wp2_with (fail)
              go_ret
              refine ⟨bv', iv', ?_, ?_, H2.out.2.trans HE.out.2.2⟩
              · rw [HE.out.1]; rfl
              · rw [HE.out.1]; exact HE.out.2.1
end Go.Proofs.YthhmcjojnbaiiaaGreatDoor
