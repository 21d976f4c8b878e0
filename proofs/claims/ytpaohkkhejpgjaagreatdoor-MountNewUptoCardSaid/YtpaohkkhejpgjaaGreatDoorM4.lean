/- Texts of the proof: Mk N3 N6. -/
import Derived.Test.YtpaohkkhejpgjaaGreatDoorM3
import Derived.Test.YtpaohkkhejpgjaaGreatDoorM2
import Derived.Lib.Strings
import Derived.Lib.Slices
import Derived.Lib.Walk
import Derived.Lib.Builder
import Derived.Lib.AppendStr
import Derived.Lib.UnsafeStr
import Derived.Laws.Externs
import Derived.Shelf.RegionOpenPlain
import Derived.Lib.Repeat
set_option linter.all false
set_option maxRecDepth 100000
set_option maxHeartbeats 8000000
namespace Go.Proofs.YtpaohkkhejpgjaaGreatDoor
open Go Go.RowKit
def Mk (B b : Nat) (bs : List Value) (w : World) : Prop := Lib.IsBuilder 177 5 B b bs w
def MkFrame (b : Nat) (w w' : World) : Prop :=
 w.heap.size ≤ w'.heap.size ∧ ∀ (g : Nat) (cs : Array Value) (t : TypeId) (fr : Nat × Nat), g ≠ b → w.heap[g]? = some (.cells cs t fr) → t ≠ 5 → w'.heap[g]? = some (.cells cs t fr)
theorem MkFrame.trans {b : Nat} {w w1 w2 : World} (h : MkFrame b w w1) (k : MkFrame b w1 w2) : MkFrame b w w2 :=
 ⟨Nat.le_trans h.1 k.1, fun g cs t fr h1 h2 h3 => k.2 g cs t fr h1 (h.2 g cs t fr h1 h2 h3) h3⟩
theorem MkFrame.of_below {b : Nat} {w w' : World} (h : Below w.heap.size w w') : MkFrame b w w' :=
 ⟨h.size, fun g _ _ _ _ h2 _ => by rw [h.block g (lt_of_block h2)]; exact h2⟩
theorem mk_size : (Tryz.prog.info? 175).map (·.size) = some 2 := by kernel_rfl
theorem mk_lies : liesAt Tryz.prog Tryz.prog.depth 177 (2 / Tryz.prog.cellsOf 177) 0 175 1 = true := by kernel_rfl
theorem mk_cells : Tryz.prog.cellsOf 5 = 1 := by kernel_rfl
theorem copyCheck_used (b : Nat) (w : World) (h0 : w.cell? ⟨b, 0, none⟩ = some (.pointer (some ⟨b, 0, none⟩))) :
 Calls Tryz.prog 144 #[.pointer (some ⟨b, 0, none⟩)] w fun e w' => e = .returned (.tuple #[]) ∧ w' = w := by
 obtain ⟨j, hj, _⟩ := Option.map_eq_some_iff.1 mk_size
 go_enter Tryz.func144, Tryz.ntmps144
 go_wp2
 rw [Lib.run_neq_ptr_same w _ Tryz.underlying173 hj]
 go_wp2
 go_end0
 exact ⟨rfl, rfl⟩
theorem jli (b : Nat) (w : World) (h0 : w.cell? ⟨b, 0, none⟩ = some (.pointer none)) (hsh : w.shape? b = some (177, 2)) (hfz : w.frozen? ⟨b, 0, none⟩ = false) :
 Calls Tryz.prog 144 #[.pointer (some ⟨b, 0, none⟩)] w fun e w' => e = .returned (.tuple #[]) ∧ w' = w.setCell ⟨b, 0, none⟩ (.pointer (some ⟨b, 0, none⟩)) := by
 obtain ⟨j, hj, hjs⟩ := Option.map_eq_some_iff.1 mk_size
 go_enter Tryz.func144, Tryz.ntmps144
 go_wp2
 rw [Lib.run_to_unsafe w ⟨b, 0, none⟩ Tryz.underlying173 Tryz.underlying307 hj (by rw [hjs]; decide) hsh (Nat.zero_lt_succ 1)]
 simp only [Result.andThen]
 rw [Oper.upon_value]
 go_wp2
 rw [run_callFunc_extern Tryz.func207 (by kernel_rfl) (by kernel_rfl) (by kernel_rfl) (e := Extern.AbiNoEscape.same) (by kernel_rfl)]
 rw [Lib.run_noEscape]
 simp only [Result.andThen]
 rw [Oper.upon_value]
 go_wp2
 rw [Lib.run_from_unsafe w ⟨b, 0, none⟩ Tryz.underlying307 Tryz.underlying173 hj hsh mk_lies]
 simp only [Result.andThen]
 rw [Oper.upon_value]
 go_wp2
 go_end0
 exact ⟨rfl, rfl⟩
theorem jie (B b : Nat) (bs : List Value) (w : World) (h : Mk B b bs w) :
 Calls Tryz.prog 144 #[.pointer (some ⟨b, 0, none⟩)] w fun e w' => e = .returned (.tuple #[]) ∧ (Lib.BuilderAt 177 5 B b (.pointer (some ⟨b, 0, none⟩)) bs w' ∧ Below B w w' ∧ ∀ g, g ≠ b → w'.heap[g]? = w.heap[g]?) := by
 rcases h with h | h
 · refine (jli b w h.cell0 h.shape h.frozen0).mono ?_
   rintro e w' ⟨rfl, rfl⟩
   exact ⟨rfl, h.used _, (Below.refl B w).setCell (p := ⟨b, 0, none⟩) h.1 _, fun g hg => heap_setCell_other _ _ _ _ (by simpa using hg)⟩
 · refine (copyCheck_used b w h.cell0).mono ?_
   rintro e w' ⟨rfl, rfl⟩
   exact ⟨rfl, h, Below.refl B _, fun g hg => rfl⟩
theorem At.heap {w w' : World} {g o : Nat} {vs : List Value} (h : At w g o vs) (hg : w'.heap[g]? = w.heap[g]?) : At w' g o vs := by
 intro i hi
 have := h i hi
 rw [← this]
 unfold World.cell?
 simp only [hg]
theorem jgu (B b : Nat) (bs : List Value) (s : ByteArray) (w : World) (h : Mk B b bs w) (hlen : bs.length + s.size ≤ 140737488355328) (hBw : B ≤ w.heap.size) :
 Calls Tryz.prog 143 #[.pointer (some ⟨b, 0, none⟩), .string s] w fun e w' => e = .returned (.tuple #[.int .i64 s.size, .nilIface]) ∧ (Mk B b (bs ++ Lib.strCells s) w' ∧ Below B w w' ∧ MkFrame b w w') := by
 obtain ⟨i0, hi, hz0, hz1, hz2⟩ := info_parts u8_info
 go_enter Tryz.func143, Tryz.ntmps143
 go_wp2_with (go_at_call 144; refine (jie B b bs _ h).mono ?_)
 rintro e w1 ⟨rfl, h1, hb1, hoth⟩
 obtain ⟨hB, v, hbk, hown, hne⟩ := h1
 have c0 : w1.cell? ⟨b, 0, none⟩ = some (.pointer (some ⟨b, 0, none⟩)) := by rw [Lib.cell_of_heap hbk]; rfl
 have c1 : w1.cell? ⟨b, 1, none⟩ = some v := by rw [Lib.cell_of_heap hbk]; rfl
 go_wp2_with (at_builtin; refine Lib.wpList_append_own_string _ rfl _ _ 167 9 rfl B 5 i0 Tryz.underlying167 Tryz.underlying9 hi hz0 hz1 hz2 _ _ _ rfl hown s rfl ?c3 ?c4 ?c5 ?_)
 case c3 => unfold maxLen; omega
 case c4 => omega
 case c5 => have := hb1.size; omega
 intro v' w2 hown' hgrow _
 have hlt : b < w1.heap.size := by
  rcases Nat.lt_or_ge b w1.heap.size with h' | h'
  · exact h'
  · simp [Array.getElem?_eq_none h'] at hbk
 have hb2 : w2.heap[b]? = some (.cells #[.pointer (some ⟨b, 0, none⟩), v] 177 (0, 0)) := by
  rw [hgrow.block b hlt (fun e => hne e.symm)]
  exact hbk
 have d0 : w2.cell? ⟨b, 0, none⟩ = some (.pointer (some ⟨b, 0, none⟩)) := by rw [Lib.cell_of_heap hb2]; rfl
 have d1 : w2.cell? ⟨b, 1, none⟩ = some v := by rw [Lib.cell_of_heap hb2]; rfl
 have f1 : w2.frozen? ⟨b, 1, none⟩ = false := Lib.frozen_of_heap hb2 1
 obtain ⟨ao, n', cap, rfl⟩ : ∃ ao n' cap, v' = .slice ao n' cap := by
  rcases hown'.2 with ⟨hv, _⟩ | ⟨g, cap, cur, hv, _⟩
  · exact ⟨_, _, _, hv⟩
  · exact ⟨_, _, _, hv⟩
 go_wp2
 go_ret2
 refine ⟨rfl, ?_, ?_, ?_⟩
 · exact Or.inr (Lib.BuilderAt.put (T := 177) (e := 5) hB hb2 (bs' := bs ++ Lib.strCells s) (by simpa [Lib.strCells_length] using hown') (by decide))
 · exact (hb1.grown hgrow (by have := hb1.size; omega) (fun k hk => (hown.lt k hk).1)).setCell (p := ⟨b, 1, none⟩) hB _
 · refine ⟨Nat.le_trans hb1.size (by simpa [World.setCell] using hgrow.size), fun g' cs t fr hg' hh ht => ?_⟩
   have hh1 : w1.heap[g']? = some (.cells cs t fr) := by rw [hoth g' hg']; exact hh
   rw [heap_setCell_other _ _ _ _ (by simpa using hg'), hgrow.block g' (lt_of_block hh1) (fun e => Lib.ownBlock_ne hown hh1 ht e.symm)]
   exact hh1
theorem write_any (B b g o c : Nat) (bs : List Value) (l : List Value) (hl1 : ∀ u ∈ l, u.oneCell' = true) (w : World) (h : Mk B b bs w) (hlen : bs.length + l.length ≤ 140737488355328) (hBw : B ≤ w.heap.size) (hat : At w g o l) (hgb : g ≠ b) :
 Calls Tryz.prog 84 #[.pointer (some ⟨b, 0, none⟩), .slice (some ⟨g, o, none⟩) l.length c] w fun e w' => e = .returned (.tuple #[.int .i64 l.length, .nilIface]) ∧ (Mk B b (bs ++ l) w' ∧ Below B w w' ∧ MkFrame b w w') := by
 obtain ⟨i0, hi, hz0, hz1, hz2⟩ := info_parts u8_info
 go_enter Tryz.func84, Tryz.ntmps84
 go_wp2_with (go_at_call 144; refine (jie B b bs _ h).mono ?_)
 rintro e w1 ⟨rfl, h1, hb1, hoth⟩
 obtain ⟨hB, v, hbk, hown, hne⟩ := h1
 have hat1 := hat.heap (hoth g hgb)
 have c0 : w1.cell? ⟨b, 0, none⟩ = some (.pointer (some ⟨b, 0, none⟩)) := by rw [Lib.cell_of_heap hbk]; rfl
 have c1 : w1.cell? ⟨b, 1, none⟩ = some v := by rw [Lib.cell_of_heap hbk]; rfl
 go_wp2_with (at_builtin; refine wpList_append_own _ rfl _ _ 167 rfl B 5 i0 (.int .u8 0) 1 1 Tryz.underlying167 hi hz0 hz1 hz2 rfl (by decide) _ _ _ rfl hown ⟨g, o, none⟩ l.length c l rfl (by omega) ?c1 ?c2 ?c3 ?c4 ?c5 ?_)
 case c1 =>
  intro j u hj
  obtain ⟨hj', rfl⟩ := List.getElem?_eq_some_iff.1 hj
  rw [jcl]
  exact hat1 j hj'
 case c2 => exact hl1
 case c3 => unfold maxLen; omega
 case c4 => omega
 case c5 => have := hb1.size; omega
 intro v' w2 hown' hgrow _
 have hlt : b < w1.heap.size := by
  rcases Nat.lt_or_ge b w1.heap.size with h' | h'
  · exact h'
  · simp [Array.getElem?_eq_none h'] at hbk
 have hb2 : w2.heap[b]? = some (.cells #[.pointer (some ⟨b, 0, none⟩), v] 177 (0, 0)) := by
  rw [hgrow.block b hlt (fun e => hne e.symm)]
  exact hbk
 have d0 : w2.cell? ⟨b, 0, none⟩ = some (.pointer (some ⟨b, 0, none⟩)) := by rw [Lib.cell_of_heap hb2]; rfl
 have d1 : w2.cell? ⟨b, 1, none⟩ = some v := by rw [Lib.cell_of_heap hb2]; rfl
 have f1 : w2.frozen? ⟨b, 1, none⟩ = false := Lib.frozen_of_heap hb2 1
 obtain ⟨ao, n', cap, rfl⟩ : ∃ ao n' cap, v' = .slice ao n' cap := by
  rcases hown'.2 with ⟨hv, _⟩ | ⟨g, cap, cur, hv, _⟩
  · exact ⟨_, _, _, hv⟩
  · exact ⟨_, _, _, hv⟩
 go_wp2
 go_ret2
 refine ⟨rfl, ?_, ?_, ?_⟩
 · exact Or.inr (Lib.BuilderAt.put (T := 177) (e := 5) hB hb2 (bs' := bs ++ l) (by simpa using hown') (by decide))
 · exact (hb1.grown hgrow (by have := hb1.size; omega) (fun k hk => (hown.lt k hk).1)).setCell (p := ⟨b, 1, none⟩) hB _
 · refine ⟨Nat.le_trans hb1.size (by simpa [World.setCell] using hgrow.size), fun g' cs t fr hg' hh ht => ?_⟩
   have hh1 : w1.heap[g']? = some (.cells cs t fr) := by rw [hoth g' hg']; exact hh
   rw [heap_setCell_other _ _ _ _ (by simpa using hg'), hgrow.block g' (lt_of_block hh1) (fun e => Lib.ownBlock_ne hown hh1 ht e.symm)]
   exact hh1
theorem mkString_any (B b : Nat) (l : List UInt8) (w : World) (h : Mk B b (Lib.byteCells l) w) (h0 : l ≠ []) :
 Calls Tryz.prog 86 #[.pointer (some ⟨b, 0, none⟩)] w fun e w' => e = .returned (.string ⟨l.toArray⟩) ∧ Below B w w' := by
 obtain ⟨p, hB, v, hbk, hown, hne⟩ : ∃ p, Lib.BuilderAt 177 5 B b p (Lib.byteCells l) w := by
  rcases h with h | h
  · exact ⟨_, h⟩
  · exact ⟨_, h⟩
 have hl0 : l.length ≠ 0 := by simpa using h0
 rw [Lib.byteCells_length] at hown
 obtain ⟨g, cap, cur, rfl, hbg, hg, hnc, hcm, hcs, htake⟩ : ∃ g cap cur, v = .slice (some ⟨g, 0, none⟩) l.length cap ∧ B ≤ g ∧ w.heap[g]? = some (.cells cur 5 (0, 0)) ∧ l.length ≤ cap ∧ cap ≤ maxLen ∧ cur.size = cap * 1 ∧ cur.toList.take (l.length * 1) = Lib.byteCells l := by
  rcases hown.2 with ⟨_, hz⟩ | ⟨g, cap, cur, hv, r⟩
  · exact absurd hz hl0
  · exact ⟨g, cap, cur, hv, r⟩
 have c1 : w.drew.cell? ⟨b, 1, none⟩ = some (.slice (some ⟨g, 0, none⟩) l.length cap) := by
  have : w.drew.heap[b]? = some (.cells #[p, .slice (some ⟨g, 0, none⟩) l.length cap] 177 (0, 0)) := hbk
  rw [Lib.cell_of_heap this]; rfl
 have hSD : (Builtin.unsafeSliceData_ #[167] 249 #[.slice (some ⟨g, 0, none⟩) l.length cap]).run Tryz.prog w.drew = .ok (.pointer (some ⟨g, 0, none⟩)) w.drew :=
  Lib.run_unsafeSliceData_row _ _ _ _ _ _ (by omega)
 have hUS : (Builtin.unsafeString_ #[249, 3] 9 #[.pointer (some ⟨g, 0, none⟩), .int .i64 l.length]).run Tryz.prog w.drew = .ok (.string ⟨l.toArray⟩) (w.drew.freeze ⟨g, 0, none⟩ l.length) := by
  refine Lib.run_unsafeString_row w.drew 249 3 9 5 Tryz.underlying249 mk_cells g cur.size (by have hg' : w.drew.heap[g]? = some (.cells cur 5 (0, 0)) := hg; simp [World.shape?, hg']) l h0 (by omega) (by unfold maxLen at hcm; omega) ?_
  intro j x hx
  have := hown.cells (g := g) rfl j (.int .u8 x.toNat) (by simp [Lib.byteCells, hx])
  exact this
 have mixed : Tryz.prog.follows Departure.mixedOrders = true := by kernel_rfl
 go_enter Tryz.func86, Tryz.ntmps86
 go_wp2
 go_region_o
 all_goals (go_wp2; go_ret; exact ⟨rfl, Lib.below_freeze (Below.drew (Below.refl B w)) (p := ⟨g, 0, none⟩) hbg _⟩)
def MkL (B b : Nat) (l : List UInt8) (w : World) : Prop := Mk B b (Lib.byteCells l) w
theorem grown_of_below {w w' : World} (hb : Below w.heap.size w w') : w.grownBy w' none :=
 ⟨hb.os, hb.tape, hb.output, hb.size, fun k hk _ => hb.block k hk⟩
theorem Mk.below {B b : Nat} {bs : List Value} {w w' : World} (h : Mk B b bs w) (hb : Below w.heap.size w w') : Mk B b bs w' := by
 have key : ∀ p, Lib.BuilderAt 177 5 B b p bs w → Lib.BuilderAt 177 5 B b p bs w' := by
  rintro p ⟨hB, v, h1, h2, h3⟩
  refine ⟨hB, v, ?_, h2.kept (grown_of_below hb) ?_, h3⟩
  · rw [hb.block b (lt_of_block h1)]; exact h1
  · cases hv : v.ownBlock with
    | none => exact Or.inl rfl
    | some k => exact Or.inr (by simp)
 rcases h with h | h
 · exact Or.inl (key _ h)
 · exact Or.inr (key _ h)
theorem Mk.lt {B b : Nat} {bs : List Value} {w : World} (h : Mk B b bs w) : b < w.heap.size ∧ B ≤ b := by
 rcases h with h | h <;> exact ⟨h.lt, h.1⟩
def numU (n : Int) (k : Nat) : List UInt8 := (numB n k).data.toList
theorem jc8 (B b : Nat) (l : List UInt8) (n : Int) (k : Nat) (w : World) (h : MkL B b l w) (hlen : l.length ≤ 1048576) (hBw : B ≤ w.heap.size) (h0 : 0 ≤ n) (h1 : n ≤ 18446744073709551615) (hk : 1 ≤ k) (hk8 : k ≤ 8) (hfit : Lib.bitLen n.toNat ≤ 8 * k) :
 Calls Tryz.prog 82 #[.pointer (some ⟨b, 0, none⟩), .int .u64 n, .int .i64 k] w fun e w' => e = .returned (.tuple #[]) ∧ MkL B b (l ++ numU n k) w' ∧ Below B w w' ∧ MkFrame b w w' := by
 have hsz : (numB n k).size = k := by unfold numB; rw [strOfNums_size, jc0]
 have HSZ := Lib.hid hsz
 have HM := Lib.hid h
 clear hsz h
 go_enter Tryz.func82, Tryz.ntmps82
 go_wp2_with (go_at_call 142; refine (jhd _ n k h0 h1 hk hk8 hfit).mono ?_; rintro e w1 ⟨rfl, hb1⟩; have HB1 := Lib.hid hb1; clear hb1)
 go_at_call 143
 refine (jgu B b (Lib.byteCells l) (numB n k) w1 (Mk.below HM.out HB1.out) (by rw [Lib.byteCells_length, HSZ.out]; omega) (Nat.le_trans hBw HB1.out.size)).mono ?_
 rintro e w2 ⟨rfl, hm, hb2, hf2⟩
 go_wp2
 go_end0
 refine ⟨rfl, ?_, (HB1.out.mono hBw).trans hb2, (MkFrame.of_below HB1.out).trans hf2⟩
 unfold MkL numU
 rw [Lib.byteCells_append, ← Lib.strCells_eq]
 exact hm
def textU (s : ByteArray) : List UInt8 := numU s.size 1 ++ s.data.toList
theorem jj9 : ∀ f x, Lib.bitLenAux f x ≤ f
 | 0, _ => by simp [Lib.bitLenAux]
 | f + 1, x => by
  unfold Lib.bitLenAux
  have := jj9 f (x / 2)
  split <;> omega
theorem jdf {n : Nat} (k : Nat) (hk : k ≤ 64) (h : n < 2 ^ k) : Lib.bitLen n ≤ k := by
 unfold Lib.bitLen
 rw [Lib.bitLenAux_fuel k n h 64 hk]
 exact jj9 k n
theorem jjn {n : Nat} (h : n ≤ 255) : Lib.bitLen n ≤ 8 * 1 := jdf 8 (by omega) (by omega)
theorem jft (B b : Nat) (l : List UInt8) (s : ByteArray) (w : World) (h : MkL B b l w) (hlen : l.length ≤ 1000000) (hBw : B ≤ w.heap.size) (hs : s.size ≤ 255) :
 Calls Tryz.prog 83 #[.pointer (some ⟨b, 0, none⟩), .string s] w fun e w' => e = .returned (.tuple #[]) ∧ MkL B b (l ++ textU s) w' ∧ Below B w w' ∧ MkFrame b w w' := by
 have HM := Lib.hid h
 clear h
 go_enter Tryz.func83, Tryz.ntmps83
 go_wp2_with (go_at_call 82; refine (jc8 B b l s.size 1 w HM.out (by omega) hBw (by omega) (by omega) (by omega) (by omega) (by simpa using jjn hs)).mono ?_; rintro e w1 ⟨rfl, hm1, hb1, hf1⟩; have HB1 := Lib.hid hb1; have HM1 := Lib.hid hm1; have HF1 := Lib.hid hf1; clear hb1 hm1 hf1)
 go_at_call 143
 refine (jgu B b (Lib.byteCells (l ++ numU s.size 1)) s w1 HM1.out (by rw [Lib.byteCells_length]; unfold numU numB; simp [strOfNums_size, jc0, List.length_append]; omega) (Nat.le_trans hBw HB1.out.size)).mono ?_
 rintro e w2 ⟨rfl, hm, hb2, hf2⟩
 go_wp2
 go_end0
 refine ⟨rfl, ?_, HB1.out.trans hb2, HF1.out.trans hf2⟩
 unfold MkL textU
 rw [← List.append_assoc, Lib.byteCells_append, ← Lib.strCells_eq]
 exact hm
def padTo (k : Nat) (l : List UInt8) : List UInt8 := l ++ List.replicate (k - l.length) 0
def jcw (l : List UInt8) : List UInt8 := Lib.trimRightB ((numB (crcOf (padTo 508 l)) 4).data.toList ++ padTo 508 l) 0
theorem wrap_u32_range (x : Int) : 0 ≤ IntKind.u32.wrap x ∧ IntKind.u32.wrap x ≤ 4294967295 := by
 rw [IntKind.wrap_u32]; omega
theorem jii (x : Int) : 0 ≤ jlu x ∧ jlu x ≤ 4294967295 := by
 unfold jlu bits
 exact wrap_u32_range _
theorem crcOf_range (l : List UInt8) : 0 ≤ crcOf l ∧ crcOf l ≤ 4294967295 := by
 have h : ∀ k s, (0 ≤ s ∧ s ≤ 4294967295) → 0 ≤ jcp k s ∧ jcp k s ≤ 4294967295 := by
  intro k
  induction k with
  | zero => intro s hs; exact hs
  | succ k ih => intro s _; exact ih _ (jii s)
 have h8 : ∀ s, 0 ≤ jcp 8 s ∧ jcp 8 s ≤ 4294967295 := by
  intro s
  rw [jcp]
  exact h 7 _ (jii s)
 rcases List.eq_nil_or_concat l with rfl | ⟨r, b, rfl⟩
 · exact ⟨by decide, by decide⟩
 · rw [List.concat_eq_append, crcOf_snoc]; exact h8 _
theorem je7 : ∀ k : Nat, Lib.repeatL [0] k = List.replicate k (0 : UInt8)
 | 0 => rfl
 | k + 1 => by rw [Lib.repeatL, je7 k, List.replicate_succ]; rfl
theorem whole_any (w : World) (s : ByteArray) (hs : s.size ≤ 508) :
 Calls Tryz.prog 85 #[.string s] w fun e w' => e = .returned (.string ⟨(jcw s.data.toList).toArray⟩) ∧ Below w.heap.size w w' := by
 have hi : IntKind.i64.wrap (508 - (s.size : Int)) = ((508 - s.size : Nat) : Int) := by rw [IntKind.wrap_i64]; omega
 have hi2 : (508 - (s.size : Int)) = ((508 - s.size : Nat) : Int) := by omega
 obtain ⟨p, hp⟩ : ∃ p : ByteArray, p = s ++ ⟨(Lib.repeatL (⟨#[0]⟩ : ByteArray).data.toList (508 - s.size)).toArray⟩ := ⟨_, rfl⟩
 have hpd : p.data.toList = padTo 508 s.data.toList := by
  rw [hp]; unfold padTo; rw [← je7]; simp
 have hps : p.size = 508 := by
  have := congrArg List.length hpd
  unfold padTo at this
  simp at this; omega
 have HP := Lib.hid (And.intro hp (And.intro hpd hps))
 clear hp hpd
 have hrl : (Lib.repeatL [0] (508 - s.size)).length = 508 - s.size := by rw [je7, List.length_replicate]
 have hc := crcOf_range p.data.toList
 generalize hcc : crcOf p.data.toList = cc at *
 have HC := Lib.hid hcc
 clear hcc
 obtain ⟨hc0, hc1⟩ := hc
 have hfit : Lib.bitLen cc.toNat ≤ 8 * 4 := jdf 32 (by omega) (by omega)
 have HF := Lib.hid hfit
 clear hfit
 have hn4 : (numB cc 4).size = 4 := by unfold numB; rw [strOfNums_size, jc0]
 go_enter Tryz.func85, Tryz.ntmps85
 go_wp2_with (first | (go_at_call 145; refine (Tryz.strings_Repeat ⟨#[0]⟩ (508 - s.size) _ (by omega) (by rw [show (⟨#[0]⟩ : ByteArray).size = 1 from rfl]; omega)).mono ?_; rintro e w1 ⟨rfl, hb1⟩) | (go_at_call 146; refine (sum_any _ _ (by rw [← HP.out.1, HP.out.2.2]; omega)).mono ?_; rintro e w2 ⟨rfl, hb2⟩; rw [← HP.out.1, HC.out]) | (go_at_call 142; refine (jhd _ cc 4 hc0 (by omega) (by omega) (by omega) HF.out).mono ?_; rintro e w3 ⟨rfl, hb3⟩) | (go_at_call 137; refine (jim _ _ (by simp [hn4, hps])).mono ?_; rintro e _ ⟨rfl, rfl⟩))
 go_ret
 refine ⟨?_, Below.step hb1 (Below.step hb2 hb3)⟩
 unfold jcw
 rw [← HP.out.2.1, HC.out]
 simp
end Go.Proofs.YtpaohkkhejpgjaaGreatDoor
