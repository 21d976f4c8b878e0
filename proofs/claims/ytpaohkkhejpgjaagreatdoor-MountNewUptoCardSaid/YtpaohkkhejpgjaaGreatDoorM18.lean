/- Texts of the proof: Vq V1. -/
import Derived.Test.YtpaohkkhejpgjaaGreatDoorM1
import Derived.Deep.QuietTactic
import Derived.Test.YtpaohkkhejpgjaaGreatDoorM7
import Derived.Test.YtpaohkkhejpgjaaGreatDoorM3
import Derived.Test.YtpaohkkhejpgjaaGreatDoorM9
set_option linter.all false
set_option maxRecDepth 100000
set_option maxHeartbeats 8000000
namespace Go.Proofs.YtpaohkkhejpgjaaGreatDoor
open Go Go.RowKit
theorem jy1 {α : Type} (l : List α) (i : Nat) (a : α) : l.toArray.setIfInBounds i a = (l.set i a).toArray := List.setIfInBounds_toArray ..
theorem jy2 {α : Type} (a b : α) (l : List α) : (a :: l).set 0 b = b :: l := rfl
theorem jy3 {α : Type} (a b : α) (l : List α) (n : Nat) : (a :: l).set (n + 1) b = a :: l.set n b := rfl
structure Grown (w : World) where
 val : World
 prop : Below w.heap.size w val
instance (w : World) : Nonempty (Grown w) := ⟨⟨w, Below.refl _ w⟩⟩
theorem Grown.fact {w : World} {a : Addr} {v : Value} (h : w.cell? a = some v) (g : Grown w) : g.val.cell? a = some v := (g.prop.cell (p := a) (block_lt_of_cell h)).trans h
theorem jak {P : Program} {id : Nat} {Q : Exit → Act → World → Prop} {a : Act} {w : World} {l : List Oper} (hm : P.follows .mixedOrders = true) (hB : Region.lexB .any l.toArray = true)
 (h : wpQuiet P l.toArray (fun w' => ∃ g : Grown w, w' = g.val) (fun a' => ∀ w', (∃ g : Grown w, w' = g.val) → Q .normal a' w') l a) : (Code.region id l.toArray true).wp P Q a w :=
 wp_region_quiet (C := fun w' => ∃ g : Grown w, w' = g.val) hm hB ⟨⟨_, (Below.refl _ w).drew⟩, rfl⟩ (by simpa using h)
theorem jiw : (Tryz.prog.info? 160).map (fun i => (i.zero.map (fun z => z.cells.size), i.size, i.bytes)) = some (some 2, 2, 24) := by kernel_rfl
theorem jbz : (Tryz.prog.info? 25).map (·.size) = some 5 := by kernel_rfl
theorem jb2 (w : World) (cs : Array Value) (t : TypeId) : Below w.heap.size w (w.alloc (.cells cs t)) := (Below.refl w.heap.size w).alloc (Nat.le_refl _) _
theorem jf1 (s : ByteArray) (w : World) (hs : s.size ≤ 9223372036854775807) : Calls Tryz.prog 76 #[.string s] w fun e w' => e = .returned (.string (cutB s)) ∧ w' = w := by
 go_enter Tryz.func76, Tryz.ntmps76
 go_wp2_with (fail)
 go_at_call 137
 refine (jim s _ hs).mono ?_
 rintro e _ ⟨rfl, rfl⟩
 go_wp2_with (fail)
 go_ret
 exact ⟨rfl, rfl⟩
theorem jel (w : World) (b : Blk) (size : Int) (hs : b.data.size ≤ 9223372036854775807) :
 Calls Tryz.prog 78 #[.agg #[.int .u32 b.num, .string b.data], .int .u32 size] w fun e w' => e = .returned (.bool (ja3 b size)) ∧ Below w.heap.size w w' := by
 obtain ⟨num, data⟩ := b
 simp only at hs
 have hb := heap_alloc_new w (.cells #[.int .u32 num, .string data] 160)
 have HB := Lib.hid (jb2 w #[.int .u32 num, .string data] 160)
 go_enter Tryz.func78, Tryz.ntmps78
 go_upto_region 1 with (fail)
 generalize w.alloc (.cells #[.int .u32 num, .string data] 160) = wa at *
 have a0 : wa.cell? ⟨w.heap.size, 0, none⟩ = some (.int .u32 num) := by rw [cell_of_row _ _ _ _ _ _ hb]; rfl
 have a1 : wa.cell? ⟨w.heap.size, 1, none⟩ = some (.string data) := by rw [cell_of_row _ _ _ _ _ _ hb]; rfl
 by_cases h1 : num < size
 · have q1 : decide (num < size) = true := decide_eq_true h1
   by_cases h2 : data.size ≤ 512
   · have q2 : decide ((data.size : Int) ≤ 512) = true := decide_eq_true (by omega)
     cases h3 : beqB (cutB data) data with
     | true =>
      have q3 : ((cutB data).toList == data.toList) = true := h3
      have HR := Lib.hid (show ja3 ⟨num, data⟩ size = true by simp [ja3, h1, h2, h3])
      clear h1 h2 h3
      go_wp2_with (fail)
      go_quiet ((go_at_call 76; exact Calls.quiet_of_same (jf1 _ _ hs)))
      go_wp2_with (fail)
      go_ret
      exact ⟨by rw [HR.out]; rfl, Below.drewN' HB.out _⟩
     | false =>
      have q3 : ((cutB data).toList == data.toList) = false := h3
      have HR := Lib.hid (show ja3 ⟨num, data⟩ size = false by simp [ja3, h3])
      clear h1 h2 h3
      go_wp2_with (fail)
      go_quiet ((go_at_call 76; exact Calls.quiet_of_same (jf1 _ _ hs)))
      go_wp2_with (fail)
      go_ret
      exact ⟨by rw [HR.out]; rfl, Below.drewN' HB.out _⟩
   · have q2 : decide ((data.size : Int) ≤ 512) = false := decide_eq_false (by omega)
     have HR := Lib.hid (show ja3 ⟨num, data⟩ size = false by simp [ja3, h2])
     clear h1 h2
     go_wp2_with (fail)
     go_quiet ((go_at_call 76; exact Calls.quiet_of_same (jf1 _ _ hs)))
     go_wp2_with (fail)
     go_ret
     exact ⟨by rw [HR.out]; rfl, Below.drewN' HB.out _⟩
 · have q1 : decide (num < size) = false := decide_eq_false h1
   have HR := Lib.hid (show ja3 ⟨num, data⟩ size = false by simp [ja3, h1])
   clear h1
   go_wp2_with (fail)
   go_quiet ((go_at_call 76; exact Calls.quiet_of_same (jf1 _ _ hs)))
   go_wp2_with (fail)
   go_ret
   exact ⟨by rw [HR.out]; rfl, Below.drewN' HB.out _⟩
theorem devCheck1_any (w : World) (b : Blk) (db : Nat) (size : Int) (hs : b.data.size ≤ 9223372036854775807) (hc : w.cell? ⟨db, 0, none⟩ = some (.int .u32 size)) :
 Calls Tryz.prog 80 #[.agg #[.int .u32 b.num, .string b.data], .pointer (some ⟨db, 0, none⟩)] w fun e w' => e = .returned (.bool (!ja3 b size)) ∧ Below w.heap.size w w' := by
 have hdb := block_lt_of_cell hc
 have hb := heap_alloc_new w (.cells #[.int .u32 b.num, .string b.data] 160)
 have hbb := jb2 w #[.int .u32 b.num, .string b.data] 160
 have hc2 := (hbb.cell (p := ⟨db, 0, none⟩) hdb).trans hc
 have HB := Lib.hid hbb
 clear hbb
 go_enter Tryz.func80, Tryz.ntmps80
 go_upto_region 1 with (fail)
 generalize w.alloc (.cells #[.int .u32 b.num, .string b.data] 160) = wa at *
 have a0 : wa.cell? ⟨w.heap.size, 0, none⟩ = some (.int .u32 b.num) := by rw [cell_of_row _ _ _ _ _ _ hb]; rfl
 have a1 : wa.cell? ⟨w.heap.size, 1, none⟩ = some (.string b.data) := by rw [cell_of_row _ _ _ _ _ _ hb]; rfl
 clear hb
 go_wp2_with (fail)
 go_at_call 78
 refine (jel wa b size hs).mono ?_
 rintro e w1 ⟨rfl, hb1⟩
 have HB1 := Lib.hid (HB.out.trans (hb1.mono HB.out.size))
 clear hb1
 obtain ⟨rb, hrb⟩ : ∃ rb, ja3 b size = rb := ⟨_, rfl⟩
 rw [hrb]
 have HR := Lib.hid hrb
 clear hrb
 go_wp2_with (fail)
 go_ret
 exact ⟨by rw [HR.out]; rfl, HB1.out⟩
end Go.Proofs.YtpaohkkhejpgjaaGreatDoor
