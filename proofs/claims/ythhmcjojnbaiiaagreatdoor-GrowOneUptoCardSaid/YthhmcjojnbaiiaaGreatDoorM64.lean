/- Texts of the proof: Sg. -/
import Derived.Test.YthhmcjojnbaiiaaGreatDoorM23
import Derived.Test.YthhmcjojnbaiiaaGreatDoorM26
import Derived.Deep.LoopGhost
set_option linter.all false
/- The document's Same of heaps: of two heaps that read alike. -/
namespace Go.Proofs.YthhmcjojnbaiiaaGreatDoor
open Go Go.RowKit
set_option maxRecDepth 100000 in
set_option maxHeartbeats 1000000 in
theorem hsame_any (w : World) (va vb : Value) (h : Hp) (ha : HeapV w va h) (hb : HeapV w vb h) (hl : h.cells.length ≤ 1073741824) :
    Calls Tryz.prog 37 #[va, vb] w fun e w' => e = .returned (.bool true) ∧ Below w.heap.size w w' := by
  obtain ⟨cv, rfl, hsl, hsz⟩ := ha
  obtain ⟨A, c, rfl, hc1, hc2, hra⟩ := hsl
  obtain ⟨dv, rfl, hsl2, _⟩ := hb
  obtain ⟨B, d, rfl, hd1, hd2, hrb⟩ := hsl2
  have HR := Lib.hid (And.intro hra hrb)
  have hb1 := below_box w (.cells #[.int .u32 h.size, .slice A h.cells.length c] 25)
  have hb2 := hb1.alloc (by simp) (.cells #[.int .u32 h.size, .slice B h.cells.length d] 25)
  have hn2 := heap_alloc_new (w.alloc (.cells #[.int .u32 h.size, .slice A h.cells.length c] 25)) (.cells #[.int .u32 h.size, .slice B h.cells.length d] 25)
  have hn1 : ((w.alloc (.cells #[.int .u32 h.size, .slice A h.cells.length c] 25)).alloc (.cells #[.int .u32 h.size, .slice B h.cells.length d] 25)).heap[w.heap.size]? = some (.cells #[.int .u32 h.size, .slice A h.cells.length c] 25 (0, 0)) := by
    rw [Lib.alloc_old _ _ _ (by simp)]; exact heap_alloc_new _ _
  simp only [World.size_alloc] at hn2
  clear hra hrb
  go_enter Tryz.func37, Tryz.ntmps37
  go_upto_region 1 with (fail)
  generalize (w.alloc (.cells #[.int .u32 h.size, .slice A h.cells.length c] 25)).alloc (.cells #[.int .u32 h.size, .slice B h.cells.length d] 25) = w2 at *
  have a0 : w2.cell? ⟨w.heap.size, 0, none⟩ = some (.int .u32 h.size) := by rw [cell_of_row _ _ _ _ _ _ hn1]; rfl
  have a1 : w2.cell? ⟨w.heap.size, 1, none⟩ = some (.slice A h.cells.length c) := by rw [cell_of_row _ _ _ _ _ _ hn1]; rfl
  have b0 : w2.cell? ⟨w.heap.size + 1, 0, none⟩ = some (.int .u32 h.size) := by rw [cell_of_row _ _ _ _ _ _ hn2]; rfl
  have b1 : w2.cell? ⟨w.heap.size + 1, 1, none⟩ = some (.slice B h.cells.length d) := by rw [cell_of_row _ _ _ _ _ _ hn2]; rfl
  have hw2 := hb2.size
  have HB := Lib.hid hb2
  clear hb1 hb2 hn1 hn2
  go_wp2_with (fail)
  go_loopg [5, 23] h.cells.length (fun k _ vi wr => ∃ j q : Nat, j + k = h.cells.length ∧ vi = .int .i64 j ∧ wr = w2.drewN q)
  case atStart => exact ⟨0, 0, by omega, rfl, rfl⟩
  case round =>
    obtain ⟨j, q, hj, rfl, rfl⟩ := hrel
    by_cases hlt : j < h.cells.length
    · obtain ⟨b1', o1, rfl, hat1, hwf⟩ := HR.out.1 j hlt
      obtain ⟨b2', o2, rfl, hat2, _⟩ := HR.out.2 j hlt
      have hat1' := hat1.below HB.out (Nat.le_refl _)
      have hat2' := hat2.below HB.out (Nat.le_refl _)
      have d0 := hat1'.cell 0 _ rfl
      have d1 := hat1'.cell 1 _ rfl
      have d2 := hat1'.cell 2 _ rfl
      have e0 := hat2'.cell 0 _ rfl
      have e1 := hat2'.cell 1 _ rfl
      have e2 := hat2'.cell 2 _ rfl
      simp only [celE, Nat.add_zero] at d0 d1 d2 e0 e1 e2
      clear hat1 hat2 hat1' hat2' hwf
      generalize h.cells[j].num = kn at *
      generalize h.cells[j].data = kd at *
      generalize h.cells[j].refs = kr at *
      have hk : (kd.toList == kd.toList) = true := by simp
      go_wp2_with (fail)
      go_quiet (fail)
      go_wp2_with (fail)
      go_roundg (h.cells.length - (j + 1))
      case measure => omega
      case rel => exact ⟨j + 1, _, by omega, by go_num, rfl⟩
    · go_wp2_with (fail)
      go_ret
      exact ⟨rfl, Below.drewN' HB.out _⟩
end Go.Proofs.YthhmcjojnbaiiaaGreatDoor
