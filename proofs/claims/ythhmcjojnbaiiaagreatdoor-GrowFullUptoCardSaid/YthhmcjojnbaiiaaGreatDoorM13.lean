/- Texts of the proof: Tk2. -/
import Derived.Test.YthhmcjojnbaiiaaGreatDoorM12
import Derived.Test.YthhmcjojnbaiiaaGreatDoorM9
import Derived.Lib.BufferWrite
import Derived.Deep.RegionHeld3
set_option linter.all false
/- Node's taker: a hash. -/
namespace Go.Proofs.YthhmcjojnbaiiaaGreatDoor
open Go Go.RowKit
def bytesI (s : ByteArray) : List Int := s.data.toList.map (fun b => (b.toNat : Int))
def hashT (t : Tk) : List Int × Tk := (if (someF t 32).1.size = 32 then bytesI (someF t 32).1 else zero32, (someF t 32).2)
theorem bytesI_cells (s : ByteArray) : Lib.byteCells s.data.toList = hashV (bytesI s) := by
  unfold Lib.byteCells hashV bytesI; rw [List.map_map]; rfl
theorem someF_size (t : Tk) (n : Nat) : (someF t n).1.size = n ∨ (someF t n).1.size = 0 := by
  unfold someF
  split
  · right; rfl
  · rename_i h
    simp only [Bool.or_eq_true, decide_eq_true_eq, not_or] at h
    left; simp; omega
theorem size1u8 : (Tryz.prog.info? 5).map (·.size) = some 1 := by kernel_rfl
theorem copy_hash {w : World} (g : Nat) (s : ByteArray) (t : TypeId) (hg : w.heap[g]? = some (.cells (hashV zero32).toArray t (0, 0))) (hs : s.size = 32 ∨ s.size = 0) :
    (Builtin.copy_ #[196, 9] 3 #[.slice (some ⟨g, 0, none⟩) 32 32, .string s]).run Tryz.prog w = .ok (goInt s.size) (w.setRow g (hashV (if s.size = 32 then bytesI s else zero32)).toArray) := by
  have hrun := Lib.run_copy_row_string w 196 9 3 5 g 0 32 32 s _ t Tryz.underlying196 size1u8 hg (by omega) (by simp [hashV, zero32]; omega)
  have e : ((hashV zero32).toArray.toList.take 0 ++ Lib.byteCells s.data.toList ++ (hashV zero32).toArray.toList.drop (0 + s.size)).toArray = (hashV (if s.size = 32 then bytesI s else zero32)).toArray := by
    rcases hs with h | h
    · rw [if_pos h, h, bytesI_cells]
      simp [hashV, zero32]
    · have h32 : ¬ s.size = 32 := by omega
      have hnil : s.data.toList = [] := List.length_eq_zero_iff.1 (by simpa using h)
      rw [if_neg h32, h, hnil]
      simp [Lib.byteCells]
  rw [e] at hrun
  exact hrun
theorem heap_setRow_same (w : World) (g : Nat) (cs cur : Array Value) (t : TypeId) (h : w.heap[g]? = some (.cells cur t (0, 0))) : (w.setRow g cs).heap[g]? = some (.cells cs t (0, 0)) := by
  unfold World.setRow
  simp [Array.getElem?_modify, h]
theorem heap_setRow_other (w : World) (g k : Nat) (cs : Array Value) (h : k ≠ g) : (w.setRow g cs).heap[k]? = w.heap[k]? := by
  unfold World.setRow
  simp only [Array.getElem?_modify]
  rw [if_neg (fun e => h e.symm)]
theorem hash32 (l : List Int) (h : l.length = 32) : (Tryz.prog.info? 56).map (·.size) = some (hashV l).toArray.size := by
  rw [size32h]; simp [hashV, h]
theorem hashT_len (t : Tk) : (hashT t).1.length = 32 := by
  unfold hashT
  split
  · rename_i h; simpa [bytesI] using h
  · rfl
set_option maxRecDepth 100000 in
set_option maxHeartbeats 1000000 in
theorem tkHash_any (w : World) (g : Nat) (t : Tk) (hg : TkAt w g t) (hs : t.left.size ≤ 9223372036854775807) :
    Calls Tryz.prog 144 #[.pointer (some ⟨g, 0, none⟩)] w fun e w' => e = .returned (.agg (hashV (hashT t).1).toArray) ∧ w.grownBy w' (some g) ∧ TkAt w' g (hashT t).2 := by
  have hlt := lt_of_block hg
  have hA : TkAt (w.alloc (.cells (hashV zero32).toArray 56)) g t := (Lib.alloc_old w _ g hlt).trans hg
  have HN : (w.alloc (.cells (hashV zero32).toArray 56)).heap[w.heap.size]? = some (.cells (hashV zero32).toArray 56 (0, 0)) := heap_alloc_new _ _
  have hgr : w.grownBy (w.alloc (.cells (hashV zero32).toArray 56)) (some g) := ⟨rfl, rfl, rfl, by simp, fun k hk _ => Lib.alloc_old w _ k hk⟩
  have hsz := someF_size t 32
  have HT := Lib.hid (And.intro hg (And.intro hA (And.intro HN (And.intro hgr hsz))))
  clear hg hA HN hgr hsz
  have hzv : (hashV zero32).toArray = #[.int .u8 0, .int .u8 0, .int .u8 0, .int .u8 0, .int .u8 0, .int .u8 0, .int .u8 0, .int .u8 0, .int .u8 0, .int .u8 0, .int .u8 0, .int .u8 0, .int .u8 0, .int .u8 0, .int .u8 0, .int .u8 0, .int .u8 0, .int .u8 0, .int .u8 0, .int .u8 0, .int .u8 0, .int .u8 0, .int .u8 0, .int .u8 0, .int .u8 0, .int .u8 0, .int .u8 0, .int .u8 0, .int .u8 0, .int .u8 0, .int .u8 0, .int .u8 0] := rfl
  obtain ⟨wz, hwz⟩ : ∃ wz, wz = w.alloc (.cells (hashV zero32).toArray 56) := ⟨_, rfl⟩
  go_enter Tryz.func144, Tryz.ntmps144
  go_wp2
  rw [← hzv, ← hwz]
  rw [← hwz] at HT
  have HWZ := Lib.hid hwz
  have HZV := Lib.hid hzv
  clear hwz hzv
  go_region_held3 (fun _ => True) (first | trivial) (first | (go_at_call 175; refine (some_any _ g t 32 (show TkAt wz.drew g t from HT.out.2.1) hs).mono ?_; rintro e w1 ⟨rfl, hg1, ht1⟩; have hcp := copy_hash w.heap.size (someF t 32).1 56 ((hg1.block _ (lt_of_block HT.out.2.2.1) (by have := lt_of_block HT.out.1; simp; omega)).trans HT.out.2.2.1) HT.out.2.2.2.2))
  have e1 : (if (someF t 32).1.size = 32 then bytesI (someF t 32).1 else zero32) = (hashT t).1 := rfl
  rw [e1]
  have hl := hashT_len t
  have hnew : (w1.setRow w.heap.size (hashV (hashT t).1).toArray).heap[w.heap.size]? = some (.cells (hashV (hashT t).1).toArray 56 (0, 0)) :=
    heap_setRow_same _ _ _ _ _ ((hg1.block _ (lt_of_block HT.out.2.2.1) (by have := lt_of_block HT.out.1; simp; omega)).trans HT.out.2.2.1)
  have h32 := hash32 (hashT t).1 hl
  have HNEW := Lib.hid hnew
  clear hnew hcp e1
  obtain ⟨w2, hw2⟩ : ∃ w2, w2 = w1.setRow w.heap.size (hashV (hashT t).1).toArray := ⟨_, rfl⟩
  rw [← hw2] at HNEW ⊢
  have HW2 := Lib.hid hw2
  clear hw2
  go_wp2_with (first | (refine wpList_load_row rfl 56 _ rfl w.heap.size rfl 56 _ (0, 0) _ HNEW.out Tryz.underlying56 rfl h32 ?_) | (refine wpList_store_self rfl 56 _ _ rfl w.heap.size rfl _ rfl 56 HNEW.out (by simpa using hashV_one _) h32 ?_))
  refine bodyPost_ret (results_cell_row rfl _ _ w.heap.size 56 _ (0, 0) _ rfl HNEW.out Tryz.underlying56 rfl h32) rfl ⟨rfl, ?_, ?_⟩
  · rw [HW2.out]
    refine ⟨hg1.os.trans HT.out.2.2.2.1.os, hg1.tape.trans HT.out.2.2.2.1.tape, hg1.output.trans HT.out.2.2.2.1.output, ?_, ?_⟩
    · have h1 := hg1.size
      have h2 := HT.out.2.2.2.1.size
      simp only [World.setRow, Array.size_modify]
      exact Nat.le_trans h2 h1
    · intro k hk hne
      rw [heap_setRow_other _ _ _ _ (by omega), hg1.block k (Nat.lt_of_lt_of_le hk HT.out.2.2.2.1.size) hne]
      exact HT.out.2.2.2.1.block k hk hne
  · rw [HW2.out]
    unfold TkAt
    rw [heap_setRow_other _ _ _ _ (by omega)]
    exact ht1
end Go.Proofs.YthhmcjojnbaiiaaGreatDoor
