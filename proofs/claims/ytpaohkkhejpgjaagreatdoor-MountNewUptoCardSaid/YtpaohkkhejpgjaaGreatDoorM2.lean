/- Texts of the proof: Pk Pk2. -/
import Derived.Test.YtpaohkkhejpgjaaGreatDoorM1
import Derived.Test.YtpaohkkhejpgjaaGreatDoorShelf
import Derived.Laws.LoneSync
import Derived.Laws.BytesArg
set_option linter.all false
set_option maxRecDepth 100000
set_option maxHeartbeats 8000000
namespace Go.Proofs.YtpaohkkhejpgjaaGreatDoor
open Go Go.RowKit
theorem ja2 {w : World} {g : Nat} {t : TypeId} {cs : Array Value} (h : w.heap[g]? = some (.cells cs t (0, 0))) (i : Nat) (u : Value) : (w.setCell ⟨g, i, none⟩ u).heap[g]? = some (.cells (cs.setIfInBounds i u) t (0, 0)) := heap_setCell_same w g i cs t u h
theorem jap {w w1 : World} {g : Nat} (h : w.grownBy w1 (some g)) (i : Nat) (u : Value) : w.grownBy (w1.setCell ⟨g, i, none⟩ u) (some g) :=
 ⟨h.os, h.tape, h.output, by simpa [World.setCell] using h.size, fun k hk hne => by rw [heap_setCell_other _ _ _ _ (by intro e; exact hne (by rw [e]))]; exact h.block k hk hne⟩
theorem jec {w w1 : World} {r : Option Nat} (h : w.grownBy w1 r) : w.grownBy w1.drew r := ⟨h.os, h.tape, h.output, h.size, h.block⟩
theorem jag {w w1 w2 : World} {r : Option Nat} (h : w.grownBy w1 r) (k : w1.grownBy w2 r) : w.grownBy w2 r :=
 ⟨k.os.trans h.os, k.tape.trans h.tape, k.output.trans h.output, Nat.le_trans h.size k.size, fun i hi hne => (k.block i (Nat.lt_of_lt_of_le hi h.size) hne).trans (h.block i hi hne)⟩
theorem take_snoc (s : ByteArray) (k : Nat) (h : k < s.size) : s.data.toList.take (k + 1) = s.data.toList.take k ++ [s[k]] := by
 rw [List.take_succ_eq_append_getElem (by simpa using h)]; rfl
theorem add64 (w : World) (b o : Nat) (c d : Int) (h : w.cell? ⟨b, o, none⟩ = some (.int .u64 c)) (hf : w.frozen? ⟨b, o, none⟩ = false) :
 (callFunc 226 #[.pointer (some ⟨b, o, none⟩), .int .u64 d]).run Tryz.prog w = .ok (.value (.int .u64 (IntKind.u64.wrap (c + d)))) (w.setCell ⟨b, o, none⟩ (.int .u64 (IntKind.u64.wrap (c + d)))) :=
 run_call_add (fn := Tryz.f226) Tryz.func226 (by kernel_rfl) (by kernel_rfl) (by kernel_rfl) .u64 (by kernel_rfl) h hf (by rfl)
theorem meter_add (w : World) (b o : Nat) (c d : Int) (h : w.cell? ⟨b, o, none⟩ = some (.int .u64 c)) (hf : w.frozen? ⟨b, o, none⟩ = false) :
 Calls Tryz.prog 116 #[.pointer (some ⟨b, o, none⟩), .int .i64 d] w fun e w' => ∃ v u, e = .returned v ∧ w' = w.setCell ⟨b, o, none⟩ (.int .u64 u) := by
 have ha := fun d => add64 w b o c d h hf
 go_enter Tryz.func116, Tryz.ntmps116
 go_wp2
 go_ret
 exact ⟨_, _, rfl, rfl⟩
/-! The check sum. -/
def jlu (s : Int) : Int := bits BinOp.xor IntKind.u32 (s * 2 % 4294967296) (bits BinOp.and IntKind.u32 2168537515 (-(s / 2147483648) % 4294967296))
def jcp : Nat → Int → Int
 | 0, s => s
 | k + 1, s => jcp k (jlu s)
theorem crcRounds_succ (k : Nat) : ∀ s, jcp (k + 1) s = jlu (jcp k s) := by
 induction k with
 | zero => intro s; rfl
 | succ k ih => intro s; rw [jcp, ih, jcp]
def crcByte (s x : Int) : Int := jcp 8 (bits BinOp.xor IntKind.u32 s (x % 4294967296 * 16777216 % 4294967296))
def crcOf (l : List UInt8) : Int := l.foldl (fun s b => crcByte s b.toNat) 0
theorem crcOf_snoc (l : List UInt8) (b : UInt8) : crcOf (l ++ [b]) = crcByte (crcOf l) b.toNat := by simp [crcOf]
theorem put_any (w : World) (g : Nat) (s c x : Int) (hg : w.heap[g]? = some (.cells #[.int .u32 s, .int .u64 c] 313 (0, 0))) :
 Calls Tryz.prog 212 #[.pointer (some ⟨g, 0, none⟩), .int .u8 x] w fun e w' => e = .returned (.tuple #[]) ∧ w.grownBy w' (some g) ∧ ∃ c', w'.heap[g]? = some (.cells #[.int .u32 (crcByte s x), .int .u64 c'] 313 (0, 0)) := by
 have c0 : w.cell? ⟨g, 0, none⟩ = some (.int .u32 s) := by rw [cell_of_row w g 0 _ _ _ hg]; rfl
 have c1 : w.cell? ⟨g, 1, none⟩ = some (.int .u64 c) := by rw [cell_of_row w g 1 _ _ _ hg]; rfl
 have f0 : w.frozen? ⟨g, 0, none⟩ = false := frozen_of_row w g 0 _ _ hg
 have f1 : w.frozen? ⟨g, 1, none⟩ = false := frozen_of_row w g 1 _ _ hg
 go_enter Tryz.func212, Tryz.ntmps212
 go_wp2_with (go_at_call 116; refine (meter_add _ _ _ _ _ c1 f1).mono ?_; rintro e w' ⟨v, u, rfl, rfl⟩)
 have h0 := ja2 (ja2 hg 1 (.int .u64 u)) 0 (.int .u32 (bits BinOp.xor IntKind.u32 s (x % 4294967296 * 16777216 % 4294967296)))
 have g0 := jap (jap (World.grownBy.refl w (some g)) 1 (.int .u64 u)) 0 (.int .u32 (bits BinOp.xor IntKind.u32 s (x % 4294967296 * 16777216 % 4294967296)))
 have H0 := Lib.hid h0
 clear h0
 go_loopw [18] (fun i wr => ∃ k : Nat, k ≤ 8 ∧ i = .int .i64 k ∧ w.grownBy wr (some g) ∧ ∃ c', wr.heap[g]? = some (.cells #[.int .u32 (jcp k (bits BinOp.xor IntKind.u32 s (x % 4294967296 * 16777216 % 4294967296))), .int .u64 c'] 313 (0, 0))) (fun i _ => 8 - (intOf i).toNat)
 case atStart => exact ⟨0, by omega, rfl, g0, _, H0.out⟩
 case round =>
  obtain ⟨k, hk, rfl, hG, c', hW⟩ := hrel
  have HG := Lib.hid hG
  have d0 : wr.cell? ⟨g, 0, none⟩ = some (.int .u32 (jcp k (bits BinOp.xor IntKind.u32 s (x % 4294967296 * 16777216 % 4294967296)))) := by rw [cell_of_row wr g 0 _ _ _ hW]; rfl
  have e0 : wr.frozen? ⟨g, 0, none⟩ = false := frozen_of_row wr g 0 _ _ hW
  have HW := Lib.hid hW
  clear hW hG c0 c1 f0 f1 g0
  generalize hr : jcp k (bits BinOp.xor IntKind.u32 s (x % 4294967296 * 16777216 % 4294967296)) = r at *
  have HR := Lib.hid hr
  clear hr
  by_cases hlt : k < 8
  · go_wp2
    go_region
    go_wp2
    refine ⟨⟨k + 1, by omega, by go_num, jec (jap HG.out 0 _), c', ?_⟩, by simp [intOf]; omega⟩
    have := ja2 HW.out 0 (.int .u32 (bits BinOp.xor IntKind.u32 (r * 2 % 4294967296) (bits BinOp.and IntKind.u32 2168537515 (-(r / 2147483648) % 4294967296))))
    rw [crcRounds_succ, HR.out]
    exact this
  · go_wp2
    obtain rfl : k = 8 := by omega
    go_end0
    exact ⟨rfl, HG.out, c', by rw [crcByte, HR.out]; exact HW.out⟩
theorem sum_any (w : World) (s : ByteArray) (hs : s.size ≤ 9223372036854775807) :
 Calls Tryz.prog 146 #[.string s] w fun e w' => e = .returned (.int .u32 (crcOf s.data.toList)) ∧ Below w.heap.size w w' := by
 go_enter Tryz.func146, Tryz.ntmps146
 go_wp2
 go_loopw [4, 7] (fun _ i wr => ∃ k : Nat, k ≤ s.size ∧ i = .int .i64 k ∧ (w.alloc (.cells #[.int .u32 0, .int .u64 0] 313)).grownBy wr (some w.heap.size) ∧ ∃ c', wr.heap[w.heap.size]? = some (.cells #[.int .u32 (crcOf (s.data.toList.take k)), .int .u64 c'] 313 (0, 0))) (fun _ i _ => s.size - (intOf i).toNat)
 case atStart => exact ⟨0, Nat.zero_le _, rfl, World.grownBy.refl _ _, 0, heap_alloc_new _ _⟩
 case round =>
  obtain ⟨k, hk, rfl, hG, c', hW⟩ := hrel
  have HG := Lib.hid hG
  have HW := Lib.hid hW
  have d0 : wr.cell? ⟨w.heap.size, 0, none⟩ = some (.int .u32 (crcOf (s.data.toList.take k))) := by rw [cell_of_row wr _ 0 _ _ _ hW]; rfl
  clear hG hW
  by_cases hlt : k < s.size
  · have hsn := crcOf_snoc (s.data.toList.take k) s[k]
    have hts := take_snoc s k hlt
    rw [← hts] at hsn
    have HS := Lib.hid hsn
    clear hsn hts
    go_wp2_with (go_at_call 212; refine (put_any _ _ _ _ _ HW.out).mono ?_; rintro e w' ⟨rfl, hg1, c1, hw1⟩)
    refine ⟨⟨k + 1, by omega, by go_num, jag HG.out hg1, c1, ?_⟩, by simp [intOf]; omega⟩
    rw [HS.out]; exact hw1
  · obtain rfl : k = s.size := by omega
    go_wp2
    go_ret
    refine ⟨?_, ?_⟩
    · first | rfl | (rw [List.take_of_length_le (by simp)]; rfl)
    · have h1 : Below w.heap.size w (w.alloc (.cells #[.int .u32 0, .int .u64 0] 313)) := (Below.refl _ _).alloc (Nat.le_refl _) _
      exact h1.grown HG.out (by simp) (fun k hk => by injection hk with hk; omega)
#print axioms sum_any
def numL (n : Int) (w : Nat) : List Int := (List.range w).map fun i => n / 2 ^ (8 * (w - 1 - i)) % 256
def numB (n : Int) (w : Nat) : ByteArray := strOfNums (numL n w)
def jdi (l : List Int) : List Value := l.map (Value.int .u8)
theorem jc0 (n : Int) (k : Nat) : (numL n k).length = k := by simp [numL]
theorem numL_get (n : Int) (k i : Nat) (h : i < k) : (numL n k)[i]? = some (n / 2 ^ (8 * (k - 1 - i)) % 256) := by
 unfold numL; rw [List.getElem?_map, List.getElem?_range h]; rfl
def jc9 (n : Int) (k j : Nat) : List Int := List.replicate (k - j) 0 ++ (numL n k).drop (k - j)
theorem numPart_get0 (n : Int) (k j : Nat) (h : j < k) : (jc9 n k j)[k - 1 - j]? = some 0 := by
 unfold jc9; rw [List.getElem?_append_left (by simp; omega), List.getElem?_replicate, if_pos (by omega)]
theorem jlv (n : Int) (k j : Nat) (h : j < k) : (jdi (jc9 n k j)).set (k - 1 - j) (.int .u8 (n / 2 ^ (8 * j) % 256)) = jdi (jc9 n k (j + 1)) := by
 unfold jdi
 rw [← List.map_set]
 congr 1
 apply List.ext_getElem?
 intro i
 rw [List.getElem?_set]
 have hl : (jc9 n k j).length = k := by unfold jc9; simp [jc0]
 rw [hl]
 by_cases hi : k - 1 - j = i
 · subst hi
   rw [if_pos rfl, if_pos (by omega)]
   unfold jc9
   rw [List.getElem?_append_right (by simp; omega), List.length_replicate, List.getElem?_drop, numL_get _ _ _ (by omega), show k - 1 - (k - (j + 1) + (k - 1 - j - (k - (j + 1)))) = j by omega]
 · rw [if_neg hi]
   unfold jc9
   by_cases h2 : i < k - (j + 1)
   · rw [List.getElem?_append_left (by simp; omega), List.getElem?_append_left (by simp; omega), List.getElem?_replicate, List.getElem?_replicate, if_pos (by omega), if_pos (by omega)]
   · rw [List.getElem?_append_right (by simp; omega), List.getElem?_append_right (by simp; omega), List.length_replicate, List.length_replicate, List.getElem?_drop, List.getElem?_drop]
     congr 1; omega
theorem u8_info : (Tryz.prog.info? 5).map (fun i => (i.zero, i.size, i.bytes)) = some (some (.int .u8 0), 1, 1) := by kernel_rfl
theorem len64 (x : Int) (w : World) (h0 : 0 ≤ x) (h1 : x ≤ 18446744073709551615) : Calls Tryz.prog 206 #[.int .u64 x] w fun e w' => e = .returned (.int .i64 (Lib.bitLen x.toNat)) ∧ w = w' :=
 (Tryz.bits_Len64 x w h0 h1).mono fun _ _ h => ⟨h.1, h.2.symm⟩
theorem jim (s : ByteArray) (w : World) (hs : s.size ≤ 9223372036854775807) : Calls Tryz.prog 137 #[.string s, .string ⟨#[0]⟩] w fun e w' => e = .returned (.string ⟨(Lib.trimRightB s.data.toList 0).toArray⟩) ∧ w = w' :=
 (Tryz.strings_TrimRight_one s 0 (by decide) w hs).mono fun _ _ h => ⟨h.1, h.2.symm⟩
theorem jhd (w : World) (n : Int) (k : Nat) (h0 : 0 ≤ n) (h1 : n ≤ 18446744073709551615) (hk : 1 ≤ k) (hk8 : k ≤ 8) (hfit : Lib.bitLen n.toNat ≤ 8 * k) :
 Calls Tryz.prog 142 #[.int .u64 n, .int .i64 k] w fun e w' => e = .returned (.tuple #[.string (numB n k), .int .i64 0]) ∧ Below w.heap.size w w' := by
 obtain ⟨i0, hi, hz0, hz1, hz2⟩ := info_parts u8_info
 go_enter Tryz.func142, Tryz.ntmps142
 go_wp2_with (first | (go_at_call 206; refine (len64 _ _ h0 h1).mono ?_; rintro e w' ⟨rfl, rfl⟩) | (at_make; refine wpList_make_full _ rfl (.tmp 21) (.tmp 21) 167 rfl w.heap.size 5 i0 (.int .u8 0) 1 Tryz.underlying167 hi hz0 hz1 .i64 .i64 k k k rfl rfl rfl rfl (by rw [hz2]; omega) (by unfold maxLen; omega) (Nat.le_refl _) ?_; intro w1 hown hgr))
 go_loopw [7, 25] (fun _ i wr => ∃ j : Nat, j ≤ k ∧ i = .int .i64 j ∧ Below w.heap.size w wr ∧ wr.ownsRow w.heap.size 5 1 (.slice (some ⟨w.heap.size, 0, none⟩) k k) k (jdi (jc9 n k j))) (fun _ i _ => k - (intOf i).toNat)
 case atStart =>
  refine ⟨0, Nat.zero_le _, rfl, (Below.refl _ _).grown hgr (Nat.le_refl _) (fun _ h => by cases h), ?_⟩
  have : (madeCells (Value.int IntKind.u8 0).cells (k * 1)).toList = jdi (jc9 n k 0) := by
   rw [show (Value.int IntKind.u8 0).cells = #[Value.int IntKind.u8 0] from rfl, toList_madeCells_one]
   unfold jdi jc9
   rw [Nat.mul_one, Nat.sub_zero, List.drop_of_length_le (by rw [jc0]; omega)]
   simp
  rw [this] at hown; exact hown
 case round =>
  obtain ⟨j, hj, rfl, hB, hO⟩ := hrel
  have HB := Lib.hid hB
  have HO := Lib.hid hO
  have hfz := fun i => World.ownsRow.frozenAt hO i
  have hc := fun i hi => World.ownsRow.cellAt hO i hi
  clear hB hO
  by_cases hlt : j < k
  · have e1 : (k : Int) - 1 - j = ((k - 1 - j : Nat) : Int) := by omega
    have c1 : wr.cell? ⟨w.heap.size, k - 1 - j, none⟩ = some (.int .u8 0) := by
     rw [hc _ (by omega), jdi, List.getElem?_map, numPart_get0 n k j hlt]; rfl
    have f1 := hfz (k - 1 - j)
    clear hfz hc
    have HE := Lib.hid e1
    clear e1
    go_wp2
    refine ⟨⟨j + 1, by omega, by go_num, HB.out.setCell (Nat.le_refl _) _, ?_⟩, by simp [intOf]; omega⟩
    rw [← jlv n k j hlt]
    exact (HO.out.stored _ _).1
  · obtain rfl : j = k := by omega
    have hst : ∀ W, W = wr → (convert 167 9 (.slice (some ⟨w.heap.size, 0, none⟩) j j)).run Tryz.prog W = .ok (.string (numB n j)) W := by
     rintro W rfl
     refine run_convert_bytes_arg W 167 5 Tryz.underlying167 Tryz.underlying5 w.heap.size 0 j j (numL n j) (jc0 _ _) (fun i hi => ?_) 9 Tryz.underlying9
     rw [Nat.zero_add, hc _ (by omega)]
     unfold jdi jc9
     rw [Nat.sub_self, List.replicate_zero, List.nil_append, List.drop_zero, List.getElem?_map, numL_get _ _ _ hi]
     simp [numL_get _ _ _ hi]
    have hst := hst wr rfl
    clear hfz hc
    go_wp2
    go_ret2
    exact ⟨rfl, HB.out⟩
#print axioms jhd
end Go.Proofs.YtpaohkkhejpgjaaGreatDoor
