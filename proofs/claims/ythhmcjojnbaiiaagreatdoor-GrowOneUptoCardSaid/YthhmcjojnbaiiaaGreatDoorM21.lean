/- Texts of the proof: Hs4. -/
import Derived.Test.YthhmcjojnbaiiaaGreatDoorM15
import Derived.Lib.Strings
set_option linter.all false
/- Package hash: the sum of a text. -/
namespace Go.Proofs.YthhmcjojnbaiiaaGreatDoor
open Go Go.RowKit
theorem tailL_length (n : Nat) : (tailL n).length = 9 + tailZ n := by rw [← tailPart_end, tailPart_length]
theorem padL_length (l : List UInt8) : (padL l).length = l.length + 9 + tailZ l.length := by simp [padL, tailL_length]; omega
theorem padL_mod (l : List UInt8) : (padL l).length % 64 = 0 := by rw [padL_length]; unfold tailZ; omega
theorem tail_size (n : Nat) : (strOfNums (tailL n)).size = 9 + tailZ n := by rw [strOfNums_size, tailL_length]
theorem pad_data (s : ByteArray) : (s ++ strOfNums (tailL s.size)).data.toList = padL s.data.toList := by
  simp [padL, strOfNums_data]
theorem u8s_size (l : List Int) : (u8s l).size = l.length := by simp [u8s, byteVs]
theorem u8s_one (l : List Int) : ∀ v ∈ (u8s l).toList, v.oneCell' = true := by
  intro v hv
  simp only [u8s, byteVs, List.mem_map] at hv
  obtain ⟨x, _, rfl⟩ := hv
  rfl
theorem size32 {n : Nat} (h : n = 32) : (Tryz.prog.info? 56).map (·.size) = some n := by subst h; kernel_rfl
theorem out_cell {w : World} {g : Nat} {st : S8} {j : Nat} {t : TypeId} (h : w.heap[g]? = some (.cells (u8s ((outL st).take j ++ List.replicate (32 - j) 0)) t (0, 0))) (hj : j < 32) : w.cell? ⟨g, j, none⟩ = some (.int .u8 0) := by
  rw [cell_of_row w g j _ _ _ h]
  unfold u8s byteVs
  rw [List.getElem?_toArray, List.getElem?_map, List.getElem?_append_right (by simp [outL_length]; omega), List.getElem?_replicate, if_pos (by simp [outL_length]; omega)]
  rfl
theorem out_store {w : World} {g : Nat} {st : S8} {j : Nat} {t : TypeId} (h : w.heap[g]? = some (.cells (u8s ((outL st).take j ++ List.replicate (32 - j) 0)) t (0, 0))) (hj : j < 32) : (w.setCell ⟨g, j, none⟩ (.int .u8 ((outL st).getD j 0))).heap[g]? = some (.cells (u8s ((outL st).take (j + 1) ++ List.replicate (32 - (j + 1)) 0)) t (0, 0)) := by
  rw [blk_set h j]
  congr 2
  have hl : j < (outL st).length := by rw [outL_length]; exact hj
  unfold u8s byteVs
  rw [List.setIfInBounds_toArray, ← List.map_set]
  congr 2
  rw [List.take_succ_eq_append_getElem hl, List.set_append_right _ _ (by simp [outL_length]; omega), show j - (List.take j (outL st)).length = 0 by simp [outL_length]; omega, show 32 - j = (32 - (j + 1)) + 1 by omega, List.replicate_succ, List.set_cons_zero, List.append_assoc]
  simp [List.getD_eq_getElem?_getD, hl]
def hashBelow (w w1 : World) (st : S8) : Prop := Below w.heap.size w w1 ∧ w1.heap[w.heap.size]? = some (.cells (u8s (List.replicate 32 0)) 56 (0, 0)) ∧ w1.heap[w.heap.size + 1]? = some (.cells (u32s st.list) 168 (0, 0)) ∧ w1.heap[w.heap.size + 1 + 1]? = some (.cells (u32s k64) 225 (0, 0))
theorem hashBelow_start (w w1 : World) (hb : Below (((w.alloc (.cells (u8s (List.replicate 32 0)) 56)).alloc (.cells (u32s h0S.list) 168)).alloc (.cells (u32s k64) 225)).heap.size (((w.alloc (.cells (u8s (List.replicate 32 0)) 56)).alloc (.cells (u32s h0S.list) 168)).alloc (.cells (u32s k64) 225)) w1) : hashBelow w w1 h0S := by
  refine ⟨?_, ?_, ?_, ?_⟩
  · refine Below.trans ?_ (hb.mono (by simp; omega))
    exact (((Below.refl _ _).alloc (Nat.le_refl _) _).alloc (by simp) _).alloc (by simp; omega) _
  · rw [hb.block _ (by simp; omega), Below.heap_alloc _ _ _ (by simp; omega), Below.heap_alloc _ _ _ (by simp)]; exact heap_alloc_new _ _
  · rw [hb.block _ (by simp), Below.heap_alloc _ _ _ (by simp)]
    have := heap_alloc_new (w.alloc (.cells (u8s (List.replicate 32 0)) 56)) (.cells (u32s h0S.list) 168)
    rw [World.size_alloc] at this; exact this
  · rw [hb.block _ (by simp)]
    have := heap_alloc_new ((w.alloc (.cells (u8s (List.replicate 32 0)) 56)).alloc (.cells (u32s h0S.list) 168)) (.cells (u32s k64) 225)
    rw [World.size_alloc, World.size_alloc] at this; exact this
theorem tail_facts (s : ByteArray) (w w1 : World) (hb : Below (((w.alloc (.cells (u8s (List.replicate 32 0)) 56)).alloc (.cells (u32s h0S.list) 168)).alloc (.cells (u32s k64) 225)).heap.size (((w.alloc (.cells (u8s (List.replicate 32 0)) 56)).alloc (.cells (u32s h0S.list) 168)).alloc (.cells (u32s k64) 225)) w1) : (strOfNums (tailL s.size)).size ≤ 72 ∧ Hid (hashBelow w w1 h0S) := by
  have hts := tail_size s.size
  have htz : tailZ s.size < 64 := by unfold tailZ; omega
  exact ⟨by omega, hashBelow_start w w1 hb⟩
theorem hashBelow_step {w w1 w2 : World} {st st2 : S8} (h : hashBelow w w1 st) (hg : w1.grownBy w2 (some (w.heap.size + 1))) (h2 : w2.heap[w.heap.size + 1]? = some (.cells (u32s st2.list) 168 (0, 0))) : hashBelow w w2 st2 := by
  obtain ⟨h0, ha, hb, hc⟩ := h
  refine ⟨h0.grown hg h0.size (fun k hk => by injection hk with hk; omega), ?_, h2, ?_⟩
  · rw [hg.block _ (lt_of_block ha) (by intro e; injection e with e; omega)]; exact ha
  · rw [hg.block _ (lt_of_block hc) (by intro e; injection e with e; omega)]; exact hc
set_option maxRecDepth 100000 in
set_option maxHeartbeats 1000000 in
theorem hash_any (w : World) (s : ByteArray) (hs : s.size ≤ 140737488355328) :
    Calls Tryz.prog 66 #[.string s] w fun e w' => e = .returned (.agg (u8s (shaOf s.data.toList))) ∧ Below w.heap.size w w' := by
  go_enter Tryz.func66, Tryz.ntmps66
  go_wp2_with (first | (go_at_call 99; refine (rounds_any _).mono ?_; rintro e _ ⟨rfl, rfl⟩) | (go_at_call 101; refine (tail_any _ s.size (by omega)).mono ?_; rintro e w1 ⟨rfl, hb1⟩; obtain ⟨ht72, HP⟩ := tail_facts s w w1 hb1; clear hb1))
  have hpd := pad_data s
  have hpm := padL_mod s.data.toList
  generalize hp : s ++ strOfNums (tailL s.size) = p at *
  generalize hl : padL s.data.toList = l at *
  have HPD := Lib.hid (And.intro hpd (And.intro hpm (And.intro hp hl)))
  clear hpd hpm hp hl
  go_loopw [0, 14, 15, 16, 17, 18, 19, 20, 21, 22] (fun v _ _ _ _ _ _ _ _ _ wr => ∃ (k : Nat) (r : ByteArray), v = .string r ∧ 64 * k ≤ l.length ∧ r.data.toList = l.drop (64 * k) ∧ hashBelow w wr (shaN l k)) (fun v _ _ _ _ _ _ _ _ _ _ => match v with | .string r => r.size | _ => 0)
  case atStart => exact ⟨0, p, rfl, by omega, by rw [HPD.out.1]; rfl, HP.out⟩
  case round =>
    obtain ⟨k, r, rfl, hk, hr, hW⟩ := hrel
    have hrs : r.size = l.length - 64 * k := by have := congrArg List.length hr; simpa using this
    have hm := HPD.out.2.1
    by_cases hlt : r.size = 0
    · have hne : r.toList.isEmpty = true := by
        rw [List.isEmpty_iff_length_eq_zero, ← hlt, ByteArray.toList_eq]; simp
      have hkl : 64 * k = l.length := by omega
      have hk2 : l.length / 64 = k := by omega
      have HW := Lib.hid hW
      have HK := Lib.hid hk2
      have hst : shaOf s.data.toList = outL (shaN l k) := by rw [shaOf, HPD.out.2.2.2, hk2]
      have HST := Lib.hid hst
      clear hr hrs hm hW hkl hk2 hst hlt
      generalize hrl : shaN l k = st at *
      clear hrl
      go_wp2
      go_loopw [6, 23] (fun _ i wx => ∃ j : Nat, j ≤ 32 ∧ i = .int .i64 j ∧ Below w.heap.size w wx ∧ wx.heap[w.heap.size]? = some (.cells (u8s ((outL st).take j ++ List.replicate (32 - j) 0)) 56 (0, 0)) ∧ wx.heap[w.heap.size + 1]? = some (.cells (u32s st.list) 168 (0, 0))) (fun _ i _ => 32 - (intOf i).toNat)
      case atStart => exact ⟨0, by omega, rfl, HW.out.1, HW.out.2.1, HW.out.2.2.1⟩
      case round =>
        obtain ⟨j, hj, rfl, hB, hO, hS⟩ := hrel
        by_cases hl2 : j < 32
        · have hc := u32s_cell hS (j / 4) (by simp [S8.list]; omega)
          have hoc := out_cell hO hl2
          have hof := frozen_of_row wr _ j _ _ hO
          have hset := out_store hO hl2
          have hss := hS
          have HH := Lib.hid (And.intro hB (And.intro hset hss))
          clear hB hO hS hset hss
          have hx : st.list.getD (j / 4) 0 / 2 ^ (24 - 8 * (j % 4)) % 256 = (outL st).getD j 0 := by
            unfold outL
            simp [List.getD_eq_getElem?_getD, hl2]
          have HX := Lib.hid hx
          clear hx
          generalize st.list.getD (j / 4) 0 = y at *
          go_wp2
          rw [HX.out]
          exact ⟨⟨j + 1, by omega, by go_num, HH.out.1.setCell (Nat.le_refl _) _, HH.out.2.1, by rw [heap_setCell_other _ _ _ _ (by simp)]; exact HH.out.2.2⟩, by simp [intOf]; omega⟩
        · obtain rfl : j = 32 := by omega
          have HH := Lib.hid (And.intro hB hO)
          clear hB hO hS
          go_wp2_with (first | (refine wpList_load_row rfl 56 _ rfl w.heap.size rfl 56 _ (0, 0) _ HH.out.2 Tryz.underlying56 rfl (by rw [u8s_size]; exact size32 (by simp [outL_length])) ?_) | (refine wpList_store_self rfl 56 _ _ rfl w.heap.size rfl _ rfl 56 HH.out.2 (u8s_one _) (by rw [u8s_size]; exact size32 (by simp [outL_length])) ?_))
          have hfin : u8s (List.take 32 (outL st) ++ List.replicate (32 - 32) 0) = u8s (shaOf s.data.toList) := by
            rw [HST.out, List.take_of_length_le (by rw [outL_length]; omega)]; simp
          exact bodyPost_ret (results_cell_row rfl _ _ w.heap.size 56 _ (0, 0) _ rfl HH.out.2 Tryz.underlying56 rfl (by rw [u8s_size]; exact size32 (by simp [outL_length]))) rfl ⟨by rw [hfin], HH.out.1⟩
    · have h64 : 64 ≤ r.size := by omega
      have HR := Lib.hid (And.intro hr (And.intro hrs (And.intro hm hW)))
      have hs64 : (r.extract 0 64).size = 64 := by simp; omega
      have hne : r.toList.isEmpty = false := by
        rw [← Bool.not_eq_true, List.isEmpty_iff_length_eq_zero, ByteArray.toList_eq]; simpa using hlt
      have HR64 := Lib.hid hs64
      clear hr hrs hm hW hs64
      go_wp2_with (go_at_call 100; refine (hashTake_any _ _ HR64.out _ _ _ _ rfl HR.out.2.2.2.2.2.1 HR.out.2.2.2.2.2.2).mono ?_; rintro e w2 ⟨rfl, hg2, hw2⟩)
      go_roundw
      case rel =>
        refine ⟨k + 1, _, rfl, by have := HR.out.2.1; have := HR.out.2.2.1; omega, ?_, ?_⟩
        · rw [Lib.extract_data, HR.out.1, List.take_of_length_le (by have h1 := HR.out.2.1; simp; omega), List.drop_drop, Nat.mul_succ]
        · refine hashBelow_step HR.out.2.2.2 hg2 ?_
          rw [hw2, Lib.extract_data, HR.out.1]; rfl
      case measure => simp; omega
#print axioms hash_any
end Go.Proofs.YthhmcjojnbaiiaaGreatDoor
