/- Texts of the proof: Ls Gf. -/
import Derived.Test.YthhmcjojnbaiiaaGreatDoorM34
set_option linter.all false
/- The law's first question: it answers yes. -/
namespace Go.Proofs.YthhmcjojnbaiiaaGreatDoor
open Go Go.RowKit
theorem kidA_all {k : Kid} (h : kidE.wf k) : (kidA k).all (·.oneCell') = true := by
  rw [Array.all_eq_true_iff_forall_mem]
  intro v hv
  exact kidE.one k h v (by unfold kidA at hv; simpa using hv)
theorem two_old (w : World) (c1 : Array Value) (t1 : TypeId) (c2 : Array Value) (t2 : TypeId) : ((w.alloc (.cells c1 t1)).alloc (.cells c2 t2)).heap[w.heap.size]? = some (.cells c1 t1 (0, 0)) := by
  rw [Lib.alloc_old _ _ _ (by simp)]; exact heap_alloc_new _ _
theorem two_new (w : World) (c1 : Array Value) (t1 : TypeId) (c2 : Array Value) (t2 : TypeId) : ((w.alloc (.cells c1 t1)).alloc (.cells c2 t2)).heap[w.heap.size + 1]? = some (.cells c2 t2 (0, 0)) := by
  have := heap_alloc_new (w.alloc (.cells c1 t1)) (.cells c2 t2)
  simpa using this
theorem two_boxes {w1 : World} {z2 h k : Array Value} : Below w1.heap.size w1 (((w1.alloc (.cells h 25)).alloc (.cells z2 58)).setRow (w1.heap.size + 1) k) ∧
    (((w1.alloc (.cells h 25)).alloc (.cells z2 58)).setRow (w1.heap.size + 1) k).heap[w1.heap.size]? = some (.cells h 25 (0, 0)) ∧
    (((w1.alloc (.cells h 25)).alloc (.cells z2 58)).setRow (w1.heap.size + 1) k).heap[w1.heap.size + 1]? = some (.cells k 58 (0, 0)) := by
  have hb : Below w1.heap.size w1 ((w1.alloc (.cells h 25)).alloc (.cells z2 58)) := (below_box w1 _).alloc (by simp) _
  refine ⟨hb.trans ⟨rfl, rfl, rfl, by simp [World.setRow], fun i hi => ?_⟩, ?_, ?_⟩
  · rw [heap_setRow_other _ _ _ _ (by omega)]
  · rw [heap_setRow_other _ _ _ _ (by omega)]
    exact two_old w1 h _ z2 _
  · exact heap_setRow_same _ _ _ _ _ (two_new w1 h _ z2 _)
theorem wpList_build_w {P : Program} {ops : Array Oper} {rest : List Oper} {o : Oper} {a : Act} {w : World} {Q : Exit → Act → World → Prop} (hgd : Region.wanted o (yielded ops a.tmps) = true) (t : TypeId) (parts : Array (Nat × Operand)) (ho : o.op = .build t parts)
    (vs : List (Nat × Value)) (hp : parts.toList.map (fun p => (p.1, a.eval p.2)) = vs) (cells : Array Value) (hc : P.built t vs = some cells)
    (h : wpList P ops Q rest (a.put o.dst (.agg cells)) w) : wpList P ops Q (o :: rest) a w := by
  have hp' : (parts.map fun (i, x) => (i, a.eval x)).toList = vs := by rw [Array.toList_map, ← hp]
  refine wpList_step fun K hK => ?_
  rw [if_pos hgd]
  refine wp_build t parts ho (by rw [hp', hc]; rfl) ?_
  rw [hp', hc]
  exact hK _ _ h
set_option maxRecDepth 100000 in
theorem kid_eq_self (w : World) : (binOp .eql 58 (.agg (kidA noKid)) (.agg (kidA noKid))).run Tryz.prog w = .ok (.bool true) w := by kernel_rfl
set_option maxRecDepth 100000 in
set_option maxHeartbeats 4000000 in
theorem lives_any (w : World) : Calls Tryz.prog 30 #[] w fun e w' => e = .returned (.bool true) ∧ Below w.heap.size w w' := by
  have hwf : itemE.wf ia ∧ itemE.wf ib := ⟨⟨by unfold strOk ia; decide, by unfold strOk ia; decide⟩, ⟨by unfold strOk ib; decide, by unfold strOk ib; decide⟩⟩
  have HWF := Lib.hid hwf
  have HWC := Lib.hid (show changeE.wf cb from ⟨by unfold strOk cb; decide, by unfold strOk cb; decide⟩)
  clear hwf
  go_enter Tryz.func30, Tryz.ntmps30
  go_wp2_with (fail)
  have hsl : Sl itemE (w.alloc (.cells #[.string ⟨#[97]⟩, .string ⟨#[49]⟩, .string ⟨#[98]⟩, .string ⟨#[50]⟩] 32)) (.slice (some ⟨w.heap.size, 0, none⟩) 2 2) [ia, ib] := by
    have ha := heap_alloc_new w (.cells #[.string ⟨#[97]⟩, .string ⟨#[49]⟩, .string ⟨#[98]⟩, .string ⟨#[50]⟩] 32)
    refine ⟨_, 2, rfl, Nat.le_refl _, by omega, Row.mk fun k hk => ?_⟩
    match k, hk with
    | 0, _ => exact ⟨(fun i hi => by rw [cell_of_row _ _ _ _ _ _ ha]; match i, hi with | 0, _ => rfl | 1, _ => rfl), HWF.out.1⟩
    | 1, _ => exact ⟨(fun i hi => by rw [cell_of_row _ _ _ _ _ _ ha]; match i, hi with | 0, _ => rfl | 1, _ => rfl), HWF.out.2⟩
  have HA := Lib.hid (And.intro hsl (below_box w (.cells #[.string ⟨#[97]⟩, .string ⟨#[49]⟩, .string ⟨#[98]⟩, .string ⟨#[50]⟩] 32)))
  clear hsl
  generalize w.alloc (.cells #[.string ⟨#[97]⟩, .string ⟨#[49]⟩, .string ⟨#[98]⟩, .string ⟨#[50]⟩] 32) = wa at *
  go_at_call 34
  refine (build_any wa _ _ h0 [ia, ib] ⟨.slice none 0 0, rfl, Sl.nil _, by unfold u32Ok h0; simp⟩ HA.out.1 (by decide) (by decide)).mono ?_
  rintro e w1 ⟨r1, rfl, hr1, hk1, hb1⟩
  rw [build1] at hr1 hk1 ⊢
  simp only at hr1 hk1 ⊢
  obtain ⟨c1, rfl, hc1, hu1⟩ := hr1
  obtain ⟨C1, m1, d1, rfl⟩ := sl_slice hc1
  generalize hkk1 : (⟨ByteArray.empty, 2, shaOf (wholeB n1).data.toList⟩ : Kid) = k1 at *
  have hkn1 : k1.num = 2 := by rw [← hkk1]
  have hn1 := kidA_num k1
  rw [hkn1] at hn1
  have hs1 := kidA_size hk1
  have ha1 := kidA_all hk1
  generalize kidA k1 = ka1 at *
  have ka1S := Lib.hid (And.intro hs1 ha1)
  have H1 := Lib.hid (And.intro hc1 (And.intro hu1 hb1))
  clear hc1 hu1 hb1 hs1 ha1 hkk1 hkn1 hk1
  rw [show h1.size = 16 from rfl]
  go_upto_region 3 with (
    ((with_reducible refine probe_storeT 58 ?_); (refine wpList_store_row rfl 58 (.tmp 3) _ rfl (w1.heap.size + 1) ka1 rfl rfl 58 _ (two_new w1 _ _ _ _) (by rw [kid_size, ka1S.out.1]) (by rw [ka1S.out.1]; rfl) ka1S.out.2 ?_)))
  obtain ⟨w2, hw2⟩ : ∃ w2, w2 = ((w1.alloc (.cells #[.int .u32 16, .slice C1 m1 d1] 25)).alloc (.cells (kidA noKid) 58)).setRow (w1.heap.size + 1) ka1 := ⟨_, rfl⟩
  obtain ⟨hbw2, hhw2, hkw2⟩ := two_boxes (w1 := w1) (z2 := kidA noKid) (h := #[.int .u32 16, .slice C1 m1 d1]) (k := ka1)
  rw [← hw2] at hbw2 hhw2 hkw2
  rw [kidA_zero] at hw2
  rw [← hw2]
  clear hw2
  have hn1' : w2.cell? ⟨w1.heap.size + 1, 1, none⟩ = some (.int .u32 2) := by rw [cell_of_row _ _ _ _ _ _ hkw2]; exact hn1
  have e20 : w2.cell? ⟨w1.heap.size, 0, none⟩ = some (.int .u32 16) := by rw [cell_of_row _ _ _ _ _ _ hhw2]; rfl
  have e21 : w2.cell? ⟨w1.heap.size, 1, none⟩ = some (.slice C1 m1 d1) := by rw [cell_of_row _ _ _ _ _ _ hhw2]; rfl
  have hl2a := lt_of_block hhw2
  have hl2b := lt_of_block hkw2
  have H2 := Lib.hid (And.intro (show HeapV w2 (.agg #[.int .u32 16, .slice C1 m1 d1]) h1 from ⟨_, rfl, H1.out.1.below hbw2 (Nat.le_refl _), H1.out.2.1⟩) (And.intro (HA.out.2.trans ((H1.out.2.2.trans (hbw2.mono H1.out.2.2.size)).mono HA.out.2.size)) (HA.out.1.below (H1.out.2.2.trans (hbw2.mono H1.out.2.2.size)) (Nat.le_refl _))))
  clear hbw2 hhw2 hkw2 hn1
  go_wp2_with (fail)
  go_at_call 15
  refine (tall_any 1 sort_one compact_one w2 _ h1 2 H2.out.1 (by decide) rok1).mono ?_
  rintro e w3 ⟨r3, rfl, hs3, hb3⟩
  rw [topen1, all1] at *
  obtain ⟨A3, m3, d3, rfl⟩ := sl_slice hs3
  have e30 := (hb3.cell (p := ⟨w1.heap.size, 0, none⟩) hl2a).trans e20
  have e31 := (hb3.cell (p := ⟨w1.heap.size, 1, none⟩) hl2a).trans e21
  have n31 := (hb3.cell (p := ⟨w1.heap.size + 1, 1, none⟩) hl2b).trans hn1'
  have hl3a : w1.heap.size < w3.heap.size := Nat.lt_of_lt_of_le hl2a hb3.size
  have hl3b : w1.heap.size + 1 < w3.heap.size := Nat.lt_of_lt_of_le hl2b hb3.size
  have H3 := Lib.hid (And.intro hs3 (And.intro (H2.out.1.below hb3 (Nat.le_refl _)) (And.intro (H2.out.2.1.trans (hb3.mono H2.out.2.1.size)) (H2.out.2.2.below hb3 (Nat.le_refl _)))))
  clear hs3 hb3 e20 e21 hn1'
  go_wp2_with (fail)
  go_at_call 31
  have hcc := heap_alloc_new w3 (.cells #[.string ⟨#[98]⟩, .bool false, .string ⟨#[]⟩] 55)
  have hcb := below_box w3 (.cells #[.string ⟨#[98]⟩, .bool false, .string ⟨#[]⟩] 55)
  have hsc : Sl changeE (w3.alloc (.cells #[.string ⟨#[98]⟩, .bool false, .string ⟨#[]⟩] 55)) (.slice (some ⟨w3.heap.size, 0, none⟩) 1 1) [cb] := by
    refine ⟨_, 1, rfl, Nat.le_refl _, by omega, Row.mk fun k hk => ?_⟩
    match k, hk with
    | 0, _ => exact ⟨(fun i hi => by rw [cell_of_row _ _ _ _ _ _ hcc]; match i, hi with | 0, _ => rfl | 1, _ => rfl | 2, _ => rfl), HWC.out⟩
  have e40 := (hcb.cell (p := ⟨w1.heap.size, 0, none⟩) hl3a).trans e30
  have e41 := (hcb.cell (p := ⟨w1.heap.size, 1, none⟩) hl3a).trans e31
  have n41 := (hcb.cell (p := ⟨w1.heap.size + 1, 1, none⟩) hl3b).trans n31
  have H4 := Lib.hid (And.intro hsc (And.intro (H3.out.2.1.below hcb (Nat.le_refl _)) (And.intro (H3.out.2.2.1.trans (hcb.mono H3.out.2.2.1.size)) (And.intro (H3.out.2.2.2.below hcb (Nat.le_refl _)) (H3.out.1.below hcb (Nat.le_refl _))))))
  have hl4a : w1.heap.size < (w3.alloc (.cells #[.string ⟨#[98]⟩, .bool false, .string ⟨#[]⟩] 55)).heap.size := Nat.lt_of_lt_of_le hl3a hcb.size
  have hl4b : w1.heap.size + 1 < (w3.alloc (.cells #[.string ⟨#[98]⟩, .bool false, .string ⟨#[]⟩] 55)).heap.size := Nat.lt_of_lt_of_le hl3b hcb.size
  clear hcc hcb hsc e30 e31 n31
  generalize w3.alloc (.cells #[.string ⟨#[98]⟩, .bool false, .string ⟨#[]⟩] 55) = wc at *
  refine (change_any 1 sort_one compact_one wc _ _ h1 2 [cb] H4.out.2.1 H4.out.1 (by decide) rok1 (by rw [all1]; decide) (by decide) (by intro c hc; rw [List.mem_singleton.1 hc]; rfl) (by rw [all1, apply1]; decide)).mono ?_
  rintro e w4 ⟨r4, rfl, hr4, hk4, hb4⟩
  rw [change1] at hr4 hk4 ⊢
  simp only at hr4 hk4 ⊢
  obtain ⟨c4, rfl, hc4, hu4⟩ := hr4
  obtain ⟨C4, m4, d4, rfl⟩ := sl_slice hc4
  generalize hkk4 : (⟨ByteArray.empty, 3, shaOf (wholeB n2).data.toList⟩ : Kid) = k4 at *
  have hkn4 : k4.num = 3 := by rw [← hkk4]
  have hn4 := kidA_num k4
  rw [hkn4] at hn4
  have hs4 := kidA_size hk4
  have ha4 := kidA_all hk4
  generalize kidA k4 = ka4 at *
  have ka4S := Lib.hid (And.intro hs4 ha4)
  have e50 := (hb4.cell (p := ⟨w1.heap.size, 0, none⟩) hl4a).trans e40
  have e51 := (hb4.cell (p := ⟨w1.heap.size, 1, none⟩) hl4a).trans e41
  have n51 := (hb4.cell (p := ⟨w1.heap.size + 1, 1, none⟩) hl4b).trans n41
  have hl5a : w1.heap.size < w4.heap.size := Nat.lt_of_lt_of_le hl4a hb4.size
  have hl5b : w1.heap.size + 1 < w4.heap.size := Nat.lt_of_lt_of_le hl4b hb4.size
  have H5 := Lib.hid (And.intro hc4 (And.intro hu4 (And.intro hb4 (And.intro (H4.out.2.1.below hb4 (Nat.le_refl _)) (And.intro (H4.out.2.2.1.trans (hb4.mono H4.out.2.2.1.size)) (And.intro (H4.out.2.2.2.1.below hb4 (Nat.le_refl _)) (H4.out.2.2.2.2.below hb4 (Nat.le_refl _))))))))
  clear hc4 hu4 hb4 hs4 ha4 hkk4 hkn4 hk4 e40 e41 n41
  rw [show h2.size = 16 from rfl]
  go_upto_region 5 with (
    ((with_reducible refine probe_storeT 58 ?_); (refine wpList_store_row rfl 58 (.tmp 8) _ rfl (w4.heap.size + 1) ka4 rfl rfl 58 _ (two_new w4 _ _ _ _) (by rw [kid_size, ka4S.out.1]) (by rw [ka4S.out.1]; rfl) ka4S.out.2 ?_)))
  obtain ⟨w5, hw5⟩ : ∃ w5, w5 = ((w4.alloc (.cells #[.int .u32 16, .slice C4 m4 d4] 25)).alloc (.cells (kidA noKid) 58)).setRow (w4.heap.size + 1) ka4 := ⟨_, rfl⟩
  obtain ⟨hbw5, hhw5, hkw5⟩ := two_boxes (w1 := w4) (z2 := kidA noKid) (h := #[.int .u32 16, .slice C4 m4 d4]) (k := ka4)
  rw [← hw5] at hbw5 hhw5 hkw5
  rw [kidA_zero] at hw5
  rw [← hw5]
  clear hw5
  have f50 : w5.cell? ⟨w4.heap.size, 0, none⟩ = some (.int .u32 16) := by rw [cell_of_row _ _ _ _ _ _ hhw5]; rfl
  have f51 : w5.cell? ⟨w4.heap.size, 1, none⟩ = some (.slice C4 m4 d4) := by rw [cell_of_row _ _ _ _ _ _ hhw5]; rfl
  have g51 : w5.cell? ⟨w4.heap.size + 1, 1, none⟩ = some (.int .u32 3) := by rw [cell_of_row _ _ _ _ _ _ hkw5]; exact hn4
  have e60 := (hbw5.cell (p := ⟨w1.heap.size, 0, none⟩) hl5a).trans e50
  have e61 := (hbw5.cell (p := ⟨w1.heap.size, 1, none⟩) hl5a).trans e51
  have n61 := (hbw5.cell (p := ⟨w1.heap.size + 1, 1, none⟩) hl5b).trans n51
  have hl6a : w1.heap.size < w5.heap.size := Nat.lt_of_lt_of_le hl5a hbw5.size
  have hl6b : w1.heap.size + 1 < w5.heap.size := Nat.lt_of_lt_of_le hl5b hbw5.size
  have hm6a := lt_of_block hhw5
  have hm6b := lt_of_block hkw5
  have H6 := Lib.hid (And.intro (show HeapV w5 (.agg #[.int .u32 16, .slice C4 m4 d4]) h2 from ⟨_, rfl, H5.out.1.below hbw5 (Nat.le_refl _), H5.out.2.1⟩) (And.intro (H5.out.2.2.2.1.below hbw5 (Nat.le_refl _)) (And.intro (H5.out.2.2.2.2.1.trans (hbw5.mono H5.out.2.2.2.2.1.size)) (And.intro (H5.out.2.2.2.2.2.1.below hbw5 (Nat.le_refl _)) (H5.out.2.2.2.2.2.2.below hbw5 (Nat.le_refl _))))))
  clear hbw5 hhw5 hkw5 hn4 e50 e51 n51
  go_wp2_with (fail)
  go_at_call 15
  refine (tall_any 1 sort_one compact_one w5 _ h2 3 H6.out.1 (by decide) rok2).mono ?_
  rintro e w6 ⟨r6, rfl, hs6, hb6⟩
  rw [topen2, all2] at *
  obtain ⟨A6, m6, d6, rfl⟩ := sl_slice hs6
  have hm6 : m6 = 1 := (hs6.len_eq).1
  subst hm6
  have e70 := (hb6.cell (p := ⟨w1.heap.size, 0, none⟩) hl6a).trans e60
  have e71 := (hb6.cell (p := ⟨w1.heap.size, 1, none⟩) hl6a).trans e61
  have n71 := (hb6.cell (p := ⟨w1.heap.size + 1, 1, none⟩) hl6b).trans n61
  have g71 := (hb6.cell (p := ⟨w4.heap.size + 1, 1, none⟩) hm6b).trans g51
  have hl7a : w1.heap.size < w6.heap.size := Nat.lt_of_lt_of_le hl6a hb6.size
  have hl7b : w1.heap.size + 1 < w6.heap.size := Nat.lt_of_lt_of_le hl6b hb6.size
  have hm7b : w4.heap.size + 1 < w6.heap.size := Nat.lt_of_lt_of_le hm6b hb6.size
  have H7 := Lib.hid (And.intro (H6.out.2.1.below hb6 (Nat.le_refl _)) (And.intro (H6.out.2.2.1.trans (hb6.mono H6.out.2.2.1.size)) (And.intro (H6.out.2.2.2.1.below hb6 (Nat.le_refl _)) (H6.out.2.2.2.2.below hb6 (Nat.le_refl _)))))
  clear hs6 hb6 e60 e61 n61 g51 f50 f51
  go_wp2_with (fail)
  go_at_call 34
  refine (build_any w6 _ _ h1 [] H7.out.1 (Sl.nil _) (by decide) (by decide)).mono ?_
  rintro e w7 ⟨r7, rfl, hr7, hk7, hb7⟩
  rw [build3] at hr7 hk7 ⊢
  simp only at hr7 hk7 ⊢
  obtain ⟨c7, rfl, hc7, hu7⟩ := hr7
  obtain ⟨C7, m7, d7, rfl⟩ := sl_slice hc7
  obtain ⟨ka7, hka7⟩ : ∃ ka7, kidA noKid = ka7 := ⟨_, rfl⟩
  have hs7 := kidA_size hk7
  have ha7 := kidA_all hk7
  have hkq := fun W => kid_eq_self W
  rw [hka7] at hs7 ha7 ⊢
  simp only [hka7] at hkq
  have HKZ := Lib.hid hka7
  have ka7S := Lib.hid (And.intro hs7 ha7)
  have n81 := (hb7.cell (p := ⟨w1.heap.size + 1, 1, none⟩) hl7b).trans n71
  have g81 := (hb7.cell (p := ⟨w4.heap.size + 1, 1, none⟩) hm7b).trans g71
  have hl8b : w1.heap.size + 1 < w7.heap.size := Nat.lt_of_lt_of_le hl7b hb7.size
  have hm8b : w4.heap.size + 1 < w7.heap.size := Nat.lt_of_lt_of_le hm7b hb7.size
  have H8 := Lib.hid (And.intro (H7.out.2.1.trans (hb7.mono H7.out.2.1.size)) (And.intro (H7.out.2.2.1.below hb7 (Nat.le_refl _)) (H7.out.2.2.2.below hb7 (Nat.le_refl _))))
  have HKQ := Lib.hid hkq
  clear hc7 hu7 hb7 hs7 ha7 hk7 hka7 e70 e71 n71 g71 hkq
  rw [show h1.size = 16 from rfl]
  go_upto_region 7 with (
    ((with_reducible refine probe_storeT 58 ?_); (refine wpList_store_row rfl 58 (.tmp 13) _ rfl (w7.heap.size + 1) ka7 rfl rfl 58 _ (two_new w7 _ _ _ _) (by rw [kid_size, ka7S.out.1]) (by rw [ka7S.out.1]; rfl) ka7S.out.2 ?_)))
  obtain ⟨w8, hw8⟩ : ∃ w8, w8 = ((w7.alloc (.cells #[.int .u32 16, .slice C7 m7 d7] 25)).alloc (.cells (kidA noKid) 58)).setRow (w7.heap.size + 1) ka7 := ⟨_, rfl⟩
  obtain ⟨hbw8, hhw8, hkw8⟩ := two_boxes (w1 := w7) (z2 := kidA noKid) (h := #[.int .u32 16, .slice C7 m7 d7]) (k := ka7)
  rw [← hw8] at hbw8 hhw8 hkw8
  rw [kidA_zero] at hw8
  rw [← hw8]
  clear hw8
  have n91 := (hbw8.cell (p := ⟨w1.heap.size + 1, 1, none⟩) hl8b).trans n81
  have g91 := (hbw8.cell (p := ⟨w4.heap.size + 1, 1, none⟩) hm8b).trans g81
  have hm9 := lt_of_block hkw8
  have hl9b : w1.heap.size + 1 < w8.heap.size := Nat.lt_of_lt_of_le hl8b hbw8.size
  have hm9b : w4.heap.size + 1 < w8.heap.size := Nat.lt_of_lt_of_le hm8b hbw8.size
  have H9 := Lib.hid (And.intro (H8.out.1.trans (hbw8.mono H8.out.1.size)) (And.intro (H8.out.2.1.below hbw8 (Nat.le_refl _)) (And.intro (H8.out.2.2.below hbw8 (Nat.le_refl _)) hkw8)))
  clear hbw8 hhw8 hkw8 n81 g81
  go_wp2_with (fail)
  go_at_call 32
  refine (need_any w8 _ [ia, ib] H9.out.2.1 (by decide)).mono ?_
  rintro e w9 ⟨rfl, hb9⟩
  rw [need1]
  have n101 := (hb9.cell (p := ⟨w1.heap.size + 1, 1, none⟩) hl9b).trans n91
  have g101 := (hb9.cell (p := ⟨w4.heap.size + 1, 1, none⟩) hm9b).trans g91
  have hkw9 := (hb9.block _ hm9).trans H9.out.2.2.2
  have H10 := Lib.hid (And.intro (H9.out.1.trans (hb9.mono H9.out.1.size)) (And.intro (H9.out.2.1.below hb9 (Nat.le_refl _)) (And.intro (H9.out.2.2.1.below hb9 (Nat.le_refl _)) hkw9)))
  have hl10b : w1.heap.size + 1 < w9.heap.size := Nat.lt_of_lt_of_le hl9b hb9.size
  have hm10b : w4.heap.size + 1 < w9.heap.size := Nat.lt_of_lt_of_le hm9b hb9.size
  have hm10 := lt_of_block hkw9
  clear hb9 n91 g91 hkw9
  go_wp2_with (fail)
  go_at_call 17
  refine (same_any w9 _ _ [ia, ib] H10.out.2.1 H10.out.2.2.1 (by decide)).mono ?_
  rintro e _ ⟨rfl, q, rfl⟩
  have hat : At (w9.drewN q) (w7.heap.size + 1) 0 ka7.toList := at_block (t := 58) (fr := (0, 0)) (by rw [Array.toArray_toList]; exact H10.out.2.2.2)
  have hksz : (Tryz.prog.info? 58).map (·.size) = some ka7.toList.length := by rw [kid_size, Array.length_toList, ka7S.out.1]
  have hkq := HKQ.out
  have harr : ka7.toList.toArray = ka7 := by simp
  have HARR := Lib.hid harr
  clear harr
  go_wp2_with (first
    | ((with_reducible refine probe_loadT 58 ?_); go_loud (refine wpList_load_arrw rfl 58 (.tmp 13) rfl (w7.heap.size + 1) 0 rfl ka7.toList _ hat Tryz.underlying58 rfl hksz ka7 (by simp) ?_))
    | ((with_reducible refine probe_build 58 ?_); refine wpList_build_w rfl 58 _ rfl [] rfl ka7 (by rw [← HKZ.out]; exact built_kid0') ?_))
  go_ret
  exact ⟨rfl, Below.drewN' H10.out.1 q⟩
end Go.Proofs.YthhmcjojnbaiiaaGreatDoor

/- GrowFull: the walk. -/
namespace Go.Proofs.YthhmcjojnbaiiaaGreatDoor
open Go Go.RowKit
theorem free_range (h : Hp) : -70000 ≤ (freeS h).1 ∧ (freeS h).1 ≤ 70000 := by
  unfold freeS
  cases ho : openB h with
  | false => rw [if_pos rfl]; exact ⟨by simp, by simp⟩
  | true =>
    rw [if_neg (by simp)]
    have g := good_open h ho
    have h1 := good_len g
    rw [show (opened h).length = h.cells.length by rw [opened_map]; simp] at h1
    have h2 := g.lo
    have h3 := g.hi
    simp only
    omega
/-- What raise leaves, where it answers well, is a right heap. -/
theorem raise_good {h : Hp} {l : List Item} (ho : openB h = true) (hi : itemsOk l = true) (hl : l ≠ []) (h0 : (raiseS (putS h.size) (opened h) l).2.1 = 0) : Good h.size (raiseS (putS h.size) (opened h) l).2.2 := by
  have g := good_open h ho
  obtain ⟨l1, l2, l3, l4⟩ := leaves_ok l hi hl (opened h)
  have hlaw := raise_law (sz := h.size) (l.length + 1) 1 (opened h) (leavesL l) (leavesL l) 0 g l1 l3 rfl (by omega)
  unfold raiseS at h0 ⊢
  rcases hlaw with h8 | ⟨_, r1, _⟩
  · omega
  · exact r1
theorem build_len (h : Hp) (l : List Item) (hmax : h.cells.length ≤ 1073741824) : (buildS h l).1.cells.length ≤ 1073741824 := by
  unfold buildS
  by_cases h1 : openB h = false
  · rw [if_pos h1]; exact Nat.zero_le _
  · rw [if_neg h1]
    by_cases h2 : itemsOk l = false
    · rw [if_pos h2]; exact hmax
    · rw [if_neg h2]
      by_cases h3 : l = []
      · rw [if_pos h3]; exact hmax
      · rw [if_neg h3]
        by_cases h4 : (raiseS (putS h.size) (opened h) l).2.1 ≠ 0
        · rw [if_pos h4]; exact hmax
        · rw [if_neg h4]
          have g := raise_good (by simpa using h1) (by simpa using h2) h3 (by simpa using h4)
          have := good_len g
          show (List.map celOf _).length ≤ _
          rw [List.length_map]
          omega
set_option maxRecDepth 100000 in
set_option maxHeartbeats 4000000 in
theorem growFull_any (w : World) (v vl : Value) (h : Hp) (l : List Item) (hv : HeapV w v h) (hvl : Sl itemE w vl l) (hmax : h.cells.length ≤ 1073741824) (hml : l.length ≤ 4194304) :
    Calls Tryz.prog 10 #[v, vl] w fun e w' => e = .returned (.bool true) ∧ Below w.heap.size w w' := by
  have HVV := Lib.hid hv
  obtain ⟨cv, rfl, hsl, hsz⟩ := hv
  obtain ⟨C, cn, cc, rfl⟩ := sl_slice hsl
  have HVL := Lib.hid hvl
  obtain ⟨A, m, c, rfl⟩ := sl_slice hvl
  have hbx := heap_alloc_new w (.cells #[.int .u32 h.size, .slice C cn cc] 25)
  have hbb := below_box w (.cells #[.int .u32 h.size, .slice C cn cc] 25)
  have a0 : (w.alloc (.cells #[.int .u32 h.size, .slice C cn cc] 25)).cell? ⟨w.heap.size, 0, none⟩ = some (.int .u32 h.size) := by rw [cell_of_row _ _ _ _ _ _ hbx]; rfl
  have a1 : (w.alloc (.cells #[.int .u32 h.size, .slice C cn cc] 25)).cell? ⟨w.heap.size, 1, none⟩ = some (.slice C cn cc) := by rw [cell_of_row _ _ _ _ _ _ hbx]; rfl
  have hla := lt_of_block hbx
  have HA := Lib.hid hbb
  clear hsl hvl hbx hbb
  go_enter Tryz.func10, Tryz.ntmps10
  go_upto_region 1 with (fail)
  generalize w.alloc (.cells #[.int .u32 h.size, .slice C cn cc] 25) = wa at *
  go_wp2_with (fail)
  go_at_call 30
  refine (lives_any wa).mono ?_
  rintro e w1 ⟨rfl, hb1⟩
  have b0 := (hb1.cell (p := ⟨w.heap.size, 0, none⟩) hla).trans a0
  have b1 := (hb1.cell (p := ⟨w.heap.size, 1, none⟩) hla).trans a1
  have hlb : w.heap.size < w1.heap.size := Nat.lt_of_lt_of_le hla hb1.size
  have H1 := Lib.hid (HA.out.trans (hb1.mono HA.out.size))
  clear hb1 a0 a1
  go_wp2_with (fail)
  go_at_call 33
  refine (free_call w1 _ h (HVV.out.below H1.out (Nat.le_refl _)) hmax).mono ?_
  rintro e w2 ⟨rfl, hb2⟩
  have c0 := (hb2.cell (p := ⟨w.heap.size, 0, none⟩) hlb).trans b0
  have c1 := (hb2.cell (p := ⟨w.heap.size, 1, none⟩) hlb).trans b1
  have hlc : w.heap.size < w2.heap.size := Nat.lt_of_lt_of_le hlb hb2.size
  have H2 := Lib.hid (H1.out.trans (hb2.mono H1.out.size))
  clear hb2 b0 b1
  go_wp2_with (fail)
  go_at_call 32
  refine (need_any w2 _ l (HVL.out.below H2.out (Nat.le_refl _)) hml).mono ?_
  rintro e w3 ⟨rfl, hb3⟩
  have d0 := (hb3.cell (p := ⟨w.heap.size, 0, none⟩) hlc).trans c0
  have d1 := (hb3.cell (p := ⟨w.heap.size, 1, none⟩) hlc).trans c1
  have H3 := Lib.hid (H2.out.trans (hb3.mono H2.out.size))
  clear hb3 c0 c1
  go_wp2_with (fail)
  go_at_call 34
  refine (build_any w3 _ _ h l (HVV.out.below H3.out (Nat.le_refl _)) (HVL.out.below H3.out (Nat.le_refl _)) hmax hml).mono ?_
  rintro e w4 ⟨r4, rfl, hr4, hk4, hb4⟩
  have hlaw := full_law h l
  have hfr := free_range h
  have hfg := free_range (buildS h l).1
  have hlen4 := build_len h l hmax
  generalize buildS h l = B at *
  obtain ⟨hB, kB, eB⟩ := B
  generalize needS l = N at *
  obtain ⟨nN, eN⟩ := N
  generalize freeS h = F at *
  obtain ⟨nF, eF⟩ := F
  simp only at hlaw hfr hfg hr4 hk4 hlen4 ⊢
  obtain ⟨cB, rfl, hcB, huB⟩ := hr4
  obtain ⟨CB, mB, dB, rfl⟩ := sl_slice hcB
  have hs4 := kidA_size hk4
  have ha4 := kidA_all hk4
  generalize kidA kB = ka4 at *
  have ka4S := Lib.hid (And.intro hs4 ha4)
  have HLAW := Lib.hid hlaw
  have H4 := Lib.hid (And.intro hcB (And.intro huB (H3.out.trans (hb4.mono H3.out.size))))
  clear hs4 ha4 hk4 hlaw hcB huB hb4 d0 d1
  go_upto_region 6 with (
    ((with_reducible refine probe_storeT 58 ?_); (refine wpList_store_row rfl 58 (.tmp 10) _ rfl (w4.heap.size + 1) ka4 rfl rfl 58 _ (two_new w4 _ _ _ _) (by rw [kid_size, ka4S.out.1]) (by rw [ka4S.out.1]; rfl) ka4S.out.2 ?_)))
  obtain ⟨w5, hw5⟩ : ∃ w5, w5 = ((w4.alloc (.cells #[.int .u32 hB.size, .slice CB mB dB] 25)).alloc (.cells (kidA noKid) 58)).setRow (w4.heap.size + 1) ka4 := ⟨_, rfl⟩
  obtain ⟨hbw5, hhw5, hkw5⟩ := two_boxes (w1 := w4) (z2 := kidA noKid) (h := #[.int .u32 hB.size, .slice CB mB dB]) (k := ka4)
  rw [← hw5] at hbw5 hhw5 hkw5
  rw [kidA_zero] at hw5
  rw [← hw5]
  clear hw5
  have f0 : w5.cell? ⟨w4.heap.size, 0, none⟩ = some (.int .u32 hB.size) := by rw [cell_of_row _ _ _ _ _ _ hhw5]; rfl
  have f1 : w5.cell? ⟨w4.heap.size, 1, none⟩ = some (.slice CB mB dB) := by rw [cell_of_row _ _ _ _ _ _ hhw5]; rfl
  have hl5 := lt_of_block hhw5
  have H5 := Lib.hid (And.intro (show HeapV w5 (.agg #[.int .u32 hB.size, .slice CB mB dB]) hB from ⟨_, rfl, H4.out.1.below hbw5 (Nat.le_refl _), H4.out.2.1⟩) (H4.out.2.2.trans (hbw5.mono H4.out.2.2.size)))
  clear hbw5 hhw5 hkw5
  go_wp2_with (fail)
  go_at_call 33
  refine (free_call w5 _ hB H5.out.1 hlen4).mono ?_
  rintro e w6 ⟨rfl, hb6⟩
  have H6 := Lib.hid (H5.out.2.trans (hb6.mono H5.out.2.size))
  clear hb6 f0 f1
  generalize freeS hB = G at *
  obtain ⟨nG, eG⟩ := G
  simp only at HLAW hfg ⊢
  by_cases h1 : eF = 0
  · subst h1
    by_cases h2 : eN = 0
    · subst h2
      by_cases h3 : eB = 0
      · subst h3
        have hl9 := HLAW.out
        rw [if_neg (by simp), if_neg (by simp)] at hl9
        obtain ⟨rfl, hl1, hl2⟩ := hl9
        obtain ⟨r1, r2⟩ := hfr
        obtain ⟨r3, r4⟩ := hfg
        go_wp2_with (fail)
        go_ret
        exact ⟨rfl, H6.out⟩
      · have hq : (eB != 0) = true := by simpa using h3
        have hl9 := HLAW.out
        rw [if_neg (by simp), if_pos h3] at hl9
        obtain ⟨hl0, rfl, rfl⟩ := hl9
        clear h3
        rcases hl0 with rfl | rfl
        all_goals (
          go_wp2_with (fail)
          go_ret
          exact ⟨by simp, H6.out⟩)
    · have hq2 : (eN != 0) = true := by simpa using h2
      have hl9 := HLAW.out
      rw [if_pos (Or.inr h2)] at hl9
      have hq : (eB != 0) = true := by simpa using hl9
      clear h2 hl9
      go_wp2_with (fail)
      go_ret
      exact ⟨rfl, H6.out⟩
  · have hq1 : (eF != 0) = true := by simpa using h1
    have hl9 := HLAW.out
    rw [if_pos (Or.inl h1)] at hl9
    have hq : (eB != 0) = true := by simpa using hl9
    clear h1 hl9
    go_wp2_with (fail)
    go_ret
    exact ⟨rfl, H6.out⟩
end Go.Proofs.YthhmcjojnbaiiaaGreatDoor
