/- Texts of the proof: Zp. -/
import Derived.Test.YtpaohkkhejpgjaaGreatDoorM49
set_option linter.all false
set_option maxRecDepth 100000
set_option maxHeartbeats 8000000
namespace Go.Proofs.YtpaohkkhejpgjaaGreatDoor
open Go Go.RowKit
theorem chk_cells {s : Sto} (h : jdm s = true) : s.heap.cells.length ≤ 65536 := by
 have hg := je4 _ (jmt h).2.1
 have h1 := jg2 (jaj (jav s.heap)) 0 65536 hg.ris (fun x hx => by
  obtain ⟨c, hc, rfl⟩ := List.mem_map.1 hx
  have := (hg.dec c hc).2.2.2
  have := hg.hi
  omega) (by omega)
 unfold jaj at h1
 rw [jb5, List.length_map, List.length_map, List.length_map] at h1
 omega
theorem again_any (w : World) (v : Value) (d : Dv) (hv : DevV w v d) (hl : d.blocks.length ≤ 1073741824) (hl2 : d.waits.length ≤ 1073741824) :
 Calls Tryz.prog 4 #[v] w fun e w' => e = .returned (.bool true) ∧ Below w.heap.size w w' := by
 have HV := Lib.hid hv
 obtain ⟨bv, wv, rfl, hbs, hws, hsz, hfu⟩ := hv
 obtain ⟨A, n, c, rfl⟩ := jax hbs
 obtain ⟨A2, n2, c2, rfl⟩ := jax hws
 clear hbs hws hsz hfu
 have hn0 := heap_alloc_new w (.cells #[.int .u32 d.size, .slice A n c, .slice A2 n2 c2, .bool d.down, .int .i64 d.fuse] 25)
 have hb0 := (Below.refl w.heap.size w).alloc (Nat.le_refl _) (.cells #[.int .u32 d.size, .slice A n c, .slice A2 n2 c2, .bool d.down, .int .i64 d.fuse] 25)
 go_enter Tryz.func4, Tryz.ntmps4
 go_upto_region 1 with (fail)
 generalize w.alloc (.cells #[.int .u32 d.size, .slice A n c, .slice A2 n2 c2, .bool d.down, .int .i64 d.fuse] 25) = wa at *
 have H0 := Lib.hid (And.intro hn0 hb0)
 have HLV := Lib.hid (lives_any wa)
 clear hn0 hb0
 go_wp2_with (fail)
 refine HLV.out.mono ?_
 rintro e w1 ⟨rfl, hb1⟩
 have H1 := Lib.hid (And.intro ((hb1.block _ (lt_of_block H0.out.1)).trans H0.out.1) (H0.out.2.trans (hb1.mono H0.out.2.size)))
 have x0 : w1.cell? ⟨w.heap.size, 0, none⟩ = some (.int .u32 d.size) := by rw [cell_of_row _ _ _ _ _ _ H1.out.1]; rfl
 have x1 : w1.cell? ⟨w.heap.size, 1, none⟩ = some (.slice A n c) := by rw [cell_of_row _ _ _ _ _ _ H1.out.1]; rfl
 have x2 : w1.cell? ⟨w.heap.size, 2, none⟩ = some (.slice A2 n2 c2) := by rw [cell_of_row _ _ _ _ _ _ H1.out.1]; rfl
 have x3 : w1.cell? ⟨w.heap.size, 3, none⟩ = some (.bool d.down) := by rw [cell_of_row _ _ _ _ _ _ H1.out.1]; rfl
 have x4 : w1.cell? ⟨w.heap.size, 4, none⟩ = some (.int .i64 d.fuse) := by rw [cell_of_row _ _ _ _ _ _ H1.out.1]; rfl
 have HM := Lib.hid (jg7 w1 _ d (HV.out.below H1.out.2 (Nat.le_refl _)) hl hl2)
 clear hb1 HLV
 go_wp2_with (fail)
 refine HM.out.mono ?_
 rintro e w2 ⟨r, rfl, hsv, hb2⟩
 obtain ⟨s3, rfl, hl3, ho3, _⟩ := jcf hsv
 have hsi3 : (Tryz.prog.info? 42).map (·.size) = some s3.length := by rw [hl3]; exact ja6
 have hrow2 := (hb2.block _ (lt_of_block H1.out.1)).trans H1.out.1
 have HB3 := Lib.hid (BoxS.new (w := w) (H1.out.2.trans (hb2.mono H1.out.2.size)) hsv)
 have hbn3 := (Below.refl w2.heap.size w2).alloc (Nat.le_refl _) (.cells s3.toArray 42)
 have H2 := Lib.hid (And.intro ((hbn3.block _ (lt_of_block hrow2)).trans hrow2) HB3.out.below)
 obtain ⟨a3, ha3⟩ : ∃ a3, s3.toArray = a3 := ⟨_, rfl⟩
 have HA3 := Lib.hid ha3
 rw [ha3]
 have HL3 := Lib.hid hl3
 have HSV := Lib.hid hsv
 clear ha3 hl3 x0 x1 x2 x3 x4 hsv hb2 hrow2
 obtain ⟨e1, he1⟩ : ∃ e1, (jcz d).2 = e1 := ⟨_, rfl⟩
 have HE1 := Lib.hid he1
 rw [he1]
 clear he1
 go_upto_region 4 with ((with_reducible refine jab ?_); refine jaa rfl 42 (.tmp 3) (.tmp 16) rfl 42 _ rfl s3 (by rw [HA3.out]; rfl) (by rw [HL3.out]; rfl) ho3 hsi3 ?_)
 generalize w2.alloc (.cells s3.toArray 42) = w3 at *
 generalize w2.heap.size = b3 at *
 clear hbn3
 by_cases h0 : e1 = 0
 · subst h0
   have hmr := jh5 d HE1.out
   have HSM := Lib.hid (jmv HSV.out hmr.1)
   have hcc := chk_cells hmr.1
   have HMR := Lib.hid hmr
   have HMS := Lib.hid (show jcz d = ((jcz d).1, 0) from Prod.ext rfl HE1.out)
   obtain ⟨s, hs⟩ : ∃ s, (jcz d).1 = s := ⟨_, rfl⟩
   rw [hs] at HB3 HMR HMS HSM hcc
   clear hs hmr HSV
   have HDE := Lib.hid HMR.out.2
   obtain ⟨bv, wv, _, _, y0, y1, y2, y3, y4, _, _, _, _, _, hdv, _⟩ := HB3.out.parts
   rw [HDE.out] at y0 y3 y4 hdv
   have HM2 := Lib.hid (jg7 w3 _ d hdv hl hl2)
   rw [HMS.out] at HM2
   rw [show jck d bv wv = .agg #[.int .u32 d.size, bv, wv, .bool d.down, .int .i64 d.fuse] from rfl] at HM2 hdv
   have HDV := Lib.hid hdv
   clear hdv
   go_wp2_with (fail)
   refine HM2.out.mono ?_
   rintro e w4 ⟨r, rfl, hsv, hb4⟩
   obtain ⟨s5, rfl, hl5, ho5, _⟩ := jcf hsv
   have hsi5 : (Tryz.prog.info? 42).map (·.size) = some s5.length := by rw [hl5]; exact ja6
   have hrow4 := (hb4.block _ (lt_of_block H2.out.1)).trans H2.out.1
   have HB4 := Lib.hid (HB3.out.pure hb4)
   have HB5 := Lib.hid (BoxS.new (w := w) HB4.out.below hsv)
   have hbn5 := (Below.refl w4.heap.size w4).alloc (Nat.le_refl _) (.cells s5.toArray 42)
   have H4 := Lib.hid ((hbn5.block _ (lt_of_block hrow4)).trans hrow4)
   have HB6 := Lib.hid (HB4.out.pure hbn5)
   have HD6 := Lib.hid ((HDV.out.below hb4 (Nat.le_refl _)).below hbn5 (Nat.le_refl _))
   have z0 := (hbn5.cell (block_lt_of_cell ((hb4.cell (block_lt_of_cell y0)).trans y0))).trans ((hb4.cell (block_lt_of_cell y0)).trans y0)
   have z1 := (hbn5.cell (block_lt_of_cell ((hb4.cell (block_lt_of_cell y1)).trans y1))).trans ((hb4.cell (block_lt_of_cell y1)).trans y1)
   have z2 := (hbn5.cell (block_lt_of_cell ((hb4.cell (block_lt_of_cell y2)).trans y2))).trans ((hb4.cell (block_lt_of_cell y2)).trans y2)
   have z3 := (hbn5.cell (block_lt_of_cell ((hb4.cell (block_lt_of_cell y3)).trans y3))).trans ((hb4.cell (block_lt_of_cell y3)).trans y3)
   have z4 := (hbn5.cell (block_lt_of_cell ((hb4.cell (block_lt_of_cell y4)).trans y4))).trans ((hb4.cell (block_lt_of_cell y4)).trans y4)
   obtain ⟨a5, ha5⟩ : ∃ a5, s5.toArray = a5 := ⟨_, rfl⟩
   have HA5 := Lib.hid ha5
   rw [ha5]
   have HL5 := Lib.hid hl5
   clear ha5 hl5 hsv hb4 hrow4 hbn5 y0 y1 y2 y3 y4 HB4
   go_upto_region 7 with ((with_reducible refine jab ?_); refine jaa rfl 42 (.tmp 5) (.tmp 24) rfl 42 _ rfl s5 (by rw [HA5.out]; rfl) (by rw [HL5.out]; rfl) ho5 hsi5 ?_)
   generalize w4.alloc (.cells s5.toArray 42) = w5 at *
   generalize w4.heap.size = b5 at *
   try simp only [Act.put]
   have x0 : w5.cell? ⟨w.heap.size, 0, none⟩ = some (.int .u32 d.size) := by rw [cell_of_row _ _ _ _ _ _ H4.out]; rfl
   have x1 : w5.cell? ⟨w.heap.size, 1, none⟩ = some (.slice A n c) := by rw [cell_of_row _ _ _ _ _ _ H4.out]; rfl
   have x2 : w5.cell? ⟨w.heap.size, 2, none⟩ = some (.slice A2 n2 c2) := by rw [cell_of_row _ _ _ _ _ _ H4.out]; rfl
   have x3 : w5.cell? ⟨w.heap.size, 3, none⟩ = some (.bool d.down) := by rw [cell_of_row _ _ _ _ _ _ H4.out]; rfl
   have x4 : w5.cell? ⟨w.heap.size, 4, none⟩ = some (.int .i64 d.fuse) := by rw [cell_of_row _ _ _ _ _ _ H4.out]; rfl
   have HR1 := Lib.hid (jef w5 _ d 0 (HV.out.below HB6.out.below (Nat.le_refl _)) hl hl2)
   go_wp2_with (fail)
   refine HR1.out.mono ?_
   rintro e w6 ⟨rfl, hb6⟩
   have HR2 := Lib.hid (jef w6 _ d 0 (HD6.out.below hb6 (Nat.le_refl _)) hl hl2)
   have y0 := (hb6.cell (block_lt_of_cell z0)).trans z0
   have y1 := (hb6.cell (block_lt_of_cell z1)).trans z1
   have y2 := (hb6.cell (block_lt_of_cell z2)).trans z2
   have y3 := (hb6.cell (block_lt_of_cell z3)).trans z3
   have y4 := (hb6.cell (block_lt_of_cell z4)).trans z4
   have HB7 := Lib.hid (HB6.out.pure hb6)
   have HB8 := Lib.hid (HB5.out.pure hb6)
   obtain ⟨rd, hrd⟩ : ∃ rd, (readD d 0).1 = rd := ⟨_, rfl⟩
   obtain ⟨re, hre⟩ : ∃ re, (readD d 0).2 = re := ⟨_, rfl⟩
   rw [hrd, hre] at HR2 ⊢
   clear x0 x1 x2 x3 x4 z0 z1 z2 z3 z4 hb6 hrd hre
   go_wp2_with (fail)
   refine HR2.out.mono ?_
   rintro e w7 ⟨rfl, hb7⟩
   have HB9 := Lib.hid (HB7.out.pure hb7)
   have HB10 := Lib.hid (HB8.out.pure hb7)
   clear y0 y1 y2 y3 y4 hb7
   go_upto_region 9 with (fail)
   try simp only [Act.put]
   have at3 := HB9.out.at
   have at5 := HB10.out.at
   have l3 := fun g : Grown w7 => jas (P := Tryz.prog) g.val b3 0 42 s3 _ (at3.below g.prop (Nat.le_refl _)) Tryz.underlying42 rfl hsi3
   have l5 := fun g : Grown w7 => jas (P := Tryz.prog) g.val b5 0 42 s5 _ (at5.below g.prop (Nat.le_refl _)) Tryz.underlying42 rfl hsi5
   have HSA := Lib.hid (fun g : Grown w7 => ssame_any g.val _ _ s (HB9.out.sto.below g.prop (Nat.le_refl _)) (HB10.out.sto.below g.prop (Nat.le_refl _)) (Nat.le_trans HSM.out.1 (by decide)) (Nat.le_trans HSM.out.2 (by decide)) (by omega))
   have HCK := Lib.hid (fun g : Grown w7 => chk_any g.val _ s (HB9.out.sto.below g.prop (Nat.le_refl _)) (Nat.le_trans HSM.out.1 (by decide)) (Nat.le_trans HSM.out.2 (by decide)) (by omega))
   rw [show stoE s = 0 by unfold stoE; rw [HMR.out.1]; rfl] at HCK
   rw [HA3.out] at l3 HSA HCK
   rw [HA5.out] at l5 HSA
   have hk : (rd.toList == rd.toList) = true := by simp
   clear at3 at5 hcc
   refine jbf ?_
   iterate 3 (
    with_reducible refine wpQuiet_step (fun K hK => ?_)
    go_simp
    generalize hZ : (Act.mk _ _ : Act) = zz
    refine hK _ ?_
    subst hZ
    clear hK K)
   refine wpQuiet_step (fun K hK => ?_)
   refine jal 42 (.tmp 3) rfl ⟨b3, 0, none⟩ rfl (.agg a3) l3 ?_
   generalize hZ : (Act.put _ _ _ : Act) = zz
   refine hK _ ?_
   subst hZ
   clear hK K
   refine wpQuiet_step (fun K hK => ?_)
   refine jal 42 (.tmp 5) rfl ⟨b5, 0, none⟩ rfl (.agg a5) l5 ?_
   generalize hZ : (Act.put _ _ _ : Act) = zz
   refine hK _ ?_
   subst hZ
   clear hK K
   with_reducible refine wpQuiet_step (fun K hK => ?_)
   go_simp
   apply Exists.intro
   refine ⟨fun g => ?_, hK _ ?_⟩
   · go_at_call 17
     refine (HSA.out g).mono ?_
     rintro e wk ⟨rfl, hbk⟩
     exact ⟨rfl, ⟨wk, g.prop.trans (hbk.mono g.prop.size)⟩, rfl⟩
   clear hK K
   iterate 12 (
    with_reducible refine wpQuiet_step (fun K hK => ?_)
    go_simp
    generalize hZ : (Act.mk _ _ : Act) = zz
    refine hK _ ?_
    subst hZ
    clear hK K)
   refine wpQuiet_step (fun K hK => ?_)
   refine jal 42 (.tmp 3) rfl ⟨b3, 0, none⟩ rfl (.agg a3) l3 ?_
   generalize hZ : (Act.put _ _ _ : Act) = zz
   refine hK _ ?_
   subst hZ
   clear hK K
   with_reducible refine wpQuiet_step (fun K hK => ?_)
   go_simp
   apply Exists.intro
   refine ⟨fun g => ?_, hK _ ?_⟩
   · go_at_call 19
     refine (HCK.out g).mono ?_
     rintro e wk ⟨rfl, hbk⟩
     exact ⟨rfl, ⟨wk, g.prop.trans (hbk.mono g.prop.size)⟩, rfl⟩
   clear hK K
   iterate 3 (
    with_reducible refine wpQuiet_step (fun K hK => ?_)
    go_simp
    generalize hZ : (Act.mk _ _ : Act) = zz
    refine hK _ ?_
    subst hZ
    clear hK K)
   refine wpQuiet_nil ?_
   intro _ hwq
   obtain ⟨wq, hwq⟩ := hwq
   subst hwq
   have hq := wq.prop
   go_wp2_with (fail)
   go_ret
   exact ⟨rfl, HB9.out.below.trans (hq.mono HB9.out.below.size)⟩
 · have h0b : (e1 != 0) = true := by simp [h0]
   clear h0
   go_wp2_with (fail)
   go_ret
   exact ⟨rfl, H2.out.2⟩
end Go.Proofs.YtpaohkkhejpgjaaGreatDoor
