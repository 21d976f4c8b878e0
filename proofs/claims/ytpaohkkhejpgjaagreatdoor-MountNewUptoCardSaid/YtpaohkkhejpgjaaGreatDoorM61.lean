/- Texts of the proof: Zq. -/
import Derived.Test.YtpaohkkhejpgjaaGreatDoorM49
set_option linter.all false
set_option maxRecDepth 100000
set_option maxHeartbeats 8000000
namespace Go.Proofs.YtpaohkkhejpgjaaGreatDoor
open Go Go.RowKit
theorem get_any (w : World) (v : Value) (h : Hp) (num : Int) (c : CC) (hv : HeapV w v h) (hmax : h.cells.length ≤ 1073741824) (ho : openB h = true) (hc : jc6 (jav h) num = some c) :
 Calls Tryz.prog 21 #[v, .int .u32 num] w fun e w' => ∃ r, e = .returned (.tuple #[r, .int .i64 0]) ∧ NodeV w' r c.node ∧ Below w.heap.size w w' := by
 obtain ⟨cv, rfl, hsl, hsz⟩ := hv
 have HSL := Lib.hid (And.intro hsl hsz)
 obtain ⟨C, n, cc, rfl⟩ := jax hsl
 have hn1 : ((w.alloc (.cells #[.int .u32 h.size, .slice C n cc] 32)).alloc (.cells #[.int .u8 0, .slice none 0 0, .slice none 0 0, .slice none 0 0] 59)).heap[w.heap.size]? = some (.cells #[.int .u32 h.size, .slice C n cc] 32 (0, 0)) := ji6
 have hn2 : ((w.alloc (.cells #[.int .u32 h.size, .slice C n cc] 32)).alloc (.cells #[.int .u8 0, .slice none 0 0, .slice none 0 0, .slice none 0 0] 59)).heap[w.heap.size + 1]? = some (.cells #[.int .u8 0, .slice none 0 0, .slice none 0 0, .slice none 0 0] 59 (0, 0)) := ji5
 have hnb : Below w.heap.size w ((w.alloc (.cells #[.int .u32 h.size, .slice C n cc] 32)).alloc (.cells #[.int .u8 0, .slice none 0 0, .slice none 0 0, .slice none 0 0] 59)) := jf5
 clear hsl
 go_enter Tryz.func21, Tryz.ntmps21
 go_upto_region 1 with (fail)
 generalize (w.alloc (.cells #[.int .u32 h.size, .slice C n cc] 32)).alloc (.cells #[.int .u8 0, .slice none 0 0, .slice none 0 0, .slice none 0 0] 59) = wa at *
 have x0 : wa.cell? ⟨w.heap.size, 0, none⟩ = some (.int .u32 h.size) := by rw [cell_of_row _ _ _ _ _ _ hn1]; rfl
 have x1 : wa.cell? ⟨w.heap.size, 1, none⟩ = some (.slice C n cc) := by rw [cell_of_row _ _ _ _ _ _ hn1]; rfl
 have H0 := Lib.hid (And.intro hnb hn2)
 have HV := Lib.hid (show HeapV wa (.agg #[.int .u32 h.size, .slice C n cc]) h from ⟨_, rfl, HSL.out.1.below hnb (Nat.le_refl _), HSL.out.2⟩)
 clear hn1 hn2 hnb
 go_wp2_with (fail)
 refine (open_any wa _ h HV.out hmax).mono ?_
 rintro e w1 ⟨hb, h1⟩
 have H1 := Lib.hid (And.intro (H0.out.1.trans (hb.mono H0.out.1.size)) ((hb.block _ (lt_of_block H0.out.2)).trans H0.out.2))
 clear hb x0 x1
 rcases h1 with ⟨_, p, pcs, rfl, hst, hop⟩ | ⟨ho2, rfl⟩
 · have hpl : pcs.length = h.cells.length := by have := congrArg List.length hop; rw [jb5] at this; simpa using this
   have hpm : pcs.length ≤ 1073741824 := by omega
   have hgood := je4 h ho
   have hris : jdk (nums pcs) := by
    have := hgood.ris
    rw [← hop] at this
    unfold jaj at this
    rw [List.map_map] at this
    exact jc3 this
   have HOP := Lib.hid (And.intro hop hgood)
   have hst2 := hst.lower (B' := w.heap.size) H0.out.1.size
   have HB1 := Lib.hid (show w.heap.size + 1 < p from Nat.lt_of_lt_of_le (lt_of_block H0.out.2) hst.low)
   clear hst hpl hgood hop
   go_wp2_with (fail)
   refine (at_any w.heap.size w1 p h.size pcs num hst2 hris hpm).mono ?_
   rintro e _ ⟨rfl, a, rfl⟩
   obtain ⟨hs3, _, hb3⟩ := hst2.asked a
   have hres : (w1.setCell ⟨p, 2, none⟩ (.int .i64 a)).heap[w.heap.size + 1]? = some (.cells #[.int .u8 0, .slice none 0 0, .slice none 0 0, .slice none 0 0] 59 (0, 0)) := (Below.heap_setCell _ _ _ _ (by have := HB1.out; simp; omega)).trans H1.out.2
   have HB3 := Lib.hid (H1.out.1.trans hb3)
   clear hst2 hb3
   generalize w1.setCell ⟨p, 2, none⟩ (.int .i64 a) = w3 at *
   cases hx : je8 pcs num with
   | none =>
    exfalso
    have := jht hris hx
    rw [HOP.out.1, hc] at this
    cases this
   | some x =>
    have hcf := jlh hris hx
    rw [HOP.out.1, hc] at hcf
    have hcx : c = x.2 := by injection hcf
    have hxm : x ∈ pcs := by
     unfold je8 at hx
     split at hx
     · exact List.mem_of_getElem? hx
     · cases hx
    obtain ⟨vi, vk, vv, hrow, h1, h2, h3⟩ := hs3.cellRow hxm
    have hkd := (hs3.wf x hxm).kd
    rw [← hcx] at hrow h1 h2 h3 hkd
    have k3 : w3.cell? ⟨x.1, 3, none⟩ = some (.int .u8 c.node.kind) := by rw [cell_of_row _ _ _ _ _ _ hrow]; rfl
    have k4 : w3.cell? ⟨x.1, 4, none⟩ = some vi := by rw [cell_of_row _ _ _ _ _ _ hrow]; rfl
    have k5 : w3.cell? ⟨x.1, 5, none⟩ = some vk := by rw [cell_of_row _ _ _ _ _ _ hrow]; rfl
    have k6 : w3.cell? ⟨x.1, 6, none⟩ = some vv := by rw [cell_of_row _ _ _ _ _ _ hrow]; rfl
    have HNV := Lib.hid (show NodeV w3 (.agg #[.int .u8 c.node.kind, vi, vk, vv]) c.node from ⟨vi, vk, vv, rfl, h1, h2, h3, hkd.1, hkd.2⟩)
    obtain ⟨i1, i2, i3, rfl⟩ := jax h1
    obtain ⟨j1, j2, j3, rfl⟩ := jax h2
    obtain ⟨l1, l2, l3, rfl⟩ := jax h3
    have HRS := Lib.hid hres
    clear hx hcf hs3 hris hxm hrow h1 h2 h3 hkd hcx hres
    generalize c.node.kind = kd at *
    go_wp2_with ((with_reducible refine jab ?_); refine jaf rfl 59 _ _ rfl (w.heap.size + 1) 0 rfl [_, _, _, _] rfl 59 _ HRS.out (by simp) (by intro v hv; simp at hv; rcases hv with rfl | rfl | rfl | rfl <;> rfl) ja0 ?_)
    have hfin := jad w3 (w.heap.size + 1) #[.int .u8 kd, .slice i1 i2 i3, .slice j1 j2 j3, .slice l1 l2 l3] _ _ HRS.out
    refine bodyPost_ret (jds rfl _ (w.heap.size + 1) _ (0, 0) _ rfl hfin rfl) rfl ⟨.agg #[.int .u8 kd, .slice i1 i2 i3, .slice j1 j2 j3, .slice l1 l2 l3], rfl, nodeV_keep _ HNV.out HRS.out, ja8 HB3.out (by omega)⟩
 · exfalso
   rw [ho] at ho2
   cases ho2
theorem new_plain {d : Dv} (h0 : (jc1 { d with fuse := -1 }).2 = 0) : Fmt noneB (jc1 { d with fuse := -1 }).1 d.size ∧ jcz (jc1 { d with fuse := -1 }).1 = (sto1 noneB (jc1 { d with fuse := -1 }).1 d.size, 0) := by
 obtain ⟨m, hm, hr⟩ := format_inv (d := { d with fuse := -1 }) rfl h0
 obtain ⟨_, hf⟩ := format_rdy hr hm
 exact ⟨hf, jmi jk1 hf⟩
theorem new_free {e : Dv} {size : Int} (h : Fmt noneB e size) : openB (sto1 noneB e size).heap = true ∧ freeS (sto1 noneB e size).heap = (size - 3, 0) ∧ jc6 (jav (sto1 noneB e size).heap) (sto1 noneB e size).table.num = some ⟨2, noneB, 2, jdq, shaOf noneB.data.toList, 0⟩ := by
 have ho := (jmt (jjy jk1 h)).2.1
 refine ⟨ho, ?_, ?_⟩
 · unfold freeS
   rw [if_neg (by rw [ho]; simp)]
   show (size - 2 - ((1 : Nat) : Int), (0 : Int)) = (size - 3, 0)
   congr 1
   omega
 · show jc6 (jav ⟨size, [⟨2, noneB, 2⟩]⟩) 2 = _
   rw [opened_one jk1]
   rfl
theorem BoxS.hp {w u : World} {b : Nat} {st : List Value} {s : Sto} (h : BoxS w u b st s) : ∃ A c, u.cell? ⟨b, 5, none⟩ = some (.int .u32 s.heap.size) ∧ u.cell? ⟨b, 6, none⟩ = some (.slice A s.heap.cells.length c) ∧ u.cell? ⟨b, 80, none⟩ = some (.int .u32 s.table.num) ∧ HeapV u (.agg #[.int .u32 s.heap.size, .slice A s.heap.cells.length c]) s.heap := by
 obtain ⟨_, hr, bv, wv, cv, e, h1, h2, h3, h4, h5⟩ := h
 have hst : st = stoL (devL s.dev bv wv) [.int .u32 s.heap.size, cv] (supA s.s0).toList (supA s.s1).toList [.bool s.v0, .bool s.v1] (kidE.enc s.table) := by
  injection e with e
  have := congrArg Array.toList e
  simpa using this
 have h2' := h2
 obtain ⟨c', ec, hsl, _⟩ := h2
 simp only [Value.agg.injEq, Array.mk.injEq, List.cons.injEq, and_true, true_and] at ec
 subst ec
 obtain ⟨A, c, rfl, _⟩ := hsl
 rw [hst] at hr
 have hs := jcr hr (ja4 h3 h4 h5)
 exact ⟨A, c, hs.2.1.cell 0 _ rfl, hs.2.1.cell 1 _ rfl, hs.2.2.2.2.2.cell 1 _ rfl, h2'⟩
theorem new_any (w : World) (v : Value) (d : Dv) (hv : DevV w v d) (hl : d.blocks.length ≤ 1073741824) (hl2 : d.waits.length ≤ 1073741824) :
 Calls Tryz.prog 6 #[v] w fun e w' => e = .returned (.bool true) ∧ Below w.heap.size w w' := by
 have HV := Lib.hid hv
 obtain ⟨bv, wv, rfl, hbs, hws, hsz, hfu⟩ := hv
 obtain ⟨A, n, c, rfl⟩ := jax hbs
 obtain ⟨A2, n2, c2, rfl⟩ := jax hws
 have HV2 := Lib.hid (show DevV w (.agg #[.int .u32 d.size, .slice A n c, .slice A2 n2 c2, .bool d.down, .int .i64 (-1)]) { d with fuse := -1 } from ⟨_, _, rfl, hbs, hws, hsz, by show jho (-1); unfold jho; decide⟩)
 have HSZ := Lib.hid hsz
 clear hbs hws hsz hfu
 have hn0 := heap_alloc_new w (.cells #[.int .u32 d.size, .slice A n c, .slice A2 n2 c2, .bool d.down, .int .i64 d.fuse] 25)
 have hb0 := (Below.refl w.heap.size w).alloc (Nat.le_refl _) (.cells #[.int .u32 d.size, .slice A n c, .slice A2 n2 c2, .bool d.down, .int .i64 d.fuse] 25)
 go_enter Tryz.func6, Tryz.ntmps6
 go_upto_region 1 with (fail)
 generalize w.alloc (.cells #[.int .u32 d.size, .slice A n c, .slice A2 n2 c2, .bool d.down, .int .i64 d.fuse] 25) = wa at *
 have H0 := Lib.hid (And.intro hn0 hb0)
 have HLV := Lib.hid (lives_any wa)
 clear hn0 hb0
 go_wp2_with (fail)
 refine HLV.out.mono ?_
 rintro e w1 ⟨rfl, hb1⟩
 have hr1 := (hb1.block _ (lt_of_block H0.out.1)).trans H0.out.1
 have x4 : w1.cell? ⟨w.heap.size, 4, none⟩ = some (.int .i64 d.fuse) := by rw [cell_of_row _ _ _ _ _ _ hr1]; rfl
 have f4 : w1.frozen? ⟨w.heap.size, 4, none⟩ = false := jbi hr1 _
 have hset := ja2 hr1 4 (.int .i64 (-1))
 have H1 := Lib.hid (And.intro (show (w1.setCell ⟨w.heap.size, 4, none⟩ (.int .i64 (-1))).heap[w.heap.size]? = some (.cells #[.int .u32 d.size, .slice A n c, .slice A2 n2 c2, .bool d.down, .int .i64 (-1)] 25 (0, 0)) from hset) ((H0.out.2.trans (hb1.mono H0.out.2.size)).setCell (p := ⟨w.heap.size, 4, none⟩) (Nat.le_refl _) (.int .i64 (-1))))
 clear hb1 HLV hr1 hset
 go_upto_region 4 with (fail)
 generalize w1.setCell ⟨w.heap.size, 4, none⟩ (.int .i64 (-1)) = w2 at *
 have y0 : w2.cell? ⟨w.heap.size, 0, none⟩ = some (.int .u32 d.size) := by rw [cell_of_row _ _ _ _ _ _ H1.out.1]; rfl
 have y1 : w2.cell? ⟨w.heap.size, 1, none⟩ = some (.slice A n c) := by rw [cell_of_row _ _ _ _ _ _ H1.out.1]; rfl
 have y2 : w2.cell? ⟨w.heap.size, 2, none⟩ = some (.slice A2 n2 c2) := by rw [cell_of_row _ _ _ _ _ _ H1.out.1]; rfl
 have y3 : w2.cell? ⟨w.heap.size, 3, none⟩ = some (.bool d.down) := by rw [cell_of_row _ _ _ _ _ _ H1.out.1]; rfl
 have y4 : w2.cell? ⟨w.heap.size, 4, none⟩ = some (.int .i64 (-1)) := by rw [cell_of_row _ _ _ _ _ _ H1.out.1]; rfl
 have HFO := Lib.hid (format_any w2 _ { d with fuse := -1 } (HV2.out.below H1.out.2 (Nat.le_refl _)) hl hl2)
 clear x4 f4
 go_wp2_with (fail)
 refine HFO.out.mono ?_
 rintro e w3 ⟨r, rfl, hdv, hsm, hb3⟩
 obtain ⟨bv, wv, rfl, hbs, hws, hsz2, hfu⟩ := hdv
 obtain ⟨e1, he1⟩ : ∃ e1, (jc1 { d with fuse := -1 }).2 = e1 := ⟨_, rfl⟩
 have HNP := Lib.hid (fun h0 : e1 = 0 => new_plain (d := d) (he1.trans h0))
 rw [he1]
 clear he1
 obtain ⟨dd, hdd⟩ : ∃ dd, (jc1 { d with fuse := -1 }).1 = dd := ⟨_, rfl⟩
 rw [hdd] at hbs hws hsz2 hfu hsm HNP ⊢
 clear hdd
 have HDV := Lib.hid (show DevV w3 (.agg #[.int .u32 dd.size, bv, wv, .bool dd.down, .int .i64 dd.fuse]) dd from ⟨_, _, rfl, hbs, hws, hsz2, hfu⟩)
 obtain ⟨B1, m1, k1, rfl⟩ := jax hbs
 obtain ⟨B2, m2, k2, rfl⟩ := jax hws
 have hrow3 := (hb3.block _ (lt_of_block H1.out.1)).trans H1.out.1
 have hn4 := heap_alloc_new w3 (.cells #[.int .u32 dd.size, .slice B1 m1 k1, .slice B2 m2 k2, .bool dd.down, .int .i64 dd.fuse] 25)
 have hb4 := (Below.refl w3.heap.size w3).alloc (Nat.le_refl _) (.cells #[.int .u32 dd.size, .slice B1 m1 k1, .slice B2 m2 k2, .bool dd.down, .int .i64 dd.fuse] 25)
 have H4 := Lib.hid (And.intro ((hb4.block _ (lt_of_block hrow3)).trans hrow3) (And.intro ((H1.out.2.trans (hb3.mono H1.out.2.size)).trans (hb4.mono (Nat.le_trans H1.out.2.size hb3.size))) (HDV.out.below hb4 (Nat.le_refl _))))
 have HON := Lib.hid (show ∀ u ∈ ([.int .u32 dd.size, .slice B1 m1 k1, .slice B2 m2 k2, .bool dd.down, .int .i64 dd.fuse] : List Value), u.oneCell' = true from by
  intro u hu
  simp at hu
  rcases hu with rfl | rfl | rfl | rfl | rfl <;> rfl)
 have HSM := Lib.hid hsm
 clear hbs hws hsz2 hfu hsm hb3 hrow3 hb4 y0 y1 y2 y3 y4 HFO
 go_upto_region 5 with ((with_reducible refine jab ?_); refine jaa rfl 25 (.tmp 3) (.tmp 17) rfl 25 _ rfl [.int .u32 dd.size, .slice B1 m1 k1, .slice B2 m2 k2, .bool dd.down, .int .i64 dd.fuse] rfl rfl HON.out jbz ?_)
 generalize w3.alloc (.cells #[.int .u32 dd.size, .slice B1 m1 k1, .slice B2 m2 k2, .bool dd.down, .int .i64 dd.fuse] 25) = w4 at *
 generalize w3.heap.size = b3 at *
 by_cases h0 : e1 = 0
 · have HPL := Lib.hid (HNP.out h0)
   subst h0
   have z0 : w4.cell? ⟨b3, 0, none⟩ = some (.int .u32 dd.size) := by rw [cell_of_row _ _ _ _ _ _ hn4]; rfl
   have z1 : w4.cell? ⟨b3, 1, none⟩ = some (.slice B1 m1 k1) := by rw [cell_of_row _ _ _ _ _ _ hn4]; rfl
   have z2 : w4.cell? ⟨b3, 2, none⟩ = some (.slice B2 m2 k2) := by rw [cell_of_row _ _ _ _ _ _ hn4]; rfl
   have z3 : w4.cell? ⟨b3, 3, none⟩ = some (.bool dd.down) := by rw [cell_of_row _ _ _ _ _ _ hn4]; rfl
   have z4 : w4.cell? ⟨b3, 4, none⟩ = some (.int .i64 dd.fuse) := by rw [cell_of_row _ _ _ _ _ _ hn4]; rfl
   have HM := Lib.hid (jg7 w4 _ dd H4.out.2.2 (by have := HSM.out.1; omega) (by have := HSM.out.2; omega))
   rw [HPL.out.2] at HM
   clear hn4 HNP
   go_wp2_with (fail)
   refine HM.out.mono ?_
   rintro e w5 ⟨r, rfl, hsv, hb5⟩
   obtain ⟨s5, rfl, hl5, ho5, _⟩ := jcf hsv
   have hsi5 : (Tryz.prog.info? 42).map (·.size) = some s5.length := by rw [hl5]; exact ja6
   have hrow5 := (hb5.block _ (lt_of_block H4.out.1)).trans H4.out.1
   have HB5 := Lib.hid (BoxS.new (w := w) (H4.out.2.1.trans (hb5.mono H4.out.2.1.size)) hsv)
   have hbn5 := (Below.refl w5.heap.size w5).alloc (Nat.le_refl _) (.cells s5.toArray 42)
   have H6 := Lib.hid ((hbn5.block _ (lt_of_block hrow5)).trans hrow5)
   obtain ⟨a5, ha5⟩ : ∃ a5, s5.toArray = a5 := ⟨_, rfl⟩
   have HA5 := Lib.hid ha5
   rw [ha5]
   have HL5 := Lib.hid hl5
   have HS2 := Lib.hid (jmv hsv (jjy jk1 HPL.out.1))
   clear ha5 hl5 hsv hb5 hrow5 hbn5 z0 z1 z2 z3 z4 HM
   go_upto_region 8 with ((with_reducible refine jab ?_); refine jaa rfl 42 (.tmp 5) (.tmp 24) rfl 42 _ rfl s5 (by rw [HA5.out]; rfl) (by rw [HL5.out]; rfl) ho5 hsi5 ?_)
   generalize w5.alloc (.cells s5.toArray 42) = w6 at *
   generalize w5.heap.size = b5 at *
   try simp only [Act.put]
   have HNF := Lib.hid (new_free HPL.out.1)
   obtain ⟨HA, hc, q5, q6, q80, hhv⟩ := HB5.out.hp
   have q5 : w6.cell? ⟨b5, 5, none⟩ = some (.int .u32 d.size) := q5
   have q6 : w6.cell? ⟨b5, 6, none⟩ = some (.slice HA 1 hc) := q6
   have q80 : w6.cell? ⟨b5, 80, none⟩ = some (.int .u32 2) := q80
   have hhv : HeapV w6 (.agg #[.int .u32 d.size, .slice HA 1 hc]) (sto1 noneB dd d.size).heap := hhv
   have HHV := Lib.hid hhv
   have HGE := Lib.hid (get_any w6 _ (sto1 noneB dd d.size).heap 2 _ hhv (by show 1 ≤ 1073741824; decide) HNF.out.1 HNF.out.2.2)
   clear hhv
   go_wp2_with (fail)
   refine HGE.out.mono ?_
   rintro e w7 ⟨r, rfl, ⟨vi, vk, vv, rfl, h1, h2, h3, _, _⟩, hb7⟩
   obtain ⟨i1, i2, i3, rfl⟩ := jax h1
   obtain ⟨j1, j2, j3, rfl⟩ := jax h2
   obtain ⟨l1, l3, rfl, _⟩ := h3
   rw [show jdq.kind = 3 from rfl, show jdq.vols.length = 0 from rfl]
   have HB7 := Lib.hid (HB5.out.pure hb7)
   have hrow7 := (hb7.block _ (lt_of_block H6.out)).trans H6.out
   have hbn7 := (Below.refl w7.heap.size w7).alloc (Nat.le_refl _) (.cells #[.int .u8 3, .slice i1 i2 i3, .slice j1 j2 j3, .slice l1 0 l3] 59)
   have hn7 := heap_alloc_new w7 (.cells #[.int .u8 3, .slice i1 i2 i3, .slice j1 j2 j3, .slice l1 0 l3] 59)
   have HB8 := Lib.hid (HB7.out.pure hbn7)
   have H8 := Lib.hid (And.intro ((hbn7.block _ (lt_of_block hrow7)).trans hrow7) hn7)
   have HHW := Lib.hid ((HHV.out.below hb7 (Nat.le_refl _)).below hbn7 (Nat.le_refl _))
   have p5 := (hbn7.cell (block_lt_of_cell ((hb7.cell (block_lt_of_cell q5)).trans q5))).trans ((hb7.cell (block_lt_of_cell q5)).trans q5)
   have p6 := (hbn7.cell (block_lt_of_cell ((hb7.cell (block_lt_of_cell q6)).trans q6))).trans ((hb7.cell (block_lt_of_cell q6)).trans q6)
   clear h1 h2 hb7 hbn7 hn7 hrow7 q5 q6 q80 HGE
   go_upto_region 9 with ((with_reducible refine jab ?_); refine jaa rfl 59 (.tmp 7) (.tmp 33) rfl 59 _ rfl [.int .u8 3, .slice i1 i2 i3, .slice j1 j2 j3, .slice l1 0 l3] rfl rfl (by intro v hv; simp at hv; rcases hv with rfl | rfl | rfl | rfl <;> rfl) ja0 ?_)
   generalize w7.alloc (.cells #[.int .u8 3, .slice i1 i2 i3, .slice j1 j2 j3, .slice l1 0 l3] 59) = w8 at *
   generalize w7.heap.size = b7 at *
   try simp only [Act.put]
   have HFR := Lib.hid (free_call w8 _ (sto1 noneB dd d.size).heap HHW.out (by show 1 ≤ 1073741824; decide))
   rw [HNF.out.2.1] at HFR
   go_wp2_with (fail)
   refine HFR.out.mono ?_
   rintro e w9 ⟨rfl, hb9⟩
   have HB9 := Lib.hid (HB8.out.pure hb9)
   have H9 := Lib.hid (And.intro ((hb9.block _ (lt_of_block H8.out.1)).trans H8.out.1) ((hb9.block _ (lt_of_block H8.out.2)).trans H8.out.2))
   clear p5 p6 hb9 HFR
   go_upto_region 10 with (fail)
   try simp only [Act.put]
   have at5 := HB9.out.at
   have n0 : w9.cell? ⟨b7, 0, none⟩ = some (.int .u8 3) := by rw [cell_of_row _ _ _ _ _ _ H9.out.2]; rfl
   have n3 : w9.cell? ⟨b7, 3, none⟩ = some (.slice l1 0 l3) := by rw [cell_of_row _ _ _ _ _ _ H9.out.2]; rfl
   have x0 : w9.cell? ⟨w.heap.size, 0, none⟩ = some (.int .u32 d.size) := by rw [cell_of_row _ _ _ _ _ _ H9.out.1]; rfl
   have g0 := fun g : Grown w9 => g.fact n0
   have g3 := fun g : Grown w9 => g.fact n3
   have gx := fun g : Grown w9 => g.fact x0
   have l5 := fun g : Grown w9 => jas (P := Tryz.prog) g.val b5 0 42 s5 _ (at5.below g.prop (Nat.le_refl _)) Tryz.underlying42 rfl hsi5
   have HCK := Lib.hid (fun g : Grown w9 => chk_any g.val _ (sto1 noneB dd d.size) (HB9.out.sto.below g.prop (Nat.le_refl _)) (Nat.le_trans HS2.out.1 (by decide)) (Nat.le_trans HS2.out.2 (by decide)) (by show 1 ≤ 1073741824; decide))
   rw [show stoE (sto1 noneB dd d.size) = 0 by unfold stoE; rw [jjy jk1 HPL.out.1]; rfl] at HCK
   rw [HA5.out] at l5 HCK
   have hs0 : 0 ≤ d.size := HSZ.out.1
   have hs1 : d.size ≤ 4294967295 := HSZ.out.2
   have hs2 : d.size ≤ 9223372036854775807 := by omega
   have hw1 : IntKind.i64.wrap d.size = d.size := by rw [IntKind.wrap_i64]; omega
   have hwr : IntKind.i64.wrap (d.size - 3) = d.size - 3 := by rw [IntKind.wrap_i64]; omega
   have hwz : (d.size - 3 == IntKind.i64.wrap (IntKind.i64.wrap d.size - 3)) = true := by rw [hw1, hwr]; simp
   clear at5 n0 n3 x0
   refine jbf ?_
   iterate 30 (
    with_reducible refine wpQuiet_step (fun K hK => ?_)
    go_simp
    generalize hZ : (Act.mk _ _ : Act) = zz
    refine hK _ ?_
    subst hZ
    clear hK K)
   refine wpQuiet_step (fun K hK => ?_)
   refine jal 42 (.tmp 5) rfl ⟨b5, 0, none⟩ rfl (.agg a5) l5 ?_
   generalize hZ : (Act.put _ _ _ : Act) = zz
   refine hK _ ?_
   subst hZ
   clear hK K
   with_reducible refine wpQuiet_step (fun K hK => ?_)
   go_simp
   apply Exists.intro
   refine ⟨fun g => ?_, hK _ ?_⟩
   · go_at_call 19
     refine (HCK.out g).mono ?_
     rintro e wk ⟨rfl, hbk⟩
     exact ⟨rfl, ⟨wk, g.prop.trans (hbk.mono g.prop.size)⟩, rfl⟩
   clear hK K
   iterate 3 (
    with_reducible refine wpQuiet_step (fun K hK => ?_)
    go_simp
    generalize hZ : (Act.mk _ _ : Act) = zz
    refine hK _ ?_
    subst hZ
    clear hK K)
   refine wpQuiet_nil ?_
   intro _ hwq
   obtain ⟨wq, hwq⟩ := hwq
   subst hwq
   have hq := wq.prop
   go_wp2_with (fail)
   go_ret
   exact ⟨rfl, HB9.out.below.trans (hq.mono HB9.out.below.size)⟩
 · have h0b : (e1 != 0) = true := by simp [h0]
   clear h0 hn4 HNP
   go_wp2_with (fail)
   go_ret
   exact ⟨rfl, H4.out.2.1⟩
end Go.Proofs.YtpaohkkhejpgjaaGreatDoor
