/- Texts of the proof: Tk4. -/
import Derived.Test.YtpaohkkhejpgjaaGreatDoorM7
import Derived.Deep.RegionHeld3
import Derived.Test.YtpaohkkhejpgjaaGreatDoorM13
import Derived.WalkMore
set_option linter.all false
set_option maxRecDepth 100000
set_option maxHeartbeats 8000000
namespace Go.Proofs.YtpaohkkhejpgjaaGreatDoor
open Go Go.RowKit
theorem four_cells' {w : World} {g : Nat} {a b c d : Value} {t : TypeId} (h : w.heap[g]? = some (.cells #[a, b, c, d] t (0, 0))) :
 w.cell? ⟨g, 0, none⟩ = some a ∧ w.cell? ⟨g, 1, none⟩ = some b ∧ w.cell? ⟨g, 2, none⟩ = some c ∧ w.cell? ⟨g, 3, none⟩ = some d := by
 refine ⟨?_, ?_, ?_, ?_⟩ <;> (rw [cell_of_row _ _ _ _ _ _ h]; rfl)
theorem ja0 : (Tryz.prog.info? 59).map (·.size) = some 4 := by kernel_rfl
def Fresh (B : Nat) (v : Value) : Prop := ∀ k a b c, v = .agg #[k, a, b, c] → (∀ g, a.ownBlock = some g → B ≤ g) ∧ (∀ g, b.ownBlock = some g → B ≤ g) ∧ (∀ g, c.ownBlock = some g → B ≤ g)
def NodeF (B : Nat) (w : World) (v : Value) (n : Node) : Prop := NodeV w v n ∧ Fresh B v
theorem fresh_mk {B : Nat} {k a b c : Value} (h1 : ∀ g, a.ownBlock = some g → B ≤ g) (h2 : ∀ g, b.ownBlock = some g → B ≤ g) (h3 : ∀ g, c.ownBlock = some g → B ≤ g) : Fresh B (.agg #[k, a, b, c]) := by
 intro k' a' b' c' e
 simp only [Value.agg.injEq, Array.mk.injEq, List.cons.injEq, and_true] at e
 obtain ⟨rfl, rfl, rfl, rfl⟩ := e
 exact ⟨h1, h2, h3⟩
theorem fin_node {B g nb rb : Nat} {w wr : World} {n : Node} {tk : Tk} {vi vk vv : Value} {z : Array Value} (hk0 : 0 ≤ n.kind) (hk1 : n.kind ≤ 255) (hg : g < w.heap.size) (hrbw : w.heap.size ≤ rb) (ht : TkAt wr g tk) (hgw : w.grownBy wr (some g))
 (hrb : wr.heap[rb]? = some (.cells z 59 (0, 0))) (hown : NodeOwn B nb n wr vi vk vv) (hwf : jfn n) :
 (wr.setRow rb #[.int .u8 n.kind, vi, vk, vv]).heap[rb]? = some (.cells #[.int .u8 n.kind, vi, vk, vv] 59 (0, 0)) ∧
 NodeF B (wr.setRow rb #[.int .u8 n.kind, vi, vk, vv]) (.agg #[.int .u8 n.kind, vi, vk, vv]) n ∧ jfn n ∧ w.grownBy (wr.setRow rb #[.int .u8 n.kind, vi, vk, vv]) (some g) ∧ TkAt (wr.setRow rb #[.int .u8 n.kind, vi, vk, vv]) g tk := by
 have hne : g ≠ rb := by omega
 have hset : wr.grownBy (wr.setRow rb #[.int .u8 n.kind, vi, vk, vv]) (some rb) := ⟨rfl, rfl, rfl, by simp [World.setRow], fun k hk hn => jac _ _ _ _ (by simpa using hn)⟩
 refine ⟨jad _ _ _ _ _ hrb, ⟨⟨vi, vk, vv, rfl, ?_, ?_, ?_, hk0, hk1⟩, fresh_mk (fun g h => (hown.oi.lt g h).1) (fun g h => (hown.ok.lt g h).1) (fun g h => (hown.ov.lt g h).1)⟩, hwf, ?_, ?_⟩
 · exact jct (jat hown.oi hset hrb (by decide)) rfl hwf.1
 · exact jct (jat hown.ok hset hrb (by decide)) rfl hwf.2.1
 · exact jct (jat hown.ov hset hrb (by decide)) rfl hwf.2.2
 · refine ⟨hset.os.trans hgw.os, hset.tape.trans hgw.tape, hset.output.trans hgw.output, Nat.le_trans hgw.size hset.size, fun k hk hn => ?_⟩
   rw [jac _ _ _ _ (by omega)]
   exact hgw.block k hk hn
 · unfold TkAt
   rw [jac _ _ _ _ hne]
   exact ht
theorem own_one {w : World} {B : Nat} {e : TypeId} {sz : Nat} {v : Value} {n : Nat} {xs : List Value} (h : w.ownsRow B e sz v n xs) : v.oneCell' = true := by
 rcases h.2 with ⟨rfl, _⟩ | ⟨g, cap, cur, rfl, _⟩ <;> rfl
theorem NodeOwn.drew' {B nb : Nat} {n : Node} {w : World} {vi vk vv : Value} (h : NodeOwn B nb n w vi vk vv) : NodeOwn B nb n w.drew vi vk vv := ⟨h.blk, h.oi.drew, h.ok.drew, h.ov.drew⟩
theorem cell_alloc_old' (w : World) (o : Obj) (b i : Nat) (h : b < w.heap.size) : (w.alloc o).cell? ⟨b, i, none⟩ = w.cell? ⟨b, i, none⟩ := by
 unfold World.cell?
 simp only [Lib.alloc_old w o b h]
theorem jl0 {w wr wb W3 : World} {g nb : Nat} {tk' : Tk} {T : TypeId} {z : Array Value} (hlt : g < w.heap.size) (hl1 : w.heap.size < nb) (hT : 59 ≠ T) (hgw : w.grownBy wr (some g)) (hrb : wr.heap[w.heap.size]? = some (.cells z 59 (0, 0)))
 (hgab : wr.grownBy wb (some g)) (htb : TkAt wb g tk') (hb3 : Below w.heap.size wb W3) (htf : je9 nb T wb W3) :
 TkAt W3 g tk' ∧ w.grownBy W3 (some g) ∧ W3.heap[w.heap.size]? = some (.cells z 59 (0, 0)) := by
 have hgb := jag hgw hgab
 refine ⟨(hb3.block g hlt).trans htb, ⟨hb3.os.trans hgb.os, hb3.tape.trans hgb.tape, hb3.output.trans hgb.output, Nat.le_trans hgb.size hb3.size, fun k hk hn => (hb3.block k hk).trans (hgb.block k hk hn)⟩, ?_⟩
 refine htf _ _ _ _ (by omega) ?_ hT
 rw [hgab.block _ (lt_of_block hrb) (by simp; omega)]
 exact hrb
theorem jfo (c : Nat) (n : Node) (t : Tk) (h : (stepT n t).2.bad = true) : jb9 (c + 1) n t = stepT n t := by
 rw [jb9, if_pos h]
theorem jee (c : Nat) (n : Node) (t : Tk) (h : (stepT n t).2.bad = false) : jb9 (c + 1) n t = jb9 c (stepT n t).1 (stepT n t).2 := by
 rw [jb9, if_neg (by rw [h]; simp)]
theorem fin_kd {B g nb rb : Nat} {w wr : World} {n : Node} {tk : Tk} {vi vk vv : Value} {z : Array Value} {kd : Int} (hkd : n.kind = kd) (hk0 : 0 ≤ kd) (hk1 : kd ≤ 255) (hg : g < w.heap.size) (hrbw : w.heap.size ≤ rb) (ht : TkAt wr g tk) (hgw : w.grownBy wr (some g))
 (hrb : wr.heap[rb]? = some (.cells z 59 (0, 0))) (hown : NodeOwn B nb n wr vi vk vv) (hwf : jfn n) :
 wr.heap[nb]? = some (.cells #[.int .u8 kd, vi, vk, vv] 59 (0, 0)) ∧ (vi.oneCell' = true ∧ vk.oneCell' = true ∧ vv.oneCell' = true) ∧
 (wr.setRow rb #[.int .u8 kd, vi, vk, vv]).heap[rb]? = some (.cells #[.int .u8 kd, vi, vk, vv] 59 (0, 0)) ∧
 NodeF B (wr.setRow rb #[.int .u8 kd, vi, vk, vv]) (.agg #[.int .u8 kd, vi, vk, vv]) n ∧ jfn n ∧ w.grownBy (wr.setRow rb #[.int .u8 kd, vi, vk, vv]) (some g) ∧ TkAt (wr.setRow rb #[.int .u8 kd, vi, vk, vv]) g tk := by
 subst hkd
 exact ⟨hown.blk, ⟨own_one hown.oi, own_one hown.ok, own_one hown.ov⟩, fin_node hk0 hk1 hg hrbw ht hgw hrb hown hwf⟩
theorem lit32 (l : List Int) (h : l.length = 32) : ∃ x0 x1 x2 x3 x4 x5 x6 x7 x8 x9 x10 x11 x12 x13 x14 x15 x16 x17 x18 x19 x20 x21 x22 x23 x24 x25 x26 x27 x28 x29 x30 x31, l = [x0, x1, x2, x3, x4, x5, x6, x7, x8, x9, x10, x11, x12, x13, x14, x15, x16, x17, x18, x19, x20, x21, x22, x23, x24, x25, x26, x27, x28, x29, x30, x31] := by
 match l, h with
 | [x0, x1, x2, x3, x4, x5, x6, x7, x8, x9, x10, x11, x12, x13, x14, x15, x16, x17, x18, x19, x20, x21, x22, x23, x24, x25, x26, x27, x28, x29, x30, x31], _ => exact ⟨x0, x1, x2, x3, x4, x5, x6, x7, x8, x9, x10, x11, x12, x13, x14, x15, x16, x17, x18, x19, x20, x21, x22, x23, x24, x25, x26, x27, x28, x29, x30, x31, rfl⟩
theorem tkHash_lit (w : World) (g : Nat) (t : Tk) (hg : TkAt w g t) (hs : t.left.size ≤ 9223372036854775807) :
 Calls Tryz.prog 222 #[.pointer (some ⟨g, 0, none⟩)] w fun e w' => ∃ x0 x1 x2 x3 x4 x5 x6 x7 x8 x9 x10 x11 x12 x13 x14 x15 x16 x17 x18 x19 x20 x21 x22 x23 x24 x25 x26 x27 x28 x29 x30 x31, (hashT t).1 = [x0, x1, x2, x3, x4, x5, x6, x7, x8, x9, x10, x11, x12, x13, x14, x15, x16, x17, x18, x19, x20, x21, x22, x23, x24, x25, x26, x27, x28, x29, x30, x31] ∧ e = .returned (.agg #[.int .u8 x0, .int .u8 x1, .int .u8 x2, .int .u8 x3, .int .u8 x4, .int .u8 x5, .int .u8 x6, .int .u8 x7, .int .u8 x8, .int .u8 x9, .int .u8 x10, .int .u8 x11, .int .u8 x12, .int .u8 x13, .int .u8 x14, .int .u8 x15, .int .u8 x16, .int .u8 x17, .int .u8 x18, .int .u8 x19, .int .u8 x20, .int .u8 x21, .int .u8 x22, .int .u8 x23, .int .u8 x24, .int .u8 x25, .int .u8 x26, .int .u8 x27, .int .u8 x28, .int .u8 x29, .int .u8 x30, .int .u8 x31]) ∧ w.grownBy w' (some g) ∧ TkAt w' g (hashT t).2 := by
 obtain ⟨x0, x1, x2, x3, x4, x5, x6, x7, x8, x9, x10, x11, x12, x13, x14, x15, x16, x17, x18, x19, x20, x21, x22, x23, x24, x25, x26, x27, x28, x29, x30, x31, hx⟩ := lit32 _ (jlz t)
 refine (tkHash_any w g t hg hs).mono ?_
 rintro e w' ⟨rfl, h1, h2⟩
 exact ⟨x0, x1, x2, x3, x4, x5, x6, x7, x8, x9, x10, x11, x12, x13, x14, x15, x16, x17, x18, x19, x20, x21, x22, x23, x24, x25, x26, x27, x28, x29, x30, x31, hx, by rw [hx]; rfl, h1, h2⟩
theorem take_any (w : World) (g : Nat) (t : Tk) (hg : TkAt w g t) (hs : t.left.size ≤ 4096) :
 Calls Tryz.prog 164 #[.pointer (some ⟨g, 0, none⟩)] w fun e w' => ∃ v, e = .returned v ∧ NodeF w.heap.size w' v (takeT t).1 ∧ jfn (takeT t).1 ∧ w.grownBy w' (some g) ∧ TkAt w' g (takeT t).2 := by
 have hlt := lt_of_block hg
 have HG := Lib.hid hg
 clear hg
 go_enter Tryz.func164, Tryz.ntmps164
 go_wp2_with (fail)
 go_step3
 go_wp2_with (fail)
 have hA : TkAt (w.alloc (.cells #[.int .u8 0, .slice none 0 0, .slice none 0 0, .slice none 0 0] 59)) g t := (Lib.alloc_old w _ g hlt).trans HG.out
 have hrb : (w.alloc (.cells #[.int .u8 0, .slice none 0 0, .slice none 0 0, .slice none 0 0] 59)).heap[w.heap.size]? = some (.cells #[.int .u8 0, .slice none 0 0, .slice none 0 0, .slice none 0 0] 59 (0, 0)) := heap_alloc_new _ _
 have hgr : w.grownBy (w.alloc (.cells #[.int .u8 0, .slice none 0 0, .slice none 0 0, .slice none 0 0] 59)) (some g) := ⟨rfl, rfl, rfl, by simp, fun k hk _ => Lib.alloc_old w _ k hk⟩
 go_at_call 216
 refine (jch _ g t 1 (by omega) (by omega) hA (by omega)).mono ?_
 rintro e w1 ⟨rfl, hg1, ht1⟩
 obtain ⟨n0, n1⟩ := jkv t
 have h1s := jed t 1 4096 hs
 have hrb1 := (hg1.block _ (lt_of_block hrb) (by simp; omega)).trans hrb
 have hgr1 := jag hgr hg1
 obtain ⟨kd, hkd⟩ : ∃ kd, (numT t 1).1 = kd := ⟨_, rfl⟩
 obtain ⟨t1, ht1e⟩ : ∃ t1, (numT t 1).2 = t1 := ⟨_, rfl⟩
 rw [hkd] at n0 n1 ⊢
 rw [ht1e] at ht1 h1s
 have HT := Lib.hid (show takeT t = jb9 (numT t1 1).1.toNat ⟨kd, [], [], []⟩ (numT t1 1).2 by unfold takeT; rw [hkd, ht1e])
 have H1 := Lib.hid (And.intro hrb1 (And.intro hgr1 ht1))
 clear hkd ht1e hA hrb hgr hg1 ht1 hrb1 hgr1 HG
 go_wp2_with (fail)
 go_step3
 go_wp2_with (fail)
 have hB : TkAt (w1.alloc (.cells #[.int .u8 kd, .slice none 0 0, .slice none 0 0, .slice none 0 0] 59)) g t1 := (Lib.alloc_old w1 _ g (lt_of_block H1.out.2.2)).trans H1.out.2.2
 have hrb : (w1.alloc (.cells #[.int .u8 kd, .slice none 0 0, .slice none 0 0, .slice none 0 0] 59)).heap[w.heap.size]? = some (.cells #[.int .u8 0, .slice none 0 0, .slice none 0 0, .slice none 0 0] 59 (0, 0)) := (Lib.alloc_old w1 _ _ (lt_of_block H1.out.1)).trans H1.out.1
 have hnb : (w1.alloc (.cells #[.int .u8 kd, .slice none 0 0, .slice none 0 0, .slice none 0 0] 59)).heap[w1.heap.size]? = some (.cells #[.int .u8 kd, .slice none 0 0, .slice none 0 0, .slice none 0 0] 59 (0, 0)) := heap_alloc_new _ _
 have hgr : w1.grownBy (w1.alloc (.cells #[.int .u8 kd, .slice none 0 0, .slice none 0 0, .slice none 0 0] 59)) (some g) := ⟨rfl, rfl, rfl, by simp, fun k hk _ => Lib.alloc_old w1 _ k hk⟩
 have hl1 := lt_of_block H1.out.1
 go_at_call 216
 refine (jch _ g t1 1 (by omega) (by omega) hB (by omega)).mono ?_
 rintro e w2 ⟨rfl, hg2, ht2⟩
 obtain ⟨m0, m1⟩ := jkv t1
 have h2s := jed t1 1 4096 h1s
 have hown : NodeOwn w.heap.size w1.heap.size ⟨kd, [], [], []⟩ w2 (.slice none 0 0) (.slice none 0 0) (.slice none 0 0) :=
  ⟨(hg2.block _ (lt_of_block hnb) (by simp; omega)).trans hnb, ⟨rfl, Or.inl ⟨rfl, rfl⟩⟩, ⟨rfl, Or.inl ⟨rfl, rfl⟩⟩, ⟨rfl, Or.inl ⟨rfl, rfl⟩⟩⟩
 have hrb2 := (hg2.block _ (lt_of_block hrb) (by simp; omega)).trans hrb
 have hgw2 := jag H1.out.2.1 (jag hgr hg2)
 obtain ⟨cnt, hcnt⟩ : ∃ cnt : Nat, (numT t1 1).1 = (cnt : Int) := ⟨(numT t1 1).1.toNat, by omega⟩
 obtain ⟨t2, ht2e⟩ : ∃ t2, (numT t1 1).2 = t2 := ⟨_, rfl⟩
 rw [hcnt]
 have hc255 : cnt ≤ 255 := by omega
 rw [ht2e] at ht2 h2s
 have HT2 := Lib.hid (show takeT t = jb9 cnt ⟨kd, [], [], []⟩ t2 by rw [HT.out, hcnt, ht2e]; rfl)
 have HS := Lib.hid (And.intro ht2 (And.intro hgw2 (And.intro hrb2 hown)))
 clear ht2 hgw2 hrb2 hown ht2e hcnt m0 m1 hB hrb hnb hgr hg2 HT H1
 generalize w1.heap.size = nb at *
 go_wp2_with (fail)
 go_loopw [10, 11, 12, 13, 14, 15, 16, 17, 18, 19, 20, 21, 22, 23, 24, 25, 26, 27, 28, 29, 30, 31, 32, 33, 34, 35, 36, 37, 38, 39, 40, 41, 42, 43, 44, 45, 46, 47, 48, 49, 50, 51, 52, 53, 54, 55, 56, 57, 58, 59, 60, 61, 62, 63, 64, 65, 66, 67, 68, 69, 70] (fun i _ _ _ _ _ _ _ _ _ _ _ _ _ _ _ _ _ _ _ _ _ _ _ _ _ _ _ _ _ _ _ _ _ _ _ _ _ _ _ _ _ _ _ _ _ _ _ _ _ _ _ _ _ _ _ _ _ _ _ _ wr => ∃ (j : Nat) (n : Node) (tk : Tk) (vi vk vv : Value), j ≤ cnt ∧ i = .int .u64 j ∧ n.kind = kd ∧ TkAt wr g tk ∧ tk.left.size ≤ 4096 ∧ w.grownBy wr (some g) ∧ wr.heap[w.heap.size]? = some (.cells #[.int .u8 0, .slice none 0 0, .slice none 0 0, .slice none 0 0] 59 (0, 0)) ∧ NodeOwn w.heap.size nb n wr vi vk vv ∧ jfn n ∧ takeT t = jb9 (cnt - j) n tk ∧ n.items.length ≤ j ∧ n.kids.length ≤ j ∧ n.vols.length ≤ j) (fun i _ _ _ _ _ _ _ _ _ _ _ _ _ _ _ _ _ _ _ _ _ _ _ _ _ _ _ _ _ _ _ _ _ _ _ _ _ _ _ _ _ _ _ _ _ _ _ _ _ _ _ _ _ _ _ _ _ _ _ _ _ => cnt - (intOf i).toNat)
 case atStart => exact ⟨0, ⟨kd, [], [], []⟩, t2, _, _, _, Nat.zero_le _, rfl, rfl, HS.out.1, h2s, HS.out.2.1, HS.out.2.2.1, HS.out.2.2.2, ⟨by simp, by simp, by simp⟩, HT2.out, Nat.le_refl _, Nat.le_refl _, Nat.le_refl _⟩
 case round =>
  obtain ⟨j, n, tk, vi, vk, vv, hj, rfl, hkd, htk, hts, hgw, hrb, hown, hwf, htake, hli, hlk, hlv⟩ := hrel
  by_cases hlt2 : j < cnt
  · have hsub : cnt - j = (cnt - (j + 1)) + 1 := by omega
    rw [hsub] at htake
    obtain ⟨b0, b1, b2, b3⟩ := four_cells' hown.blk
    have d0 : wr.drew.cell? ⟨nb, 0, none⟩ = some (.int .u8 n.kind) := b0
    have d1 : wr.drew.cell? ⟨nb, 1, none⟩ = some vi := b1
    have d2 : wr.drew.cell? ⟨nb, 2, none⟩ = some vk := b2
    have d3 : wr.drew.cell? ⟨nb, 3, none⟩ = some vv := b3
    have hnblt := lt_of_block hown.blk
    have hBw : w.heap.size ≤ wr.heap.size := hgw.size
    rw [hkd] at b0 d0
    have HS2 := Lib.hid (And.intro htk (And.intro hgw (And.intro hrb (And.intro hown (And.intro hwf htake)))))
    have HKD := Lib.hid hkd
    clear htk hgw hrb hown hwf htake HS hkd HT2 h1s h2s
    by_cases hk1 : kd = 1
    · subst hk1
      have hok := itemT_ok tk hts
      have hst : stepT n tk = ({ n with items := n.items ++ [(itemT tk).1] }, (itemT tk).2) := by unfold stepT; rw [if_pos HKD.out]
      have hz0 : tk.left.size ≤ 4096 := hts
      have hz1 : (textT tk).2.left.size ≤ 4096 := (jeg _ 4096 hz0).2
      have hz2 : (textT (textT tk).2).2.left.size ≤ 4096 := (jeg _ 4096 hz1).2
      have HOK := Lib.hid (And.intro hok hst)
      clear hok hst
      go_wp2_with (fail)
      rw [jjl 55 (.tmp 19)]
      go_region_held3 (fun _ => True) (first | trivial) (first
       | (go_at_call 221; refine (jfw wx0 g (textT tk).2 htx0 (by omega)).mono ?_; rintro e wx1 ⟨rfl, hgx1, htx1⟩; have hox1 := NodeOwn.keep hox0 hgx1 htx0; have hgz1 := jag hgz0 hgx1; have cx1 := (four_cells' hox1.blk).2.1; have hcb : ∀ o, (wx1.alloc o).cell? ⟨nb, 1, none⟩ = some vi := fun o => (cell_alloc_old' wx1 o nb 1 (lt_of_block hox1.blk)).trans cx1)
       | (go_at_call 221; refine (jfw _ g tk (show TkAt wr.drew g tk from HS2.out.1) (by omega)).mono ?_; rintro e wx0 ⟨rfl, hgx0, htx0⟩; have hox0 := NodeOwn.keep (NodeOwn.drew' HS2.out.2.2.2.1) hgx0 (show TkAt wr.drew g tk from HS2.out.1); have hgz0 := jag (jec (World.grownBy.refl wr (some g))) hgx0; have cx0 := (four_cells' hox0.blk).2.1)
       | (refine jkq rfl (.tmp 20) (.tmp 26) rfl rfl hox1 (itemT tk).1 HOK.out.1.1 (Nat.le_trans hBw hgz1.size) (by omega) (by omega) rfl rfl ?_; intro g' cap wc hc1 hf1 ho3 hb3 htf; have HR3 := Lib.hid (And.intro ho3 (And.intro hb3 htf)); clear ho3 hb3 htf))
      all_goals (
       obtain ⟨W3, hW3⟩ : ∃ W3, W3 = wc.setCell ⟨nb, 1, none⟩ (.slice (some ⟨g', 0, none⟩) (n.items.length + 1) cap) := ⟨_, rfl⟩
       rw [← hW3] at HR3 ⊢
       have hnx := jl0 (tk' := (itemT tk).2) hlt hl1 (by decide) HS2.out.2.1 HS2.out.2.2.1 hgz1 htx1 HR3.out.2.1 HR3.out.2.2
       have hwf3 : jfn { n with items := n.items ++ [(itemT tk).1] } := ⟨fun x hx => by rcases List.mem_append.1 hx with h | h; exact HS2.out.2.2.2.2.1.1 x h; simp at h; rw [h]; exact HOK.out.1.1, HS2.out.2.2.2.2.1.2⟩
       have cbad : W3.cell? ⟨g, 1, none⟩ = some (.bool (itemT tk).2.bad) := by rw [cell_of_row _ _ _ _ _ _ hnx.1]; rfl
       have HNX := Lib.hid (And.intro hnx hwf3)
       have HW3 := Lib.hid hW3
       clear hnx hwf3 hW3 hcb hc1 hf1 b0 b1 b2 b3 d0 d1 d2 d3 cx0 cx1
       cases hbad : (itemT tk).2.bad with
       | true =>
        have HR := Lib.hid (show takeT t = ({ n with items := n.items ++ [(itemT tk).1] }, (itemT tk).2) by rw [HS2.out.2.2.2.2.2, jfo _ _ _ (by rw [HOK.out.2]; exact hbad), HOK.out.2])
        have HF := Lib.hid (And.intro HNX.out.1.1 (And.intro HNX.out.1.2.1 (And.intro HNX.out.1.2.2 (And.intro HR3.out.1 HNX.out.2))))
        rw [hbad] at cbad
        have HFIN := Lib.hid (fin_kd (n := { n with items := n.items ++ [(itemT tk).1] }) HKD.out n0 n1 hlt (Nat.le_refl _) HF.out.1 HF.out.2.1 HF.out.2.2.1 HF.out.2.2.2.1 HF.out.2.2.2.2)
        have HRB := Lib.hid HF.out.2.2.1
        go_wp2_with (first | (refine wpList_load_row rfl 59 _ rfl nb rfl 59 _ (0, 0) _ HFIN.out.1 Tryz.underlying59 rfl ja0 ?_) | (refine jaf rfl 59 _ _ rfl w.heap.size 0 rfl [_, _, _, _] rfl 59 _ HRB.out (by simp) (by intro v hv; simp at hv; rcases hv with rfl | rfl | rfl | rfl <;> first | rfl | exact HFIN.out.2.1.1 | exact HFIN.out.2.1.2.1 | exact HFIN.out.2.1.2.2) ja0 ?_))
        (try rw [Exit.noGoto_ret])
        refine bodyPost_ret (results_cell_row rfl _ _ w.heap.size 59 _ (0, 0) _ rfl HFIN.out.2.2.1 Tryz.underlying59 rfl ja0) rfl ⟨_, rfl, ?_⟩
        rw [HR.out]
        exact HFIN.out.2.2.2
       | false =>
        rw [hbad] at cbad
        go_wp2
        exact ⟨⟨j + 1, { n with items := n.items ++ [(itemT tk).1] }, (itemT tk).2, _, _, _, by omega, by go_num, HKD.out, HNX.out.1.1, HOK.out.1.2, HNX.out.1.2.1, HNX.out.1.2.2, HR3.out.1, HNX.out.2, by rw [HS2.out.2.2.2.2.2, jee _ _ _ (by rw [HOK.out.2]; exact hbad), HOK.out.2], by rw [List.length_append]; simp; omega, by show n.kids.length ≤ j + 1; omega, by show n.vols.length ≤ j + 1; omega⟩, by simp [intOf]; omega⟩)
    · by_cases hk2 : kd = 2
      · subst hk2
        have hok := kidT_ok tk hts
        have hst : stepT n tk = ({ n with kids := n.kids ++ [(kidT tk).1] }, (kidT tk).2) := by unfold stepT; rw [if_neg (show ¬ n.kind = 1 by rw [HKD.out]; decide), if_pos HKD.out]
        have hz0 : tk.left.size ≤ 4096 := hts
        have hz1 : (textT tk).2.left.size ≤ 4096 := (jeg _ 4096 hz0).2
        have hz2 : (numT (textT tk).2 4).2.left.size ≤ 4096 := jed _ 4 4096 hz1
        have hr1 := jce (textT tk).2 4 (by omega)
        have hlo1 : 0 ≤ (numT (textT tk).2 4).1 := hr1.1
        have hhi1 : (numT (textT tk).2 4).1 ≤ 4294967295 := by have := hr1.2; omega
        have hm1 : (numT (textT tk).2 4).1 % 4294967296 = (numT (textT tk).2 4).1 := Int.emod_eq_of_lt hlo1 (by omega)
        have hw1 : IntKind.u32.wrap (numT (textT tk).2 4).1 = (numT (textT tk).2 4).1 := by rw [IntKind.wrap_u32]; omega
        clear hr1
        have hz3 : (hashT (numT (textT tk).2 4).2).2.left.size ≤ 4096 := jkw _ 4096 hz2
        have HOK := Lib.hid (And.intro hok hst)
        clear hok hst
        go_wp2_with (fail)
        rw [jjl 56 (.tmp 31)]
        go_region_held3 (fun _ => True) (first | trivial) (first
         | (go_at_call 222; refine (tkHash_lit wx1 g (numT (textT tk).2 4).2 htx1 (by omega)).mono ?_; rintro e wx2 ⟨x0, x1, x2, x3, x4, x5, x6, x7, x8, x9, x10, x11, x12, x13, x14, x15, x16, x17, x18, x19, x20, x21, x22, x23, x24, x25, x26, x27, x28, x29, x30, x31, hx, rfl, hgx2, htx2⟩; have HXE := Lib.hid (show (⟨(textT tk).1, (numT (textT tk).2 4).1, [x0, x1, x2, x3, x4, x5, x6, x7, x8, x9, x10, x11, x12, x13, x14, x15, x16, x17, x18, x19, x20, x21, x22, x23, x24, x25, x26, x27, x28, x29, x30, x31]⟩ : Kid) = (kidT tk).1 from (show _ = (⟨(textT tk).1, (numT (textT tk).2 4).1, (hashT (numT (textT tk).2 4).2).1⟩ : Kid) by rw [hx])); clear hx; have hox2 := NodeOwn.keep hox1 hgx2 htx1; have hgz2 := jag hgz1 hgx2; have cx2 := (four_cells' hox2.blk).2.2.1; have hcb : ∀ o, (wx2.alloc o).cell? ⟨nb, 2, none⟩ = some vk := fun o => (cell_alloc_old' wx2 o nb 2 (lt_of_block hox2.blk)).trans cx2)
         | (go_at_call 216; refine (jch wx0 g (textT tk).2 4 (by omega) (by omega) htx0 (by omega)).mono ?_; rintro e wx1 ⟨rfl, hgx1, htx1⟩; have hox1 := NodeOwn.keep hox0 hgx1 htx0; have hgz1 := jag hgz0 hgx1; have cx1 := (four_cells' hox1.blk).2.2.1)
         | (go_at_call 221; refine (jfw _ g tk (show TkAt wr.drew g tk from HS2.out.1) (by omega)).mono ?_; rintro e wx0 ⟨rfl, hgx0, htx0⟩; have hox0 := NodeOwn.keep (NodeOwn.drew' HS2.out.2.2.2.1) hgx0 (show TkAt wr.drew g tk from HS2.out.1); have hgz0 := jag (jec (World.grownBy.refl wr (some g))) hgx0; have cx0 := (four_cells' hox0.blk).2.2.1)
         | (refine jl1 rfl (.tmp 32) (.tmp 41) rfl rfl hox2 ⟨(textT tk).1, (numT (textT tk).2 4).1, [x0, x1, x2, x3, x4, x5, x6, x7, x8, x9, x10, x11, x12, x13, x14, x15, x16, x17, x18, x19, x20, x21, x22, x23, x24, x25, x26, x27, x28, x29, x30, x31]⟩ (by rw [HXE.out]; exact HOK.out.1.1) (Nat.le_trans hBw hgz2.size) (by omega) (by omega) rfl rfl ?_; intro g' cap wc hc1 hf1 ho3 hb3 htf; rw [HXE.out] at ho3; have HR3 := Lib.hid (And.intro ho3 (And.intro hb3 htf)); clear ho3 hb3 htf))
        all_goals (
         obtain ⟨W3, hW3⟩ : ∃ W3, W3 = wc.setCell ⟨nb, 2, none⟩ (.slice (some ⟨g', 0, none⟩) (n.kids.length + 1) cap) := ⟨_, rfl⟩
         rw [← hW3] at HR3 ⊢
         have hnx := jl0 (tk' := (kidT tk).2) hlt hl1 (by decide) HS2.out.2.1 HS2.out.2.2.1 hgz2 htx2 HR3.out.2.1 HR3.out.2.2
         have hwf3 : jfn { n with kids := n.kids ++ [(kidT tk).1] } := ⟨HS2.out.2.2.2.2.1.1, fun x hx => by rcases List.mem_append.1 hx with h | h; exact HS2.out.2.2.2.2.1.2.1 x h; simp at h; rw [h]; exact HOK.out.1.1, HS2.out.2.2.2.2.1.2.2⟩
         have cbad : W3.cell? ⟨g, 1, none⟩ = some (.bool (kidT tk).2.bad) := by rw [cell_of_row _ _ _ _ _ _ hnx.1]; rfl
         have HNX := Lib.hid (And.intro hnx hwf3)
         have HW3 := Lib.hid hW3
         clear hnx hwf3 hW3 hcb hc1 hf1 b0 b1 b2 b3 d0 d1 d2 d3 cx0 cx1 cx2
         cases hbad : (kidT tk).2.bad with
         | true =>
          have HR := Lib.hid (show takeT t = ({ n with kids := n.kids ++ [(kidT tk).1] }, (kidT tk).2) by rw [HS2.out.2.2.2.2.2, jfo _ _ _ (by rw [HOK.out.2]; exact hbad), HOK.out.2])
          have HF := Lib.hid (And.intro HNX.out.1.1 (And.intro HNX.out.1.2.1 (And.intro HNX.out.1.2.2 (And.intro HR3.out.1 HNX.out.2))))
          rw [hbad] at cbad
          have HFIN := Lib.hid (fin_kd (n := { n with kids := n.kids ++ [(kidT tk).1] }) HKD.out n0 n1 hlt (Nat.le_refl _) HF.out.1 HF.out.2.1 HF.out.2.2.1 HF.out.2.2.2.1 HF.out.2.2.2.2)
          have HRB := Lib.hid HF.out.2.2.1
          go_wp2_with (first | (refine wpList_load_row rfl 59 _ rfl nb rfl 59 _ (0, 0) _ HFIN.out.1 Tryz.underlying59 rfl ja0 ?_) | (refine jaf rfl 59 _ _ rfl w.heap.size 0 rfl [_, _, _, _] rfl 59 _ HRB.out (by simp) (by intro v hv; simp at hv; rcases hv with rfl | rfl | rfl | rfl <;> first | rfl | exact HFIN.out.2.1.1 | exact HFIN.out.2.1.2.1 | exact HFIN.out.2.1.2.2) ja0 ?_))
          (try rw [Exit.noGoto_ret])
          refine bodyPost_ret (results_cell_row rfl _ _ w.heap.size 59 _ (0, 0) _ rfl HFIN.out.2.2.1 Tryz.underlying59 rfl ja0) rfl ⟨_, rfl, ?_⟩
          rw [HR.out]
          exact HFIN.out.2.2.2
         | false =>
          rw [hbad] at cbad
          go_wp2
          exact ⟨⟨j + 1, { n with kids := n.kids ++ [(kidT tk).1] }, (kidT tk).2, _, _, _, by omega, by go_num, HKD.out, HNX.out.1.1, HOK.out.1.2, HNX.out.1.2.1, HNX.out.1.2.2, HR3.out.1, HNX.out.2, by rw [HS2.out.2.2.2.2.2, jee _ _ _ (by rw [HOK.out.2]; exact hbad), HOK.out.2], by show n.items.length ≤ j + 1; omega, by rw [List.length_append]; simp; omega, by show n.vols.length ≤ j + 1; omega⟩, by simp [intOf]; omega⟩)
      · by_cases hk3 : kd = 3
        · subst hk3
          have hok := volT_ok tk hts
          have hst : stepT n tk = ({ n with vols := n.vols ++ [(volT tk).1] }, (volT tk).2) := by unfold stepT; rw [if_neg (show ¬ n.kind = 1 by rw [HKD.out]; decide), if_neg (show ¬ n.kind = 2 by rw [HKD.out]; decide), if_pos HKD.out]
          have hz0 : tk.left.size ≤ 4096 := hts
          have hz1 : (textT tk).2.left.size ≤ 4096 := (jeg _ 4096 hz0).2
          have hz2 : (textT (textT tk).2).2.left.size ≤ 4096 := (jeg _ 4096 hz1).2
          have hz3 : (numT (textT (textT tk).2).2 1).2.left.size ≤ 4096 := jed _ 1 4096 hz2
          have hr2 := jce (textT (textT tk).2).2 1 (by omega)
          have hlo2 : 0 ≤ (numT (textT (textT tk).2).2 1).1 := hr2.1
          have hhi2 : (numT (textT (textT tk).2).2 1).1 ≤ 255 := by have := hr2.2; omega
          have hm2 : (numT (textT (textT tk).2).2 1).1 % 256 = (numT (textT (textT tk).2).2 1).1 := Int.emod_eq_of_lt hlo2 (by omega)
          have hw2 : IntKind.u8.wrap (numT (textT (textT tk).2).2 1).1 = (numT (textT (textT tk).2).2 1).1 := by rw [IntKind.wrap_u8]; omega
          clear hr2
          have hz4 : (numT (numT (textT (textT tk).2).2 1).2 8).2.left.size ≤ 4096 := jed _ 8 4096 hz3
          have hr3 := jce (numT (textT (textT tk).2).2 1).2 8 (by omega)
          have hlo3 : 0 ≤ (numT (numT (textT (textT tk).2).2 1).2 8).1 := hr3.1
          have hhi3 : (numT (numT (textT (textT tk).2).2 1).2 8).1 ≤ 18446744073709551615 := by have := hr3.2; omega
          clear hr3
          have hz5 : (numT (numT (numT (textT (textT tk).2).2 1).2 8).2 4).2.left.size ≤ 4096 := jed _ 4 4096 hz4
          have hr4 := jce (numT (numT (textT (textT tk).2).2 1).2 8).2 4 (by omega)
          have hlo4 : 0 ≤ (numT (numT (numT (textT (textT tk).2).2 1).2 8).2 4).1 := hr4.1
          have hhi4 : (numT (numT (numT (textT (textT tk).2).2 1).2 8).2 4).1 ≤ 4294967295 := by have := hr4.2; omega
          have hm4 : (numT (numT (numT (textT (textT tk).2).2 1).2 8).2 4).1 % 4294967296 = (numT (numT (numT (textT (textT tk).2).2 1).2 8).2 4).1 := Int.emod_eq_of_lt hlo4 (by omega)
          have hw4 : IntKind.u32.wrap (numT (numT (numT (textT (textT tk).2).2 1).2 8).2 4).1 = (numT (numT (numT (textT (textT tk).2).2 1).2 8).2 4).1 := by rw [IntKind.wrap_u32]; omega
          clear hr4
          have hz6 : (hashT (numT (numT (numT (textT (textT tk).2).2 1).2 8).2 4).2).2.left.size ≤ 4096 := jkw _ 4096 hz5
          have HOK := Lib.hid (And.intro hok hst)
          clear hok hst
          go_wp2_with (fail)
          rw [jjl 57 (.tmp 46)]
          go_region_held3 (fun _ => True) (first | trivial) (first
           | (go_at_call 222; refine (tkHash_lit wx4 g (numT (numT (numT (textT (textT tk).2).2 1).2 8).2 4).2 htx4 (by omega)).mono ?_; rintro e wx5 ⟨x0, x1, x2, x3, x4, x5, x6, x7, x8, x9, x10, x11, x12, x13, x14, x15, x16, x17, x18, x19, x20, x21, x22, x23, x24, x25, x26, x27, x28, x29, x30, x31, hx, rfl, hgx5, htx5⟩; have HXE := Lib.hid (show (⟨(textT tk).1, (numT (textT (textT tk).2).2 1).1, (textT (textT tk).2).1, (numT (numT (textT (textT tk).2).2 1).2 8).1, (numT (numT (numT (textT (textT tk).2).2 1).2 8).2 4).1, [x0, x1, x2, x3, x4, x5, x6, x7, x8, x9, x10, x11, x12, x13, x14, x15, x16, x17, x18, x19, x20, x21, x22, x23, x24, x25, x26, x27, x28, x29, x30, x31]⟩ : Vol) = (volT tk).1 from (show _ = (⟨(textT tk).1, (numT (textT (textT tk).2).2 1).1, (textT (textT tk).2).1, (numT (numT (textT (textT tk).2).2 1).2 8).1, (numT (numT (numT (textT (textT tk).2).2 1).2 8).2 4).1, (hashT (numT (numT (numT (textT (textT tk).2).2 1).2 8).2 4).2).1⟩ : Vol) by rw [hx])); clear hx; have hox5 := NodeOwn.keep hox4 hgx5 htx4; have hgz5 := jag hgz4 hgx5; have cx5 := (four_cells' hox5.blk).2.2.2; have hcb : ∀ o, (wx5.alloc o).cell? ⟨nb, 3, none⟩ = some vv := fun o => (cell_alloc_old' wx5 o nb 3 (lt_of_block hox5.blk)).trans cx5)
           | (go_at_call 216; refine (jch wx3 g (numT (numT (textT (textT tk).2).2 1).2 8).2 4 (by omega) (by omega) htx3 (by omega)).mono ?_; rintro e wx4 ⟨rfl, hgx4, htx4⟩; have hox4 := NodeOwn.keep hox3 hgx4 htx3; have hgz4 := jag hgz3 hgx4; have cx4 := (four_cells' hox4.blk).2.2.2)
           | (go_at_call 216; refine (jch wx2 g (numT (textT (textT tk).2).2 1).2 8 (by omega) (by omega) htx2 (by omega)).mono ?_; rintro e wx3 ⟨rfl, hgx3, htx3⟩; have hox3 := NodeOwn.keep hox2 hgx3 htx2; have hgz3 := jag hgz2 hgx3; have cx3 := (four_cells' hox3.blk).2.2.2)
           | (go_at_call 216; refine (jch wx1 g (textT (textT tk).2).2 1 (by omega) (by omega) htx1 (by omega)).mono ?_; rintro e wx2 ⟨rfl, hgx2, htx2⟩; have hox2 := NodeOwn.keep hox1 hgx2 htx1; have hgz2 := jag hgz1 hgx2; have cx2 := (four_cells' hox2.blk).2.2.2)
           | (go_at_call 221; refine (jfw wx0 g (textT tk).2 htx0 (by omega)).mono ?_; rintro e wx1 ⟨rfl, hgx1, htx1⟩; have hox1 := NodeOwn.keep hox0 hgx1 htx0; have hgz1 := jag hgz0 hgx1; have cx1 := (four_cells' hox1.blk).2.2.2)
           | (go_at_call 221; refine (jfw _ g tk (show TkAt wr.drew g tk from HS2.out.1) (by omega)).mono ?_; rintro e wx0 ⟨rfl, hgx0, htx0⟩; have hox0 := NodeOwn.keep (NodeOwn.drew' HS2.out.2.2.2.1) hgx0 (show TkAt wr.drew g tk from HS2.out.1); have hgz0 := jag (jec (World.grownBy.refl wr (some g))) hgx0; have cx0 := (four_cells' hox0.blk).2.2.2)
           | (refine jl2 rfl (.tmp 47) (.tmp 63) rfl rfl hox5 ⟨(textT tk).1, (numT (textT (textT tk).2).2 1).1, (textT (textT tk).2).1, (numT (numT (textT (textT tk).2).2 1).2 8).1, (numT (numT (numT (textT (textT tk).2).2 1).2 8).2 4).1, [x0, x1, x2, x3, x4, x5, x6, x7, x8, x9, x10, x11, x12, x13, x14, x15, x16, x17, x18, x19, x20, x21, x22, x23, x24, x25, x26, x27, x28, x29, x30, x31]⟩ (by rw [HXE.out]; exact HOK.out.1.1) (Nat.le_trans hBw hgz5.size) (by omega) (by omega) rfl rfl ?_; intro g' cap wc hc1 hf1 ho3 hb3 htf; rw [HXE.out] at ho3; have HR3 := Lib.hid (And.intro ho3 (And.intro hb3 htf)); clear ho3 hb3 htf))
          all_goals (
           obtain ⟨W3, hW3⟩ : ∃ W3, W3 = wc.setCell ⟨nb, 3, none⟩ (.slice (some ⟨g', 0, none⟩) (n.vols.length + 1) cap) := ⟨_, rfl⟩
           rw [← hW3] at HR3 ⊢
           have hnx := jl0 (tk' := (volT tk).2) hlt hl1 (by decide) HS2.out.2.1 HS2.out.2.2.1 hgz5 htx5 HR3.out.2.1 HR3.out.2.2
           have hwf3 : jfn { n with vols := n.vols ++ [(volT tk).1] } := ⟨HS2.out.2.2.2.2.1.1, HS2.out.2.2.2.2.1.2.1, fun x hx => by rcases List.mem_append.1 hx with h | h; exact HS2.out.2.2.2.2.1.2.2 x h; simp at h; rw [h]; exact HOK.out.1.1⟩
           have cbad : W3.cell? ⟨g, 1, none⟩ = some (.bool (volT tk).2.bad) := by rw [cell_of_row _ _ _ _ _ _ hnx.1]; rfl
           have HNX := Lib.hid (And.intro hnx hwf3)
           have HW3 := Lib.hid hW3
           clear hnx hwf3 hW3 hcb hc1 hf1 b0 b1 b2 b3 d0 d1 d2 d3 cx0 cx1 cx2 cx3 cx4 cx5
           cases hbad : (volT tk).2.bad with
           | true =>
            have HR := Lib.hid (show takeT t = ({ n with vols := n.vols ++ [(volT tk).1] }, (volT tk).2) by rw [HS2.out.2.2.2.2.2, jfo _ _ _ (by rw [HOK.out.2]; exact hbad), HOK.out.2])
            have HF := Lib.hid (And.intro HNX.out.1.1 (And.intro HNX.out.1.2.1 (And.intro HNX.out.1.2.2 (And.intro HR3.out.1 HNX.out.2))))
            rw [hbad] at cbad
            have HFIN := Lib.hid (fin_kd (n := { n with vols := n.vols ++ [(volT tk).1] }) HKD.out n0 n1 hlt (Nat.le_refl _) HF.out.1 HF.out.2.1 HF.out.2.2.1 HF.out.2.2.2.1 HF.out.2.2.2.2)
            have HRB := Lib.hid HF.out.2.2.1
            go_wp2_with (first | (refine wpList_load_row rfl 59 _ rfl nb rfl 59 _ (0, 0) _ HFIN.out.1 Tryz.underlying59 rfl ja0 ?_) | (refine jaf rfl 59 _ _ rfl w.heap.size 0 rfl [_, _, _, _] rfl 59 _ HRB.out (by simp) (by intro v hv; simp at hv; rcases hv with rfl | rfl | rfl | rfl <;> first | rfl | exact HFIN.out.2.1.1 | exact HFIN.out.2.1.2.1 | exact HFIN.out.2.1.2.2) ja0 ?_))
            (try rw [Exit.noGoto_ret])
            refine bodyPost_ret (results_cell_row rfl _ _ w.heap.size 59 _ (0, 0) _ rfl HFIN.out.2.2.1 Tryz.underlying59 rfl ja0) rfl ⟨_, rfl, ?_⟩
            rw [HR.out]
            exact HFIN.out.2.2.2
           | false =>
            rw [hbad] at cbad
            go_wp2
            exact ⟨⟨j + 1, { n with vols := n.vols ++ [(volT tk).1] }, (volT tk).2, _, _, _, by omega, by go_num, HKD.out, HNX.out.1.1, HOK.out.1.2, HNX.out.1.2.1, HNX.out.1.2.2, HR3.out.1, HNX.out.2, by rw [HS2.out.2.2.2.2.2, jee _ _ _ (by rw [HOK.out.2]; exact hbad), HOK.out.2], by show n.items.length ≤ j + 1; omega, by show n.kids.length ≤ j + 1; omega, by rw [List.length_append]; simp; omega⟩, by simp [intOf]; omega⟩)
        · have hst : stepT n tk = (n, ⟨tk.left, true⟩) := by unfold stepT; rw [if_neg (by rw [HKD.out]; exact hk1), if_neg (by rw [HKD.out]; exact hk2), if_neg (by rw [HKD.out]; exact hk3)]
          have hd1 : (kd == 1) = false := by simpa using hk1
          have hd2 : (kd == 2) = false := by simpa using hk2
          have hd3 : (kd == 3) = false := by simpa using hk3
          have e0 : wr.cell? ⟨g, 0, none⟩ = some (.string tk.left) := by rw [cell_of_row _ _ _ _ _ _ HS2.out.1]; rfl
          have e1 : wr.cell? ⟨g, 1, none⟩ = some (.bool tk.bad) := by rw [cell_of_row _ _ _ _ _ _ HS2.out.1]; rfl
          have f1 : wr.frozen? ⟨g, 1, none⟩ = false := frozen_of_row _ _ _ _ _ HS2.out.1
          have hgs : wr.grownBy (wr.setCell ⟨g, 1, none⟩ (.bool true)) (some g) := jap (World.grownBy.refl wr (some g)) 1 _
          have HR := Lib.hid (show takeT t = (n, ⟨tk.left, true⟩) by rw [HS2.out.2.2.2.2.2, jfo _ _ _ (by rw [hst]), hst])
          have HF := Lib.hid (And.intro (show TkAt (wr.setCell ⟨g, 1, none⟩ (.bool true)) g ⟨tk.left, true⟩ from ja2 HS2.out.1 1 _) (And.intro (jag HS2.out.2.1 hgs) (And.intro ((hgs.block _ (lt_of_block HS2.out.2.2.1) (by simp; omega)).trans HS2.out.2.2.1) (And.intro (HS2.out.2.2.2.1.keep hgs HS2.out.1) HS2.out.2.2.2.2.1))))
          clear hst hgs b1 b2 b3 d0 d1 d2 d3
          have HFIN := Lib.hid (fin_kd (n := n) HKD.out n0 n1 hlt (Nat.le_refl _) HF.out.1 HF.out.2.1 HF.out.2.2.1 HF.out.2.2.2.1 HF.out.2.2.2.2)
          have HRB := Lib.hid HF.out.2.2.1
          go_wp2_with (first | (refine wpList_load_row rfl 59 _ rfl nb rfl 59 _ (0, 0) _ HFIN.out.1 Tryz.underlying59 rfl ja0 ?_) | (refine jaf rfl 59 _ _ rfl w.heap.size 0 rfl [_, _, _, _] rfl 59 _ HRB.out (by simp) (by intro v hv; simp at hv; rcases hv with rfl | rfl | rfl | rfl <;> first | rfl | exact HFIN.out.2.1.1 | exact HFIN.out.2.1.2.1 | exact HFIN.out.2.1.2.2) ja0 ?_))
          (try rw [Exit.noGoto_ret])
          refine bodyPost_ret (results_cell_row rfl _ _ w.heap.size 59 _ (0, 0) _ rfl HFIN.out.2.2.1 Tryz.underlying59 rfl ja0) rfl ⟨_, rfl, ?_⟩
          rw [HR.out]
          exact HFIN.out.2.2.2
  · have hcj : cnt - j = 0 := by omega
    have HR := Lib.hid (show takeT t = (n, tk) by rw [htake, hcj]; rfl)
    have HF := Lib.hid (And.intro htk (And.intro hgw (And.intro hrb (And.intro hown hwf))))
    have HKD := Lib.hid hkd
    clear htk hgw hrb hown hwf htake HS hkd hcj
    have HFIN := Lib.hid (fin_kd (n := n) HKD.out n0 n1 hlt (Nat.le_refl _) HF.out.1 HF.out.2.1 HF.out.2.2.1 HF.out.2.2.2.1 HF.out.2.2.2.2)
    have HRB := Lib.hid HF.out.2.2.1
    go_wp2_with (first | (refine wpList_load_row rfl 59 _ rfl nb rfl 59 _ (0, 0) _ HFIN.out.1 Tryz.underlying59 rfl ja0 ?_) | (refine jaf rfl 59 _ _ rfl w.heap.size 0 rfl [_, _, _, _] rfl 59 _ HRB.out (by simp) (by intro v hv; simp at hv; rcases hv with rfl | rfl | rfl | rfl <;> first | rfl | exact HFIN.out.2.1.1 | exact HFIN.out.2.1.2.1 | exact HFIN.out.2.1.2.2) ja0 ?_))
    (try rw [Exit.noGoto_ret])
    refine bodyPost_ret (results_cell_row rfl _ _ w.heap.size 59 _ (0, 0) _ rfl HFIN.out.2.2.1 Tryz.underlying59 rfl ja0) rfl ⟨_, rfl, ?_⟩
    rw [HR.out]
    exact HFIN.out.2.2.2
end Go.Proofs.YtpaohkkhejpgjaaGreatDoor
