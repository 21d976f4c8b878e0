/- Texts of the proof: Lo Tk4 N11. -/
import Derived.Test.YthhmcjojnbaiiaaGreatDoorM1
import Derived.Test.YthhmcjojnbaiiaaGreatDoorM10
import Derived.Deep.RegionHeld3
import Derived.WalkMore
import Derived.Test.YthhmcjojnbaiiaaGreatDoorM11
set_option linter.all false
/- A load under another name: go_region_held3 tries each load of a region first and warns where it cannot (the cell is written in the same region); a load that it does not know for one it leaves in its place. -/
namespace Go.Proofs.YthhmcjojnbaiiaaGreatDoor
open Go Go.RowKit
@[go_sem] def ldOp (t : TypeId) (x : Operand) : Op := Op.load t x
theorem ldOp_eq (t : TypeId) (x : Operand) : Op.load t x = ldOp t x := rfl
end Go.Proofs.YthhmcjojnbaiiaaGreatDoor

/- Node's taker: a node taken, walked. -/
namespace Go.Proofs.YthhmcjojnbaiiaaGreatDoor
open Go Go.RowKit
theorem four_cells' {w : World} {g : Nat} {a b c d : Value} {t : TypeId} (h : w.heap[g]? = some (.cells #[a, b, c, d] t (0, 0))) :
    w.cell? ⟨g, 0, none⟩ = some a ∧ w.cell? ⟨g, 1, none⟩ = some b ∧ w.cell? ⟨g, 2, none⟩ = some c ∧ w.cell? ⟨g, 3, none⟩ = some d := by
  refine ⟨?_, ?_, ?_, ?_⟩ <;> (rw [cell_of_row _ _ _ _ _ _ h]; rfl)
theorem node_size : (Tryz.prog.info? 44).map (·.size) = some 4 := by kernel_rfl
/-- A node's value whose slices are nil or lie in blocks from B on. -/
def Fresh (B : Nat) (v : Value) : Prop := ∀ k a b c, v = .agg #[k, a, b, c] → (∀ g, a.ownBlock = some g → B ≤ g) ∧ (∀ g, b.ownBlock = some g → B ≤ g) ∧ (∀ g, c.ownBlock = some g → B ≤ g)
def NodeF (B : Nat) (w : World) (v : Value) (n : Node) : Prop := NodeV w v n ∧ Fresh B v
theorem fresh_mk {B : Nat} {k a b c : Value} (h1 : ∀ g, a.ownBlock = some g → B ≤ g) (h2 : ∀ g, b.ownBlock = some g → B ≤ g) (h3 : ∀ g, c.ownBlock = some g → B ≤ g) : Fresh B (.agg #[k, a, b, c]) := by
  intro k' a' b' c' e
  simp only [Value.agg.injEq, Array.mk.injEq, List.cons.injEq, and_true] at e
  obtain ⟨rfl, rfl, rfl, rfl⟩ := e
  exact ⟨h1, h2, h3⟩
theorem fin_node {B g nb rb : Nat} {w wr : World} {n : Node} {tk : Tk} {vi vk vv : Value} {z : Array Value} (hk0 : 0 ≤ n.kind) (hk1 : n.kind ≤ 255) (hg : g < w.heap.size) (hrbw : w.heap.size ≤ rb) (ht : TkAt wr g tk) (hgw : w.grownBy wr (some g))
    (hrb : wr.heap[rb]? = some (.cells z 44 (0, 0))) (hown : NodeOwn B nb n wr vi vk vv) (hwf : nodeWf n) :
    (wr.setRow rb #[.int .u8 n.kind, vi, vk, vv]).heap[rb]? = some (.cells #[.int .u8 n.kind, vi, vk, vv] 44 (0, 0)) ∧
    NodeF B (wr.setRow rb #[.int .u8 n.kind, vi, vk, vv]) (.agg #[.int .u8 n.kind, vi, vk, vv]) n ∧ nodeWf n ∧ w.grownBy (wr.setRow rb #[.int .u8 n.kind, vi, vk, vv]) (some g) ∧ TkAt (wr.setRow rb #[.int .u8 n.kind, vi, vk, vv]) g tk := by
  have hne : g ≠ rb := by omega
  have hset : wr.grownBy (wr.setRow rb #[.int .u8 n.kind, vi, vk, vv]) (some rb) := ⟨rfl, rfl, rfl, by simp [World.setRow], fun k hk hn => heap_setRow_other _ _ _ _ (by simpa using hn)⟩
  refine ⟨heap_setRow_same _ _ _ _ _ hrb, ⟨⟨vi, vk, vv, rfl, ?_, ?_, ?_, hk0, hk1⟩, fresh_mk (fun g h => (hown.oi.lt g h).1) (fun g h => (hown.ok.lt g h).1) (fun g h => (hown.ov.lt g h).1)⟩, hwf, ?_, ?_⟩
  · exact own_sl (own_keep hown.oi hset hrb (by decide)) rfl hwf.1
  · exact own_sl (own_keep hown.ok hset hrb (by decide)) rfl hwf.2.1
  · exact own_sl (own_keep hown.ov hset hrb (by decide)) rfl hwf.2.2
  · refine ⟨hset.os.trans hgw.os, hset.tape.trans hgw.tape, hset.output.trans hgw.output, Nat.le_trans hgw.size hset.size, fun k hk hn => ?_⟩
    rw [heap_setRow_other _ _ _ _ (by omega)]
    exact hgw.block k hk hn
  · unfold TkAt
    rw [heap_setRow_other _ _ _ _ hne]
    exact ht
theorem own_one {w : World} {B : Nat} {e : TypeId} {sz : Nat} {v : Value} {n : Nat} {xs : List Value} (h : w.ownsRow B e sz v n xs) : v.oneCell' = true := by
  rcases h.2 with ⟨rfl, _⟩ | ⟨g, cap, cur, rfl, _⟩ <;> rfl
theorem NodeOwn.drew' {B nb : Nat} {n : Node} {w : World} {vi vk vv : Value} (h : NodeOwn B nb n w vi vk vv) : NodeOwn B nb n w.drew vi vk vv := ⟨h.blk, h.oi.drew, h.ok.drew, h.ov.drew⟩
theorem cell_alloc_old' (w : World) (o : Obj) (b i : Nat) (h : b < w.heap.size) : (w.alloc o).cell? ⟨b, i, none⟩ = w.cell? ⟨b, i, none⟩ := by
  unfold World.cell?
  simp only [Lib.alloc_old w o b h]
theorem take_next {w wr wb W3 : World} {g nb : Nat} {tk' : Tk} {T : TypeId} {z : Array Value} (hlt : g < w.heap.size) (hl1 : w.heap.size < nb) (hT : 44 ≠ T) (hgw : w.grownBy wr (some g)) (hrb : wr.heap[w.heap.size]? = some (.cells z 44 (0, 0)))
    (hgab : wr.grownBy wb (some g)) (htb : TkAt wb g tk') (hb3 : Below w.heap.size wb W3) (htf : TypeFrame nb T wb W3) :
    TkAt W3 g tk' ∧ w.grownBy W3 (some g) ∧ W3.heap[w.heap.size]? = some (.cells z 44 (0, 0)) := by
  have hgb := grown_trans hgw hgab
  refine ⟨(hb3.block g hlt).trans htb, ⟨hb3.os.trans hgb.os, hb3.tape.trans hgb.tape, hb3.output.trans hgb.output, Nat.le_trans hgb.size hb3.size, fun k hk hn => (hb3.block k hk).trans (hgb.block k hk hn)⟩, ?_⟩
  refine htf _ _ _ _ (by omega) ?_ hT
  rw [hgab.block _ (lt_of_block hrb) (by simp; omega)]
  exact hrb
theorem takeLoop_bad (c : Nat) (n : Node) (t : Tk) (h : (stepT n t).2.bad = true) : takeLoop (c + 1) n t = stepT n t := by
  rw [takeLoop, if_pos h]
theorem takeLoop_go (c : Nat) (n : Node) (t : Tk) (h : (stepT n t).2.bad = false) : takeLoop (c + 1) n t = takeLoop c (stepT n t).1 (stepT n t).2 := by
  rw [takeLoop, if_neg (by rw [h]; simp)]
theorem fin_kd {B g nb rb : Nat} {w wr : World} {n : Node} {tk : Tk} {vi vk vv : Value} {z : Array Value} {kd : Int} (hkd : n.kind = kd) (hk0 : 0 ≤ kd) (hk1 : kd ≤ 255) (hg : g < w.heap.size) (hrbw : w.heap.size ≤ rb) (ht : TkAt wr g tk) (hgw : w.grownBy wr (some g))
    (hrb : wr.heap[rb]? = some (.cells z 44 (0, 0))) (hown : NodeOwn B nb n wr vi vk vv) (hwf : nodeWf n) :
    wr.heap[nb]? = some (.cells #[.int .u8 kd, vi, vk, vv] 44 (0, 0)) ∧ (vi.oneCell' = true ∧ vk.oneCell' = true ∧ vv.oneCell' = true) ∧
    (wr.setRow rb #[.int .u8 kd, vi, vk, vv]).heap[rb]? = some (.cells #[.int .u8 kd, vi, vk, vv] 44 (0, 0)) ∧
    NodeF B (wr.setRow rb #[.int .u8 kd, vi, vk, vv]) (.agg #[.int .u8 kd, vi, vk, vv]) n ∧ nodeWf n ∧ w.grownBy (wr.setRow rb #[.int .u8 kd, vi, vk, vv]) (some g) ∧ TkAt (wr.setRow rb #[.int .u8 kd, vi, vk, vv]) g tk := by
  subst hkd
  exact ⟨hown.blk, ⟨own_one hown.oi, own_one hown.ok, own_one hown.ov⟩, fin_node hk0 hk1 hg hrbw ht hgw hrb hown hwf⟩
theorem lit32 (l : List Int) (h : l.length = 32) : ∃ x0 x1 x2 x3 x4 x5 x6 x7 x8 x9 x10 x11 x12 x13 x14 x15 x16 x17 x18 x19 x20 x21 x22 x23 x24 x25 x26 x27 x28 x29 x30 x31, l = [x0, x1, x2, x3, x4, x5, x6, x7, x8, x9, x10, x11, x12, x13, x14, x15, x16, x17, x18, x19, x20, x21, x22, x23, x24, x25, x26, x27, x28, x29, x30, x31] := by
  match l, h with
  | [x0, x1, x2, x3, x4, x5, x6, x7, x8, x9, x10, x11, x12, x13, x14, x15, x16, x17, x18, x19, x20, x21, x22, x23, x24, x25, x26, x27, x28, x29, x30, x31], _ => exact ⟨x0, x1, x2, x3, x4, x5, x6, x7, x8, x9, x10, x11, x12, x13, x14, x15, x16, x17, x18, x19, x20, x21, x22, x23, x24, x25, x26, x27, x28, x29, x30, x31, rfl⟩
theorem tkHash_lit (w : World) (g : Nat) (t : Tk) (hg : TkAt w g t) (hs : t.left.size ≤ 9223372036854775807) :
    Calls Tryz.prog 144 #[.pointer (some ⟨g, 0, none⟩)] w fun e w' => ∃ x0 x1 x2 x3 x4 x5 x6 x7 x8 x9 x10 x11 x12 x13 x14 x15 x16 x17 x18 x19 x20 x21 x22 x23 x24 x25 x26 x27 x28 x29 x30 x31, (hashT t).1 = [x0, x1, x2, x3, x4, x5, x6, x7, x8, x9, x10, x11, x12, x13, x14, x15, x16, x17, x18, x19, x20, x21, x22, x23, x24, x25, x26, x27, x28, x29, x30, x31] ∧ e = .returned (.agg #[.int .u8 x0, .int .u8 x1, .int .u8 x2, .int .u8 x3, .int .u8 x4, .int .u8 x5, .int .u8 x6, .int .u8 x7, .int .u8 x8, .int .u8 x9, .int .u8 x10, .int .u8 x11, .int .u8 x12, .int .u8 x13, .int .u8 x14, .int .u8 x15, .int .u8 x16, .int .u8 x17, .int .u8 x18, .int .u8 x19, .int .u8 x20, .int .u8 x21, .int .u8 x22, .int .u8 x23, .int .u8 x24, .int .u8 x25, .int .u8 x26, .int .u8 x27, .int .u8 x28, .int .u8 x29, .int .u8 x30, .int .u8 x31]) ∧ w.grownBy w' (some g) ∧ TkAt w' g (hashT t).2 := by
  obtain ⟨x0, x1, x2, x3, x4, x5, x6, x7, x8, x9, x10, x11, x12, x13, x14, x15, x16, x17, x18, x19, x20, x21, x22, x23, x24, x25, x26, x27, x28, x29, x30, x31, hx⟩ := lit32 _ (hashT_len t)
  refine (tkHash_any w g t hg hs).mono ?_
  rintro e w' ⟨rfl, h1, h2⟩
  exact ⟨x0, x1, x2, x3, x4, x5, x6, x7, x8, x9, x10, x11, x12, x13, x14, x15, x16, x17, x18, x19, x20, x21, x22, x23, x24, x25, x26, x27, x28, x29, x30, x31, hx, by rw [hx]; rfl, h1, h2⟩
set_option maxRecDepth 100000 in
set_option maxHeartbeats 4000000 in
theorem take_any (w : World) (g : Nat) (t : Tk) (hg : TkAt w g t) (hs : t.left.size ≤ 4096) :
    Calls Tryz.prog 98 #[.pointer (some ⟨g, 0, none⟩)] w fun e w' => ∃ v, e = .returned v ∧ NodeF w.heap.size w' v (takeT t).1 ∧ nodeWf (takeT t).1 ∧ w.grownBy w' (some g) ∧ TkAt w' g (takeT t).2 := by
  have hlt := lt_of_block hg
  have HG := Lib.hid hg
  clear hg
  go_enter Tryz.func98, Tryz.ntmps98
  go_wp2_with (fail)
  go_step3
  go_wp2_with (fail)
  have hA : TkAt (w.alloc (.cells #[.int .u8 0, .slice none 0 0, .slice none 0 0, .slice none 0 0] 44)) g t := (Lib.alloc_old w _ g hlt).trans HG.out
  have hrb : (w.alloc (.cells #[.int .u8 0, .slice none 0 0, .slice none 0 0, .slice none 0 0] 44)).heap[w.heap.size]? = some (.cells #[.int .u8 0, .slice none 0 0, .slice none 0 0, .slice none 0 0] 44 (0, 0)) := heap_alloc_new _ _
  have hgr : w.grownBy (w.alloc (.cells #[.int .u8 0, .slice none 0 0, .slice none 0 0, .slice none 0 0] 44)) (some g) := ⟨rfl, rfl, rfl, by simp, fun k hk _ => Lib.alloc_old w _ k hk⟩
  go_at_call 142
  refine (tkNumber_any _ g t 1 (by omega) (by omega) hA (by omega)).mono ?_
  rintro e w1 ⟨rfl, hg1, ht1⟩
  obtain ⟨n0, n1⟩ := numT_one t
  have h1s := numT_le t 1 4096 hs
  have hrb1 := (hg1.block _ (lt_of_block hrb) (by simp; omega)).trans hrb
  have hgr1 := grown_trans hgr hg1
  obtain ⟨kd, hkd⟩ : ∃ kd, (numT t 1).1 = kd := ⟨_, rfl⟩
  obtain ⟨t1, ht1e⟩ : ∃ t1, (numT t 1).2 = t1 := ⟨_, rfl⟩
  rw [hkd] at n0 n1 ⊢
  rw [ht1e] at ht1 h1s
  have HT := Lib.hid (show takeT t = takeLoop (numT t1 1).1.toNat ⟨kd, [], [], []⟩ (numT t1 1).2 by unfold takeT; rw [hkd, ht1e])
  have H1 := Lib.hid (And.intro hrb1 (And.intro hgr1 ht1))
  clear hkd ht1e hA hrb hgr hg1 ht1 hrb1 hgr1 HG
  go_wp2_with (fail)
  go_step3
  go_wp2_with (fail)
  have hB : TkAt (w1.alloc (.cells #[.int .u8 kd, .slice none 0 0, .slice none 0 0, .slice none 0 0] 44)) g t1 := (Lib.alloc_old w1 _ g (lt_of_block H1.out.2.2)).trans H1.out.2.2
  have hrb : (w1.alloc (.cells #[.int .u8 kd, .slice none 0 0, .slice none 0 0, .slice none 0 0] 44)).heap[w.heap.size]? = some (.cells #[.int .u8 0, .slice none 0 0, .slice none 0 0, .slice none 0 0] 44 (0, 0)) := (Lib.alloc_old w1 _ _ (lt_of_block H1.out.1)).trans H1.out.1
  have hnb : (w1.alloc (.cells #[.int .u8 kd, .slice none 0 0, .slice none 0 0, .slice none 0 0] 44)).heap[w1.heap.size]? = some (.cells #[.int .u8 kd, .slice none 0 0, .slice none 0 0, .slice none 0 0] 44 (0, 0)) := heap_alloc_new _ _
  have hgr : w1.grownBy (w1.alloc (.cells #[.int .u8 kd, .slice none 0 0, .slice none 0 0, .slice none 0 0] 44)) (some g) := ⟨rfl, rfl, rfl, by simp, fun k hk _ => Lib.alloc_old w1 _ k hk⟩
  have hl1 := lt_of_block H1.out.1
  go_at_call 142
  refine (tkNumber_any _ g t1 1 (by omega) (by omega) hB (by omega)).mono ?_
  rintro e w2 ⟨rfl, hg2, ht2⟩
  obtain ⟨m0, m1⟩ := numT_one t1
  have h2s := numT_le t1 1 4096 h1s
  have hown : NodeOwn w.heap.size w1.heap.size ⟨kd, [], [], []⟩ w2 (.slice none 0 0) (.slice none 0 0) (.slice none 0 0) :=
    ⟨(hg2.block _ (lt_of_block hnb) (by simp; omega)).trans hnb, ⟨rfl, Or.inl ⟨rfl, rfl⟩⟩, ⟨rfl, Or.inl ⟨rfl, rfl⟩⟩, ⟨rfl, Or.inl ⟨rfl, rfl⟩⟩⟩
  have hrb2 := (hg2.block _ (lt_of_block hrb) (by simp; omega)).trans hrb
  have hgw2 := grown_trans H1.out.2.1 (grown_trans hgr hg2)
  obtain ⟨cnt, hcnt⟩ : ∃ cnt : Nat, (numT t1 1).1 = (cnt : Int) := ⟨(numT t1 1).1.toNat, by omega⟩
  obtain ⟨t2, ht2e⟩ : ∃ t2, (numT t1 1).2 = t2 := ⟨_, rfl⟩
  rw [hcnt]
  have hc255 : cnt ≤ 255 := by omega
  rw [ht2e] at ht2 h2s
  have HT2 := Lib.hid (show takeT t = takeLoop cnt ⟨kd, [], [], []⟩ t2 by rw [HT.out, hcnt, ht2e]; rfl)
  have HS := Lib.hid (And.intro ht2 (And.intro hgw2 (And.intro hrb2 hown)))
  clear ht2 hgw2 hrb2 hown ht2e hcnt m0 m1 hB hrb hnb hgr hg2 HT H1
  generalize w1.heap.size = nb at *
  go_wp2_with (fail)
  go_loopw [10, 11, 12, 13, 14, 15, 16, 17, 18, 19, 20, 21, 22, 23, 24, 25, 26, 27, 28, 29, 30, 31, 32, 33, 34, 35, 36, 37, 38, 39, 40, 41, 42, 43, 44, 45, 46, 47, 48, 49, 50, 51, 52, 53, 54, 55, 56, 57, 58, 59, 60, 61, 62, 63, 64, 65, 66, 67, 68, 69, 70] (fun i _ _ _ _ _ _ _ _ _ _ _ _ _ _ _ _ _ _ _ _ _ _ _ _ _ _ _ _ _ _ _ _ _ _ _ _ _ _ _ _ _ _ _ _ _ _ _ _ _ _ _ _ _ _ _ _ _ _ _ _ wr => ∃ (j : Nat) (n : Node) (tk : Tk) (vi vk vv : Value), j ≤ cnt ∧ i = .int .u64 j ∧ n.kind = kd ∧ TkAt wr g tk ∧ tk.left.size ≤ 4096 ∧ w.grownBy wr (some g) ∧ wr.heap[w.heap.size]? = some (.cells #[.int .u8 0, .slice none 0 0, .slice none 0 0, .slice none 0 0] 44 (0, 0)) ∧ NodeOwn w.heap.size nb n wr vi vk vv ∧ nodeWf n ∧ takeT t = takeLoop (cnt - j) n tk ∧ n.items.length ≤ j ∧ n.kids.length ≤ j ∧ n.vols.length ≤ j) (fun i _ _ _ _ _ _ _ _ _ _ _ _ _ _ _ _ _ _ _ _ _ _ _ _ _ _ _ _ _ _ _ _ _ _ _ _ _ _ _ _ _ _ _ _ _ _ _ _ _ _ _ _ _ _ _ _ _ _ _ _ _ => cnt - (intOf i).toNat)
  case atStart => exact ⟨0, ⟨kd, [], [], []⟩, t2, _, _, _, Nat.zero_le _, rfl, rfl, HS.out.1, h2s, HS.out.2.1, HS.out.2.2.1, HS.out.2.2.2, ⟨by simp, by simp, by simp⟩, HT2.out, Nat.le_refl _, Nat.le_refl _, Nat.le_refl _⟩
  case round =>
    obtain ⟨j, n, tk, vi, vk, vv, hj, rfl, hkd, htk, hts, hgw, hrb, hown, hwf, htake, hli, hlk, hlv⟩ := hrel
    by_cases hlt2 : j < cnt
    · have hsub : cnt - j = (cnt - (j + 1)) + 1 := by omega
      rw [hsub] at htake
      obtain ⟨b0, b1, b2, b3⟩ := four_cells' hown.blk
      have d0 : wr.drew.cell? ⟨nb, 0, none⟩ = some (.int .u8 n.kind) := b0
      have d1 : wr.drew.cell? ⟨nb, 1, none⟩ = some vi := b1
      have d2 : wr.drew.cell? ⟨nb, 2, none⟩ = some vk := b2
      have d3 : wr.drew.cell? ⟨nb, 3, none⟩ = some vv := b3
      have hnblt := lt_of_block hown.blk
      have hBw : w.heap.size ≤ wr.heap.size := hgw.size
      rw [hkd] at b0 d0
      have HS2 := Lib.hid (And.intro htk (And.intro hgw (And.intro hrb (And.intro hown (And.intro hwf htake)))))
      have HKD := Lib.hid hkd
      clear htk hgw hrb hown hwf htake HS hkd HT2 h1s h2s
      by_cases hk1 : kd = 1
      · subst hk1
        have hok := itemT_ok tk hts
        have hst : stepT n tk = ({ n with items := n.items ++ [(itemT tk).1] }, (itemT tk).2) := by unfold stepT; rw [if_pos HKD.out]
        have hz0 : tk.left.size ≤ 4096 := hts
        have hz1 : (textT tk).2.left.size ≤ 4096 := (textT_le _ 4096 hz0).2
        have hz2 : (textT (textT tk).2).2.left.size ≤ 4096 := (textT_le _ 4096 hz1).2
        have HOK := Lib.hid (And.intro hok hst)
        clear hok hst
        go_wp2_with (fail)
        rw [ldOp_eq 27 (.tmp 19)]
        go_region_held3 (fun _ => True) (first | trivial) (first
          | (go_at_call 143; refine (tkText_any wx0 g (textT tk).2 htx0 (by omega)).mono ?_; rintro e wx1 ⟨rfl, hgx1, htx1⟩; have hox1 := NodeOwn.keep hox0 hgx1 htx0; have hgz1 := grown_trans hgz0 hgx1; have cx1 := (four_cells' hox1.blk).2.1; have hcb : ∀ o, (wx1.alloc o).cell? ⟨nb, 1, none⟩ = some vi := fun o => (cell_alloc_old' wx1 o nb 1 (lt_of_block hox1.blk)).trans cx1)
          | (go_at_call 143; refine (tkText_any _ g tk (show TkAt wr.drew g tk from HS2.out.1) (by omega)).mono ?_; rintro e wx0 ⟨rfl, hgx0, htx0⟩; have hox0 := NodeOwn.keep (NodeOwn.drew' HS2.out.2.2.2.1) hgx0 (show TkAt wr.drew g tk from HS2.out.1); have hgz0 := grown_trans (grown_drew (World.grownBy.refl wr (some g))) hgx0; have cx0 := (four_cells' hox0.blk).2.1)
          | (refine step_item_append rfl (.tmp 20) (.tmp 26) rfl rfl hox1 (itemT tk).1 HOK.out.1.1 (Nat.le_trans hBw hgz1.size) (by omega) (by omega) rfl rfl ?_; intro g' cap wc hc1 hf1 ho3 hb3 htf; have HR3 := Lib.hid (And.intro ho3 (And.intro hb3 htf)); clear ho3 hb3 htf))
        all_goals (
          obtain ⟨W3, hW3⟩ : ∃ W3, W3 = wc.setCell ⟨nb, 1, none⟩ (.slice (some ⟨g', 0, none⟩) (n.items.length + 1) cap) := ⟨_, rfl⟩
          rw [← hW3] at HR3 ⊢
          have hnx := take_next (tk' := (itemT tk).2) hlt hl1 (by decide) HS2.out.2.1 HS2.out.2.2.1 hgz1 htx1 HR3.out.2.1 HR3.out.2.2
          have hwf3 : nodeWf { n with items := n.items ++ [(itemT tk).1] } := ⟨fun x hx => by rcases List.mem_append.1 hx with h | h; exact HS2.out.2.2.2.2.1.1 x h; simp at h; rw [h]; exact HOK.out.1.1, HS2.out.2.2.2.2.1.2⟩
          have cbad : W3.cell? ⟨g, 1, none⟩ = some (.bool (itemT tk).2.bad) := by rw [cell_of_row _ _ _ _ _ _ hnx.1]; rfl
          have HNX := Lib.hid (And.intro hnx hwf3)
          have HW3 := Lib.hid hW3
          clear hnx hwf3 hW3 hcb hc1 hf1 b0 b1 b2 b3 d0 d1 d2 d3 cx0 cx1
          cases hbad : (itemT tk).2.bad with
          | true =>
            have HR := Lib.hid (show takeT t = ({ n with items := n.items ++ [(itemT tk).1] }, (itemT tk).2) by rw [HS2.out.2.2.2.2.2, takeLoop_bad _ _ _ (by rw [HOK.out.2]; exact hbad), HOK.out.2])
            have HF := Lib.hid (And.intro HNX.out.1.1 (And.intro HNX.out.1.2.1 (And.intro HNX.out.1.2.2 (And.intro HR3.out.1 HNX.out.2))))
            rw [hbad] at cbad
            have HFIN := Lib.hid (fin_kd (n := { n with items := n.items ++ [(itemT tk).1] }) HKD.out n0 n1 hlt (Nat.le_refl _) HF.out.1 HF.out.2.1 HF.out.2.2.1 HF.out.2.2.2.1 HF.out.2.2.2.2)
            have HRB := Lib.hid HF.out.2.2.1
            go_wp2_with (first | (refine wpList_load_row rfl 44 _ rfl nb rfl 44 _ (0, 0) _ HFIN.out.1 Tryz.underlying44 rfl node_size ?_) | (refine wpList_store_at rfl 44 _ _ rfl w.heap.size 0 rfl [_, _, _, _] rfl 44 _ HRB.out (by simp) (by intro v hv; simp at hv; rcases hv with rfl | rfl | rfl | rfl <;> first | rfl | exact HFIN.out.2.1.1 | exact HFIN.out.2.1.2.1 | exact HFIN.out.2.1.2.2) node_size ?_))
            (try rw [Exit.noGoto_ret])
            refine bodyPost_ret (results_cell_row rfl _ _ w.heap.size 44 _ (0, 0) _ rfl HFIN.out.2.2.1 Tryz.underlying44 rfl node_size) rfl ⟨_, rfl, ?_⟩
            rw [HR.out]
            exact HFIN.out.2.2.2
          | false =>
            rw [hbad] at cbad
            go_wp2
            exact ⟨⟨j + 1, { n with items := n.items ++ [(itemT tk).1] }, (itemT tk).2, _, _, _, by omega, by go_num, HKD.out, HNX.out.1.1, HOK.out.1.2, HNX.out.1.2.1, HNX.out.1.2.2, HR3.out.1, HNX.out.2, by rw [HS2.out.2.2.2.2.2, takeLoop_go _ _ _ (by rw [HOK.out.2]; exact hbad), HOK.out.2], by rw [List.length_append]; simp; omega, by show n.kids.length ≤ j + 1; omega, by show n.vols.length ≤ j + 1; omega⟩, by simp [intOf]; omega⟩)
      · by_cases hk2 : kd = 2
        · subst hk2
          have hok := kidT_ok tk hts
          have hst : stepT n tk = ({ n with kids := n.kids ++ [(kidT tk).1] }, (kidT tk).2) := by unfold stepT; rw [if_neg (show ¬ n.kind = 1 by rw [HKD.out]; decide), if_pos HKD.out]
          have hz0 : tk.left.size ≤ 4096 := hts
          have hz1 : (textT tk).2.left.size ≤ 4096 := (textT_le _ 4096 hz0).2
          have hz2 : (numT (textT tk).2 4).2.left.size ≤ 4096 := numT_le _ 4 4096 hz1
          have hr1 := numT_range (textT tk).2 4 (by omega)
          have hlo1 : 0 ≤ (numT (textT tk).2 4).1 := hr1.1
          have hhi1 : (numT (textT tk).2 4).1 ≤ 4294967295 := by have := hr1.2; omega
          have hm1 : (numT (textT tk).2 4).1 % 4294967296 = (numT (textT tk).2 4).1 := Int.emod_eq_of_lt hlo1 (by omega)
          have hw1 : IntKind.u32.wrap (numT (textT tk).2 4).1 = (numT (textT tk).2 4).1 := by rw [IntKind.wrap_u32]; omega
          clear hr1
          have hz3 : (hashT (numT (textT tk).2 4).2).2.left.size ≤ 4096 := hashT_le _ 4096 hz2
          have HOK := Lib.hid (And.intro hok hst)
          clear hok hst
          go_wp2_with (fail)
          rw [ldOp_eq 41 (.tmp 31)]
          go_region_held3 (fun _ => True) (first | trivial) (first
            | (go_at_call 144; refine (tkHash_lit wx1 g (numT (textT tk).2 4).2 htx1 (by omega)).mono ?_; rintro e wx2 ⟨x0, x1, x2, x3, x4, x5, x6, x7, x8, x9, x10, x11, x12, x13, x14, x15, x16, x17, x18, x19, x20, x21, x22, x23, x24, x25, x26, x27, x28, x29, x30, x31, hx, rfl, hgx2, htx2⟩; have HXE := Lib.hid (show (⟨(textT tk).1, (numT (textT tk).2 4).1, [x0, x1, x2, x3, x4, x5, x6, x7, x8, x9, x10, x11, x12, x13, x14, x15, x16, x17, x18, x19, x20, x21, x22, x23, x24, x25, x26, x27, x28, x29, x30, x31]⟩ : Kid) = (kidT tk).1 from (show _ = (⟨(textT tk).1, (numT (textT tk).2 4).1, (hashT (numT (textT tk).2 4).2).1⟩ : Kid) by rw [hx])); clear hx; have hox2 := NodeOwn.keep hox1 hgx2 htx1; have hgz2 := grown_trans hgz1 hgx2; have cx2 := (four_cells' hox2.blk).2.2.1; have hcb : ∀ o, (wx2.alloc o).cell? ⟨nb, 2, none⟩ = some vk := fun o => (cell_alloc_old' wx2 o nb 2 (lt_of_block hox2.blk)).trans cx2)
            | (go_at_call 142; refine (tkNumber_any wx0 g (textT tk).2 4 (by omega) (by omega) htx0 (by omega)).mono ?_; rintro e wx1 ⟨rfl, hgx1, htx1⟩; have hox1 := NodeOwn.keep hox0 hgx1 htx0; have hgz1 := grown_trans hgz0 hgx1; have cx1 := (four_cells' hox1.blk).2.2.1)
            | (go_at_call 143; refine (tkText_any _ g tk (show TkAt wr.drew g tk from HS2.out.1) (by omega)).mono ?_; rintro e wx0 ⟨rfl, hgx0, htx0⟩; have hox0 := NodeOwn.keep (NodeOwn.drew' HS2.out.2.2.2.1) hgx0 (show TkAt wr.drew g tk from HS2.out.1); have hgz0 := grown_trans (grown_drew (World.grownBy.refl wr (some g))) hgx0; have cx0 := (four_cells' hox0.blk).2.2.1)
            | (refine step_kid_append rfl (.tmp 32) (.tmp 41) rfl rfl hox2 ⟨(textT tk).1, (numT (textT tk).2 4).1, [x0, x1, x2, x3, x4, x5, x6, x7, x8, x9, x10, x11, x12, x13, x14, x15, x16, x17, x18, x19, x20, x21, x22, x23, x24, x25, x26, x27, x28, x29, x30, x31]⟩ (by rw [HXE.out]; exact HOK.out.1.1) (Nat.le_trans hBw hgz2.size) (by omega) (by omega) rfl rfl ?_; intro g' cap wc hc1 hf1 ho3 hb3 htf; rw [HXE.out] at ho3; have HR3 := Lib.hid (And.intro ho3 (And.intro hb3 htf)); clear ho3 hb3 htf))
          all_goals (
            obtain ⟨W3, hW3⟩ : ∃ W3, W3 = wc.setCell ⟨nb, 2, none⟩ (.slice (some ⟨g', 0, none⟩) (n.kids.length + 1) cap) := ⟨_, rfl⟩
            rw [← hW3] at HR3 ⊢
            have hnx := take_next (tk' := (kidT tk).2) hlt hl1 (by decide) HS2.out.2.1 HS2.out.2.2.1 hgz2 htx2 HR3.out.2.1 HR3.out.2.2
            have hwf3 : nodeWf { n with kids := n.kids ++ [(kidT tk).1] } := ⟨HS2.out.2.2.2.2.1.1, fun x hx => by rcases List.mem_append.1 hx with h | h; exact HS2.out.2.2.2.2.1.2.1 x h; simp at h; rw [h]; exact HOK.out.1.1, HS2.out.2.2.2.2.1.2.2⟩
            have cbad : W3.cell? ⟨g, 1, none⟩ = some (.bool (kidT tk).2.bad) := by rw [cell_of_row _ _ _ _ _ _ hnx.1]; rfl
            have HNX := Lib.hid (And.intro hnx hwf3)
            have HW3 := Lib.hid hW3
            clear hnx hwf3 hW3 hcb hc1 hf1 b0 b1 b2 b3 d0 d1 d2 d3 cx0 cx1 cx2
            cases hbad : (kidT tk).2.bad with
            | true =>
              have HR := Lib.hid (show takeT t = ({ n with kids := n.kids ++ [(kidT tk).1] }, (kidT tk).2) by rw [HS2.out.2.2.2.2.2, takeLoop_bad _ _ _ (by rw [HOK.out.2]; exact hbad), HOK.out.2])
              have HF := Lib.hid (And.intro HNX.out.1.1 (And.intro HNX.out.1.2.1 (And.intro HNX.out.1.2.2 (And.intro HR3.out.1 HNX.out.2))))
              rw [hbad] at cbad
              have HFIN := Lib.hid (fin_kd (n := { n with kids := n.kids ++ [(kidT tk).1] }) HKD.out n0 n1 hlt (Nat.le_refl _) HF.out.1 HF.out.2.1 HF.out.2.2.1 HF.out.2.2.2.1 HF.out.2.2.2.2)
              have HRB := Lib.hid HF.out.2.2.1
              go_wp2_with (first | (refine wpList_load_row rfl 44 _ rfl nb rfl 44 _ (0, 0) _ HFIN.out.1 Tryz.underlying44 rfl node_size ?_) | (refine wpList_store_at rfl 44 _ _ rfl w.heap.size 0 rfl [_, _, _, _] rfl 44 _ HRB.out (by simp) (by intro v hv; simp at hv; rcases hv with rfl | rfl | rfl | rfl <;> first | rfl | exact HFIN.out.2.1.1 | exact HFIN.out.2.1.2.1 | exact HFIN.out.2.1.2.2) node_size ?_))
              (try rw [Exit.noGoto_ret])
              refine bodyPost_ret (results_cell_row rfl _ _ w.heap.size 44 _ (0, 0) _ rfl HFIN.out.2.2.1 Tryz.underlying44 rfl node_size) rfl ⟨_, rfl, ?_⟩
              rw [HR.out]
              exact HFIN.out.2.2.2
            | false =>
              rw [hbad] at cbad
              go_wp2
              exact ⟨⟨j + 1, { n with kids := n.kids ++ [(kidT tk).1] }, (kidT tk).2, _, _, _, by omega, by go_num, HKD.out, HNX.out.1.1, HOK.out.1.2, HNX.out.1.2.1, HNX.out.1.2.2, HR3.out.1, HNX.out.2, by rw [HS2.out.2.2.2.2.2, takeLoop_go _ _ _ (by rw [HOK.out.2]; exact hbad), HOK.out.2], by show n.items.length ≤ j + 1; omega, by rw [List.length_append]; simp; omega, by show n.vols.length ≤ j + 1; omega⟩, by simp [intOf]; omega⟩)
        · by_cases hk3 : kd = 3
          · subst hk3
            have hok := volT_ok tk hts
            have hst : stepT n tk = ({ n with vols := n.vols ++ [(volT tk).1] }, (volT tk).2) := by unfold stepT; rw [if_neg (show ¬ n.kind = 1 by rw [HKD.out]; decide), if_neg (show ¬ n.kind = 2 by rw [HKD.out]; decide), if_pos HKD.out]
            have hz0 : tk.left.size ≤ 4096 := hts
            have hz1 : (textT tk).2.left.size ≤ 4096 := (textT_le _ 4096 hz0).2
            have hz2 : (textT (textT tk).2).2.left.size ≤ 4096 := (textT_le _ 4096 hz1).2
            have hz3 : (numT (textT (textT tk).2).2 1).2.left.size ≤ 4096 := numT_le _ 1 4096 hz2
            have hr2 := numT_range (textT (textT tk).2).2 1 (by omega)
            have hlo2 : 0 ≤ (numT (textT (textT tk).2).2 1).1 := hr2.1
            have hhi2 : (numT (textT (textT tk).2).2 1).1 ≤ 255 := by have := hr2.2; omega
            have hm2 : (numT (textT (textT tk).2).2 1).1 % 256 = (numT (textT (textT tk).2).2 1).1 := Int.emod_eq_of_lt hlo2 (by omega)
            have hw2 : IntKind.u8.wrap (numT (textT (textT tk).2).2 1).1 = (numT (textT (textT tk).2).2 1).1 := by rw [IntKind.wrap_u8]; omega
            clear hr2
            have hz4 : (numT (numT (textT (textT tk).2).2 1).2 8).2.left.size ≤ 4096 := numT_le _ 8 4096 hz3
            have hr3 := numT_range (numT (textT (textT tk).2).2 1).2 8 (by omega)
            have hlo3 : 0 ≤ (numT (numT (textT (textT tk).2).2 1).2 8).1 := hr3.1
            have hhi3 : (numT (numT (textT (textT tk).2).2 1).2 8).1 ≤ 18446744073709551615 := by have := hr3.2; omega
            clear hr3
            have hz5 : (numT (numT (numT (textT (textT tk).2).2 1).2 8).2 4).2.left.size ≤ 4096 := numT_le _ 4 4096 hz4
            have hr4 := numT_range (numT (numT (textT (textT tk).2).2 1).2 8).2 4 (by omega)
            have hlo4 : 0 ≤ (numT (numT (numT (textT (textT tk).2).2 1).2 8).2 4).1 := hr4.1
            have hhi4 : (numT (numT (numT (textT (textT tk).2).2 1).2 8).2 4).1 ≤ 4294967295 := by have := hr4.2; omega
            have hm4 : (numT (numT (numT (textT (textT tk).2).2 1).2 8).2 4).1 % 4294967296 = (numT (numT (numT (textT (textT tk).2).2 1).2 8).2 4).1 := Int.emod_eq_of_lt hlo4 (by omega)
            have hw4 : IntKind.u32.wrap (numT (numT (numT (textT (textT tk).2).2 1).2 8).2 4).1 = (numT (numT (numT (textT (textT tk).2).2 1).2 8).2 4).1 := by rw [IntKind.wrap_u32]; omega
            clear hr4
            have hz6 : (hashT (numT (numT (numT (textT (textT tk).2).2 1).2 8).2 4).2).2.left.size ≤ 4096 := hashT_le _ 4096 hz5
            have HOK := Lib.hid (And.intro hok hst)
            clear hok hst
            go_wp2_with (fail)
            rw [ldOp_eq 42 (.tmp 46)]
            go_region_held3 (fun _ => True) (first | trivial) (first
              | (go_at_call 144; refine (tkHash_lit wx4 g (numT (numT (numT (textT (textT tk).2).2 1).2 8).2 4).2 htx4 (by omega)).mono ?_; rintro e wx5 ⟨x0, x1, x2, x3, x4, x5, x6, x7, x8, x9, x10, x11, x12, x13, x14, x15, x16, x17, x18, x19, x20, x21, x22, x23, x24, x25, x26, x27, x28, x29, x30, x31, hx, rfl, hgx5, htx5⟩; have HXE := Lib.hid (show (⟨(textT tk).1, (numT (textT (textT tk).2).2 1).1, (textT (textT tk).2).1, (numT (numT (textT (textT tk).2).2 1).2 8).1, (numT (numT (numT (textT (textT tk).2).2 1).2 8).2 4).1, [x0, x1, x2, x3, x4, x5, x6, x7, x8, x9, x10, x11, x12, x13, x14, x15, x16, x17, x18, x19, x20, x21, x22, x23, x24, x25, x26, x27, x28, x29, x30, x31]⟩ : Vol) = (volT tk).1 from (show _ = (⟨(textT tk).1, (numT (textT (textT tk).2).2 1).1, (textT (textT tk).2).1, (numT (numT (textT (textT tk).2).2 1).2 8).1, (numT (numT (numT (textT (textT tk).2).2 1).2 8).2 4).1, (hashT (numT (numT (numT (textT (textT tk).2).2 1).2 8).2 4).2).1⟩ : Vol) by rw [hx])); clear hx; have hox5 := NodeOwn.keep hox4 hgx5 htx4; have hgz5 := grown_trans hgz4 hgx5; have cx5 := (four_cells' hox5.blk).2.2.2; have hcb : ∀ o, (wx5.alloc o).cell? ⟨nb, 3, none⟩ = some vv := fun o => (cell_alloc_old' wx5 o nb 3 (lt_of_block hox5.blk)).trans cx5)
              | (go_at_call 142; refine (tkNumber_any wx3 g (numT (numT (textT (textT tk).2).2 1).2 8).2 4 (by omega) (by omega) htx3 (by omega)).mono ?_; rintro e wx4 ⟨rfl, hgx4, htx4⟩; have hox4 := NodeOwn.keep hox3 hgx4 htx3; have hgz4 := grown_trans hgz3 hgx4; have cx4 := (four_cells' hox4.blk).2.2.2)
              | (go_at_call 142; refine (tkNumber_any wx2 g (numT (textT (textT tk).2).2 1).2 8 (by omega) (by omega) htx2 (by omega)).mono ?_; rintro e wx3 ⟨rfl, hgx3, htx3⟩; have hox3 := NodeOwn.keep hox2 hgx3 htx2; have hgz3 := grown_trans hgz2 hgx3; have cx3 := (four_cells' hox3.blk).2.2.2)
              | (go_at_call 142; refine (tkNumber_any wx1 g (textT (textT tk).2).2 1 (by omega) (by omega) htx1 (by omega)).mono ?_; rintro e wx2 ⟨rfl, hgx2, htx2⟩; have hox2 := NodeOwn.keep hox1 hgx2 htx1; have hgz2 := grown_trans hgz1 hgx2; have cx2 := (four_cells' hox2.blk).2.2.2)
              | (go_at_call 143; refine (tkText_any wx0 g (textT tk).2 htx0 (by omega)).mono ?_; rintro e wx1 ⟨rfl, hgx1, htx1⟩; have hox1 := NodeOwn.keep hox0 hgx1 htx0; have hgz1 := grown_trans hgz0 hgx1; have cx1 := (four_cells' hox1.blk).2.2.2)
              | (go_at_call 143; refine (tkText_any _ g tk (show TkAt wr.drew g tk from HS2.out.1) (by omega)).mono ?_; rintro e wx0 ⟨rfl, hgx0, htx0⟩; have hox0 := NodeOwn.keep (NodeOwn.drew' HS2.out.2.2.2.1) hgx0 (show TkAt wr.drew g tk from HS2.out.1); have hgz0 := grown_trans (grown_drew (World.grownBy.refl wr (some g))) hgx0; have cx0 := (four_cells' hox0.blk).2.2.2)
              | (refine step_vol_append rfl (.tmp 47) (.tmp 63) rfl rfl hox5 ⟨(textT tk).1, (numT (textT (textT tk).2).2 1).1, (textT (textT tk).2).1, (numT (numT (textT (textT tk).2).2 1).2 8).1, (numT (numT (numT (textT (textT tk).2).2 1).2 8).2 4).1, [x0, x1, x2, x3, x4, x5, x6, x7, x8, x9, x10, x11, x12, x13, x14, x15, x16, x17, x18, x19, x20, x21, x22, x23, x24, x25, x26, x27, x28, x29, x30, x31]⟩ (by rw [HXE.out]; exact HOK.out.1.1) (Nat.le_trans hBw hgz5.size) (by omega) (by omega) rfl rfl ?_; intro g' cap wc hc1 hf1 ho3 hb3 htf; rw [HXE.out] at ho3; have HR3 := Lib.hid (And.intro ho3 (And.intro hb3 htf)); clear ho3 hb3 htf))
            all_goals (
              obtain ⟨W3, hW3⟩ : ∃ W3, W3 = wc.setCell ⟨nb, 3, none⟩ (.slice (some ⟨g', 0, none⟩) (n.vols.length + 1) cap) := ⟨_, rfl⟩
              rw [← hW3] at HR3 ⊢
              have hnx := take_next (tk' := (volT tk).2) hlt hl1 (by decide) HS2.out.2.1 HS2.out.2.2.1 hgz5 htx5 HR3.out.2.1 HR3.out.2.2
              have hwf3 : nodeWf { n with vols := n.vols ++ [(volT tk).1] } := ⟨HS2.out.2.2.2.2.1.1, HS2.out.2.2.2.2.1.2.1, fun x hx => by rcases List.mem_append.1 hx with h | h; exact HS2.out.2.2.2.2.1.2.2 x h; simp at h; rw [h]; exact HOK.out.1.1⟩
              have cbad : W3.cell? ⟨g, 1, none⟩ = some (.bool (volT tk).2.bad) := by rw [cell_of_row _ _ _ _ _ _ hnx.1]; rfl
              have HNX := Lib.hid (And.intro hnx hwf3)
              have HW3 := Lib.hid hW3
              clear hnx hwf3 hW3 hcb hc1 hf1 b0 b1 b2 b3 d0 d1 d2 d3 cx0 cx1 cx2 cx3 cx4 cx5
              cases hbad : (volT tk).2.bad with
              | true =>
                have HR := Lib.hid (show takeT t = ({ n with vols := n.vols ++ [(volT tk).1] }, (volT tk).2) by rw [HS2.out.2.2.2.2.2, takeLoop_bad _ _ _ (by rw [HOK.out.2]; exact hbad), HOK.out.2])
                have HF := Lib.hid (And.intro HNX.out.1.1 (And.intro HNX.out.1.2.1 (And.intro HNX.out.1.2.2 (And.intro HR3.out.1 HNX.out.2))))
                rw [hbad] at cbad
                have HFIN := Lib.hid (fin_kd (n := { n with vols := n.vols ++ [(volT tk).1] }) HKD.out n0 n1 hlt (Nat.le_refl _) HF.out.1 HF.out.2.1 HF.out.2.2.1 HF.out.2.2.2.1 HF.out.2.2.2.2)
                have HRB := Lib.hid HF.out.2.2.1
                go_wp2_with (first | (refine wpList_load_row rfl 44 _ rfl nb rfl 44 _ (0, 0) _ HFIN.out.1 Tryz.underlying44 rfl node_size ?_) | (refine wpList_store_at rfl 44 _ _ rfl w.heap.size 0 rfl [_, _, _, _] rfl 44 _ HRB.out (by simp) (by intro v hv; simp at hv; rcases hv with rfl | rfl | rfl | rfl <;> first | rfl | exact HFIN.out.2.1.1 | exact HFIN.out.2.1.2.1 | exact HFIN.out.2.1.2.2) node_size ?_))
                (try rw [Exit.noGoto_ret])
                refine bodyPost_ret (results_cell_row rfl _ _ w.heap.size 44 _ (0, 0) _ rfl HFIN.out.2.2.1 Tryz.underlying44 rfl node_size) rfl ⟨_, rfl, ?_⟩
                rw [HR.out]
                exact HFIN.out.2.2.2
              | false =>
                rw [hbad] at cbad
                go_wp2
                exact ⟨⟨j + 1, { n with vols := n.vols ++ [(volT tk).1] }, (volT tk).2, _, _, _, by omega, by go_num, HKD.out, HNX.out.1.1, HOK.out.1.2, HNX.out.1.2.1, HNX.out.1.2.2, HR3.out.1, HNX.out.2, by rw [HS2.out.2.2.2.2.2, takeLoop_go _ _ _ (by rw [HOK.out.2]; exact hbad), HOK.out.2], by show n.items.length ≤ j + 1; omega, by show n.kids.length ≤ j + 1; omega, by rw [List.length_append]; simp; omega⟩, by simp [intOf]; omega⟩)
          · have hst : stepT n tk = (n, ⟨tk.left, true⟩) := by unfold stepT; rw [if_neg (by rw [HKD.out]; exact hk1), if_neg (by rw [HKD.out]; exact hk2), if_neg (by rw [HKD.out]; exact hk3)]
            have hd1 : (kd == 1) = false := by simpa using hk1
            have hd2 : (kd == 2) = false := by simpa using hk2
            have hd3 : (kd == 3) = false := by simpa using hk3
            have e0 : wr.cell? ⟨g, 0, none⟩ = some (.string tk.left) := by rw [cell_of_row _ _ _ _ _ _ HS2.out.1]; rfl
            have e1 : wr.cell? ⟨g, 1, none⟩ = some (.bool tk.bad) := by rw [cell_of_row _ _ _ _ _ _ HS2.out.1]; rfl
            have f1 : wr.frozen? ⟨g, 1, none⟩ = false := frozen_of_row _ _ _ _ _ HS2.out.1
            have hgs : wr.grownBy (wr.setCell ⟨g, 1, none⟩ (.bool true)) (some g) := grown_set (World.grownBy.refl wr (some g)) 1 _
            have HR := Lib.hid (show takeT t = (n, ⟨tk.left, true⟩) by rw [HS2.out.2.2.2.2.2, takeLoop_bad _ _ _ (by rw [hst]), hst])
            have HF := Lib.hid (And.intro (show TkAt (wr.setCell ⟨g, 1, none⟩ (.bool true)) g ⟨tk.left, true⟩ from blk_set HS2.out.1 1 _) (And.intro (grown_trans HS2.out.2.1 hgs) (And.intro ((hgs.block _ (lt_of_block HS2.out.2.2.1) (by simp; omega)).trans HS2.out.2.2.1) (And.intro (HS2.out.2.2.2.1.keep hgs HS2.out.1) HS2.out.2.2.2.2.1))))
            clear hst hgs b1 b2 b3 d0 d1 d2 d3
            have HFIN := Lib.hid (fin_kd (n := n) HKD.out n0 n1 hlt (Nat.le_refl _) HF.out.1 HF.out.2.1 HF.out.2.2.1 HF.out.2.2.2.1 HF.out.2.2.2.2)
            have HRB := Lib.hid HF.out.2.2.1
            go_wp2_with (first | (refine wpList_load_row rfl 44 _ rfl nb rfl 44 _ (0, 0) _ HFIN.out.1 Tryz.underlying44 rfl node_size ?_) | (refine wpList_store_at rfl 44 _ _ rfl w.heap.size 0 rfl [_, _, _, _] rfl 44 _ HRB.out (by simp) (by intro v hv; simp at hv; rcases hv with rfl | rfl | rfl | rfl <;> first | rfl | exact HFIN.out.2.1.1 | exact HFIN.out.2.1.2.1 | exact HFIN.out.2.1.2.2) node_size ?_))
            (try rw [Exit.noGoto_ret])
            refine bodyPost_ret (results_cell_row rfl _ _ w.heap.size 44 _ (0, 0) _ rfl HFIN.out.2.2.1 Tryz.underlying44 rfl node_size) rfl ⟨_, rfl, ?_⟩
            rw [HR.out]
            exact HFIN.out.2.2.2
    · have hcj : cnt - j = 0 := by omega
      have HR := Lib.hid (show takeT t = (n, tk) by rw [htake, hcj]; rfl)
      have HF := Lib.hid (And.intro htk (And.intro hgw (And.intro hrb (And.intro hown hwf))))
      have HKD := Lib.hid hkd
      clear htk hgw hrb hown hwf htake HS hkd hcj
      have HFIN := Lib.hid (fin_kd (n := n) HKD.out n0 n1 hlt (Nat.le_refl _) HF.out.1 HF.out.2.1 HF.out.2.2.1 HF.out.2.2.2.1 HF.out.2.2.2.2)
      have HRB := Lib.hid HF.out.2.2.1
      go_wp2_with (first | (refine wpList_load_row rfl 44 _ rfl nb rfl 44 _ (0, 0) _ HFIN.out.1 Tryz.underlying44 rfl node_size ?_) | (refine wpList_store_at rfl 44 _ _ rfl w.heap.size 0 rfl [_, _, _, _] rfl 44 _ HRB.out (by simp) (by intro v hv; simp at hv; rcases hv with rfl | rfl | rfl | rfl <;> first | rfl | exact HFIN.out.2.1.1 | exact HFIN.out.2.1.2.1 | exact HFIN.out.2.1.2.2) node_size ?_))
      (try rw [Exit.noGoto_ret])
      refine bodyPost_ret (results_cell_row rfl _ _ w.heap.size 44 _ (0, 0) _ rfl HFIN.out.2.2.1 Tryz.underlying44 rfl node_size) rfl ⟨_, rfl, ?_⟩
      rw [HR.out]
      exact HFIN.out.2.2.2
end Go.Proofs.YthhmcjojnbaiiaaGreatDoor

/- Node.Filled, node.Decode. -/
namespace Go.Proofs.YthhmcjojnbaiiaaGreatDoor
open Go Go.RowKit
def fillB (s : ByteArray) : ByteArray := ⟨(padTo 512 s.data.toList).toArray⟩
theorem fillB_size (s : ByteArray) (h : s.size ≤ 512) : (fillB s).size = 512 := by
  show (padTo 512 s.data.toList).toArray.size = 512
  unfold padTo
  simp; omega
set_option maxHeartbeats 1000000 in
set_option maxRecDepth 100000 in
theorem filled_any (w : World) (s : ByteArray) (hs : s.size ≤ 512) :
    Calls Tryz.prog 97 #[.string s] w fun e w' => e = .returned (.string (fillB s)) ∧ Below w.heap.size w w' := by
  have hi : IntKind.i64.wrap (512 - (s.size : Int)) = ((512 - s.size : Nat) : Int) := by rw [IntKind.wrap_i64]; omega
  have hi2 : (512 - (s.size : Int)) = ((512 - s.size : Nat) : Int) := by omega
  have hmx : max 0 ((512 - s.size : Nat) : Int) = ((512 - s.size : Nat) : Int) := by omega
  have HP := Lib.hid (show s ++ ⟨(Lib.repeatL (⟨#[0]⟩ : ByteArray).data.toList (512 - s.size)).toArray⟩ = fillB s by
    unfold fillB padTo; rw [← repeat_zero]; apply ba_ext; simp)
  have hrl : (Lib.repeatL [0] (512 - s.size)).length = 512 - s.size := by rw [repeat_zero, List.length_replicate]
  go_enter Tryz.func97, Tryz.ntmps97
  go_wp2_with (go_at_call 141; refine (Tryz.strings_Repeat ⟨#[0]⟩ (512 - s.size) _ (by omega) (by rw [show (⟨#[0]⟩ : ByteArray).size = 1 from rfl]; omega)).mono ?_; rintro e w1 ⟨rfl, hb1⟩)
  go_ret
  exact ⟨by rw [← HP.out]; rfl, hb1⟩
theorem stepT_small (n : Node) (t : Tk) : (stepT n t).1.items.length ≤ n.items.length + 1 ∧ (stepT n t).1.kids.length ≤ n.kids.length + 1 ∧ (stepT n t).1.vols.length ≤ n.vols.length + 1 := by
  unfold stepT
  split
  · simp
  · split
    · simp
    · split <;> simp
theorem takeLoop_small : ∀ (c : Nat) (n : Node) (t : Tk), (takeLoop c n t).1.items.length ≤ n.items.length + c ∧ (takeLoop c n t).1.kids.length ≤ n.kids.length + c ∧ (takeLoop c n t).1.vols.length ≤ n.vols.length + c
  | 0, n, t => by simp [takeLoop]
  | c + 1, n, t => by
    have h := stepT_small n t
    unfold takeLoop
    split
    · omega
    · have := takeLoop_small c (stepT n t).1 (stepT n t).2
      omega
theorem takeT_small (t : Tk) : (takeT t).1.items.length ≤ 255 ∧ (takeT t).1.kids.length ≤ 255 ∧ (takeT t).1.vols.length ≤ 255 := by
  unfold takeT
  have h := takeLoop_small (numT (numT t 1).2 1).1.toNat ⟨(numT t 1).1, [], [], []⟩ (numT (numT t 1).2 1).2
  have := numT_one (numT t 1).2
  simp at h
  omega
def decTk (s : ByteArray) : Tk := ⟨(fillB s).extract 4 512, false⟩
def noNode : Node := ⟨0, [], [], []⟩
def decB (s : ByteArray) : Bool :=
  decide (s.size ≤ 512) && (!(takeT (decTk s)).2.bad && (nodeErr (takeT (decTk s)).1 == 0 && decide (wholeL (encL (takeT (decTk s)).1) = s.data.toList)))
def decE (s : ByteArray) : Int := if decB s then 0 else 9
def decN (s : ByteArray) : Node := if decB s then (takeT (decTk s)).1 else noNode
theorem results_node {fn : Func} {t u : Tmp} (h : fn.results = #[.cell t 44, .tmp u]) (tmps : Array Value) (g : Nat) (cs : Array Value) (fr : Nat × Nat) (w : World) (ht : tmps.getD t undef = .pointer (some ⟨g, 0, none⟩))
    (hg : w.heap[g]? = some (.cells cs 44 fr)) (hsz : cs.size = 4) :
    (results fn tmps).run Tryz.prog w = .ok (.tuple #[.agg cs, tmps.getD u undef]) w := by
  have hp' : tmps[t]?.getD undef = .pointer (some ⟨g, 0, none⟩) := by simpa using ht
  have hl := run_loadVar_row (P := Tryz.prog) w g 44 44 cs fr _ hg Tryz.underlying44 rfl (by rw [node_size, hsz])
  simp [results, h, hp', asAddr, hl]
theorem nil_node (w : World) : NodeV w (.agg #[.int .u8 0, .slice none 0 0, .slice none 0 0, .slice none 0 0]) noNode :=
  ⟨_, _, _, rfl, Sl.nil _, Sl.nil _, Sl.nil _, by decide, by decide⟩
theorem fresh_drop {w W : World} (h : Below w.heap.size w W) (cs z : Array Value) (t : TypeId) (hrb : W.heap[w.heap.size]? = some (.cells z t (0, 0))) :
    (W.setRow w.heap.size cs).heap[w.heap.size]? = some (.cells cs t (0, 0)) ∧ Below w.heap.size w (W.setRow w.heap.size cs) :=
  ⟨heap_setRow_same _ _ _ _ _ hrb, ⟨h.os, h.tape, h.output, by simpa [World.setRow] using h.size, fun k hk => (heap_setRow_other _ _ _ _ (by omega)).trans (h.block k hk)⟩⟩
theorem row_keep {α : Type} {E : Enc α} (hf : ∀ x, ∃ q, (E.enc x)[0]? = some (.string q)) {w w' : World} {A : Option Addr} {xs : List α} {rb : Nat} {t : TypeId} {fr : Nat × Nat} (h : Row E w A xs)
    (hrb : w.heap[rb]? = some (.cells #[.int .u8 0, .slice none 0 0, .slice none 0 0, .slice none 0 0] t fr)) (hw : ∀ k, k ≠ rb → w'.heap[k]? = w.heap[k]?) : Row E w' A xs := by
  intro k hk
  obtain ⟨b, o, e, hat, hwf⟩ := h k hk
  refine ⟨b, o, e, ?_, hwf⟩
  by_cases hb : b = rb
  · exfalso
    subst hb
    obtain ⟨q, hq⟩ := hf xs[k]
    have := hat.cell 0 _ hq
    rw [cell_of_row _ _ _ _ _ _ hrb] at this
    generalize o + k * E.sz + 0 = i at this
    match i with
    | 0 => simp at this
    | 1 => simp at this
    | 2 => simp at this
    | 3 => simp at this
    | i + 4 => simp at this
  · exact hat.heap (hw b hb)
theorem sl_keep {α : Type} {E : Enc α} (hf : ∀ x, ∃ q, (E.enc x)[0]? = some (.string q)) {w w' : World} {v : Value} {xs : List α} {rb : Nat} {t : TypeId} {fr : Nat × Nat} (h : Sl E w v xs)
    (hrb : w.heap[rb]? = some (.cells #[.int .u8 0, .slice none 0 0, .slice none 0 0, .slice none 0 0] t fr)) (hw : ∀ k, k ≠ rb → w'.heap[k]? = w.heap[k]?) : Sl E w' v xs := by
  obtain ⟨A, c, e, h1, h2, h3⟩ := h
  exact ⟨A, c, e, h1, h2, row_keep hf h3 hrb hw⟩
theorem nodeV_keep {w : World} {v : Value} {n : Node} {rb : Nat} {t : TypeId} {fr : Nat × Nat} (cs : Array Value) (h : NodeV w v n) (hrb : w.heap[rb]? = some (.cells #[.int .u8 0, .slice none 0 0, .slice none 0 0, .slice none 0 0] t fr)) : NodeV (w.setRow rb cs) v n := by
  obtain ⟨a, b, c, h0, h1, h2, h3, h4⟩ := h
  have hw : ∀ k, k ≠ rb → (w.setRow rb cs).heap[k]? = w.heap[k]? := fun k hk => heap_setRow_other _ _ _ _ hk
  exact ⟨a, b, c, h0, sl_keep (fun x => ⟨x.key, rfl⟩) h1 hrb hw, sl_keep (fun x => ⟨x.key, rfl⟩) h2 hrb hw, sl_keep (fun x => ⟨x.name, rfl⟩) h3 hrb hw, h4⟩
theorem fresh_le {B B' : Nat} {v : Value} (h : Fresh B v) (hB : B' ≤ B) : Fresh B' v := fun k a b c e =>
  ⟨fun g hg => Nat.le_trans hB ((h k a b c e).1 g hg), fun g hg => Nat.le_trans hB ((h k a b c e).2.1 g hg), fun g hg => Nat.le_trans hB ((h k a b c e).2.2 g hg)⟩
theorem nil_nodeF (B : Nat) (w : World) : NodeF B w (.agg #[.int .u8 0, .slice none 0 0, .slice none 0 0, .slice none 0 0]) noNode :=
  ⟨nil_node w, fresh_mk (fun _ h => by cases h) (fun _ h => by cases h) (fun _ h => by cases h)⟩
set_option maxHeartbeats 4000000 in
set_option maxRecDepth 100000 in
theorem decode_fresh (w : World) (s : ByteArray) (hs : s.size ≤ 140737488355328) :
    Calls Tryz.prog 65 #[.string s] w fun e w' => ∃ v, e = .returned (.tuple #[v, .int .i64 (decE s)]) ∧ NodeF w.heap.size w' v (decN s) ∧ nodeWf (decN s) ∧ Below w.heap.size w w' := by
  have hrb0 : (w.alloc (.cells #[.int .u8 0, .slice none 0 0, .slice none 0 0, .slice none 0 0] 44)).heap[w.heap.size]? = some (.cells #[.int .u8 0, .slice none 0 0, .slice none 0 0, .slice none 0 0] 44 (0, 0)) := heap_alloc_new _ _
  have hB0 := (Below.refl w.heap.size w).alloc (Nat.le_refl _) (.cells #[.int .u8 0, .slice none 0 0, .slice none 0 0, .slice none 0 0] 44)
  have H0 := Lib.hid (And.intro hrb0 hB0)
  clear hrb0 hB0
  by_cases hlen : s.size ≤ 512
  · have hd : decide (512 < (s.size : Int)) = false := decide_eq_false (by omega)
    have hfs := fillB_size s hlen
    go_enter Tryz.func65, Tryz.ntmps65
    go_wp2_with (go_at_call 97; refine (filled_any _ s hlen).mono ?_; rintro e w1 ⟨rfl, hb1⟩)
    have hB1 := Below.step H0.out.2 hb1
    have hrb1 := (hb1.block w.heap.size (by simp)).trans H0.out.1
    have htk0 : TkAt (w1.alloc (.cells #[.string ((fillB s).extract 4 512), .bool false] 165)) w1.heap.size (decTk s) := heap_alloc_new _ _
    have hB1' := hB1.alloc hB1.size (.cells #[.string ((fillB s).extract 4 512), .bool false] 165)
    have hrb1' := (Lib.alloc_old w1 (.cells #[.string ((fillB s).extract 4 512), .bool false] 165) _ (lt_of_block hrb1)).trans hrb1
    have hl1 := lt_of_block hrb1
    go_at_call 98
    refine (take_any _ w1.heap.size (decTk s) htk0 (by unfold decTk; simp; omega)).mono ?_
    rintro e w2 ⟨v, rfl, ⟨hnv, hfv⟩, hwf, hgr, htk⟩
    have HFV := Lib.hid (fresh_le hfv hB1'.size)
    clear hfv
    have hsm := takeT_small (decTk s)
    have hrb2 := (hgr.block _ (lt_of_block hrb1') (by simp; omega)).trans hrb1'
    have hB2 : Below w.heap.size w w2 := hB1'.grown hgr hB1'.size (fun k hk => by injection hk with hk; omega)
    obtain ⟨tk, htke⟩ : ∃ tk, (takeT (decTk s)).2 = tk := ⟨_, rfl⟩
    obtain ⟨n, hne⟩ : ∃ n, (takeT (decTk s)).1 = n := ⟨_, rfl⟩
    rw [htke] at htk
    rw [hne] at hnv hwf hsm
    have HD := Lib.hid (show decB s = (!tk.bad && (nodeErr n == 0 && decide (wholeL (encL n) = s.data.toList))) by unfold decB; rw [decide_eq_true hlen, htke, hne]; rfl)
    have HDN := Lib.hid (show decN s = if decB s then n else noNode by unfold decN; rw [hne])
    have HNV := Lib.hid hnv
    obtain ⟨vi, vk, vv, rfl, hsi, hsk, hsv, hk0, hk1⟩ := hnv
    have H2 := Lib.hid (And.intro hB2 (And.intro hrb2 (And.intro htk (And.intro hwf hsm))))
    have hone : vi.oneCell' = true ∧ vk.oneCell' = true ∧ vv.oneCell' = true := by
      obtain ⟨_, _, e1, _⟩ := hsi
      obtain ⟨_, _, e2, _⟩ := hsk
      obtain ⟨_, _, e3, _⟩ := hsv
      rw [e1, e2, e3]; exact ⟨rfl, rfl, rfl⟩
    have HONE := Lib.hid hone
    have hnb : (w2.alloc (.cells #[.int .u8 n.kind, vi, vk, vv] 44)).heap[w2.heap.size]? = some (.cells #[.int .u8 n.kind, vi, vk, vv] 44 (0, 0)) := heap_alloc_new _ _
    have HNB := Lib.hid hnb
    clear htke hne htk hwf hsm hB1 hrb1 htk0 hB1' hrb1' hgr hB2 hrb2 hsi hsk hsv hone hnb hb1
    generalize w1.heap.size = tb at *
    go_wp2_with ((with_reducible refine probe_store ?_); refine wpList_store_new rfl 44 (.tmp 5) (.tmp 18) rfl 44 _ rfl [_, _, _, _] rfl rfl (by intro v hv; simp at hv; rcases hv with rfl | rfl | rfl | rfl <;> first | rfl | exact HONE.out.1 | exact HONE.out.2.1 | exact HONE.out.2.2) node_size ?_)
    go_at_call 85
    refine (encode_any _ _ n (HNV.out.below ((Below.refl _ _).alloc (Nat.le_refl _) _) (Nat.le_refl _)) ⟨by have := H2.out.2.2.2.2.1; omega, by have := H2.out.2.2.2.2.2.1; omega, by have := H2.out.2.2.2.2.2.2; omega⟩).mono ?_
    rintro e w3 ⟨rfl, hb3⟩
    have hB3 : Below w.heap.size w w3 := (H2.out.1.alloc H2.out.1.size _).trans (hb3.mono (by have := H2.out.1.size; simp; omega))
    have hrb3 : w3.heap[w.heap.size]? = some (.cells #[.int .u8 0, .slice none 0 0, .slice none 0 0, .slice none 0 0] 44 (0, 0)) :=
      (hb3.block _ (by have := lt_of_block H2.out.2.1; simp; omega)).trans ((Lib.alloc_old w2 _ _ (lt_of_block H2.out.2.1)).trans H2.out.2.1)
    have htk3 : TkAt w3 tb tk := (hb3.block _ (by have := lt_of_block H2.out.2.2.1; simp; omega)).trans ((Lib.alloc_old w2 _ _ (lt_of_block H2.out.2.2.1)).trans H2.out.2.2.1)
    have hnb3 : w3.heap[w2.heap.size]? = some (.cells #[.int .u8 n.kind, vi, vk, vv] 44 (0, 0)) := (hb3.block _ (by simp)).trans (heap_alloc_new _ _)
    have hnv3 : NodeV w3 (.agg #[.int .u8 n.kind, vi, vk, vv]) n := HNV.out.below (((Below.refl _ _).alloc (Nat.le_refl _) _).trans (hb3.mono (by simp))) (Nat.le_refl _)
    have cbad : w3.cell? ⟨tb, 1, none⟩ = some (.bool tk.bad) := by rw [cell_of_row _ _ _ _ _ _ htk3]; rfl
    have H3 := Lib.hid (And.intro hB3 (And.intro hrb3 (And.intro hnb3 hnv3)))
    clear hB3 hrb3 htk3 hnb3 hnv3 hb3
    have BAD : ∀ (_ : decB s = false), decE s = 9 ∧ decN s = noNode := fun h => ⟨by unfold decE; rw [h]; rfl, by unfold decN; rw [h]; rfl⟩
    have HBAD := Lib.hid BAD
    clear BAD
    cases hbad : tk.bad with
    | true =>
      have hdf := HBAD.out (by rw [HD.out, hbad]; rfl)
      have HDF := Lib.hid hdf
      clear hdf
      rw [hbad] at cbad
      by_cases hne : nodeErr n = 0
      · rw [if_pos hne]
        clear hne
        go_wp2_with (first | (refine wpList_load_row rfl 44 _ rfl w2.heap.size rfl 44 _ (0, 0) _ H3.out.2.2.1 Tryz.underlying44 rfl node_size ?_) | (refine wpList_store_at rfl 44 _ _ rfl w.heap.size 0 rfl [_, _, _, _] rfl 44 _ H3.out.2.1 (by simp) (by intro v hv; simp at hv; rcases hv with rfl | rfl | rfl | rfl <;> rfl) node_size ?_))
        refine bodyPost_ret (results_node rfl _ w.heap.size _ (0, 0) _ rfl (fresh_drop H3.out.1 #[.int .u8 0, .slice none 0 0, .slice none 0 0, .slice none 0 0] _ _ H3.out.2.1).1 rfl) rfl ⟨.agg #[.int .u8 0, .slice none 0 0, .slice none 0 0, .slice none 0 0], ?_, ?_, ?_, (fresh_drop H3.out.1 #[.int .u8 0, .slice none 0 0, .slice none 0 0, .slice none 0 0] _ _ H3.out.2.1).2⟩
        · rw [HDF.out.1]; rfl
        · rw [HDF.out.2]; exact nil_nodeF _ _
        · rw [HDF.out.2]; exact ⟨by simp [noNode], by simp [noNode], by simp [noNode]⟩
      · rw [if_neg hne]
        clear hne
        go_wp2_with (first | (refine wpList_load_row rfl 44 _ rfl w2.heap.size rfl 44 _ (0, 0) _ H3.out.2.2.1 Tryz.underlying44 rfl node_size ?_) | (refine wpList_store_at rfl 44 _ _ rfl w.heap.size 0 rfl [_, _, _, _] rfl 44 _ H3.out.2.1 (by simp) (by intro v hv; simp at hv; rcases hv with rfl | rfl | rfl | rfl <;> rfl) node_size ?_))
        refine bodyPost_ret (results_node rfl _ w.heap.size _ (0, 0) _ rfl (fresh_drop H3.out.1 #[.int .u8 0, .slice none 0 0, .slice none 0 0, .slice none 0 0] _ _ H3.out.2.1).1 rfl) rfl ⟨.agg #[.int .u8 0, .slice none 0 0, .slice none 0 0, .slice none 0 0], ?_, ?_, ?_, (fresh_drop H3.out.1 #[.int .u8 0, .slice none 0 0, .slice none 0 0, .slice none 0 0] _ _ H3.out.2.1).2⟩
        · rw [HDF.out.1]; rfl
        · rw [HDF.out.2]; exact nil_nodeF _ _
        · rw [HDF.out.2]; exact ⟨by simp [noNode], by simp [noNode], by simp [noNode]⟩
    | false =>
      rw [hbad] at cbad
      by_cases hne : nodeErr n = 0
      · rw [if_pos hne]
        by_cases heq : wholeL (encL n) = s.data.toList
        · have hdt : decB s = true := by rw [HD.out, hbad, hne, decide_eq_true heq]; rfl
          have HDT := Lib.hid hdt
          have hse : (⟨(wholeL (encL n)).toArray⟩ : ByteArray) = s := by rw [heq]
          rw [hse]
          have hbq : (s.toList == s.toList) = true := by simp
          clear hne heq hse hdt
          go_wp2_with (first | (refine wpList_load_row rfl 44 _ rfl w2.heap.size rfl 44 _ (0, 0) _ H3.out.2.2.1 Tryz.underlying44 rfl node_size ?_) | (refine wpList_store_at rfl 44 _ _ rfl w.heap.size 0 rfl [_, _, _, _] rfl 44 _ H3.out.2.1 (by simp) (by intro v hv; simp at hv; rcases hv with rfl | rfl | rfl | rfl <;> first | rfl | exact HONE.out.1 | exact HONE.out.2.1 | exact HONE.out.2.2) node_size ?_))
          have hfd := fresh_drop H3.out.1 #[.int .u8 n.kind, vi, vk, vv] _ _ H3.out.2.1
          refine bodyPost_ret (results_node rfl _ w.heap.size _ (0, 0) _ rfl hfd.1 rfl) rfl ⟨.agg #[.int .u8 n.kind, vi, vk, vv], ?_, ?_, ?_, hfd.2⟩
          · have : decE s = 0 := by unfold decE; rw [HDT.out]; rfl
            rw [this]; rfl
          · have : decN s = n := by rw [HDN.out, HDT.out]; rfl
            rw [this]
            exact ⟨nodeV_keep _ H3.out.2.2.2 H3.out.2.1, HFV.out⟩
          · have : decN s = n := by rw [HDN.out, HDT.out]; rfl
            rw [this]; exact H2.out.2.2.2.1
        · have hdf := HBAD.out (by rw [HD.out, decide_eq_false heq]; simp)
          have HDF := Lib.hid hdf
          have hbq : ((⟨(wholeL (encL n)).toArray⟩ : ByteArray).toList == s.toList) = false := by
            rw [← Bool.not_eq_true]; intro hh
            exact heq (by have := (beqB_iff _ _).1 hh; rw [← this])
          have hbq2 : (wholeL (encL n) == s.toList) = false := by
            rw [← Bool.not_eq_true, beq_iff_eq, ByteArray.toList_eq]; exact heq
          clear hne heq hdf
          go_wp2_with (first | (refine wpList_load_row rfl 44 _ rfl w2.heap.size rfl 44 _ (0, 0) _ H3.out.2.2.1 Tryz.underlying44 rfl node_size ?_) | (refine wpList_store_at rfl 44 _ _ rfl w.heap.size 0 rfl [_, _, _, _] rfl 44 _ H3.out.2.1 (by simp) (by intro v hv; simp at hv; rcases hv with rfl | rfl | rfl | rfl <;> rfl) node_size ?_))
          refine bodyPost_ret (results_node rfl _ w.heap.size _ (0, 0) _ rfl (fresh_drop H3.out.1 #[.int .u8 0, .slice none 0 0, .slice none 0 0, .slice none 0 0] _ _ H3.out.2.1).1 rfl) rfl ⟨.agg #[.int .u8 0, .slice none 0 0, .slice none 0 0, .slice none 0 0], ?_, ?_, ?_, (fresh_drop H3.out.1 #[.int .u8 0, .slice none 0 0, .slice none 0 0, .slice none 0 0] _ _ H3.out.2.1).2⟩
          · rw [HDF.out.1]; rfl
          · rw [HDF.out.2]; exact nil_nodeF _ _
          · rw [HDF.out.2]; exact ⟨by simp [noNode], by simp [noNode], by simp [noNode]⟩
      · have hdf := HBAD.out (by rw [HD.out, beq_eq_false_iff_ne.2 hne]; simp)
        have HDF := Lib.hid hdf
        have hne2 : (nodeErr n == 0) = false := beq_eq_false_iff_ne.2 hne
        have hne3 : (nodeErr n != 0) = true := bne_iff_ne.2 hne
        rw [if_neg hne]
        clear hne hdf
        go_wp2_with (first | (refine wpList_load_row rfl 44 _ rfl w2.heap.size rfl 44 _ (0, 0) _ H3.out.2.2.1 Tryz.underlying44 rfl node_size ?_) | (refine wpList_store_at rfl 44 _ _ rfl w.heap.size 0 rfl [_, _, _, _] rfl 44 _ H3.out.2.1 (by simp) (by intro v hv; simp at hv; rcases hv with rfl | rfl | rfl | rfl <;> rfl) node_size ?_))
        refine bodyPost_ret (results_node rfl _ w.heap.size _ (0, 0) _ rfl (fresh_drop H3.out.1 #[.int .u8 0, .slice none 0 0, .slice none 0 0, .slice none 0 0] _ _ H3.out.2.1).1 rfl) rfl ⟨.agg #[.int .u8 0, .slice none 0 0, .slice none 0 0, .slice none 0 0], ?_, ?_, ?_, (fresh_drop H3.out.1 #[.int .u8 0, .slice none 0 0, .slice none 0 0, .slice none 0 0] _ _ H3.out.2.1).2⟩
        · rw [HDF.out.1]; rfl
        · rw [HDF.out.2]; exact nil_nodeF _ _
        · rw [HDF.out.2]; exact ⟨by simp [noNode], by simp [noNode], by simp [noNode]⟩
  · have hd : decide (512 < (s.size : Int)) = true := decide_eq_true (by omega)
    have HD := Lib.hid (show decB s = false by unfold decB; rw [decide_eq_false hlen]; rfl)
    have HE := Lib.hid (show decE s = 9 by unfold decE; rw [HD.out]; rfl)
    have HDN := Lib.hid (show decN s = noNode by unfold decN; rw [HD.out]; rfl)
    go_enter Tryz.func65, Tryz.ntmps65
    go_wp2
    refine bodyPost_ret (results_node rfl _ w.heap.size _ (0, 0) _ rfl H0.out.1 rfl) rfl ⟨.agg #[.int .u8 0, .slice none 0 0, .slice none 0 0, .slice none 0 0], ?_, ?_, ?_, H0.out.2⟩
    · rw [HE.out]; rfl
    · rw [HDN.out]; exact nil_nodeF _ _
    · rw [HDN.out]; exact ⟨by simp [noNode], by simp [noNode], by simp [noNode]⟩
theorem decode_any (w : World) (s : ByteArray) (hs : s.size ≤ 140737488355328) :
    Calls Tryz.prog 65 #[.string s] w fun e w' => ∃ v, e = .returned (.tuple #[v, .int .i64 (decE s)]) ∧ NodeV w' v (decN s) ∧ nodeWf (decN s) ∧ Below w.heap.size w w' :=
  (decode_fresh w s hs).mono fun _ _ ⟨v, h1, h2, h3⟩ => ⟨v, h1, h2.1, h3⟩
end Go.Proofs.YthhmcjojnbaiiaaGreatDoor
