/- Texts of the proof: Tb. -/
import Derived.Test.YthhmcjojnbaiiaaGreatDoorM34
set_option linter.all false
/- Tree: Blocks, Levels. -/
namespace Go.Proofs.YthhmcjojnbaiiaaGreatDoor
open Go Go.RowKit
def TblocksPost (w : World) (h : Hp) (root : Int) (e : Ending) (w' : World) : Prop := ∃ r ks, e = .returned (.tuple #[r, .int .i64 (topenE h root)]) ∧ Sl u32E w' r ks ∧ (topenE h root = 0 → ks.Perm (topenK h root)) ∧ Below w.heap.size w w'
set_option maxRecDepth 100000 in
set_option maxHeartbeats 1000000 in
theorem tblocks_any (K : Nat) (hS : SortOk K) (hC : CompactOk K) (w : World) (v : Value) (h : Hp) (root : Int) (hv : HeapV w v h) (hmax : h.cells.length ≤ 1073741824) (hr : ReadOk K h root) :
    Calls Tryz.prog 16 #[v, .int .u32 root] w fun e w' => TblocksPost w h root e w' := by
  have HVV := Lib.hid hv
  obtain ⟨cv, rfl, hsl, hsz⟩ := hv
  obtain ⟨C, cn, cc, rfl⟩ := sl_slice hsl
  have HB := Lib.hid (below_box w (.cells #[.int .u32 h.size, .slice C cn cc] 25))
  clear hsl
  go_enter Tryz.func16, Tryz.ntmps16
  go_wp2_with (fail)
  go_at_call 40
  refine (topen_any K hS hC _ _ h root (HVV.out.below HB.out (Nat.le_refl _)) hmax hr.il hr.bl hr.few hr.nd hr.u32 hr.ne).mono ?_
  rintro e w1 ⟨hb1, h1⟩
  have HB1 := Lib.hid (HB.out.trans (hb1.mono (by simp)))
  clear hb1
  rcases h1 with ⟨he, w0, rp, C', bv, iv, ks, hle, rfl, hrd, hpm, _⟩ | ⟨he, rfl⟩
  · obtain ⟨m, hm⟩ := hrd.blk
    have c2 : w1.cell? ⟨rp, 1, none⟩ = some bv := by rw [cell_of_row _ _ _ _ _ _ hm]; rfl
    have hrl := hrd.lt
    have HR := Lib.hid (And.intro he (And.intro hrd hpm))
    clear he hrd hm hpm
    go_wp2_with (fail)
    go_ret2
    exact ⟨bv, ks, by rw [HR.out.1]; rfl, u32_sl HR.out.2.1.ob rfl (fun x hx => hr.u32 x (HR.out.2.2.mem_iff.1 hx)), fun _ => HR.out.2.2, HB1.out⟩
  · have HR := Lib.hid he
    have hq : (topenE h root != 0) = true := by simpa using he
    clear he
    generalize hte : topenE h root = te at *
    have HTE := Lib.hid hte
    clear hte
    go_wp2_with (fail)
    go_ret2
    exact ⟨.slice none 0 0, [], by rw [HTE.out]; rfl, Sl.nil _, fun h0 => absurd (HTE.out ▸ h0) HR.out, HB1.out⟩
def TlevelsPost (w : World) (h : Hp) (root : Int) (e : Ending) (w' : World) : Prop := (∃ n : Nat, e = .returned (.tuple #[.int .i64 n, .int .i64 (topenE h root)]) ∧ (topenE h root = 0 → n = topenL h root)) ∧ Below w.heap.size w w'
set_option maxRecDepth 100000 in
set_option maxHeartbeats 1000000 in
theorem tlevels_any (K : Nat) (hS : SortOk K) (hC : CompactOk K) (w : World) (v : Value) (h : Hp) (root : Int) (hv : HeapV w v h) (hmax : h.cells.length ≤ 1073741824) (hr : ReadOk K h root) :
    Calls Tryz.prog 18 #[v, .int .u32 root] w fun e w' => TlevelsPost w h root e w' := by
  have HVV := Lib.hid hv
  obtain ⟨cv, rfl, hsl, hsz⟩ := hv
  obtain ⟨C, cn, cc, rfl⟩ := sl_slice hsl
  have HB := Lib.hid (below_box w (.cells #[.int .u32 h.size, .slice C cn cc] 25))
  clear hsl
  go_enter Tryz.func18, Tryz.ntmps18
  go_wp2_with (fail)
  go_at_call 40
  refine (topen_any K hS hC _ _ h root (HVV.out.below HB.out (Nat.le_refl _)) hmax hr.il hr.bl hr.few hr.nd hr.u32 hr.ne).mono ?_
  rintro e w1 ⟨hb1, h1⟩
  have HB1 := Lib.hid (HB.out.trans (hb1.mono (by simp)))
  clear hb1
  rcases h1 with ⟨he, w0, rp, C', bv, iv, ks, hle, rfl, hrd, hpm, _⟩ | ⟨he, rfl⟩
  · have HR := Lib.hid he
    clear he hrd hpm
    generalize htl : topenL h root = tl at *
    have HTL := Lib.hid htl
    clear htl
    go_wp2_with (fail)
    go_ret2
    exact ⟨⟨tl, by rw [HR.out]; rfl, fun _ => HTL.out.symm⟩, HB1.out⟩
  · have HR := Lib.hid he
    clear he
    generalize hte : topenE h root = te at *
    have HTE := Lib.hid hte
    clear hte
    go_wp2_with (fail)
    go_ret2
    exact ⟨⟨0, by rw [HTE.out]; rfl, fun h0 => absurd (HTE.out ▸ h0) (HTE.out ▸ HR.out)⟩, HB1.out⟩
end Go.Proofs.YthhmcjojnbaiiaaGreatDoor
