/- Texts of the proof: Tk5 V0. -/
import Derived.Test.YtpaohkkhejpgjaaGreatDoorM6
import Derived.Test.YtpaohkkhejpgjaaGreatDoorM5
import Derived.Test.YtpaohkkhejpgjaaGreatDoorM1
import Derived.Test.YtpaohkkhejpgjaaGreatDoorM2
set_option linter.all false
set_option maxRecDepth 100000
set_option maxHeartbeats 8000000
namespace Go.Proofs.YtpaohkkhejpgjaaGreatDoor
open Go Go.RowKit
theorem item_info : (Tryz.prog.info? 165).map (fun i => (i.zero.map (fun z => z.cells.size), i.size, i.bytes)) = some (some 2, 2, 32) := by kernel_rfl
theorem kid_info : (Tryz.prog.info? 40).map (fun i => (i.zero.map (fun z => z.cells.size), i.size, i.bytes)) = some (some 34, 34, 56) := by kernel_rfl
theorem vol_info : (Tryz.prog.info? 155).map (fun i => (i.zero.map (fun z => z.cells.size), i.size, i.bytes)) = some (some 37, 37, 88) := by kernel_rfl
theorem jbw {e : TypeId} {s b : Nat} (h : (Tryz.prog.info? e).map (fun i => (i.zero.map (fun z => z.cells.size), i.size, i.bytes)) = some (some s, s, b)) :
 ∃ i z, Tryz.prog.info? e = some i ∧ i.zero = some z ∧ i.size = s ∧ i.bytes = b ∧ z.cells.size = s := by
 cases hi : Tryz.prog.info? e with
 | none => simp [hi] at h
 | some i =>
  simp only [hi, Option.map_some, Option.some.injEq, Prod.mk.injEq] at h
  obtain ⟨h1, h2, h3⟩ := h
  cases hz : i.zero with
  | none => simp [hz] at h1
  | some z => exact ⟨i, z, rfl, hz, h2, h3, by simpa [hz] using h1⟩
theorem flat_one' {α : Type} (E : Enc α) (xs : List α) (x : α) : (xs ++ [x]).flatMap E.enc = xs.flatMap E.enc ++ E.enc x := by simp
def je9 (b : Nat) (T : TypeId) (w w' : World) : Prop :=
 ∀ (g : Nat) (cs : Array Value) (t : TypeId) (fr : Nat × Nat), g ≠ b → w.heap[g]? = some (.cells cs t fr) → t ≠ T → w'.heap[g]? = some (.cells cs t fr)
theorem item_append {B nb : Nat} {n : Node} {wb : World} {vi vk vv : Value} (h : NodeOwn B nb n wb vi vk vv) (x : Item) (hx : itemE.wf x) (hB : B ≤ wb.heap.size) (hBn : B ≤ nb) (hlen : n.items.length ≤ 100000) :
 ∃ g' cap wc, (Builtin.append_ #[55, 55] 55 #[vi, .slice (some ⟨wb.heap.size, 0, none⟩) 1 1]).run Tryz.prog (wb.alloc (.cells (itemE.enc x).toArray 165)) = .ok (.slice (some ⟨g', 0, none⟩) (n.items.length + 1) cap) wc ∧
  wc.cell? ⟨nb, 1, none⟩ = some vi ∧ wc.frozen? ⟨nb, 1, none⟩ = false ∧
  NodeOwn B nb { n with items := n.items ++ [x] } (wc.setCell ⟨nb, 1, none⟩ (.slice (some ⟨g', 0, none⟩) (n.items.length + 1) cap)) (.slice (some ⟨g', 0, none⟩) (n.items.length + 1) cap) vk vv ∧
  Below B wb (wc.setCell ⟨nb, 1, none⟩ (.slice (some ⟨g', 0, none⟩) (n.items.length + 1) cap)) ∧ je9 nb 165 wb (wc.setCell ⟨nb, 1, none⟩ (.slice (some ⟨g', 0, none⟩) (n.items.length + 1) cap)) := by
 obtain ⟨i0, z, hi, hz, hsz, hby, hzs⟩ := jbw item_info
 have hl := itemE.len x hx
 have hlt := lt_of_block h.blk
 have ha : ∀ k, k < wb.heap.size → (wb.alloc (.cells (itemE.enc x).toArray 165)).heap[k]? = wb.heap[k]? := fun k hk => Lib.alloc_old wb _ k hk
 obtain ⟨g', cap, wc, hr, ho, hgc, hlie, hltg⟩ := run_append_lies (P := Tryz.prog) (wb.alloc (.cells (itemE.enc x).toArray 165)) 55 55 B 165 i0 z 2 32 Tryz.underlying55 hi hz hsz hby hzs (by omega) vi n.items.length _ (h.oi.alloc _) ⟨wb.heap.size, 0, none⟩ 1 1 (itemE.enc x) (by rw [hl]; rfl) (fun j u hj => by rw [jcl, Nat.zero_add]; exact jay j u hj) (itemE.one x hx) (by omega) (by unfold maxLen; omega) (by omega) (by simp; omega) _ rfl
 have hnb : wc.heap[nb]? = some (.cells #[.int .u8 n.kind, vi, vk, vv] 59 (0, 0)) := by
  rw [hgc.block nb (by simp; omega) (fun e => jb8 h.oi h.blk (by decide) e.symm), ha nb hlt]; exact h.blk
 have hset : (wc.setCell ⟨nb, 1, none⟩ (.slice (some ⟨g', 0, none⟩) (n.items.length + 1) cap)).heap[nb]? = some (.cells #[.int .u8 n.kind, .slice (some ⟨g', 0, none⟩) (n.items.length + 1) cap, vk, vv] 59 (0, 0)) := ja2 hnb 1 _
 have hgs : wc.grownBy (wc.setCell ⟨nb, 1, none⟩ (.slice (some ⟨g', 0, none⟩) (n.items.length + 1) cap)) (some nb) := jap (World.grownBy.refl wc (some nb)) 1 _
 refine ⟨g', cap, wc, hr, ?_, frozen_of_row wc nb 1 _ _ hnb, ⟨hset, by have := jat ho hgs hnb (by decide); rw [flat_one', List.length_append]; exact this, jat (jfy (h.ok.alloc _) (h.oi.alloc _) hgc (by decide)) hgs hnb (by decide), jat (jfy (h.ov.alloc _) (h.oi.alloc _) hgc (by decide)) hgs hnb (by decide)⟩, ?_, ?_⟩
 · rw [cell_of_row wc nb 1 _ _ _ hnb]; rfl
 · exact (((Below.refl B wb).alloc hB _).grown hgc (by simp; omega) (fun k hk => (h.oi.lt k hk).1)).setCell (p := ⟨nb, 1, none⟩) hBn _
 · intro g cs t fr hg hh ht
   have hgl := lt_of_block hh
   rw [hgs.block g (by have := hgc.size; simp at this; omega) (by simpa using hg), hgc.block g (by simp; omega) (fun e => jb8 h.oi hh ht e.symm), ha g hgl]
   exact hh
theorem jkq {ops : Array Oper} {o : Oper} {a : Act} {K : Act → World → Prop} {Q : Exit → Act → World → Prop} {E : Prop} {B nb : Nat} {n : Node} {wb : World} {vi vk vv : Value} (hgd : o.guard = none) (s y : Operand)
 (ho : o.op = .call { callee := .builtin .append, args := #[s, y], argTypes := #[55, 55] }) (hty : o.type = 55) (h : NodeOwn B nb n wb vi vk vv) (x : Item) (hx : itemE.wf x) (hB : B ≤ wb.heap.size) (hBn : B ≤ nb) (hlen : n.items.length ≤ 100000)
 (hs : a.eval s = vi) (hy : a.eval y = .slice (some ⟨wb.heap.size, 0, none⟩) 1 1)
 (hK : ∀ g' cap wc, wc.cell? ⟨nb, 1, none⟩ = some vi → wc.frozen? ⟨nb, 1, none⟩ = false →
  NodeOwn B nb { n with items := n.items ++ [x] } (wc.setCell ⟨nb, 1, none⟩ (.slice (some ⟨g', 0, none⟩) (n.items.length + 1) cap)) (.slice (some ⟨g', 0, none⟩) (n.items.length + 1) cap) vk vv →
  Below B wb (wc.setCell ⟨nb, 1, none⟩ (.slice (some ⟨g', 0, none⟩) (n.items.length + 1) cap)) → je9 nb 165 wb (wc.setCell ⟨nb, 1, none⟩ (.slice (some ⟨g', 0, none⟩) (n.items.length + 1) cap)) → K (a.put o.dst (.slice (some ⟨g', 0, none⟩) (n.items.length + 1) cap)) wc) :
 if Region.wanted o (yielded ops a.tmps) = true then Oper.wp Tryz.prog o a (wb.alloc (.cells (itemE.enc x).toArray 165)) K Q else E := by
 have hw : Region.wanted o (yielded ops a.tmps) = true := by simp [Region.wanted, hgd]
 rw [if_pos hw]
 obtain ⟨g', cap, wc, hr, h1, h2, h3, h4, h5⟩ := item_append h x hx hB hBn hlen
 unfold Oper.wp execOp
 simp only [ho, hty, resolve, invoke, builtin, Sem.run_bind, Sem.run_pure, Result.andThen_ok, List.map_toArray, List.map_cons, List.map_nil, hs, hy, hr]
 exact hK g' cap wc h1 h2 h3 h4 h5
theorem kid_append {B nb : Nat} {n : Node} {wb : World} {vi vk vv : Value} (h : NodeOwn B nb n wb vi vk vv) (x : Kid) (hx : kidE.wf x) (hB : B ≤ wb.heap.size) (hBn : B ≤ nb) (hlen : n.kids.length ≤ 100000) :
 ∃ g' cap wc, (Builtin.append_ #[56, 56] 56 #[vk, .slice (some ⟨wb.heap.size, 0, none⟩) 1 1]).run Tryz.prog (wb.alloc (.cells (kidE.enc x).toArray 40)) = .ok (.slice (some ⟨g', 0, none⟩) (n.kids.length + 1) cap) wc ∧
  wc.cell? ⟨nb, 2, none⟩ = some vk ∧ wc.frozen? ⟨nb, 2, none⟩ = false ∧
  NodeOwn B nb { n with kids := n.kids ++ [x] } (wc.setCell ⟨nb, 2, none⟩ (.slice (some ⟨g', 0, none⟩) (n.kids.length + 1) cap)) vi (.slice (some ⟨g', 0, none⟩) (n.kids.length + 1) cap) vv ∧
  Below B wb (wc.setCell ⟨nb, 2, none⟩ (.slice (some ⟨g', 0, none⟩) (n.kids.length + 1) cap)) ∧ je9 nb 40 wb (wc.setCell ⟨nb, 2, none⟩ (.slice (some ⟨g', 0, none⟩) (n.kids.length + 1) cap)) := by
 obtain ⟨i0, z, hi, hz, hsz, hby, hzs⟩ := jbw kid_info
 have hl := kidE.len x hx
 have hlt := lt_of_block h.blk
 have ha : ∀ k, k < wb.heap.size → (wb.alloc (.cells (kidE.enc x).toArray 40)).heap[k]? = wb.heap[k]? := fun k hk => Lib.alloc_old wb _ k hk
 obtain ⟨g', cap, wc, hr, ho, hgc, hlie, hltg⟩ := run_append_lies (P := Tryz.prog) (wb.alloc (.cells (kidE.enc x).toArray 40)) 56 56 B 40 i0 z 34 56 Tryz.underlying56 hi hz hsz hby hzs (by omega) vk n.kids.length _ (h.ok.alloc _) ⟨wb.heap.size, 0, none⟩ 1 1 (kidE.enc x) (by rw [hl]; rfl) (fun j u hj => by rw [jcl, Nat.zero_add]; exact jay j u hj) (kidE.one x hx) (by omega) (by unfold maxLen; omega) (by omega) (by simp; omega) _ rfl
 have hnb : wc.heap[nb]? = some (.cells #[.int .u8 n.kind, vi, vk, vv] 59 (0, 0)) := by
  rw [hgc.block nb (by simp; omega) (fun e => jb8 h.ok h.blk (by decide) e.symm), ha nb hlt]; exact h.blk
 have hset : (wc.setCell ⟨nb, 2, none⟩ (.slice (some ⟨g', 0, none⟩) (n.kids.length + 1) cap)).heap[nb]? = some (.cells #[.int .u8 n.kind, vi, .slice (some ⟨g', 0, none⟩) (n.kids.length + 1) cap, vv] 59 (0, 0)) := ja2 hnb 2 _
 have hgs : wc.grownBy (wc.setCell ⟨nb, 2, none⟩ (.slice (some ⟨g', 0, none⟩) (n.kids.length + 1) cap)) (some nb) := jap (World.grownBy.refl wc (some nb)) 2 _
 refine ⟨g', cap, wc, hr, ?_, frozen_of_row wc nb 2 _ _ hnb, ⟨hset, jat (jfy (h.oi.alloc _) (h.ok.alloc _) hgc (by decide)) hgs hnb (by decide), by have := jat ho hgs hnb (by decide); rw [flat_one', List.length_append]; exact this, jat (jfy (h.ov.alloc _) (h.ok.alloc _) hgc (by decide)) hgs hnb (by decide)⟩, ?_, ?_⟩
 · rw [cell_of_row wc nb 2 _ _ _ hnb]; rfl
 · exact (((Below.refl B wb).alloc hB _).grown hgc (by simp; omega) (fun k hk => (h.ok.lt k hk).1)).setCell (p := ⟨nb, 2, none⟩) hBn _
 · intro g cs t fr hg hh ht
   have hgl := lt_of_block hh
   rw [hgs.block g (by have := hgc.size; simp at this; omega) (by simpa using hg), hgc.block g (by simp; omega) (fun e => jb8 h.ok hh ht e.symm), ha g hgl]
   exact hh
theorem jl1 {ops : Array Oper} {o : Oper} {a : Act} {K : Act → World → Prop} {Q : Exit → Act → World → Prop} {E : Prop} {B nb : Nat} {n : Node} {wb : World} {vi vk vv : Value} (hgd : o.guard = none) (s y : Operand)
 (ho : o.op = .call { callee := .builtin .append, args := #[s, y], argTypes := #[56, 56] }) (hty : o.type = 56) (h : NodeOwn B nb n wb vi vk vv) (x : Kid) (hx : kidE.wf x) (hB : B ≤ wb.heap.size) (hBn : B ≤ nb) (hlen : n.kids.length ≤ 100000)
 (hs : a.eval s = vk) (hy : a.eval y = .slice (some ⟨wb.heap.size, 0, none⟩) 1 1)
 (hK : ∀ g' cap wc, wc.cell? ⟨nb, 2, none⟩ = some vk → wc.frozen? ⟨nb, 2, none⟩ = false →
  NodeOwn B nb { n with kids := n.kids ++ [x] } (wc.setCell ⟨nb, 2, none⟩ (.slice (some ⟨g', 0, none⟩) (n.kids.length + 1) cap)) vi (.slice (some ⟨g', 0, none⟩) (n.kids.length + 1) cap) vv →
  Below B wb (wc.setCell ⟨nb, 2, none⟩ (.slice (some ⟨g', 0, none⟩) (n.kids.length + 1) cap)) → je9 nb 40 wb (wc.setCell ⟨nb, 2, none⟩ (.slice (some ⟨g', 0, none⟩) (n.kids.length + 1) cap)) → K (a.put o.dst (.slice (some ⟨g', 0, none⟩) (n.kids.length + 1) cap)) wc) :
 if Region.wanted o (yielded ops a.tmps) = true then Oper.wp Tryz.prog o a (wb.alloc (.cells (kidE.enc x).toArray 40)) K Q else E := by
 have hw : Region.wanted o (yielded ops a.tmps) = true := by simp [Region.wanted, hgd]
 rw [if_pos hw]
 obtain ⟨g', cap, wc, hr, h1, h2, h3, h4, h5⟩ := kid_append h x hx hB hBn hlen
 unfold Oper.wp execOp
 simp only [ho, hty, resolve, invoke, builtin, Sem.run_bind, Sem.run_pure, Result.andThen_ok, List.map_toArray, List.map_cons, List.map_nil, hs, hy, hr]
 exact hK g' cap wc h1 h2 h3 h4 h5
theorem vol_append {B nb : Nat} {n : Node} {wb : World} {vi vk vv : Value} (h : NodeOwn B nb n wb vi vk vv) (x : Vol) (hx : volE.wf x) (hB : B ≤ wb.heap.size) (hBn : B ≤ nb) (hlen : n.vols.length ≤ 100000) :
 ∃ g' cap wc, (Builtin.append_ #[57, 57] 57 #[vv, .slice (some ⟨wb.heap.size, 0, none⟩) 1 1]).run Tryz.prog (wb.alloc (.cells (volE.enc x).toArray 155)) = .ok (.slice (some ⟨g', 0, none⟩) (n.vols.length + 1) cap) wc ∧
  wc.cell? ⟨nb, 3, none⟩ = some vv ∧ wc.frozen? ⟨nb, 3, none⟩ = false ∧
  NodeOwn B nb { n with vols := n.vols ++ [x] } (wc.setCell ⟨nb, 3, none⟩ (.slice (some ⟨g', 0, none⟩) (n.vols.length + 1) cap)) vi vk (.slice (some ⟨g', 0, none⟩) (n.vols.length + 1) cap) ∧
  Below B wb (wc.setCell ⟨nb, 3, none⟩ (.slice (some ⟨g', 0, none⟩) (n.vols.length + 1) cap)) ∧ je9 nb 155 wb (wc.setCell ⟨nb, 3, none⟩ (.slice (some ⟨g', 0, none⟩) (n.vols.length + 1) cap)) := by
 obtain ⟨i0, z, hi, hz, hsz, hby, hzs⟩ := jbw vol_info
 have hl := volE.len x hx
 have hlt := lt_of_block h.blk
 have ha : ∀ k, k < wb.heap.size → (wb.alloc (.cells (volE.enc x).toArray 155)).heap[k]? = wb.heap[k]? := fun k hk => Lib.alloc_old wb _ k hk
 obtain ⟨g', cap, wc, hr, ho, hgc, hlie, hltg⟩ := run_append_lies (P := Tryz.prog) (wb.alloc (.cells (volE.enc x).toArray 155)) 57 57 B 155 i0 z 37 88 Tryz.underlying57 hi hz hsz hby hzs (by omega) vv n.vols.length _ (h.ov.alloc _) ⟨wb.heap.size, 0, none⟩ 1 1 (volE.enc x) (by rw [hl]; rfl) (fun j u hj => by rw [jcl, Nat.zero_add]; exact jay j u hj) (volE.one x hx) (by omega) (by unfold maxLen; omega) (by omega) (by simp; omega) _ rfl
 have hnb : wc.heap[nb]? = some (.cells #[.int .u8 n.kind, vi, vk, vv] 59 (0, 0)) := by
  rw [hgc.block nb (by simp; omega) (fun e => jb8 h.ov h.blk (by decide) e.symm), ha nb hlt]; exact h.blk
 have hset : (wc.setCell ⟨nb, 3, none⟩ (.slice (some ⟨g', 0, none⟩) (n.vols.length + 1) cap)).heap[nb]? = some (.cells #[.int .u8 n.kind, vi, vk, .slice (some ⟨g', 0, none⟩) (n.vols.length + 1) cap] 59 (0, 0)) := ja2 hnb 3 _
 have hgs : wc.grownBy (wc.setCell ⟨nb, 3, none⟩ (.slice (some ⟨g', 0, none⟩) (n.vols.length + 1) cap)) (some nb) := jap (World.grownBy.refl wc (some nb)) 3 _
 refine ⟨g', cap, wc, hr, ?_, frozen_of_row wc nb 3 _ _ hnb, ⟨hset, jat (jfy (h.oi.alloc _) (h.ov.alloc _) hgc (by decide)) hgs hnb (by decide), jat (jfy (h.ok.alloc _) (h.ov.alloc _) hgc (by decide)) hgs hnb (by decide), by have := jat ho hgs hnb (by decide); rw [flat_one', List.length_append]; exact this⟩, ?_, ?_⟩
 · rw [cell_of_row wc nb 3 _ _ _ hnb]; rfl
 · exact (((Below.refl B wb).alloc hB _).grown hgc (by simp; omega) (fun k hk => (h.ov.lt k hk).1)).setCell (p := ⟨nb, 3, none⟩) hBn _
 · intro g cs t fr hg hh ht
   have hgl := lt_of_block hh
   rw [hgs.block g (by have := hgc.size; simp at this; omega) (by simpa using hg), hgc.block g (by simp; omega) (fun e => jb8 h.ov hh ht e.symm), ha g hgl]
   exact hh
theorem jl2 {ops : Array Oper} {o : Oper} {a : Act} {K : Act → World → Prop} {Q : Exit → Act → World → Prop} {E : Prop} {B nb : Nat} {n : Node} {wb : World} {vi vk vv : Value} (hgd : o.guard = none) (s y : Operand)
 (ho : o.op = .call { callee := .builtin .append, args := #[s, y], argTypes := #[57, 57] }) (hty : o.type = 57) (h : NodeOwn B nb n wb vi vk vv) (x : Vol) (hx : volE.wf x) (hB : B ≤ wb.heap.size) (hBn : B ≤ nb) (hlen : n.vols.length ≤ 100000)
 (hs : a.eval s = vv) (hy : a.eval y = .slice (some ⟨wb.heap.size, 0, none⟩) 1 1)
 (hK : ∀ g' cap wc, wc.cell? ⟨nb, 3, none⟩ = some vv → wc.frozen? ⟨nb, 3, none⟩ = false →
  NodeOwn B nb { n with vols := n.vols ++ [x] } (wc.setCell ⟨nb, 3, none⟩ (.slice (some ⟨g', 0, none⟩) (n.vols.length + 1) cap)) vi vk (.slice (some ⟨g', 0, none⟩) (n.vols.length + 1) cap) →
  Below B wb (wc.setCell ⟨nb, 3, none⟩ (.slice (some ⟨g', 0, none⟩) (n.vols.length + 1) cap)) → je9 nb 155 wb (wc.setCell ⟨nb, 3, none⟩ (.slice (some ⟨g', 0, none⟩) (n.vols.length + 1) cap)) → K (a.put o.dst (.slice (some ⟨g', 0, none⟩) (n.vols.length + 1) cap)) wc) :
 if Region.wanted o (yielded ops a.tmps) = true then Oper.wp Tryz.prog o a (wb.alloc (.cells (volE.enc x).toArray 155)) K Q else E := by
 have hw : Region.wanted o (yielded ops a.tmps) = true := by simp [Region.wanted, hgd]
 rw [if_pos hw]
 obtain ⟨g', cap, wc, hr, h1, h2, h3, h4, h5⟩ := vol_append h x hx hB hBn hlen
 unfold Oper.wp execOp
 simp only [ho, hty, resolve, invoke, builtin, Sem.run_bind, Sem.run_pure, Result.andThen_ok, List.map_toArray, List.map_cons, List.map_nil, hs, hy, hr]
 exact hK g' cap wc h1 h2 h3 h4 h5
structure Blk where
 num : Int
 data : ByteArray
structure Dv where
 size : Int
 blocks : List Blk
 waits : List Blk
 down : Bool
 fuse : Int
def blkE : Enc Blk where
 sz := 2
 enc x := [.int .u32 x.num, .string x.data]
 wf x := u32Ok x.num ∧ strOk x.data
 len _ _ := rfl
 one x _ u hu := by simp at hu; rcases hu with rfl | rfl <;> rfl
 pos := by decide
def jho (n : Int) : Prop := -9223372036854775808 ≤ n ∧ n ≤ 9223372036854775807
def DevV (w : World) (v : Value) (d : Dv) : Prop := ∃ bv wv, v = .agg #[.int .u32 d.size, bv, wv, .bool d.down, .int .i64 d.fuse] ∧ Sl blkE w bv d.blocks ∧ Sl blkE w wv d.waits ∧ u32Ok d.size ∧ jho d.fuse
theorem DevV.below {w w' : World} {v : Value} {d : Dv} (h : DevV w v d) {B : Nat} (hb : Below B w w') (hB : w.heap.size ≤ B) : DevV w' v d := by
 obtain ⟨bv, wv, e, h1, h2, h3, h4⟩ := h
 exact ⟨bv, wv, e, h1.below hb hB, h2.below hb hB, h3, h4⟩
def cutB (s : ByteArray) : ByteArray := ⟨(Lib.trimRightB s.data.toList 0).toArray⟩
def ja3 (b : Blk) (size : Int) : Bool := decide (b.num < size) && (decide (b.data.size ≤ 512) && beqB (cutB b.data) b.data)
def jdj : List Blk → Bool
 | [] => true
 | [_] => true
 | a :: b :: r => decide (a.num < b.num) && jdj (b :: r)
def devB (d : Dv) : Bool := (decide (16 ≤ d.size) && (decide (d.size ≤ 65536) && decide (d.waits.length ≤ 16384))) && (d.blocks.all (fun b => ja3 b d.size && !b.data.toList.isEmpty) && (jdj d.blocks && d.waits.all (fun b => ja3 b d.size)))
def jbr (bs : List Blk) (num : Int) : Nat := posOf (fun b => decide (b.num < num)) bs
def jer (bs : List Blk) (num : Int) : Bool := hasAt (fun b => b.num == num) bs (jbr bs num)
def putB (bs : List Blk) (b : Blk) : List Blk :=
 if jer bs b.num then (if b.data.toList.isEmpty then bs.eraseIdx (jbr bs b.num) else bs.set (jbr bs b.num) b) else (if b.data.toList.isEmpty then bs else bs.insertIdx (jbr bs b.num) b)
def jek (bs : List Blk) (num : Int) : Option Blk := (bs.reverse).find? (fun b => b.num == num)
def readB (d : Dv) (num : Int) : ByteArray := match jek d.waits num with
 | some b => b.data
 | none => if jer d.blocks num then ((d.blocks[jbr d.blocks num]?).map (·.data)).getD ByteArray.empty else ByteArray.empty
def readD (d : Dv) (num : Int) : ByteArray × Int := if devB d = false then (ByteArray.empty, 7) else if d.down then (ByteArray.empty, 17) else if d.size ≤ num then (ByteArray.empty, 1) else (readB d num, 0)
def burnD (d : Dv) : Dv := { d with down := d.down || decide (d.fuse = 0), fuse := if 0 < d.fuse then d.fuse - 1 else d.fuse }
def noDev : Dv := ⟨0, [], [], false, 0⟩
def jes (d : Dv) (num : Int) (data : ByteArray) : Int := if d.down then 17 else if d.size ≤ num then 1 else if 512 < data.size then 2 else if 16384 ≤ d.waits.length then 8 else 0
def jbg (d : Dv) (num : Int) (data : ByteArray) : Dv × Int :=
 if devB d = false then (noDev, 7) else if jes d num data ≠ 0 then (d, jes d num data)
 else (burnD { d with waits := d.waits ++ [⟨num, cutB data⟩] }, if (burnD d).down then 17 else 0)
def jbs (d : Dv) : Dv × Int :=
 if devB d = false then (noDev, 7) else if d.down then (d, 17) else if (burnD d).down then (burnD d, 17)
 else ({ burnD d with blocks := d.waits.foldl putB d.blocks, waits := [] }, 0)
end Go.Proofs.YtpaohkkhejpgjaaGreatDoor
