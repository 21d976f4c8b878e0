/- Texts of the proof: Tk5. -/
import Derived.Test.YthhmcjojnbaiiaaGreatDoorM9
import Derived.Test.YthhmcjojnbaiiaaGreatDoorM8
set_option linter.all false
/- Node's taker: the appends. -/
namespace Go.Proofs.YthhmcjojnbaiiaaGreatDoor
open Go Go.RowKit
theorem item_info : (Tryz.prog.info? 32).map (fun i => (i.zero.map (fun z => z.cells.size), i.size, i.bytes)) = some (some 2, 2, 32) := by kernel_rfl
theorem kid_info : (Tryz.prog.info? 58).map (fun i => (i.zero.map (fun z => z.cells.size), i.size, i.bytes)) = some (some 34, 34, 56) := by kernel_rfl
theorem vol_info : (Tryz.prog.info? 178).map (fun i => (i.zero.map (fun z => z.cells.size), i.size, i.bytes)) = some (some 37, 37, 88) := by kernel_rfl
theorem info_open {e : TypeId} {s b : Nat} (h : (Tryz.prog.info? e).map (fun i => (i.zero.map (fun z => z.cells.size), i.size, i.bytes)) = some (some s, s, b)) :
    ∃ i z, Tryz.prog.info? e = some i ∧ i.zero = some z ∧ i.size = s ∧ i.bytes = b ∧ z.cells.size = s := by
  cases hi : Tryz.prog.info? e with
  | none => simp [hi] at h
  | some i =>
    simp only [hi, Option.map_some, Option.some.injEq, Prod.mk.injEq] at h
    obtain ⟨h1, h2, h3⟩ := h
    cases hz : i.zero with
    | none => simp [hz] at h1
    | some z => exact ⟨i, z, rfl, hz, h2, h3, by simpa [hz] using h1⟩
theorem flat_one' {α : Type} (E : Enc α) (xs : List α) (x : α) : (xs ++ [x]).flatMap E.enc = xs.flatMap E.enc ++ E.enc x := by simp
/-- Blocks of other types than T, and other ones than b, are as they were. -/
def TypeFrame (b : Nat) (T : TypeId) (w w' : World) : Prop :=
  ∀ (g : Nat) (cs : Array Value) (t : TypeId) (fr : Nat × Nat), g ≠ b → w.heap[g]? = some (.cells cs t fr) → t ≠ T → w'.heap[g]? = some (.cells cs t fr)
theorem item_append {B nb : Nat} {n : Node} {wb : World} {vi vk vv : Value} (h : NodeOwn B nb n wb vi vk vv) (x : Item) (hx : itemE.wf x) (hB : B ≤ wb.heap.size) (hBn : B ≤ nb) (hlen : n.items.length ≤ 100000) :
    ∃ g' cap wc, (Builtin.append_ #[27, 27] 27 #[vi, .slice (some ⟨wb.heap.size, 0, none⟩) 1 1]).run Tryz.prog (wb.alloc (.cells (itemE.enc x).toArray 32)) = .ok (.slice (some ⟨g', 0, none⟩) (n.items.length + 1) cap) wc ∧
      wc.cell? ⟨nb, 1, none⟩ = some vi ∧ wc.frozen? ⟨nb, 1, none⟩ = false ∧
      NodeOwn B nb { n with items := n.items ++ [x] } (wc.setCell ⟨nb, 1, none⟩ (.slice (some ⟨g', 0, none⟩) (n.items.length + 1) cap)) (.slice (some ⟨g', 0, none⟩) (n.items.length + 1) cap) vk vv ∧
      Below B wb (wc.setCell ⟨nb, 1, none⟩ (.slice (some ⟨g', 0, none⟩) (n.items.length + 1) cap)) ∧ TypeFrame nb 32 wb (wc.setCell ⟨nb, 1, none⟩ (.slice (some ⟨g', 0, none⟩) (n.items.length + 1) cap)) := by
  obtain ⟨i0, z, hi, hz, hsz, hby, hzs⟩ := info_open item_info
  have hl := itemE.len x hx
  have hlt := lt_of_block h.blk
  have ha : ∀ k, k < wb.heap.size → (wb.alloc (.cells (itemE.enc x).toArray 32)).heap[k]? = wb.heap[k]? := fun k hk => Lib.alloc_old wb _ k hk
  obtain ⟨g', cap, wc, hr, ho, hgc, hlie, hltg⟩ := run_append_lies (P := Tryz.prog) (wb.alloc (.cells (itemE.enc x).toArray 32)) 27 27 B 32 i0 z 2 32 Tryz.underlying27 hi hz hsz hby hzs (by omega) vi n.items.length _ (h.oi.alloc _) ⟨wb.heap.size, 0, none⟩ 1 1 (itemE.enc x) (by rw [hl]; rfl) (fun j u hj => by rw [add_at, Nat.zero_add]; exact new_cell j u hj) (itemE.one x hx) (by omega) (by unfold maxLen; omega) (by omega) (by simp; omega) _ rfl
  have hnb : wc.heap[nb]? = some (.cells #[.int .u8 n.kind, vi, vk, vv] 44 (0, 0)) := by
    rw [hgc.block nb (by simp; omega) (fun e => own_ne h.oi h.blk (by decide) e.symm), ha nb hlt]; exact h.blk
  have hset : (wc.setCell ⟨nb, 1, none⟩ (.slice (some ⟨g', 0, none⟩) (n.items.length + 1) cap)).heap[nb]? = some (.cells #[.int .u8 n.kind, .slice (some ⟨g', 0, none⟩) (n.items.length + 1) cap, vk, vv] 44 (0, 0)) := blk_set hnb 1 _
  have hgs : wc.grownBy (wc.setCell ⟨nb, 1, none⟩ (.slice (some ⟨g', 0, none⟩) (n.items.length + 1) cap)) (some nb) := grown_set (World.grownBy.refl wc (some nb)) 1 _
  refine ⟨g', cap, wc, hr, ?_, frozen_of_row wc nb 1 _ _ hnb, ⟨hset, by have := own_keep ho hgs hnb (by decide); rw [flat_one', List.length_append]; exact this, own_keep (own_other (h.ok.alloc _) (h.oi.alloc _) hgc (by decide)) hgs hnb (by decide), own_keep (own_other (h.ov.alloc _) (h.oi.alloc _) hgc (by decide)) hgs hnb (by decide)⟩, ?_, ?_⟩
  · rw [cell_of_row wc nb 1 _ _ _ hnb]; rfl
  · exact (((Below.refl B wb).alloc hB _).grown hgc (by simp; omega) (fun k hk => (h.oi.lt k hk).1)).setCell (p := ⟨nb, 1, none⟩) hBn _
  · intro g cs t fr hg hh ht
    have hgl := lt_of_block hh
    rw [hgs.block g (by have := hgc.size; simp at this; omega) (by simpa using hg), hgc.block g (by simp; omega) (fun e => own_ne h.oi hh ht e.symm), ha g hgl]
    exact hh
theorem step_item_append {ops : Array Oper} {o : Oper} {a : Act} {K : Act → World → Prop} {Q : Exit → Act → World → Prop} {E : Prop} {B nb : Nat} {n : Node} {wb : World} {vi vk vv : Value} (hgd : o.guard = none) (s y : Operand)
    (ho : o.op = .call { callee := .builtin .append, args := #[s, y], argTypes := #[27, 27] }) (hty : o.type = 27) (h : NodeOwn B nb n wb vi vk vv) (x : Item) (hx : itemE.wf x) (hB : B ≤ wb.heap.size) (hBn : B ≤ nb) (hlen : n.items.length ≤ 100000)
    (hs : a.eval s = vi) (hy : a.eval y = .slice (some ⟨wb.heap.size, 0, none⟩) 1 1)
    (hK : ∀ g' cap wc, wc.cell? ⟨nb, 1, none⟩ = some vi → wc.frozen? ⟨nb, 1, none⟩ = false →
      NodeOwn B nb { n with items := n.items ++ [x] } (wc.setCell ⟨nb, 1, none⟩ (.slice (some ⟨g', 0, none⟩) (n.items.length + 1) cap)) (.slice (some ⟨g', 0, none⟩) (n.items.length + 1) cap) vk vv →
      Below B wb (wc.setCell ⟨nb, 1, none⟩ (.slice (some ⟨g', 0, none⟩) (n.items.length + 1) cap)) → TypeFrame nb 32 wb (wc.setCell ⟨nb, 1, none⟩ (.slice (some ⟨g', 0, none⟩) (n.items.length + 1) cap)) → K (a.put o.dst (.slice (some ⟨g', 0, none⟩) (n.items.length + 1) cap)) wc) :
    if Region.wanted o (yielded ops a.tmps) = true then Oper.wp Tryz.prog o a (wb.alloc (.cells (itemE.enc x).toArray 32)) K Q else E := by
  have hw : Region.wanted o (yielded ops a.tmps) = true := by simp [Region.wanted, hgd]
  rw [if_pos hw]
  obtain ⟨g', cap, wc, hr, h1, h2, h3, h4, h5⟩ := item_append h x hx hB hBn hlen
  unfold Oper.wp execOp
  simp only [ho, hty, resolve, invoke, builtin, Sem.run_bind, Sem.run_pure, Result.andThen_ok, List.map_toArray, List.map_cons, List.map_nil, hs, hy, hr]
  exact hK g' cap wc h1 h2 h3 h4 h5
theorem kid_append {B nb : Nat} {n : Node} {wb : World} {vi vk vv : Value} (h : NodeOwn B nb n wb vi vk vv) (x : Kid) (hx : kidE.wf x) (hB : B ≤ wb.heap.size) (hBn : B ≤ nb) (hlen : n.kids.length ≤ 100000) :
    ∃ g' cap wc, (Builtin.append_ #[41, 41] 41 #[vk, .slice (some ⟨wb.heap.size, 0, none⟩) 1 1]).run Tryz.prog (wb.alloc (.cells (kidE.enc x).toArray 58)) = .ok (.slice (some ⟨g', 0, none⟩) (n.kids.length + 1) cap) wc ∧
      wc.cell? ⟨nb, 2, none⟩ = some vk ∧ wc.frozen? ⟨nb, 2, none⟩ = false ∧
      NodeOwn B nb { n with kids := n.kids ++ [x] } (wc.setCell ⟨nb, 2, none⟩ (.slice (some ⟨g', 0, none⟩) (n.kids.length + 1) cap)) vi (.slice (some ⟨g', 0, none⟩) (n.kids.length + 1) cap) vv ∧
      Below B wb (wc.setCell ⟨nb, 2, none⟩ (.slice (some ⟨g', 0, none⟩) (n.kids.length + 1) cap)) ∧ TypeFrame nb 58 wb (wc.setCell ⟨nb, 2, none⟩ (.slice (some ⟨g', 0, none⟩) (n.kids.length + 1) cap)) := by
  obtain ⟨i0, z, hi, hz, hsz, hby, hzs⟩ := info_open kid_info
  have hl := kidE.len x hx
  have hlt := lt_of_block h.blk
  have ha : ∀ k, k < wb.heap.size → (wb.alloc (.cells (kidE.enc x).toArray 58)).heap[k]? = wb.heap[k]? := fun k hk => Lib.alloc_old wb _ k hk
  obtain ⟨g', cap, wc, hr, ho, hgc, hlie, hltg⟩ := run_append_lies (P := Tryz.prog) (wb.alloc (.cells (kidE.enc x).toArray 58)) 41 41 B 58 i0 z 34 56 Tryz.underlying41 hi hz hsz hby hzs (by omega) vk n.kids.length _ (h.ok.alloc _) ⟨wb.heap.size, 0, none⟩ 1 1 (kidE.enc x) (by rw [hl]; rfl) (fun j u hj => by rw [add_at, Nat.zero_add]; exact new_cell j u hj) (kidE.one x hx) (by omega) (by unfold maxLen; omega) (by omega) (by simp; omega) _ rfl
  have hnb : wc.heap[nb]? = some (.cells #[.int .u8 n.kind, vi, vk, vv] 44 (0, 0)) := by
    rw [hgc.block nb (by simp; omega) (fun e => own_ne h.ok h.blk (by decide) e.symm), ha nb hlt]; exact h.blk
  have hset : (wc.setCell ⟨nb, 2, none⟩ (.slice (some ⟨g', 0, none⟩) (n.kids.length + 1) cap)).heap[nb]? = some (.cells #[.int .u8 n.kind, vi, .slice (some ⟨g', 0, none⟩) (n.kids.length + 1) cap, vv] 44 (0, 0)) := blk_set hnb 2 _
  have hgs : wc.grownBy (wc.setCell ⟨nb, 2, none⟩ (.slice (some ⟨g', 0, none⟩) (n.kids.length + 1) cap)) (some nb) := grown_set (World.grownBy.refl wc (some nb)) 2 _
  refine ⟨g', cap, wc, hr, ?_, frozen_of_row wc nb 2 _ _ hnb, ⟨hset, own_keep (own_other (h.oi.alloc _) (h.ok.alloc _) hgc (by decide)) hgs hnb (by decide), by have := own_keep ho hgs hnb (by decide); rw [flat_one', List.length_append]; exact this, own_keep (own_other (h.ov.alloc _) (h.ok.alloc _) hgc (by decide)) hgs hnb (by decide)⟩, ?_, ?_⟩
  · rw [cell_of_row wc nb 2 _ _ _ hnb]; rfl
  · exact (((Below.refl B wb).alloc hB _).grown hgc (by simp; omega) (fun k hk => (h.ok.lt k hk).1)).setCell (p := ⟨nb, 2, none⟩) hBn _
  · intro g cs t fr hg hh ht
    have hgl := lt_of_block hh
    rw [hgs.block g (by have := hgc.size; simp at this; omega) (by simpa using hg), hgc.block g (by simp; omega) (fun e => own_ne h.ok hh ht e.symm), ha g hgl]
    exact hh
theorem step_kid_append {ops : Array Oper} {o : Oper} {a : Act} {K : Act → World → Prop} {Q : Exit → Act → World → Prop} {E : Prop} {B nb : Nat} {n : Node} {wb : World} {vi vk vv : Value} (hgd : o.guard = none) (s y : Operand)
    (ho : o.op = .call { callee := .builtin .append, args := #[s, y], argTypes := #[41, 41] }) (hty : o.type = 41) (h : NodeOwn B nb n wb vi vk vv) (x : Kid) (hx : kidE.wf x) (hB : B ≤ wb.heap.size) (hBn : B ≤ nb) (hlen : n.kids.length ≤ 100000)
    (hs : a.eval s = vk) (hy : a.eval y = .slice (some ⟨wb.heap.size, 0, none⟩) 1 1)
    (hK : ∀ g' cap wc, wc.cell? ⟨nb, 2, none⟩ = some vk → wc.frozen? ⟨nb, 2, none⟩ = false →
      NodeOwn B nb { n with kids := n.kids ++ [x] } (wc.setCell ⟨nb, 2, none⟩ (.slice (some ⟨g', 0, none⟩) (n.kids.length + 1) cap)) vi (.slice (some ⟨g', 0, none⟩) (n.kids.length + 1) cap) vv →
      Below B wb (wc.setCell ⟨nb, 2, none⟩ (.slice (some ⟨g', 0, none⟩) (n.kids.length + 1) cap)) → TypeFrame nb 58 wb (wc.setCell ⟨nb, 2, none⟩ (.slice (some ⟨g', 0, none⟩) (n.kids.length + 1) cap)) → K (a.put o.dst (.slice (some ⟨g', 0, none⟩) (n.kids.length + 1) cap)) wc) :
    if Region.wanted o (yielded ops a.tmps) = true then Oper.wp Tryz.prog o a (wb.alloc (.cells (kidE.enc x).toArray 58)) K Q else E := by
  have hw : Region.wanted o (yielded ops a.tmps) = true := by simp [Region.wanted, hgd]
  rw [if_pos hw]
  obtain ⟨g', cap, wc, hr, h1, h2, h3, h4, h5⟩ := kid_append h x hx hB hBn hlen
  unfold Oper.wp execOp
  simp only [ho, hty, resolve, invoke, builtin, Sem.run_bind, Sem.run_pure, Result.andThen_ok, List.map_toArray, List.map_cons, List.map_nil, hs, hy, hr]
  exact hK g' cap wc h1 h2 h3 h4 h5
theorem vol_append {B nb : Nat} {n : Node} {wb : World} {vi vk vv : Value} (h : NodeOwn B nb n wb vi vk vv) (x : Vol) (hx : volE.wf x) (hB : B ≤ wb.heap.size) (hBn : B ≤ nb) (hlen : n.vols.length ≤ 100000) :
    ∃ g' cap wc, (Builtin.append_ #[42, 42] 42 #[vv, .slice (some ⟨wb.heap.size, 0, none⟩) 1 1]).run Tryz.prog (wb.alloc (.cells (volE.enc x).toArray 178)) = .ok (.slice (some ⟨g', 0, none⟩) (n.vols.length + 1) cap) wc ∧
      wc.cell? ⟨nb, 3, none⟩ = some vv ∧ wc.frozen? ⟨nb, 3, none⟩ = false ∧
      NodeOwn B nb { n with vols := n.vols ++ [x] } (wc.setCell ⟨nb, 3, none⟩ (.slice (some ⟨g', 0, none⟩) (n.vols.length + 1) cap)) vi vk (.slice (some ⟨g', 0, none⟩) (n.vols.length + 1) cap) ∧
      Below B wb (wc.setCell ⟨nb, 3, none⟩ (.slice (some ⟨g', 0, none⟩) (n.vols.length + 1) cap)) ∧ TypeFrame nb 178 wb (wc.setCell ⟨nb, 3, none⟩ (.slice (some ⟨g', 0, none⟩) (n.vols.length + 1) cap)) := by
  obtain ⟨i0, z, hi, hz, hsz, hby, hzs⟩ := info_open vol_info
  have hl := volE.len x hx
  have hlt := lt_of_block h.blk
  have ha : ∀ k, k < wb.heap.size → (wb.alloc (.cells (volE.enc x).toArray 178)).heap[k]? = wb.heap[k]? := fun k hk => Lib.alloc_old wb _ k hk
  obtain ⟨g', cap, wc, hr, ho, hgc, hlie, hltg⟩ := run_append_lies (P := Tryz.prog) (wb.alloc (.cells (volE.enc x).toArray 178)) 42 42 B 178 i0 z 37 88 Tryz.underlying42 hi hz hsz hby hzs (by omega) vv n.vols.length _ (h.ov.alloc _) ⟨wb.heap.size, 0, none⟩ 1 1 (volE.enc x) (by rw [hl]; rfl) (fun j u hj => by rw [add_at, Nat.zero_add]; exact new_cell j u hj) (volE.one x hx) (by omega) (by unfold maxLen; omega) (by omega) (by simp; omega) _ rfl
  have hnb : wc.heap[nb]? = some (.cells #[.int .u8 n.kind, vi, vk, vv] 44 (0, 0)) := by
    rw [hgc.block nb (by simp; omega) (fun e => own_ne h.ov h.blk (by decide) e.symm), ha nb hlt]; exact h.blk
  have hset : (wc.setCell ⟨nb, 3, none⟩ (.slice (some ⟨g', 0, none⟩) (n.vols.length + 1) cap)).heap[nb]? = some (.cells #[.int .u8 n.kind, vi, vk, .slice (some ⟨g', 0, none⟩) (n.vols.length + 1) cap] 44 (0, 0)) := blk_set hnb 3 _
  have hgs : wc.grownBy (wc.setCell ⟨nb, 3, none⟩ (.slice (some ⟨g', 0, none⟩) (n.vols.length + 1) cap)) (some nb) := grown_set (World.grownBy.refl wc (some nb)) 3 _
  refine ⟨g', cap, wc, hr, ?_, frozen_of_row wc nb 3 _ _ hnb, ⟨hset, own_keep (own_other (h.oi.alloc _) (h.ov.alloc _) hgc (by decide)) hgs hnb (by decide), own_keep (own_other (h.ok.alloc _) (h.ov.alloc _) hgc (by decide)) hgs hnb (by decide), by have := own_keep ho hgs hnb (by decide); rw [flat_one', List.length_append]; exact this⟩, ?_, ?_⟩
  · rw [cell_of_row wc nb 3 _ _ _ hnb]; rfl
  · exact (((Below.refl B wb).alloc hB _).grown hgc (by simp; omega) (fun k hk => (h.ov.lt k hk).1)).setCell (p := ⟨nb, 3, none⟩) hBn _
  · intro g cs t fr hg hh ht
    have hgl := lt_of_block hh
    rw [hgs.block g (by have := hgc.size; simp at this; omega) (by simpa using hg), hgc.block g (by simp; omega) (fun e => own_ne h.ov hh ht e.symm), ha g hgl]
    exact hh
theorem step_vol_append {ops : Array Oper} {o : Oper} {a : Act} {K : Act → World → Prop} {Q : Exit → Act → World → Prop} {E : Prop} {B nb : Nat} {n : Node} {wb : World} {vi vk vv : Value} (hgd : o.guard = none) (s y : Operand)
    (ho : o.op = .call { callee := .builtin .append, args := #[s, y], argTypes := #[42, 42] }) (hty : o.type = 42) (h : NodeOwn B nb n wb vi vk vv) (x : Vol) (hx : volE.wf x) (hB : B ≤ wb.heap.size) (hBn : B ≤ nb) (hlen : n.vols.length ≤ 100000)
    (hs : a.eval s = vv) (hy : a.eval y = .slice (some ⟨wb.heap.size, 0, none⟩) 1 1)
    (hK : ∀ g' cap wc, wc.cell? ⟨nb, 3, none⟩ = some vv → wc.frozen? ⟨nb, 3, none⟩ = false →
      NodeOwn B nb { n with vols := n.vols ++ [x] } (wc.setCell ⟨nb, 3, none⟩ (.slice (some ⟨g', 0, none⟩) (n.vols.length + 1) cap)) vi vk (.slice (some ⟨g', 0, none⟩) (n.vols.length + 1) cap) →
      Below B wb (wc.setCell ⟨nb, 3, none⟩ (.slice (some ⟨g', 0, none⟩) (n.vols.length + 1) cap)) → TypeFrame nb 178 wb (wc.setCell ⟨nb, 3, none⟩ (.slice (some ⟨g', 0, none⟩) (n.vols.length + 1) cap)) → K (a.put o.dst (.slice (some ⟨g', 0, none⟩) (n.vols.length + 1) cap)) wc) :
    if Region.wanted o (yielded ops a.tmps) = true then Oper.wp Tryz.prog o a (wb.alloc (.cells (volE.enc x).toArray 178)) K Q else E := by
  have hw : Region.wanted o (yielded ops a.tmps) = true := by simp [Region.wanted, hgd]
  rw [if_pos hw]
  obtain ⟨g', cap, wc, hr, h1, h2, h3, h4, h5⟩ := vol_append h x hx hB hBn hlen
  unfold Oper.wp execOp
  simp only [ho, hty, resolve, invoke, builtin, Sem.run_bind, Sem.run_pure, Result.andThen_ok, List.map_toArray, List.map_cons, List.map_nil, hs, hy, hr]
  exact hK g' cap wc h1 h2 h3 h4 h5
end Go.Proofs.YthhmcjojnbaiiaaGreatDoor
