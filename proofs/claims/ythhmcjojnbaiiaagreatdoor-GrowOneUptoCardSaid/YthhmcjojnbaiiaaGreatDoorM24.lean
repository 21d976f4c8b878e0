/- Texts of the proof: Cl. -/
import Derived.Test.YthhmcjojnbaiiaaGreatDoorM23
import Derived.Laws.Cover3
set_option linter.all false
/- Heap: slices.Clone of cells, Own. -/
namespace Go.Proofs.YthhmcjojnbaiiaaGreatDoor
open Go Go.RowKit
theorem row_flat {α : Type} {E : Enc α} {w : World} {b o : Nat} {xs : List α} (h : Row E w (some ⟨b, o, none⟩) xs) (j : Nat) (u : Value) (hu : (xs.flatMap E.enc)[j]? = some u) : w.cell? ⟨b, o + j, none⟩ = some u := by
  have hw := h.wf
  have hp := E.pos
  have hl : j < xs.length * E.sz := by
    rw [← flat_length E xs hw]; exact (List.getElem?_eq_some_iff.1 hu).1
  have hk : j / E.sz < xs.length := Nat.div_lt_of_lt_mul (by rw [Nat.mul_comm]; exact hl)
  have hi : j % E.sz < E.sz := Nat.mod_lt _ hp
  have hg := flat_getElem E xs hw (j / E.sz) hk (j % E.sz) hi
  have hj : j / E.sz * E.sz + j % E.sz = j := by rw [Nat.mul_comm]; exact Nat.div_add_mod j E.sz
  rw [hj] at hg
  rw [hg] at hu
  have := (h.at_ (j / E.sz) hk).cell (j % E.sz) u hu
  rw [Nat.add_assoc, hj] at this
  exact this
theorem run_eql_nil (w : World) (t e : TypeId) (a : Option Addr) (l c : Nat) (h : Tryz.prog.underlying t = some (.slice e)) : (binOp .eql t (.slice a l c) (.slice none 0 0)).run Tryz.prog w = .ok (.bool a.isNone) w := by
  simp [binOp, run_equal_slice_nil w t e a l c h]
set_option maxRecDepth 100000 in
set_option maxHeartbeats 1000000 in
theorem cloneCel_any (w : World) (v : Value) (xs : List Cel) (hv : Sl celE w v xs) (hmax : xs.length ≤ 1073741824) :
    Calls Tryz.prog 81 #[v] w fun e w' => ∃ r, e = .returned r ∧ Sl celE w' r xs ∧ Below w.heap.size w w' := by
  obtain ⟨i0, z0, hi, hz0, hz1, hz2, hzs⟩ := info_open cel_info
  obtain ⟨A, c, rfl, hc1, hc2, hrow⟩ := hv
  have HR := Lib.hid hrow
  cases A with
  | none =>
    have hx : xs = [] := by
      cases xs with
      | nil => rfl
      | cons x r => obtain ⟨b, o, e, _⟩ := hrow 0 (by simp); cases e
    subst hx
    clear hrow
    have hnil := run_eql_nil w 23 94 none 0 c Tryz.underlying23
    go_enter Tryz.func81, Tryz.ntmps81
    go_wp2_with (fail)
    go_ret
    exact ⟨_, rfl, Sl.nil _, Below.refl _ _⟩
  | some a =>
    clear hrow
    have hnil := run_eql_nil w 23 94 (some a) xs.length c Tryz.underlying23
    go_enter Tryz.func81, Tryz.ntmps81
    have hfl := flat_length celE xs HR.out.wf
    have HN := Lib.hid (show ∀ j u, (xs.flatMap celE.enc)[j]? = some u → (w.alloc (.cells #[] 94)).cell? (a.add j) = some u from by
      intro j u hj
      have hne : xs ≠ [] := by intro e; subst e; simp at hj
      obtain ⟨b, o, e, hlt⟩ := HR.out.addr hne
      injection e with e
      subst e
      rw [add_at]
      have := row_flat HR.out j u hj
      exact (World.cell?_of_block (Lib.alloc_old w _ b hlt)).trans this)
    have HF := Lib.hid (And.intro hfl (flat_one celE xs HR.out.wf))
    clear hfl
    go_wp2_with (at_builtin; refine wpList_append_own _ rfl (.tmp 5) (.tmp 6) 23 rfl w.heap.size 94 i0 z0 3 32 Tryz.underlying23 hi hz0 hz1 hz2 hzs (by decide) _ 0 [] rfl (World.ownsRow_made w #[] 0 (Nat.le_refl _) (by unfold maxLen; omega) rfl) a xs.length c (xs.flatMap celE.enc) rfl HF.out.1 HN.out HF.out.2 (by unfold maxLen; omega) (by omega) (by simp) ?_; intro v' w2 hown hgrow _)
    go_ret
    have hsl := own_sl (E := celE) (n := xs.length) (by have h9 := hown; simp only [Nat.zero_add, List.nil_append] at h9; exact h9) rfl HR.out.wf
    exact ⟨_, rfl, hsl, (below_box w _).grown hgrow (by simp) (fun q hq => Nat.le_of_eq (Option.some.inj (hq : some w.heap.size = some q)))⟩
theorem sl_cel_keep {w w' : World} {g : Nat} {x : Int} {A : Option Addr} {n c : Nat} {t : TypeId} {fr : Nat × Nat} (hg : w.heap[g]? = some (.cells #[.int .u32 x, .slice A n c] t fr)) (hk : ∀ b, b < w.heap.size → b ≠ g → w'.heap[b]? = w.heap[b]?) {v : Value} {cs : List Cel} (hs : Sl celE w v cs) : Sl celE w' v cs := by
  obtain ⟨A', cp, e, h1, h2, h3⟩ := hs
  refine ⟨A', cp, e, h1, h2, fun k hk' => ?_⟩
  obtain ⟨b, o, eA, hat, hwf⟩ := h3 k hk'
  have c0 := hat.cell 0 (.int .u32 cs[k].num) rfl
  have c1 := hat.cell 1 (.string cs[k].data) rfl
  refine ⟨b, o, eA, hat.heap (hk b (block_lt_of_cell c0) fun e => ?_), hwf⟩
  subst e
  rw [cell_of_row _ _ _ _ _ _ hg] at c0 c1
  generalize o + k * celE.sz = i at c0 c1
  match i with
  | 0 => simp at c1
  | 1 => simp at c0
  | i + 2 => simp at c0
set_option maxRecDepth 100000 in
set_option maxHeartbeats 1000000 in
theorem own_any (w : World) (v : Value) (h : Hp) (hv : HeapV w v h) (hmax : h.cells.length ≤ 1073741824) :
    Calls Tryz.prog 51 #[v] w fun e w' => ∃ r, e = .returned r ∧ HeapV w' r h ∧ Below w.heap.size w w' := by
  obtain ⟨cv, rfl, hsl, hsz⟩ := hv
  have HSL := Lib.hid hsl
  obtain ⟨C, n, cc, rfl⟩ := sl_slice hsl
  have hb0 : (w.alloc (.cells #[.int .u32 h.size, .slice C n cc] 25)).heap[w.heap.size]? = some (.cells #[.int .u32 h.size, .slice C n cc] 25 (0, 0)) := heap_alloc_new _ _
  clear hsl
  go_enter Tryz.func51, Tryz.ntmps51
  go_wp2_with (fail)
  go_at_call 81
  have hbb := (below_box w (.cells #[.int .u32 h.size, .slice C n cc] 25)).alloc (by simp) (.cells #[.int .u32 0, .slice none 0 0] 25)
  have hb1 : ((w.alloc (.cells #[.int .u32 h.size, .slice C n cc] 25)).alloc (.cells #[.int .u32 0, .slice none 0 0] 25)).heap[w.heap.size + 1]? = some (.cells #[.int .u32 0, .slice none 0 0] 25 (0, 0)) := by
    have := heap_alloc_new (w.alloc (.cells #[.int .u32 h.size, .slice C n cc] 25)) (.cells #[.int .u32 0, .slice none 0 0] 25)
    simpa using this
  have hb2 : ((w.alloc (.cells #[.int .u32 h.size, .slice C n cc] 25)).alloc (.cells #[.int .u32 0, .slice none 0 0] 25)).heap[w.heap.size]? = some (.cells #[.int .u32 h.size, .slice C n cc] 25 (0, 0)) := by
    rw [Lib.alloc_old _ _ _ (by simp)]; exact hb0
  refine (cloneCel_any _ _ h.cells (HSL.out.below hbb (Nat.le_refl _)) hmax).mono ?_
  rintro e w1 ⟨r, rfl, hsl, hb⟩
  obtain ⟨A1, n1, c1, rfl⟩ := sl_slice hsl
  have hB1 : Below w.heap.size w w1 := hbb.trans (hb.mono (by simp; omega))
  have hr1 := (hb.block (w.heap.size + 1) (by simp)).trans hb1
  have hr2 := (hb.block w.heap.size (by simp; omega)).trans hb2
  have f1 := frozen_of_row w1 w.heap.size 1 _ _ hr2
  have hset := blk_set hr2 1 (.slice A1 n1 c1)
  have hgs := grown_set (World.grownBy.refl w1 (some w.heap.size)) 1 (.slice A1 n1 c1)
  have hr3 := (hgs.block (w.heap.size + 1) (lt_of_block hr1) (by simp)).trans hr1
  have hB2 : Below w.heap.size w (w1.setCell ⟨w.heap.size, 1, none⟩ (.slice A1 n1 c1)) := hB1.setCell (p := ⟨w.heap.size, 1, none⟩) (Nat.le_refl _) _
  have c10 : w1.cell? ⟨w.heap.size, 0, none⟩ = some (.int .u32 h.size) := by rw [cell_of_row _ _ _ _ _ _ hr2]; rfl
  have c11 : w1.cell? ⟨w.heap.size, 1, none⟩ = some (.slice C n cc) := by rw [cell_of_row _ _ _ _ _ _ hr2]; rfl
  have hs2 : Sl celE (w1.setCell ⟨w.heap.size, 1, none⟩ (.slice A1 n1 c1)) (.slice A1 n1 c1) h.cells := sl_cel_keep hr2 (fun b hb hne => hgs.block b hb (by simpa using hne)) hsl
  have hlt1 := lt_of_block hr2
  have HF := Lib.hid (And.intro hset (And.intro hr3 (And.intro hB2 hs2)))
  clear hset hgs hr3 hB2 hs2 hb hbb hb1 hb2 hB1 hr1 hr2 hsl hb0
  go_wp2_with (refine wpList_store_at rfl 25 _ _ rfl (w.heap.size + 1) 0 rfl [_, _] rfl 25 _ HF.out.2.1 (by simp) (by intro v hv; simp at hv; rcases hv with rfl | rfl <;> rfl) heap_size ?_)
  have hfin := heap_setRow_same _ (w.heap.size + 1) ((#[.int .u32 0, .slice none 0 0] : Array Value).toList.take 0 ++ [Value.int .u32 h.size, Value.slice A1 n1 c1] ++ (#[.int .u32 0, .slice none 0 0] : Array Value).toList.drop (0 + [Value.int .u32 h.size, Value.slice A1 n1 c1].length)).toArray _ _ HF.out.2.1
  refine bodyPost_ret (results_cell_row rfl _ _ (w.heap.size + 1) 25 _ (0, 0) _ rfl hfin Tryz.underlying25 rfl heap_size) rfl ⟨_, rfl, ⟨_, rfl, sl_cel_keep HF.out.2.1 (fun b _ hne => heap_setRow_other _ _ _ _ hne) HF.out.2.2.2, hsz⟩, HF.out.2.2.1.trans ⟨rfl, rfl, rfl, by simp [World.setRow], fun k hk => heap_setRow_other _ _ _ _ (by omega)⟩⟩
end Go.Proofs.YthhmcjojnbaiiaaGreatDoor
