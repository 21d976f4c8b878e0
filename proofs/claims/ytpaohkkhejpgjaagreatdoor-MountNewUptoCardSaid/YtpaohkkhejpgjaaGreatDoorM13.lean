/- Texts of the proof: Pu Lo. -/
import Derived.Test.YtpaohkkhejpgjaaGreatDoorM10
import Derived.Test.YtpaohkkhejpgjaaGreatDoorM7
import Derived.Test.YtpaohkkhejpgjaaGreatDoorM1
set_option linter.all false
set_option maxRecDepth 100000
set_option maxHeartbeats 8000000
namespace Go.Proofs.YtpaohkkhejpgjaaGreatDoor
open Go Go.RowKit
theorem ptr_info : (Tryz.prog.info? 142).map (fun i => (i.zero, i.size, i.bytes)) = some (some (.pointer none), 1, 8) := by kernel_rfl
def NoStr (w : World) (v : Value) : Prop := ∀ (g : Nat) (cs : Array Value) (t : TypeId) (fr : Nat × Nat), v.ownBlock = some g → w.heap[g]? = some (.cells cs t fr) → ∀ x ∈ cs.toList, ∀ s, x ≠ .string s
theorem St.noStr {B : Nat} {w : World} {p : Nat} {sz : Int} {pcs : List (Nat × CC)} (h : St B w p sz pcs) {v : Value} (hv : w.cell? ⟨p, 1, none⟩ = some v) : NoStr w v := fun g cs t fr ho hg => h.spare v g cs t fr hv ho hg
theorem append_ptr (w : World) (B : Nat) (v : Value) (n : Nat) (xs : List Value) (hown : w.ownsRow B 142 1 v n xs) (hns : NoStr w v) (hxs : ∀ x ∈ xs, ∀ s, x ≠ .string s) (a : Addr) (c : Nat) (u : Value) (hu : u.oneCell' = true) (hus : ∀ s, u ≠ .string s) (hc : w.cell? a = some u)
 (h63 : n + 1 ≤ 1073741825) (hbase : B ≤ w.heap.size) :
 ∃ g cap w', (Builtin.append_ #[146, 146] 146 #[v, .slice (some a) 1 c]).run Tryz.prog w = .ok (.slice (some ⟨g, 0, none⟩) (n + 1) cap) w' ∧
  w'.ownsRow B 142 1 (.slice (some ⟨g, 0, none⟩) (n + 1) cap) (n + 1) (xs ++ [u]) ∧ NoStr w' (.slice (some ⟨g, 0, none⟩) (n + 1) cap) ∧ w.grownBy w' v.ownBlock := by
 obtain ⟨i, hi, hz, hsz, hby⟩ := info_parts ptr_info
 have hnews : ∀ j q, [u][j]? = some q → w.cell? (a.add j) = some q := by
  intro j q hj
  match j with
  | 0 => simp at hj; subst hj; rw [show a.add 0 = a by unfold Addr.add; split <;> simp_all]; exact hc
  | j + 1 => simp at hj
 have ht := Tryz.underlying146
 have hxl : xs.length = n := by simpa using hown.1
 have grown : ∀ old, old < n + 1 →
  (w.drew.alloc (.cells (xs.toArray ++ [u].toArray ++ Builtin.zeroCells (Value.pointer none).cells (grownCap w (n + 1) old 142 - (n + 1))) 142)).ownsRow B 142 1 (.slice (some ⟨w.heap.size, 0, none⟩) (n + 1) (grownCap w (n + 1) old 142)) (n + 1) (xs ++ [u]) ∧
  NoStr (w.drew.alloc (.cells (xs.toArray ++ [u].toArray ++ Builtin.zeroCells (Value.pointer none).cells (grownCap w (n + 1) old 142 - (n + 1))) 142)) (.slice (some ⟨w.heap.size, 0, none⟩) (n + 1) (grownCap w (n + 1) old 142)) ∧
  w.grownBy (w.drew.alloc (.cells (xs.toArray ++ [u].toArray ++ Builtin.zeroCells (Value.pointer none).cells (grownCap w (n + 1) old 142 - (n + 1))) 142)) v.ownBlock := by
  intro old ho
  have hge := grownCap_ge w (n + 1) old 142
  have hcm : grownCap w (n + 1) old 142 ≤ maxLen := grownCap_le_maxLen w (n + 1) old 142 (by unfold maxLen; omega)
  refine ⟨⟨by simp [hxl], .inr ⟨w.heap.size, _, _, rfl, hbase, heap_alloc_new w.drew _, hge, hcm, ?_, ?_⟩⟩, ?_, ⟨rfl, rfl, rfl, by simp, fun k hk _ => heap_alloc_old w.drew _ hk⟩⟩
  · simp only [Array.size_append, List.size_toArray, size_zeroCells, hxl, List.length_singleton, Value.cells]
    simp
    omega
  · simp only [Array.toList_append, List.append_assoc]
    rw [← List.append_assoc, Nat.mul_one, show n + 1 = (xs ++ [u]).length by simp [hxl]]
    exact List.take_left
  · intro g cs t fr hg hh x hx s
    have hg : w.heap.size = g := by simpa [Value.ownBlock] using hg
    subst hg
    have hn := heap_alloc_new w.drew (.cells (xs.toArray ++ [u].toArray ++ Builtin.zeroCells (Value.pointer none).cells (grownCap w (n + 1) old 142 - (n + 1))) 142)
    have hn : (w.drew.alloc (.cells (xs.toArray ++ [u].toArray ++ Builtin.zeroCells (Value.pointer none).cells (grownCap w (n + 1) old 142 - (n + 1))) 142)).heap[w.heap.size]? = some (.cells (xs.toArray ++ [u].toArray ++ Builtin.zeroCells (Value.pointer none).cells (grownCap w (n + 1) old 142 - (n + 1))) 142 (0, 0)) := hn
    rw [hn] at hh
    injection hh with hh
    injection hh with hh _ _
    subst hh
    simp only [Array.toList_append, List.mem_append] at hx
    rcases hx with (hx | hx) | hx
    · exact hxs x hx s
    · simp at hx; subst hx; exact hus s
    · simp [Builtin.zeroCells, Value.cells] at hx
      obtain ⟨j, _, rfl⟩ := hx
      simp [Nat.mod_one]
 rcases hown.2 with ⟨rfl, rfl⟩ | ⟨g, cap, cur, rfl, hbg, hg, hnc, hcm, hcs, htake⟩
 · have hx : xs = [] := List.eq_nil_of_length_eq_zero hxl
   subst hx
   have hr := run_append_nil (P := Tryz.prog) w 146 146 142 i (.pointer none) ht hi hz a 1 c [u] (by rw [hsz]; rfl) hnews (by omega) (by omega) (by rw [hby]; omega)
   have hgr := grown 0 (by omega)
   simp only [Nat.zero_add, List.nil_append] at hgr hr ⊢
   exact ⟨_, _, _, by simpa using hr, by simpa using hgr.1, by simpa using hgr.2.1, by simpa using hgr.2.2⟩
 · by_cases hroom : n + 1 ≤ cap
   · have hfit : n * i.size + [u].length ≤ cur.size := by rw [hsz, hcs]; simp; omega
     have hr := run_append_room (P := Tryz.prog) w 146 146 142 i ht hi g n cap cur hg a 1 c [u] (by rw [hsz]; rfl) hnews (by simpa using hu) hroom hfit
     rw [hsz, Nat.mul_one] at hr
     refine ⟨g, cap, _, hr, ⟨by simp [hxl], .inr ⟨g, cap, _, rfl, hbg, setRow_heap w g cur _ _ _ hg, hroom, hcm, ?_, ?_⟩⟩, ?_, ⟨rfl, rfl, rfl, by simp, fun k _ hk => setRow_other w g k _ (fun e => hk (by simp [Value.ownBlock, e]))⟩⟩
     · simp only [List.size_toArray, List.length_append, List.length_take, List.length_drop, Array.length_toList, List.length_singleton]
       omega
     · rw [Nat.mul_one] at htake ⊢
       rw [htake, show n + 1 = (xs ++ [u]).length by simp [hxl]]
       exact List.take_left
     · intro g' cs t fr hg' hh x hx s
       have e : g = g' := by simpa [Value.ownBlock] using hg'
       subst e
       rw [setRow_heap w g cur _ _ _ hg] at hh
       injection hh with hh
       injection hh with hh _ _
       subst hh
       have hcur := hns g cur _ _ rfl hg
       rcases List.mem_append.1 hx with hx | hx
       · rcases List.mem_append.1 hx with hx | hx
         · exact hcur x ((List.take_subset _ _) hx) s
         · simp at hx; subst hx; exact hus s
       · exact hcur x ((List.drop_subset _ _) hx) s
   · have holds : ∀ j q, xs[j]? = some q → w.cell? ((⟨g, 0, none⟩ : Addr).add j) = some q := hown.cells (g := g) rfl
     have hr := run_append_grow (P := Tryz.prog) w 146 146 142 i (.pointer none) ht hi hz ⟨g, 0, none⟩ n cap xs (by rw [hsz]; exact hown.1) holds a 1 c [u] (by rw [hsz]; rfl) hnews (by omega) (by omega) (growslice_fits (by omega) (by rw [hby]; omega))
     have hgr := grown cap (by omega)
     exact ⟨_, _, _, hr, hgr.1, hgr.2.1, hgr.2.2⟩
def ptrsV (pcs : List (Nat × CC)) : List Value := pcs.map fun x => Value.pointer (some ⟨x.1, 0, none⟩)
theorem ptrs_noStr (pcs : List (Nat × CC)) : ∀ x ∈ ptrsV pcs, ∀ s, x ≠ .string s := by
 intro x hx s
 obtain ⟨y, _, rfl⟩ := List.mem_map.1 hx
 simp
theorem NoStr.noRow {w : World} {v : Value} (h : NoStr w v) {g : Nat} {cs : Array Value} {t : TypeId} {fr : Nat × Nat} (ho : v.ownBlock = some g) (hg : w.heap[g]? = some (.cells cs t fr)) : NoRow cs := rowPtr_noRow cs (h g cs t fr ho hg)
theorem append_fr {B : Nat} {w w' : World} {v : Value} {n : Nat} {xs : List Value} (hown : w.ownsRow B 142 1 v n xs) (hns : NoStr w v) (hg : w.grownBy w' v.ownBlock) : Fr w w' := by
 refine ⟨hg.os, hg.tape, hg.output, hg.size, fun b hb => ?_⟩
 by_cases e : some b = v.ownBlock
 · rcases hown.2 with ⟨e1, _⟩ | ⟨g, cap, cur, e1, h2, h3, h4⟩
   · rw [e1] at e; cases e
   · have e2 : b = g := by rw [e1] at e; simpa [Value.ownBlock] using e
     subst e2
     exact Or.inr ⟨_, _, _, h3, Or.inr (Or.inr (Or.inl rfl)), hns.noRow e.symm h3, fun h => absurd h (by decide)⟩
 · exact Or.inl (hg.block b hb e)
theorem St.newRow {B : Nat} {w : World} {p : Nat} {sz : Int} {v0 : Value} {a0 : Int} {v : Value} {pcs : List (Nat × CC)} (hlow : B ≤ p) (hp : w.heap[p]? = some (.cells #[.int .u32 sz, v0, .int .i64 a0] 150 (0, 0))) (hv0 : v0.oneCell' = true ∧ ∀ s, v0 ≠ .string s)
 (hown : w.ownsRow B 142 1 v pcs.length (ptrsV pcs)) (hns : NoStr w v) (hcs : ∀ x ∈ pcs, CellAt w x.1 x.2 ∧ B ≤ x.1) (hnd : (pcs.map (·.1)).Nodup) (hwf : ∀ x ∈ pcs, ccWf x.2) :
 St B (w.setCell ⟨p, 1, none⟩ v) p sz pcs ∧ Fr w (w.setCell ⟨p, 1, none⟩ v) ∧ Below B w (w.setCell ⟨p, 1, none⟩ v) := by
 have hg : w.grownBy (w.setCell ⟨p, 1, none⟩ v) (some p) := jap (World.grownBy.refl w (some p)) 1 _
 have hfr : Fr w (w.setCell ⟨p, 1, none⟩ v) := Fr.of_grown hg hp (Or.inl rfl) (jhz sz v0 a0 hv0) (fun h => absurd h (by decide))
 have hp' : (w.setCell ⟨p, 1, none⟩ v).heap[p]? = some (.cells #[.int .u32 sz, v, .int .i64 a0] 150 (0, 0)) := ja2 hp 1 _
 refine ⟨⟨hlow, ⟨v, a0, hp', jat hown hg hp (by decide)⟩, fun x hx => ⟨?_, (hcs x hx).2⟩, hnd, hwf, ?_⟩, hfr, (Below.refl B w).setCell (p := ⟨p, 1, none⟩) hlow _⟩
 · have hc := (hcs x hx).1
   have hne := jly hc hp (by decide)
   obtain ⟨_, _, _, hcb, _⟩ := id hc
   exact hc.keep hfr.soft (hg.block x.1 (lt_of_block hcb) (by simpa using hne))
 · intro v' g cs t fr hc ho hgb
   have hv : v' = v := by
    rw [cell_of_row _ _ _ _ _ _ hp'] at hc
    simpa using hc.symm
   subst hv
   have hne : g ≠ p := fun e => jb8 hown hp (by decide) (by rw [ho, e])
   rw [hg.block g (hown.lt g ho).2 (by simpa using hne)] at hgb
   exact hns g cs t fr ho hgb
theorem step_push {ops : Array Oper} {o : Oper} {a : Act} {K : Act → World → Prop} {Q : Exit → Act → World → Prop} {E : Prop} {B : Nat} {w : World} (hgd : o.guard = none) (s y : Operand)
 (ho : o.op = .call { callee := .builtin .append, args := #[s, y], argTypes := #[146, 146] }) (hty : o.type = 146) (v : Value) (n : Nat) (xs : List Value) (hown : w.ownsRow B 142 1 v n xs) (hns : NoStr w v) (hxs : ∀ x ∈ xs, ∀ s, x ≠ .string s)
 (ad : Addr) (c : Nat) (u : Value) (hu : u.oneCell' = true) (hus : ∀ s, u ≠ .string s) (hc : w.cell? ad = some u) (h63 : n + 1 ≤ 1073741825) (hbase : B ≤ w.heap.size)
 (hs : a.eval s = v) (hy : a.eval y = .slice (some ad) 1 c)
 (hK : ∀ g cap wc, wc.ownsRow B 142 1 (.slice (some ⟨g, 0, none⟩) (n + 1) cap) (n + 1) (xs ++ [u]) → NoStr wc (.slice (some ⟨g, 0, none⟩) (n + 1) cap) → w.grownBy wc v.ownBlock → K (a.put o.dst (.slice (some ⟨g, 0, none⟩) (n + 1) cap)) wc) :
 if Region.wanted o (yielded ops a.tmps) = true then Oper.wp Tryz.prog o a w K Q else E := by
 have hw : Region.wanted o (yielded ops a.tmps) = true := by simp [Region.wanted, hgd]
 rw [if_pos hw]
 obtain ⟨g, cap, wc, hr, h1, h2, h3⟩ := append_ptr w B v n xs hown hns hxs ad c u hu hus hc h63 hbase
 unfold Oper.wp execOp
 simp only [ho, hty, resolve, invoke, builtin, Sem.run_bind, Sem.run_pure, Result.andThen_ok, List.map_toArray, List.map_cons, List.map_nil, hs, hy, hr]
 exact hK g cap wc h1 h2 h3
theorem jin (w : World) (o1 o2 : Obj) (k : Nat) (h : k < w.heap.size) : ((w.alloc o1).alloc o2).drew.heap[k]? = w.heap[k]? := by
 show ((w.alloc o1).alloc o2).heap[k]? = _
 rw [Lib.alloc_old _ _ _ (by simp; omega), Lib.alloc_old _ _ _ h]
theorem step_push2 {ops : Array Oper} {o : Oper} {a : Act} {K : Act → World → Prop} {Q : Exit → Act → World → Prop} {E : Prop} {B : Nat} {w : World} {o1 : Obj} (hgd : o.guard = none) (s y : Operand)
 (ho : o.op = .call { callee := .builtin .append, args := #[s, y], argTypes := #[146, 146] }) (hty : o.type = 146) (v : Value) (n : Nat) (xs : List Value) (hown : w.ownsRow B 142 1 v n xs) (hns : NoStr w v) (hxs : ∀ x ∈ xs, ∀ s, x ≠ .string s)
 (p : Nat) (cs : Array Value) (hp : w.heap[p]? = some (.cells cs 150 (0, 0))) (hpv : w.cell? ⟨p, 1, none⟩ = some v) (h63 : n + 1 ≤ 1073741825) (hbase : B ≤ w.heap.size)
 (hs : a.eval s = v) (hy : a.eval y = .slice (some ⟨w.heap.size + 1, 0, none⟩) 1 1)
 (hK : ∀ g cap wc, wc.cell? ⟨p, 1, none⟩ = some v → wc.frozen? ⟨p, 1, none⟩ = false → wc.heap[p]? = some (.cells cs 150 (0, 0)) →
  wc.ownsRow B 142 1 (.slice (some ⟨g, 0, none⟩) (n + 1) cap) (n + 1) (xs ++ [.pointer (some ⟨w.heap.size, 0, none⟩)]) → NoStr wc (.slice (some ⟨g, 0, none⟩) (n + 1) cap) →
  (∀ b, b < w.heap.size + 2 → some b ≠ v.ownBlock → wc.heap[b]? = ((w.alloc o1).alloc (.cells #[.pointer (some ⟨w.heap.size, 0, none⟩)] 142)).heap[b]?) → Fr w wc → Below B w wc → w.heap.size < wc.heap.size → K (a.put o.dst (.slice (some ⟨g, 0, none⟩) (n + 1) cap)) wc) :
 if Region.wanted o (yielded ops a.tmps) = true then Oper.wp Tryz.prog o a ((w.alloc o1).alloc (.cells #[.pointer (some ⟨w.heap.size, 0, none⟩)] 142)).drew K Q else E := by
 have hown2 : ((w.alloc o1).alloc (.cells #[.pointer (some ⟨w.heap.size, 0, none⟩)] 142)).drew.ownsRow B 142 1 v n xs := ((hown.alloc _).alloc _).drew
 have hns2 : NoStr ((w.alloc o1).alloc (.cells #[.pointer (some ⟨w.heap.size, 0, none⟩)] 142)).drew v := by
  intro g cs t fr ho hg
  rw [jin _ _ _ _ (hown.lt g ho).2] at hg
  exact hns g cs t fr ho hg
 have hcell : ((w.alloc o1).alloc (.cells #[.pointer (some ⟨w.heap.size, 0, none⟩)] 142)).drew.cell? ⟨w.heap.size + 1, 0, none⟩ = some (.pointer (some ⟨w.heap.size, 0, none⟩)) := by
  have h := heap_alloc_new (w.alloc o1) (.cells #[.pointer (some ⟨w.heap.size, 0, none⟩)] 142)
  have h2 : ((w.alloc o1).alloc (.cells #[.pointer (some ⟨w.heap.size, 0, none⟩)] 142)).heap[w.heap.size + 1]? = some (.cells #[.pointer (some ⟨w.heap.size, 0, none⟩)] 142 (0, 0)) := by simpa using h
  show ((w.alloc o1).alloc (.cells #[.pointer (some ⟨w.heap.size, 0, none⟩)] 142)).cell? ⟨w.heap.size + 1, 0, none⟩ = _
  rw [cell_of_row _ _ _ _ _ _ h2]; rfl
 refine step_push (B := B) hgd s y ho hty v n xs hown2 hns2 hxs ⟨w.heap.size + 1, 0, none⟩ 1 (.pointer (some ⟨w.heap.size, 0, none⟩)) rfl (fun s => by simp) hcell h63 (by simp [World.drew]; omega) hs hy ?_
 intro g cap wc h1 h2 h3
 have hlt : ((w.alloc o1).alloc (.cells #[.pointer (some ⟨w.heap.size, 0, none⟩)] 142)).drew.heap.size = w.heap.size + 2 := by simp [World.drew]
 have hsz := h3.size
 have hpl := lt_of_block hp
 have hpc : wc.heap[p]? = some (.cells cs 150 (0, 0)) := by
  rw [h3.block p (by omega) (fun e => jb8 hown hp (by decide) e.symm), jin _ _ _ _ hpl]; exact hp
 have hb0 : Below w.heap.size w ((w.alloc o1).alloc (.cells #[.pointer (some ⟨w.heap.size, 0, none⟩)] 142)).drew := (((Below.refl _ w).alloc (Nat.le_refl _) _).alloc (by simp) _).drew
 refine hK g cap wc ?_ (frozen_of_row _ _ _ _ _ hpc) hpc h1 h2 (fun b hb hne => h3.block b (by omega) hne) ((Fr.of_below hb0).trans (append_fr hown2 hns2 h3)) ((hb0.mono hbase).grown h3 (by omega) (fun k hk => (hown.lt k hk).1)) (by omega)
 rw [← hpv, cell_of_row _ _ _ _ _ _ hpc, cell_of_row _ _ _ _ _ _ hp]
theorem St.pushed {B : Nat} {w wd : World} {p : Nat} {sz : Int} {pcs : List (Nat × CC)} (h : St B w p sz pcs) {v0 v' : Value} {a0 : Int} (hp : wd.heap[p]? = some (.cells #[.int .u32 sz, v0, .int .i64 a0] 150 (0, 0)))
 (hold : w.ownsRow B 142 1 v0 pcs.length (ptrsV pcs)) (hown : wd.ownsRow B 142 1 v' (pcs.length + 1) (ptrsV pcs ++ [.pointer (some ⟨w.heap.size, 0, none⟩)])) (hns : NoStr wd v') {cs : Array Value} {o2 : Obj}
 (hbk : ∀ b, b < w.heap.size + 2 → some b ≠ v0.ownBlock → wd.heap[b]? = ((w.alloc (.cells cs 145)).alloc o2).heap[b]?) (hfr : Fr w wd) (hbl : Below B w wd) (hB : B ≤ w.heap.size) (c : CC) {vi vk vv : Value} (hcs : cs = (ccRow c vi vk vv).toArray)
 (hi : Sl itemE w vi c.node.items) (hk : Sl kidE w vk c.node.kids) (hv : Sl volE w vv c.node.vols) (hwf : ccWf c) :
 St B (wd.setCell ⟨p, 1, none⟩ v') p sz (pcs ++ [(w.heap.size, c)]) ∧ Fr w (wd.setCell ⟨p, 1, none⟩ v') ∧ Below B w (wd.setCell ⟨p, 1, none⟩ v') := by
 have hlt : ∀ x ∈ pcs, x.1 < w.heap.size := by
  intro x hx
  obtain ⟨_, _, _, hb, _⟩ := (h.cells x hx).1
  exact lt_of_block hb
 have hne : some w.heap.size ≠ v0.ownBlock := fun e => by have := (hold.lt _ e.symm).2; omega
 have hr := St.newRow (pcs := pcs ++ [(w.heap.size, c)]) h.low hp (jlx hold) (by rw [List.length_append]; unfold ptrsV at hown ⊢; rw [List.map_append]; exact hown) hns (by
  intro x hx
  rcases List.mem_append.1 hx with hx | hx
  · have hc := (h.cells x hx).1
    obtain ⟨_, _, _, hb, _⟩ := id hc
    refine ⟨hc.keep hfr.soft ?_, (h.cells x hx).2⟩
    have hl := hlt x hx
    rw [hbk x.1 (by omega) (fun e => jb8 hold hb (by decide) e.symm)]
    exact jin w _ _ _ hl
  · simp at hx
    subst hx
    refine ⟨⟨vi, vk, vv, ?_, hi.soft jju hfr.soft, hk.soft jip hfr.soft, hv.soft jlw hfr.soft⟩, hB⟩
    show wd.heap[w.heap.size]? = _
    rw [hbk _ (by omega) hne, Lib.alloc_old _ _ _ (by simp), ← hcs]
    exact heap_alloc_new _ _) (by
  rw [List.map_append, List.nodup_append]
  refine ⟨h.nodup, by simp, ?_⟩
  intro a ha b hb
  obtain ⟨x, hx, rfl⟩ := List.mem_map.1 ha
  simp at hb
  subst hb
  have := hlt x hx
  omega) (by
  intro x hx
  rcases List.mem_append.1 hx with hx | hx
  · exact h.wf x hx
  · simp at hx; subst hx; exact hwf)
 exact ⟨hr.1, hfr.trans hr.2.1, hbl.trans hr.2.2⟩
@[go_sem] def ldOp (t : TypeId) (x : Operand) : Op := Op.load t x
theorem jjl (t : TypeId) (x : Operand) : Op.load t x = ldOp t x := rfl
end Go.Proofs.YtpaohkkhejpgjaaGreatDoor
