/- Texts of the proof: He. -/
import Derived.Test.YthhmcjojnbaiiaaGreatDoorM12
import Derived.Test.YthhmcjojnbaiiaaGreatDoorM22
set_option linter.all false
/- Heap: the store as plain data; Own. -/
namespace Go.Proofs.YthhmcjojnbaiiaaGreatDoor
open Go Go.RowKit
theorem cel_info : (Tryz.prog.info? 94).map (fun i => (i.zero.map (fun z => z.cells.size), i.size, i.bytes)) = some (some 3, 3, 32) := by kernel_rfl
theorem heap_size : (Tryz.prog.info? 25).map (·.size) = some 2 := by kernel_rfl
/-- An append to an own row, in a region that draws. -/
theorem step_lies {ops : Array Oper} {o : Oper} {a : Act} {K : Act → World → Prop} {Q : Exit → Act → World → Prop} {E : Prop} {w : World} (hgd : o.guard = none) (s y : Operand) (t : TypeId)
    (ho : o.op = .call { callee := .builtin .append, args := #[s, y], argTypes := #[t, t] })
    (base : Nat) (e : TypeId) (i : TypeInfo) (z : Value) (size bytes : Nat) (ht : Tryz.prog.underlying t = some (.slice e)) (hi : Tryz.prog.info? e = some i) (hz : i.zero = some z)
    (hsize : i.size = size) (hby : i.bytes = bytes) (hzs : z.cells.size = size) (hsz : 0 < size)
    (v : Value) (n : Nat) (xs : List Value) (hs : a.eval s = v) (hown : w.ownsRow base e size v n xs)
    (ad : Addr) (m c : Nat) (news : List Value) (hx : a.eval y = .slice (some ad) m c) (hl : news.length = m * size) (hnews : ∀ j u, news[j]? = some u → w.cell? (ad.add j) = some u) (h1 : ∀ u ∈ news, u.oneCell' = true)
    (hm : 0 < m) (h63 : n + m ≤ maxLen) (hbytes : (n + m) * bytes ≤ 140737488355328) (hbase : base ≤ w.heap.size)
    (hK : ∀ g cap w', w'.ownsRow base e size (.slice (some ⟨g, 0, none⟩) (n + m) cap) (n + m) (xs ++ news) → w.grownBy w' v.ownBlock → K (a.put o.dst (.slice (some ⟨g, 0, none⟩) (n + m) cap)) w') :
    if Region.wanted o (yielded ops a.tmps) = true then Oper.wp Tryz.prog o a w K Q else E := by
  have hw : Region.wanted o (yielded ops a.tmps) = true := by simp [Region.wanted, hgd]
  rw [if_pos hw]
  obtain ⟨g, cap, w', hr, h2, h3, _⟩ := run_append_lies (P := Tryz.prog) (w := w) t o.type base e i z size bytes ht hi hz hsize hby hzs hsz v n xs hown ad m c news hl hnews h1 hm h63 hbytes hbase _ rfl
  unfold Oper.wp execOp
  simp only [ho, resolve, invoke, builtin, Sem.run_bind, Sem.run_pure, Result.andThen_ok, List.map_toArray, List.map_cons, List.map_nil, hs, hx, hr]
  exact hK g cap w' h2 h3
/-- The result's own block written last. -/
theorem below_store {w wr : World} (hB : Below w.heap.size w wr) {z0 : Value} (h0 : wr.heap[w.heap.size]? = some (.cells #[z0, .slice none 0 0] 25 (0, 0))) (v u : Value) :
    (wr.setRow w.heap.size ((#[z0, .slice none 0 0] : Array Value).toList.take 0 ++ [u, v] ++ (#[z0, .slice none 0 0] : Array Value).toList.drop (0 + [u, v].length)).toArray).heap[w.heap.size]? = some (.cells #[u, v] 25 (0, 0)) ∧
      Below w.heap.size w (wr.setRow w.heap.size ((#[z0, .slice none 0 0] : Array Value).toList.take 0 ++ [u, v] ++ (#[z0, .slice none 0 0] : Array Value).toList.drop (0 + [u, v].length)).toArray) ∧
      (∀ {c : Value} {cs : List Cel}, Sl celE wr c cs → Sl celE (wr.setRow w.heap.size ((#[z0, .slice none 0 0] : Array Value).toList.take 0 ++ [u, v] ++ (#[z0, .slice none 0 0] : Array Value).toList.drop (0 + [u, v].length)).toArray) c cs) := by
  refine ⟨by rw [heap_setRow_same _ _ _ _ _ h0]; rfl, hB.trans ⟨rfl, rfl, rfl, by simp [World.setRow], fun k hk => heap_setRow_other _ _ _ _ (by omega)⟩, ?_⟩
  intro c cs hs
  obtain ⟨A, cp, e, h1, h2, h3⟩ := hs
  refine ⟨A, cp, e, h1, h2, fun k hk => ?_⟩
  obtain ⟨b, o, eA, hat, hwf⟩ := h3 k hk
  refine ⟨b, o, eA, hat.heap ?_, hwf⟩
  refine heap_setRow_other _ _ _ _ fun e => ?_
  subst e
  have c0 := hat.cell 0 (.int .u32 cs[k].num) rfl
  have c1 := hat.cell 1 (.string cs[k].data) rfl
  rw [cell_of_row _ _ _ _ _ _ h0] at c0 c1
  generalize o + k * celE.sz = i at c0 c1
  match i with
  | 0 => simp at c1
  | 1 => simp at c0
  | i + 2 => simp at c0
set_option maxRecDepth 100000 in
set_option maxHeartbeats 2000000 in
theorem heapS_any (B : Nat) (w : World) (p : Nat) (sz : Int) (pcs : List (Nat × CC)) (h : St B w p sz pcs) (hmax : pcs.length ≤ 1073741824) (hsz : u32Ok sz) :
    Calls Tryz.prog 60 #[.pointer (some ⟨p, 0, none⟩)] w fun e w' => ∃ v, e = .returned v ∧ HeapV w' v (heapOf sz (pcs.map (·.2))) ∧ Below w.heap.size w w' := by
  obtain ⟨i0, z0, hi, hz0, hz1, hz2, hzs⟩ := info_open cel_info
  have s0 := h.size_cell
  obtain ⟨sv, s1, hsown⟩ := h.field
  obtain ⟨A, cp, rfl, hcp1, hcp2, _⟩ := St.sl hsown
  rw [List.length_map] at s1 hcp1
  have hpl := h.plt
  have HS := Lib.hid (And.intro h hsown)
  clear hsown h
  have hrb0 : (w.alloc (.cells #[.int .u32 0, .slice none 0 0] 25)).heap[w.heap.size]? = some (.cells #[.int .u32 0, .slice none 0 0] 25 (0, 0)) := heap_alloc_new _ _
  have HR := Lib.hid (And.intro (below_box w (.cells #[.int .u32 0, .slice none 0 0] 25)) hrb0)
  clear hrb0
  go_enter Tryz.func60, Tryz.ntmps60
  go_wp2_with (fail)
  go_loopw [5, 16, 17, 18, 19, 20, 21, 22, 23, 24, 25, 26, 27, 28, 29] (fun _ i _ _ _ _ _ _ _ _ _ _ _ _ _ wr => ∃ (k : Nat) (hv : Value), k ≤ pcs.length ∧ i = .int .i64 k ∧ wr.heap[w.heap.size + 1]? = some (.cells #[.int .u32 sz, hv] 25 (0, 0)) ∧ wr.heap[w.heap.size]? = some (.cells #[.int .u32 0, .slice none 0 0] 25 (0, 0)) ∧ wr.ownsRow w.heap.size 94 3 hv k (((pcs.take k).map fun x => celOf x.2).flatMap celE.enc) ∧ Below w.heap.size w wr) (fun _ i _ _ _ _ _ _ _ _ _ _ _ _ _ _ => pcs.length - (intOf i).toNat)
  case atStart =>
    refine ⟨0, .slice none 0 0, Nat.zero_le _, rfl, ?_, ?_, ⟨rfl, Or.inl ⟨rfl, rfl⟩⟩, HR.out.1.alloc HR.out.1.size _⟩
    · have := heap_alloc_new (w.alloc (.cells #[.int .u32 0, .slice none 0 0] 25)) (.cells #[.int .u32 sz, .slice none 0 0] 25)
      simpa using this
    · rw [Lib.alloc_old _ _ _ (by simp)]; exact HR.out.2
  case round =>
    obtain ⟨k, hv, hk, rfl, hb1, hb0, hown, hB⟩ := hrel
    by_cases hlt : k < pcs.length
    · have hps : St B wr p sz pcs := HS.out.1.below hB
      have hsvr : wr.cell? ⟨p, 1, none⟩ = some (.slice A pcs.length cp) := (hB.cell (p := ⟨p, 1, none⟩) hpl).trans s1
      have hrow := (St.sl (hps.own hsvr)).len_eq.2.2.2
      obtain ⟨b, o, rfl, hat, _⟩ := hrow k (by rw [List.length_map]; exact hlt)
      have d0 : wr.cell? ⟨b, o + k, none⟩ = some (.pointer (some ⟨pcs[k].1, 0, none⟩)) := by
        have := hat.cell 0 _ rfl
        simpa [ptrE] using this
      have hbr : b < wr.heap.size := block_lt_of_cell d0
      have hm : pcs[k] ∈ pcs := List.getElem_mem hlt
      have d1 : wr.cell? ⟨pcs[k].1, 0, none⟩ = some (.int .u32 pcs[k].2.num) := (hps.cells _ hm).1.num
      have d2 : wr.cell? ⟨pcs[k].1, 1, none⟩ = some (.string pcs[k].2.data) := (hps.cells _ hm).1.data
      have d3 : wr.cell? ⟨pcs[k].1, 2, none⟩ = some (.int .i64 pcs[k].2.refs) := hps.refs_cell hm
      have hqw := HS.out.1.blt hm
      have hqr := hps.blt hm
      have c1 : wr.cell? ⟨w.heap.size + 1, 1, none⟩ = some hv := by rw [cell_of_row _ _ _ _ _ _ hb1]; rfl
      have htk : ((pcs.take (k + 1)).map fun x => celOf x.2).flatMap celE.enc = ((pcs.take k).map fun x => celOf x.2).flatMap celE.enc ++ [.int .u32 pcs[k].2.num, .string pcs[k].2.data, .int .i64 pcs[k].2.refs] := by
        rw [List.take_succ_eq_append_getElem hlt, List.map_append, List.flatMap_append]
        simp [celOf, celE]
      have hbl1 := lt_of_block hb1
      have hbl0 := lt_of_block hb0
      have HJ := Lib.hid (show ∀ (wd : World) (o1 : Obj), ((wr.alloc o1).drew).grownBy wd hv.ownBlock → (wd.heap[w.heap.size + 1]? = some (.cells #[.int .u32 sz, hv] 25 (0, 0)) ∧ wd.heap[w.heap.size]? = some (.cells #[.int .u32 0, .slice none 0 0] 25 (0, 0)) ∧ Below w.heap.size w wd) ∧ ∀ i, wd.cell? ⟨pcs[k].1, i, none⟩ = wr.cell? ⟨pcs[k].1, i, none⟩ from by
        intro wd o1 hg
        have hold : ∀ q, q < wr.heap.size → some q ≠ hv.ownBlock → wd.heap[q]? = wr.heap[q]? := fun q hq hne => (hg.block q (by simp [World.drew]; omega) hne).trans (Lib.alloc_old wr o1 q hq)
        refine ⟨⟨(hold _ hbl1 (fun e => own_ne hown hb1 (by decide) e.symm)).trans hb1, (hold _ hbl0 (fun e => own_ne hown hb0 (by decide) e.symm)).trans hb0, ?_⟩, fun i => World.cell?_of_block (hold _ hqr (fun e => ?_))⟩
        · exact ((hB.alloc hB.size o1).drew).grown hg (by have := hB.size; simp [World.drew]; omega) (fun q hq => (hown.lt q hq).1)
        · have h9 : w.heap.size ≤ pcs[k].1 := (hown.lt _ e.symm).1
          omega)
      have hne1 : ¬ pcs[k].1 = w.heap.size + 1 := by omega
      have hne2 : ¬ w.heap.size + 1 = pcs[k].1 := by omega
      have HG := Lib.hid (And.intro htk (And.intro hown hB))
      have hbs := hB.size
      have HW := Lib.hid hm
      clear hps hsvr hrow hat hm htk hown hB hb1 hb0
      generalize pcs[k].1 = q at *
      generalize pcs[k].2.num = num at *
      generalize pcs[k].2.data = data at *
      generalize pcs[k].2.refs = refs at *
      generalize hzs' : ((pcs.take k).map fun x => celOf x.2).flatMap celE.enc = zs at *
      clear hzs'
      have HHB := Lib.hid (show ¬ w.heap.size + 1 = w.heap.size ∧ w.heap.size ≤ w.heap.size + 1 by omega)
      generalize w.heap.size + 1 = hb at *
      go_wp2_with (fail)
      rw [ldOp_eq 23 (.tmp 20)]
      go_region_held3 (fun x => x.cell? ⟨q, 0, none⟩ = some (.int .u32 num) ∧ x.cell? ⟨q, 1, none⟩ = some (.string data) ∧ x.cell? ⟨q, 2, none⟩ = some (.int .i64 refs)) (go_keep) (first
        | (go_loud (refine step_lies (w := (wr.alloc (.cells #[.int .u32 num, .string data, .int .i64 refs] 94)).drew) rfl (.tmp 21) (.tmp 26) 23 rfl w.heap.size 94 i0 z0 3 32 Tryz.underlying23 hi hz0 hz1 hz2 hzs (by decide) hv k zs rfl ((HG.out.2.1.alloc _).drew) ⟨wr.heap.size, 0, none⟩ 1 1 [.int .u32 num, .string data, .int .i64 refs] rfl rfl (fun j u hj => by rw [add_at, Nat.zero_add]; exact new_cell (w := wr) (t := 94) j u hj) (fun u hu => by simp at hu; rcases hu with rfl | rfl | rfl <;> rfl) (by decide) (by unfold maxLen; omega) (by omega) (by simp [World.drew]; omega) ?_); intro g cap wd ho2 hg2; have hj := HJ.out wd _ hg2; have hk1 := hj.2; have hcd : wd.cell? ⟨hb, 1, none⟩ = some hv := (by rw [cell_of_row _ _ _ _ _ _ hj.1.1]; rfl); have hfd : wd.frozen? ⟨hb, 1, none⟩ = false := frozen_of_row _ _ _ _ _ hj.1.1; have HD := Lib.hid (And.intro ho2 hj.1); clear ho2 hg2 hj))
      all_goals (
        have hset := blk_set HD.out.2.1 1 (.slice (some ⟨g, 0, none⟩) (k + 1) cap)
        have hgs := grown_set (World.grownBy.refl wd (some hb)) 1 (.slice (some ⟨g, 0, none⟩) (k + 1) cap)
        have hw1 := own_keep HD.out.1 hgs HD.out.2.1 (by decide)
        have hw0 := (hgs.block w.heap.size (lt_of_block HD.out.2.2.1) (by have := HHB.out.1; simpa using fun e => this e.symm)).trans HD.out.2.2.1
        have HF := Lib.hid (And.intro hset (And.intro hw0 (And.intro hw1 (HD.out.2.2.2.setCell (p := ⟨hb, 1, none⟩) HHB.out.2 (.slice (some ⟨g, 0, none⟩) (k + 1) cap)))))
        clear hset hgs hw1 hw0 hk1 hcd hfd
        go_wp2_with (fail)
        exact ⟨⟨k + 1, _, by omega, by go_num, HF.out.1, HF.out.2.1, by rw [HG.out.1]; exact HF.out.2.2.1, HF.out.2.2.2⟩, by simp [intOf]; omega⟩)
    · obtain rfl : k = pcs.length := by omega
      rw [List.take_length] at hown
      have hwf : ∀ x ∈ pcs.map (fun x => celOf x.2), celE.wf x := by
        intro x hx
        obtain ⟨y, hy, rfl⟩ := List.mem_map.1 hx
        exact (HS.out.1.wf y hy).cel
      have hsl := own_sl (E := celE) hown (by simp) hwf
      obtain ⟨A1, n1, c1, rfl⟩ := sl_slice hsl
      have HF := Lib.hid (And.intro hb1 (And.intro hb0 (And.intro hsl hB)))
      have HBW := Lib.hid (below_store HF.out.2.2.2 HF.out.2.1 (.slice A1 n1 c1) (.int .u32 sz))
      clear hb1 hb0 hown hB hwf hsl
      go_wp2_with (first | (refine wpList_load_row rfl 25 _ rfl (w.heap.size + 1) rfl 25 _ (0, 0) _ HF.out.1 Tryz.underlying25 rfl heap_size ?_) | (refine wpList_store_at rfl 25 _ _ rfl w.heap.size 0 rfl [_, _] rfl 25 _ HF.out.2.1 (by simp) (by intro v hv; simp at hv; rcases hv with rfl | rfl <;> rfl) heap_size ?_))
      refine bodyPost_ret (results_cell_row rfl _ _ w.heap.size 25 _ (0, 0) _ rfl HBW.out.1 Tryz.underlying25 rfl heap_size) rfl ⟨_, rfl, ⟨_, rfl, ?_, hsz⟩, HBW.out.2.1⟩
      have h9 := HBW.out.2.2 HF.out.2.2.1
      rw [show (heapOf sz (pcs.map (·.2))).cells = pcs.map (fun x => celOf x.2) by unfold heapOf; rw [List.map_map]; rfl]
      exact h9
set_option maxRecDepth 100000 in
set_option maxHeartbeats 1000000 in
theorem wheap_any (B : Nat) (w : World) (q p : Nat) (sz : Int) (pcs : List (Nat × CC)) (hq : WrAt w q p) (h : St B w p sz pcs) (hmax : pcs.length ≤ 1073741824) (hsz : u32Ok sz) :
    Calls Tryz.prog 56 #[.pointer (some ⟨q, 0, none⟩)] w fun e w' => ∃ v, e = .returned v ∧ HeapV w' v (heapOf sz (pcs.map (·.2))) ∧ Below w.heap.size w w' := by
  have hrb0 : (w.alloc (.cells #[.int .u32 0, .slice none 0 0] 25)).heap[w.heap.size]? = some (.cells #[.int .u32 0, .slice none 0 0] 25 (0, 0)) := heap_alloc_new _ _
  have q0 : w.cell? ⟨q, 0, none⟩ = some (.pointer (some ⟨p, 0, none⟩)) := by rw [cell_of_row _ _ _ _ _ _ hq]; rfl
  have hql := lt_of_block hq
  have HR := Lib.hid (And.intro (below_box w (.cells #[.int .u32 0, .slice none 0 0] 25)) (And.intro hrb0 h))
  clear hrb0 h hq
  go_enter Tryz.func56, Tryz.ntmps56
  go_wp2_with (fail)
  go_at_call 60
  refine (heapS_any B _ p sz pcs (HR.out.2.2.below HR.out.1) hmax hsz).mono ?_
  rintro e w1 ⟨v, rfl, ⟨cv, rfl, hsl, _⟩, hb⟩
  obtain ⟨A1, n1, c1, rfl⟩ := sl_slice hsl
  have hB1 := below_box2 hb
  have hr1 := (hb.block w.heap.size (by simp)).trans HR.out.2.1
  have HBW := Lib.hid (below_store hB1 hr1 (.slice A1 n1 c1) (.int .u32 sz))
  have HSL := Lib.hid hsl
  have HR1 := Lib.hid hr1
  clear hb hB1 hr1 hsl
  go_wp2_with (refine wpList_store_at rfl 25 _ _ rfl w.heap.size 0 rfl [_, _] rfl 25 _ HR1.out (by simp) (by intro v hv; simp at hv; rcases hv with rfl | rfl <;> rfl) heap_size ?_)
  refine bodyPost_ret (results_cell_row rfl _ _ w.heap.size 25 _ (0, 0) _ rfl HBW.out.1 Tryz.underlying25 rfl heap_size) rfl ⟨_, rfl, ⟨_, rfl, HBW.out.2.2 HSL.out, hsz⟩, HBW.out.2.1⟩
end Go.Proofs.YthhmcjojnbaiiaaGreatDoor
