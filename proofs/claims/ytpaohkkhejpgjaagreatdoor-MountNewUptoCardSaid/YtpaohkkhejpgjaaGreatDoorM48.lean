/- Texts of the proof: Zi Zj Zk. -/
import Derived.Test.YtpaohkkhejpgjaaGreatDoorM43
import Derived.Test.YtpaohkkhejpgjaaGreatDoorM28
import Derived.Test.YtpaohkkhejpgjaaGreatDoorM45
import Derived.Test.YtpaohkkhejpgjaaGreatDoorM38
import Derived.Test.YtpaohkkhejpgjaaGreatDoorM46
import Derived.Test.YtpaohkkhejpgjaaGreatDoorM47
import Derived.Test.YtpaohkkhejpgjaaGreatDoorM32
set_option linter.all false
set_option maxRecDepth 100000
set_option maxHeartbeats 8000000
namespace Go.Proofs.YtpaohkkhejpgjaaGreatDoor
open Go Go.RowKit
theorem jmt {s : Sto} (h : jdm s = true) : devB s.dev = true ∧ openB s.heap = true ∧ s.heap.size = s.dev.size ∧ (∀ x ∈ jbh s, supB x = true) ∧ jdb s.heap s.table = true := by
 unfold jdm at h
 simp only [Bool.and_eq_true, decide_eq_true_eq] at h
 obtain ⟨h1, h2, h3, ⟨h4, h5, _⟩, _, h7, _⟩ := h
 refine ⟨h1, h2, h3, fun x hx => ?_, h7⟩
 unfold jbh at hx
 rw [List.mem_append] at hx
 unfold slotB at h4 h5
 rcases hx with hx | hx
 · cases hv : s.v0 with
   | false => rw [hv] at hx; simp at hx
   | true =>
    rw [hv] at hx h4
    simp at hx
    simp only [if_true, Bool.and_eq_true] at h4
    rw [hx]; exact h4.1
 · cases hv : s.v1 with
   | false => rw [hv] at hx; simp at hx
   | true =>
    rw [hv] at hx h5
    simp at hx
    simp only [if_true, Bool.and_eq_true] at h5
    rw [hx]; exact h5.1
theorem gen_bound {s : Sto} (h : ∀ x ∈ jbh s, supB x = true) : 0 ≤ genS s ∧ genS s ≤ 4611686018427387904 := by
 have key : ∀ (l : List Sup) (n : Int), (∀ x ∈ l, supB x = true) → 0 ≤ n → n ≤ 4611686018427387904 → 0 ≤ l.foldl (fun n x => max n x.gen) n ∧ l.foldl (fun n x => max n x.gen) n ≤ 4611686018427387904 := by
  intro l
  induction l with
  | nil => intro n _ h1 h2; exact ⟨h1, h2⟩
  | cons x r ih =>
   intro n hx h1 h2
   have hb := hx x (by simp)
   unfold supB at hb
   simp only [Bool.and_eq_true, decide_eq_true_eq] at hb
   exact ih (max n x.gen) (fun y hy => hx y (by simp [hy])) (by omega) (by omega)
 exact key _ 0 h (by omega) (by omega)
theorem tab_num {s : Sto} (ho : openB s.heap = true) (ht : jdb s.heap s.table = true) : 2 ≤ s.table.num ∧ s.table.num < s.heap.size := by
 have hg := je4 _ ho
 unfold jdb at ht
 cases hf : (jav s.heap).find? (fun c => c.num == s.table.num) with
 | none => rw [hf] at ht; cases ht
 | some c =>
  have h1 := (jc2 hg.ris).1 hf
  have h2 := hg.dec c h1.1
  rw [h1.2] at h2
  exact h2.2.2.2
theorem commit_pre {s : Sto} (hc : jdm s = true) (hg : genS s ≠ 4611686018427387904) (hk : kidE.wf s.table) : supB (ja1 s) = true ∧ supWf (ja1 s) ∧ 0 ≤ genS s ∧ genS s < 4611686018427387904 ∧ DevOk s.dev ∧ openB s.heap = true := by
 obtain ⟨h1, h2, h3, h4, h5⟩ := jmt hc
 have hd := (jcq s.dev).1 h1
 have hgb := gen_bound h4
 have htn := tab_num h2 h5
 have lo := hd.lo
 have hi := hd.hi
 refine ⟨?_, ⟨⟨by show 0 ≤ s.dev.size; omega, by show s.dev.size ≤ 4294967295; omega⟩, ⟨by show 0 ≤ genS s + 1; omega, by show genS s + 1 ≤ 18446744073709551615; omega⟩, ⟨by show 0 ≤ s.table.num; omega, by show s.table.num ≤ 4294967295; omega⟩, hk.2.2⟩, hgb.1, by omega, hd, h2⟩
 unfold supB jd1 ja1
 simp only [Bool.and_eq_true, decide_eq_true_eq]
 omega
theorem cons_len {l : List Value} {n : Nat} (h : l.length = n + 1) : ∃ x t, l = x :: t ∧ t.length = n := by
 cases l with
 | nil => cases h
 | cons x t => exact ⟨x, t, rfl, by simpa using h⟩
theorem built_old (sn : List Value) (h : sn.length = 113) : Tryz.prog.built 135 [(0, .agg sn.toArray)] = some (sn ++ [Value.int .u32 0, .int .i32 0, .int .u32 0, .map none]).toArray := by
 iterate 113 (have h2 := cons_len h; clear h; obtain ⟨x, l, rfl, h⟩ := h2)
 have h0 := List.eq_nil_of_length_eq_zero h
 subst h0
 show _ = _
 kernel_rfl
theorem jjb (H : Int → Bool) (t : Wt) (l : List Cel) (c : Cel) : jdo H t (l ++ [c]) = if H c.num then jdo H t l else jdc (jdo H t l) c.num c.data := by
 unfold jdo
 rw [List.foldl_append]; rfl
theorem wt_other {B : Nat} {w w' : World} {p g : Nat} {t : Wt} {cs : Array Value} {ty : TypeId} {fr : Nat × Nat} (h : WtAt B w p t) (hg : w.grownBy w' (some g)) (hb : w.heap[g]? = some (.cells cs ty fr)) (h1 : ty ≠ 160) (h2 : p ≠ g) : WtAt B w' p t := by
 obtain ⟨bv, wv, e1, e2, e3⟩ := h
 exact ⟨bv, wv, (hg.block _ (lt_of_block e1) (fun e => h2 (by injection e))).trans e1, jb1 e2 hg hb h1, e3⟩
structure CmR (w u0 : World) (sn : List Value) (s : Sto) (bw bo k : Nat) (wr : World) : Prop where
 below : Below u0.heap.size u0 wr
 old : (k = 0 ∧ jeu wr bo sn (.int .u32 0) (.int .i32 0) (.int .u32 0) (.map none) ∧ WtAt w.heap.size wr bw ⟨s.dev, 0⟩) ∨
  ∃ m n S, OldAt wr bo m n sn (.int .u32 1) (.int .i32 0) (.int .u32 0) S ∧ (∀ x, S x = true → ∃ t ∈ jbh s, Reach s.heap t.table x) ∧ u0.heap.size ≤ m ∧ WtAt w.heap.size wr bw (jdo S ⟨s.dev, 0⟩ (s.heap.cells.take k))
theorem CmR.pure {w u0 wr w' : World} {sn : List Value} {s : Sto} {bw bo k : Nat} (h : CmR w u0 sn s bw bo k wr) (hb : Below wr.heap.size wr w') : CmR w u0 sn s bw bo k w' := by
 refine ⟨h.below.trans (hb.mono h.below.size), ?_⟩
 rcases h.old with ⟨h0, h1, h2⟩ | ⟨m, n, S, h1, h2, h3, h4⟩
 · exact Or.inl ⟨h0, (hb.block _ (lt_of_block h1)).trans h1, jk3 h2 hb⟩
 · exact Or.inr ⟨m, n, S, h1.below hb, h2, h3, jk3 h4 hb⟩
structure CmH (w u0 wx : World) (sn : List Value) (s : Sto) (bw bo k m n : Nat) (S : Int → Bool) (w' : World) : Prop where
 below : Below u0.heap.size u0 w'
 at_ : OldAt w' bo m n sn (.int .u32 1) (.int .i32 0) (.int .u32 0) S
 only : ∀ x, S x = true → ∃ t ∈ jbh s, Reach s.heap t.table x
 low : u0.heap.size ≤ m
 wt : WtAt w.heap.size w' bw (jdo S ⟨s.dev, 0⟩ (s.heap.cells.take k))
 size : wx.heap.size ≤ w'.heap.size
 keep : ∀ g, g < wx.heap.size → g ≠ bo → w'.heap[g]? = wx.heap[g]?
theorem has_cm {w u0 wx : World} {sn : List Value} {s : Sto} {bw bo k : Nat} (h : CmR w u0 sn s bw bo k wx) (hv : StoV u0 (.agg sn.toArray) s) (hlen : sn.length = 113) (hbo : u0.heap.size ≤ bo) (hne : bw ≠ bo) (ho : openB s.heap = true) (hmax : s.heap.cells.length ≤ 1073741824) {num : Int} (hnum : u32Ok num) :
 Calls Tryz.prog 65 #[.pointer (some ⟨bo, 0, none⟩), .int .u32 num] wx fun e w' => ∃ m n S, e = .returned (.bool (S num)) ∧ CmH w u0 wx sn s bw bo k m n S w' := by
 rcases h.old with ⟨h0, h1, h2⟩ | ⟨m, n, S, h1, h2, h3, h4⟩
 · refine (has_first u0 wx bo sn s num hv hlen hbo h.below ho hmax hnum h1).mono ?_
   rintro e w' ⟨m, n, S, he, k1, k2, k3, k4⟩
   refine ⟨m, n, S, he, ⟨h.below.grown k4 h.below.size (fun g hg => by cases hg; exact hbo), k1, k2, Nat.le_trans h.below.size k3, ?_, k4.size, fun g hg hgo => k4.block g hg (fun e => hgo (by injection e))⟩⟩
   rw [h0]
   exact wt_other h2 k4 h1 (by decide) hne
 · refine (has_done wx bo m n sn S num hlen hnum h1).mono ?_
   rintro e w' ⟨he, hb⟩
   exact ⟨m, n, S, he, ⟨h.below.trans (hb.mono h.below.size), h1.below hb, h2, h3, jk3 h4 hb, hb.size, fun g hg _ => hb.block g hg⟩⟩
theorem CmH.skip {w u0 wx w' : World} {sn : List Value} {s : Sto} {bw bo k m n : Nat} {S : Int → Bool} (h : CmH w u0 wx sn s bw bo k m n S w') (hk : k < s.heap.cells.length) (hS : S s.heap.cells[k].num = true) : CmR w u0 sn s bw bo (k + 1) w' :=
 ⟨h.below, Or.inr ⟨m, n, S, h.at_, h.only, h.low, by rw [List.take_succ_eq_append_getElem hk, jjb, if_pos hS]; exact h.wt⟩⟩
theorem CmH.write {w u0 wx w' w2 : World} {sn : List Value} {s : Sto} {bw bo k m n : Nat} {S : Int → Bool} (h : CmH w u0 wx sn s bw bo k m n S w') (hk : k < s.heap.cells.length) (hS : S s.heap.cells[k].num = false) (hne : bw ≠ bo) (hbw : u0.heap.size ≤ bw)
 (hw : WtAt w.heap.size w2 bw (jdc (jdo S ⟨s.dev, 0⟩ (s.heap.cells.take k)) s.heap.cells[k].num s.heap.cells[k].data)) (hg : w'.grownBy w2 (some bw)) : CmR w u0 sn s bw bo (k + 1) w2 := by
 have hmb : m ≠ bw := by
  rintro rfl
  obtain ⟨_, _, e1, _⟩ := h.wt
  obtain ⟨D, ⟨es, cl, e2, _⟩, _⟩ := h.at_.map
  rw [e1] at e2
  cases e2
 refine ⟨h.below.grown hg h.below.size (fun g hg => by cases hg; exact hbw), Or.inr ⟨m, n, S, ⟨(hg.block _ (lt_of_block h.at_.row) (fun e => hne (by injection e with e; exact e.symm))).trans h.at_.row, h.at_.map.grown hg (fun e => hmb (by injection e))⟩, h.only, h.low, ?_⟩⟩
 rw [List.take_succ_eq_append_getElem hk, jjb, if_neg (by rw [hS]; simp)]
 exact hw
theorem CmR.done {w u0 wr : World} {sn : List Value} {s : Sto} {bw bo : Nat} (h : CmR w u0 sn s bw bo s.heap.cells.length wr) : ∃ H : Int → Bool, (∀ x, H x = true → ∃ t ∈ jbh s, Reach s.heap t.table x) ∧ WtAt w.heap.size wr bw (jdo H ⟨s.dev, 0⟩ s.heap.cells) := by
 rcases h.old with ⟨h0, h1, h2⟩ | ⟨m, n, S, h1, h2, h3, h4⟩
 · refine ⟨fun _ => false, fun x hx => (by cases hx), ?_⟩
   rw [List.eq_nil_of_length_eq_zero h0]
   exact h2
 · rw [List.take_length] at h4
   exact ⟨S, h2, h4⟩
theorem jff {P : Program} {ops : Array Oper} {S : World → Prop} {op : Oper} {a : Act} (hw : Region.wanted op (yielded ops a.tmps) = true) (t : TypeId) (parts : Array (Nat × Operand)) (ho : op.op = .build t parts) (vs : List (Nat × Value)) (hp : parts.toList.map (fun p => (p.1, a.eval p.2)) = vs)
 (cells : Array Value) (hc : P.built t vs = some cells) : YieldsIf P ops S op (.agg cells) a :=
 .inl ⟨hw, fun w hw' => by
  have hp' : (parts.map fun (i, x) => (i, a.eval x)).toList = vs := by rw [Array.toList_map, ← hp]
  have hc' : P.built t (parts.map fun (i, x) => (i, a.eval x)).toList = some cells := by rw [hp']; exact hc
  unfold execOp
  simp only [ho, Sem.run_bind, run_build w t _ cells hc', Result.andThen_ok]
  rfl⟩
structure CmW (w : World) (sn : List Value) (s : Sto) (u : World) : Prop where
 below : Below w.heap.size w u
 b0 : u.heap[w.heap.size]? = some (.cells sn.toArray 42 (0, 0))
 b1 : u.heap[w.heap.size + 1]? = some (.cells zSto.toArray 42 (0, 0))
 sto : StoO w.heap.size u (.agg sn.toArray) s
theorem CmW.pure {w u u' : World} {sn : List Value} {s : Sto} (h : CmW w sn s u) (hb : Below u.heap.size u u') : CmW w sn s u' :=
 ⟨h.below.trans (hb.mono h.below.size), (hb.block _ (lt_of_block h.b0)).trans h.b0, (hb.block _ (lt_of_block h.b1)).trans h.b1, h.sto.below hb⟩
theorem CmW.set {w u : World} {sn : List Value} {s : Sto} (h : CmW w sn s u) {g : Nat} {cs cur : Array Value} {t : TypeId} {fr : Nat × Nat} (hg : u.heap[g]? = some (.cells cur t fr)) (h1 : t ≠ 160) (h2 : t ≠ 91) (h3 : w.heap.size + 2 ≤ g) : CmW w sn s (u.setRow g cs) :=
 ⟨ja8 h.below (by omega), (jac _ _ _ _ (by omega)).trans h.b0, (jac _ _ _ _ (by omega)).trans h.b1, h.sto.keep (jaq _ _ _) hg h1 h2⟩
theorem CmW.lt {w u : World} {sn : List Value} {s : Sto} (h : CmW w sn s u) : w.heap.size + 2 ≤ u.heap.size := by
 have := lt_of_block h.b1; omega
theorem sup_whole {z : Array Value} {x : Sup} (hz : z.size = 35) (hx : supWf x) : (z.toList.take 0 ++ (supA x).toList ++ z.toList.drop (0 + (supA x).toList.length)).toArray = supA x := by
 rw [List.drop_of_length_le (by rw [Array.length_toList, Array.length_toList, hz, jbn hx]; decide)]; simp
theorem StoO.cells {B : Nat} {w : World} {sn : List Value} {s : Sto} (h : StoO B w (.agg sn.toArray) s) : ∃ bv wv cv, sn = stoL (devL s.dev bv wv) [.int .u32 s.heap.size, cv] (supA s.s0).toList (supA s.s1).toList [.bool s.v0, .bool s.v1] (kidE.enc s.table) ∧ DevO B w (jck s.dev bv wv) s.dev ∧ HeapO B w cv s.heap := by
 obtain ⟨bv, wv, cv, e, h1, h2, _⟩ := h
 refine ⟨bv, wv, cv, ?_, h1, h2⟩
 injection e with e
 have := congrArg Array.toList e
 simpa using this
theorem sto_reads {B : Nat} {w : World} {sn : List Value} {s : Sto} (h : StoO B w (.agg sn.toArray) s) (g : Nat) (z : World) (hz : z.heap[g]? = some (.cells sn.toArray 42 (0, 0))) :
 z.cell? ⟨g, 0, none⟩ = some (.int .u32 s.dev.size) ∧ z.cell? ⟨g, 80, none⟩ = some (.int .u32 s.table.num) ∧ z.rangeAt g 81 (hashV s.table.hash) ∧ z.rangeAt g 0 sn := by
 obtain ⟨bv, wv, cv, e, h1, h2, h3, h4, h5⟩ := h
 have hsn : sn = stoL (devL s.dev bv wv) [.int .u32 s.heap.size, cv] (supA s.s0).toList (supA s.s1).toList [.bool s.v0, .bool s.v1] (kidE.enc s.table) := by
  injection e with e
  have := congrArg Array.toList e
  simpa using this
 have hl := ja4 (d := s.dev) (bv := bv) (wv := wv) (x := .int .u32 s.heap.size) (cv := cv) (p := s.v0) (q := s.v1) h3 h4 h5
 have hs := jcr (by rw [← hsn]; exact hz) hl
 refine ⟨hs.1.cell 0 _ rfl, hs.2.2.2.2.2.cell 1 _ rfl, fun j u hj => ?_, fun j u hj => (cell_of_row z _ _ _ _ _ hz).trans (by rw [Nat.zero_add, List.getElem?_toArray]; exact hj)⟩
 have h6 := hs.2.2.2.2.2.cell (2 + j) u (by rw [show kidE.enc s.table = [Value.string s.table.key, .int .u32 s.table.num] ++ hashV s.table.hash from rfl, List.getElem?_append_right (by simp)]; simpa using hj)
 rw [show 79 + (2 + j) = 81 + j by omega] at h6
 exact h6
theorem commit_any (w : World) (v : Value) (s : Sto) (hv : StoV w v s) (hbl : s.dev.blocks.length ≤ 1073741824) (hwl : s.dev.waits.length ≤ 1073741824) (hmax : s.heap.cells.length ≤ 1073741824) (hnv : validAt s (slotS (ja1 s)) = false) :
 Calls Tryz.prog 20 #[v] w fun e w' => ∃ H : Int → Bool, (∀ x, H x = true → ∃ t ∈ jbh s, Reach s.heap t.table x) ∧ ∃ r, e = .returned (.tuple #[r, .int .i64 (jep s H).2]) ∧ StoV w' r (jep s H).1 ∧ Below w.heap.size w w' := by
 obtain ⟨st, rfl, hlen, hone, hnc⟩ := jcf hv
 have HVV := Lib.hid hv
 have HCS := Lib.hid (And.intro hlen (And.intro hone hnc))
 have HNV := Lib.hid hnv
 have hsi : (Tryz.prog.info? 42).map (·.size) = some st.length := by rw [hlen]; exact ja6
 clear hv hone hnc hnv
 have hn1 : ((w.alloc (.cells st.toArray 42)).alloc (.cells zSto.toArray 42)).heap[w.heap.size]? = some (.cells st.toArray 42 (0, 0)) := ji6
 have hn2 : ((w.alloc (.cells st.toArray 42)).alloc (.cells zSto.toArray 42)).heap[w.heap.size + 1]? = some (.cells zSto.toArray 42 (0, 0)) := ji5
 have hnb : Below w.heap.size w ((w.alloc (.cells st.toArray 42)).alloc (.cells zSto.toArray 42)) := jf5
 go_enter Tryz.func20, Tryz.ntmps20
 go_upto_region 1 with (fail)
 rw [← ji3]
 generalize (w.alloc (.cells st.toArray 42)).alloc (.cells zSto.toArray 42) = wa at *
 have H0 := Lib.hid (And.intro hnb (And.intro hn1 (And.intro hn2 (HVV.out.below hnb (Nat.le_refl _)))))
 have hats : At wa w.heap.size 0 st := fun j hj => by
  rw [cell_of_row _ _ _ _ _ _ hn1, Nat.zero_add]
  simp [hj]
 obtain ⟨sta, hsta⟩ : ∃ sta, st.toArray = sta := ⟨_, rfl⟩
 have HCH := Lib.hid (chk_any wa _ s H0.out.2.2.2 hbl hwl hmax)
 rw [hsta] at HCH
 have HSTA := Lib.hid hsta
 clear hsta hn1 hn2 hnb
 go_wp2_with (refine jae rfl 42 (.tmp 1) rfl w.heap.size 0 rfl st _ hats Tryz.underlying42 rfl hsi sta HSTA.out ?_)
 refine HCH.out.mono ?_
 rintro e wb ⟨rfl, hbb⟩
 have h0 := (hbb.block _ (lt_of_block H0.out.2.1)).trans H0.out.2.1
 have h1 := (hbb.block _ (lt_of_block H0.out.2.2.1)).trans H0.out.2.2.1
 have H1 := Lib.hid (And.intro (H0.out.1.trans (hbb.mono H0.out.1.size)) (And.intro h0 (And.intro h1 (H0.out.2.2.2.below hbb (Nat.le_refl _)))))
 clear hats hbb HCH H0 h0
 cases hc : jdm s with
 | false =>
  have hse : stoE s = 7 := by unfold stoE; rw [hc]; rfl
  have HR := Lib.hid (show ∀ H, jep s H = (noSto, 7) from fun H => by unfold jep; rw [if_pos hc])
  rw [hse]
  clear hc hse
  go_wp2_with (first
   | ((with_reducible refine jar 42 ?_); refine jah rfl 42 _ rfl [] rfl _ jjz ?_)
   | ((with_reducible refine jab ?_); refine jaf rfl 42 _ _ rfl (w.heap.size + 1) 0 rfl zSto rfl 42 _ h1 (by rw [List.size_toArray]; exact Nat.le_of_eq (Nat.zero_add _)) zSto_one ja6 ?_))
  refine bodyPost_ret (jb7 rfl _ (w.heap.size + 1) zSto zSto_len (0, 0) _ rfl (jad _ _ _ _ _ h1)) rfl ⟨fun _ => false, fun _ h => (by cases h), .agg zSto.toArray, ?_, ?_, ja8 H1.out.1 (by omega)⟩
  · rw [HR.out]; rfl
  · rw [HR.out]; exact noSto_v _
 | true =>
  have hse : stoE s = 0 := by unfold stoE; rw [hc]; rfl
  have HC := Lib.hid hc
  rw [hse]
  have hats : At wb w.heap.size 0 st := fun j hj => by
   rw [cell_of_row _ _ _ _ _ _ H1.out.2.1, Nat.zero_add]
   simp [hj]
  have HOW := Lib.hid (mownO_any wb _ s H1.out.2.2.2 hbl hwl hmax)
  rw [HSTA.out] at HOW
  clear hc hse h1
  go_wp2_with (refine jae rfl 42 (.tmp 1) rfl w.heap.size 0 rfl st _ hats Tryz.underlying42 rfl hsi sta HSTA.out ?_)
  refine HOW.out.mono ?_
  rintro e wc ⟨r, rfl, hsv, hbc⟩
  obtain ⟨sn, rfl, hln, hon, hncn⟩ := jcf hsv.v
  have HC2 := Lib.hid (And.intro hln (And.intro hon hncn))
  have hk0 := (hbc.block _ (lt_of_block H1.out.2.1)).trans H1.out.2.1
  have hk1 := (hbc.block _ (lt_of_block H1.out.2.2.1)).trans H1.out.2.2.1
  have hwc := H1.out.1.trans (hbc.mono H1.out.1.size)
  have hsn2 : (Tryz.prog.info? 42).map (·.size) = some sn.length := by rw [hln]; exact ja6
  have H2 := Lib.hid (show CmW w sn s (wc.setRow w.heap.size sn.toArray) from ⟨ja8 hwc (Nat.le_refl _), jad _ _ _ _ _ hk0, (jac _ _ _ _ (by omega)).trans hk1, (hsv.up H1.out.1.size).keep (jaq _ _ _) hk0 (by decide) (by decide)⟩)
  obtain ⟨sna, hsna⟩ : ∃ sna, sn.toArray = sna := ⟨_, rfl⟩
  have HSNA := Lib.hid hsna
  rw [hsna]
  have HK0 := Lib.hid hk0
  have HLS := Lib.hid (show 0 + sn.length ≤ st.toArray.size by rw [hln, List.size_toArray, hlen]; decide)
  have HLE := Lib.hid (hlen.trans hln.symm)
  clear hats hk0 hk1 hwc hsv hbc HOW hsna
  go_upto_region 5 with ((with_reducible refine jab ?_); refine jaf rfl 42 _ _ rfl w.heap.size 0 rfl sn (by rw [HSNA.out]; rfl) 42 _ HK0.out HLS.out hon hsn2 ?_)
  rw [jms HLE.out]
  clear HK0 HLS HLE H1
  generalize wc.setRow w.heap.size sn.toArray = wd at *
  have hats : At wd w.heap.size 0 sn := fun j hj => by
   rw [cell_of_row _ _ _ _ _ _ H2.out.b0, Nat.zero_add]
   simp [hj]
  have HGN := Lib.hid (gen_any wd _ s H2.out.sto.v)
  rw [HSNA.out] at HGN
  simp only [Act.put]
  go_wp2_with (refine jae rfl 42 (.tmp 1) rfl w.heap.size 0 rfl sn _ hats Tryz.underlying42 rfl hsn2 sna HSNA.out ?_)
  refine HGN.out.mono ?_
  rintro e we ⟨rfl, hbe⟩
  have H3 := Lib.hid (H2.out.pure hbe)
  clear hats hbe HGN H2
  by_cases hg : genS s = 4611686018427387904
  · have hgb : (genS s == 4611686018427387904) = true := by simp [hg]
    have HR := Lib.hid (show ∀ H, jep s H = (s, 1) from fun H => by unfold jep; rw [if_neg (by rw [HC.out]; simp), if_pos hg])
    have hats : At we w.heap.size 0 sn := fun j hj => by
     rw [cell_of_row _ _ _ _ _ _ H3.out.b0, Nat.zero_add]
     simp [hj]
    have h1 := H3.out.b1
    clear hg
    generalize genS s = gs at *
    go_wp2_with (first
     | (refine jae rfl 42 (.tmp 1) rfl w.heap.size 0 rfl sn _ hats Tryz.underlying42 rfl hsn2 sna HSNA.out ?_)
     | ((with_reducible refine jab ?_); refine jaf rfl 42 _ _ rfl (w.heap.size + 1) 0 rfl sn (by rw [HSNA.out]; rfl) 42 _ h1 (by rw [HC2.out.1]; exact Nat.le_refl 113) hon hsn2 ?_))
    rw [show List.drop 113 zSto = [] from rfl, List.append_nil]
    refine bodyPost_ret (jb7 rfl _ (w.heap.size + 1) sn HC2.out.1 (0, 0) _ rfl (jad _ _ _ _ _ h1)) rfl ⟨fun _ => false, fun _ h => (by cases h), .agg sn.toArray, ?_, ?_, ja8 H3.out.below (by omega)⟩
    · rw [HR.out]; rfl
    · rw [HR.out]; exact H3.out.sto.v.keepN h1 jhk jdd
  · have hgb : (genS s == 4611686018427387904) = false := by simp [hg]
    have hkw : kidE.wf s.table := by
     obtain ⟨_, _, _, _, _, _, _, _, h⟩ := H3.out.sto
     exact h
    have HPR := Lib.hid (commit_pre HC.out hg hkw)
    have HG := Lib.hid hg
    clear hg hkw
    go_upto_region 7 with (fail)
    go_cut [5, 25, 26, 27, 28, 29, 30, 31, 32, 33, 34, 35, 36, 37] (fun x _ _ _ _ _ _ _ _ _ _ _ _ _ wx => ∃ bx, x = .pointer (some ⟨bx, 0, none⟩) ∧ CmW w sn s wx ∧ wx.heap[bx]? = some (.cells (supA (ja1 s)) 36 (0, 0)))
    case first =>
     have hHs : we.drew.heap[w.heap.size]? = some (.cells sna 42 (0, 0)) := by rw [← HSNA.out]; exact H3.out.b0
     have HRD := Lib.hid (show ∀ z : World, z.heap[w.heap.size]? = some (.cells sna 42 (0, 0)) → _ from fun z hz => sto_reads H3.out.sto w.heap.size z (by rw [HSNA.out]; exact hz))
     have hhl : (hashV s.table.hash).length = 32 := by simp [hashV, HPR.out.2.1.2.2.2.1, show s.table.hash.length = 32 from HPR.out.2.1.2.2.2.1]
     have hi32 : (Tryz.prog.info? 34).map (·.size) = some (hashV s.table.hash).length := by rw [hhl]; exact jje
     have hbu := built_sup s.dev.size (genS s + 1) s.table.num s.table.hash HPR.out.2.1.2.2.2.1
     have hwr : IntKind.u64.wrap (genS s + 1) = genS s + 1 := by
      have h1 := HPR.out.2.2.1
      have h2 := HPR.out.2.2.2.1
      rw [IntKind.wrap_u64]; omega
     refine wp_region_held_drew (S := fun z => z.heap[w.heap.size]? = some (.cells sna 42 (0, 0))) (by kernel_rfl) hHs (fun hHeld => ?_)
     refine wpAnyH_take (i := 0) (v := .pointer (some ⟨w.heap.size, 0, none⟩)) rfl (by kernel_rfl) (by kernel_rfl) (by kernel_rfl) (fun _ _ _ h => h) (Or.inl ⟨by rfl, fun z hz => by go_simp⟩) hHeld ?_
     try simp only [Act.put, jy1, jy2, jy3, List.getElem_toArray, List.getElem_cons_zero, List.getElem_cons_succ]
     refine wpAnyH_take (i := 1) (v := .pointer (some ⟨w.heap.size, 0, none⟩)) rfl (by kernel_rfl) (by kernel_rfl) (by kernel_rfl) (fun _ _ _ h => h) (Or.inl ⟨by rfl, fun z hz => by go_simp⟩) hHeld ?_
     try simp only [Act.put, jy1, jy2, jy3, List.getElem_toArray, List.getElem_cons_zero, List.getElem_cons_succ]
     refine wpAnyH_take (i := 2) (v := .int .u32 s.dev.size) rfl (by kernel_rfl) (by kernel_rfl) (by kernel_rfl) (fun _ _ _ h => h) (Or.inl ⟨by rfl, fun z hz => by have h5 := (HRD.out z hz).1; clear hz; go_simp⟩) hHeld ?_
     try simp only [Act.put, jy1, jy2, jy3, List.getElem_toArray, List.getElem_cons_zero, List.getElem_cons_succ]
     refine wpAnyH_take (i := 3) (v := .agg sna) rfl (by kernel_rfl) (by kernel_rfl) (by kernel_rfl) (fun _ _ _ h => h) (by rw [← HSNA.out]; exact yieldsIf_load_mid (by rfl) 42 (.tmp 1) rfl w.heap.size 0 rfl sn _ (fun z hz => (sto_reads H3.out.sto _ z hz).2.2.2) Tryz.underlying42 rfl hsn2) hHeld ?_
     try simp only [Act.put, jy1, jy2, jy3, List.getElem_toArray, List.getElem_cons_zero, List.getElem_cons_succ]
     refine wpAnyH_take (i := 6) (v := .pointer (some ⟨w.heap.size, 79, none⟩)) rfl (by kernel_rfl) (by kernel_rfl) (by kernel_rfl) (fun _ _ _ h => h) (Or.inl ⟨by rfl, fun z hz => by go_simp⟩) hHeld ?_
     try simp only [Act.put, jy1, jy2, jy3, List.getElem_toArray, List.getElem_cons_zero, List.getElem_cons_succ]
     refine wpAnyH_take (i := 7) (v := .pointer (some ⟨w.heap.size, 80, none⟩)) rfl (by kernel_rfl) (by kernel_rfl) (by kernel_rfl) (fun _ _ _ h => h) (Or.inl ⟨by rfl, fun z hz => by go_simp⟩) hHeld ?_
     try simp only [Act.put, jy1, jy2, jy3, List.getElem_toArray, List.getElem_cons_zero, List.getElem_cons_succ]
     refine wpAnyH_take (i := 8) (v := .int .u32 s.table.num) rfl (by kernel_rfl) (by kernel_rfl) (by kernel_rfl) (fun _ _ _ h => h) (Or.inl ⟨by rfl, fun z hz => by have h5 := (HRD.out z hz).2.1; clear hz; go_simp⟩) hHeld ?_
     try simp only [Act.put, jy1, jy2, jy3, List.getElem_toArray, List.getElem_cons_zero, List.getElem_cons_succ]
     refine wpAnyH_take (i := 9) (v := .pointer (some ⟨w.heap.size, 79, none⟩)) rfl (by kernel_rfl) (by kernel_rfl) (by kernel_rfl) (fun _ _ _ h => h) (Or.inl ⟨by rfl, fun z hz => by go_simp⟩) hHeld ?_
     try simp only [Act.put, jy1, jy2, jy3, List.getElem_toArray, List.getElem_cons_zero, List.getElem_cons_succ]
     refine wpAnyH_take (i := 10) (v := .pointer (some ⟨w.heap.size, 81, none⟩)) rfl (by kernel_rfl) (by kernel_rfl) (by kernel_rfl) (fun _ _ _ h => h) (Or.inl ⟨by rfl, fun z hz => by go_simp⟩) hHeld ?_
     try simp only [Act.put, jy1, jy2, jy3, List.getElem_toArray, List.getElem_cons_zero, List.getElem_cons_succ]
     refine wpAnyH_take (i := 11) (v := .agg (hashV s.table.hash).toArray) rfl (by kernel_rfl) (by kernel_rfl) (by kernel_rfl) (fun _ _ _ h => h) (yieldsIf_load_mid (by rfl) 34 (.tmp 35) rfl w.heap.size 81 rfl (hashV s.table.hash) _ (fun z hz => (HRD.out z hz).2.2.1) Tryz.underlying34 rfl hi32) hHeld ?_
     try simp only [Act.put, jy1, jy2, jy3, List.getElem_toArray, List.getElem_cons_zero, List.getElem_cons_succ]
     refine wpAnyH_ready (rs := [4, 13]) (by kernel_rfl) (by simp) ?_
     refine AllReadyH.cons rfl (fun K hK => ?_) (AllReadyH.cons rfl (fun K hK => ?_) AllReadyH.nil)
     · have HGN7 := Lib.hid (gen_any we.drew (.agg sn.toArray) s (H3.out.sto.v.below ((Below.refl we.heap.size we).drew) (Nat.le_refl _)))
       rw [HSNA.out] at HGN7
       go_simp
       refine HGN7.out.mono ?_
       rintro e wg ⟨rfl, hbg⟩
       have hcg := H3.out.pure (((Below.refl we.heap.size we).drew).trans hbg)
       refine hK.out _ _ (by rw [← HSNA.out]; exact hcg.b0) (fun hHeld => ?_)
       clear hK K
       try simp only [Act.put, jy1, jy2, jy3, List.getElem_toArray, List.getElem_cons_zero, List.getElem_cons_succ]
       refine wpAnyH_take (i := 5) (v := .int .u64 (genS s + 1)) rfl (by kernel_rfl) (by kernel_rfl) (by kernel_rfl) (fun _ _ _ h => h) (Or.inl ⟨by rfl, fun z hz => by go_simp⟩) hHeld ?_
       try simp only [Act.put, jy1, jy2, jy3, List.getElem_toArray, List.getElem_cons_zero, List.getElem_cons_succ]
       refine wpAnyH_take (i := 12) (v := .agg (supA (ja1 s))) rfl (by kernel_rfl) (by kernel_rfl) (by kernel_rfl) (fun _ _ _ h => h) (jff (by rfl) 36 _ rfl [(0, .int .u32 s.dev.size), (1, .int .u64 (genS s + 1)), (2, .int .u32 s.table.num), (3, .agg (hashV s.table.hash).toArray)] rfl _ hbu) hHeld ?_
       try simp only [Act.put, jy1, jy2, jy3, List.getElem_toArray, List.getElem_cons_zero, List.getElem_cons_succ]
       refine wpAnyH_ready (rs := [13]) (by kernel_rfl) (by simp) ?_
       refine AllReadyH.cons rfl (fun K hK => ?_) AllReadyH.nil
       generalize hxa : supA (ja1 s) = xa
       go_simp
       generalize hz36 : (#[Value.int .u32 0, .int .u64 0, .int .u32 0, .int .u8 0, .int .u8 0, .int .u8 0, .int .u8 0, .int .u8 0, .int .u8 0, .int .u8 0, .int .u8 0, .int .u8 0, .int .u8 0, .int .u8 0, .int .u8 0, .int .u8 0, .int .u8 0, .int .u8 0, .int .u8 0, .int .u8 0, .int .u8 0, .int .u8 0, .int .u8 0, .int .u8 0, .int .u8 0, .int .u8 0, .int .u8 0, .int .u8 0, .int .u8 0, .int .u8 0, .int .u8 0, .int .u8 0, .int .u8 0, .int .u8 0, .int .u8 0] : Array Value) = z36
       have hcg := hcg.pure ((Below.refl wg.heap.size wg).alloc (Nat.le_refl _) (.cells z36 36))
       have hrow := heap_alloc_new wg (.cells z36 36)
       have hbw : we.heap.size ≤ wg.heap.size := hbg.size
       subst hz36
       subst hxa
       refine hK.out _ _ (by rw [← HSNA.out]; exact hcg.b0) (fun hHeld => ?_)
       clear hK K
       try simp only [Act.put, jy1, jy2, jy3, List.getElem_toArray, List.getElem_cons_zero, List.getElem_cons_succ]
       refine wpAnyH_ready (rs := [14]) (by kernel_rfl) (by simp) ?_
       refine AllReadyH.cons rfl (fun K hK => ?_) AllReadyH.nil
       rw [if_pos (by rfl)]
       refine jdg 36 (.tmp 5) (.tmp 37) rfl wg.heap.size 0 rfl (supA (ja1 s)).toList rfl 36 _ hrow (by rw [Array.length_toList, jbn HPR.out.2.1]; exact Nat.le_refl 35) (jbt _) (jbx HPR.out.2.1) ?_
       rw [sup_whole rfl HPR.out.2.1]
       have hcz := hcg.set (cs := supA (ja1 s)) hrow (by decide) (by decide) (Nat.le_trans H3.out.lt hbw)
       have hrz := jad _ wg.heap.size (supA (ja1 s)) _ _ hrow
       refine hK.out _ _ (by rw [← HSNA.out]; exact hcz.b0) (fun hHeld => ?_)
       clear hK K
       try simp only [Act.put, jy1, jy2, jy3, List.getElem_toArray, List.getElem_cons_zero, List.getElem_cons_succ]
       refine wpAnyH_done (by kernel_rfl) ?_ _
       have HFI := Lib.hid (And.intro hcz hrz)
       clear hcz hrz hHeld hrow hcg
       go_wp2_with (fail)
       go_meet
       exact ⟨_, rfl, HFI.out.1, HFI.out.2⟩
     · generalize hxa : sta = xb
       go_simp
       generalize hz36 : (#[Value.int .u32 0, .int .u64 0, .int .u32 0, .int .u8 0, .int .u8 0, .int .u8 0, .int .u8 0, .int .u8 0, .int .u8 0, .int .u8 0, .int .u8 0, .int .u8 0, .int .u8 0, .int .u8 0, .int .u8 0, .int .u8 0, .int .u8 0, .int .u8 0, .int .u8 0, .int .u8 0, .int .u8 0, .int .u8 0, .int .u8 0, .int .u8 0, .int .u8 0, .int .u8 0, .int .u8 0, .int .u8 0, .int .u8 0, .int .u8 0, .int .u8 0, .int .u8 0, .int .u8 0, .int .u8 0, .int .u8 0] : Array Value) = z36
       have hba := ((Below.refl we.heap.size we).drew).alloc (Nat.le_refl _) (.cells z36 36)
       have hcg := H3.out.pure hba
       have hrow0 := heap_alloc_new we.drew (.cells z36 36)
       have hwz : we.drew.heap.size = we.heap.size := rfl
       rw [hwz] at hrow0
       subst hxa
       subst hz36
       refine hK.out _ _ (by rw [← HSNA.out]; exact hcg.b0) (fun hHeld => ?_)
       clear hK K
       try simp only [Act.put, jy1, jy2, jy3, List.getElem_toArray, List.getElem_cons_zero, List.getElem_cons_succ]
       have HGN7 := Lib.hid (gen_any _ (.agg sn.toArray) s hcg.sto.v)
       rw [HSNA.out] at HGN7
       refine wpAnyH_ready (rs := [4]) (by kernel_rfl) (by simp) ?_
       refine AllReadyH.cons rfl (fun K hK => ?_) AllReadyH.nil
       go_simp
       refine HGN7.out.mono ?_
       rintro e wg ⟨rfl, hbg⟩
       have hcg := hcg.pure hbg
       have hrow := (hbg.block _ (lt_of_block hrow0)).trans hrow0
       refine hK.out _ _ (by rw [← HSNA.out]; exact hcg.b0) (fun hHeld => ?_)
       clear hK K
       try simp only [Act.put, jy1, jy2, jy3, List.getElem_toArray, List.getElem_cons_zero, List.getElem_cons_succ]
       refine wpAnyH_take (i := 5) (v := .int .u64 (genS s + 1)) rfl (by kernel_rfl) (by kernel_rfl) (by kernel_rfl) (fun _ _ _ h => h) (Or.inl ⟨by rfl, fun z hz => by go_simp⟩) hHeld ?_
       try simp only [Act.put, jy1, jy2, jy3, List.getElem_toArray, List.getElem_cons_zero, List.getElem_cons_succ]
       refine wpAnyH_take (i := 12) (v := .agg (supA (ja1 s))) rfl (by kernel_rfl) (by kernel_rfl) (by kernel_rfl) (fun _ _ _ h => h) (jff (by rfl) 36 _ rfl [(0, .int .u32 s.dev.size), (1, .int .u64 (genS s + 1)), (2, .int .u32 s.table.num), (3, .agg (hashV s.table.hash).toArray)] rfl _ hbu) hHeld ?_
       try simp only [Act.put, jy1, jy2, jy3, List.getElem_toArray, List.getElem_cons_zero, List.getElem_cons_succ]
       refine wpAnyH_ready (rs := [14]) (by kernel_rfl) (by simp) ?_
       refine AllReadyH.cons rfl (fun K hK => ?_) AllReadyH.nil
       rw [if_pos (by rfl)]
       refine jdg 36 (.tmp 5) (.tmp 37) rfl we.heap.size 0 rfl (supA (ja1 s)).toList rfl 36 _ hrow (by rw [Array.length_toList, jbn HPR.out.2.1]; exact Nat.le_refl 35) (jbt _) (jbx HPR.out.2.1) ?_
       rw [sup_whole rfl HPR.out.2.1]
       have hcz := hcg.set (cs := supA (ja1 s)) hrow (by decide) (by decide) H3.out.lt
       have hrz := jad _ we.heap.size (supA (ja1 s)) _ _ hrow
       refine hK.out _ _ (by rw [← HSNA.out]; exact hcz.b0) (fun hHeld => ?_)
       clear hK K
       try simp only [Act.put, jy1, jy2, jy3, List.getElem_toArray, List.getElem_cons_zero, List.getElem_cons_succ]
       refine wpAnyH_done (by kernel_rfl) ?_ _
       have HFI := Lib.hid (And.intro hcz hrz)
       clear hcz hrz hHeld hrow hcg
       go_wp2_with (fail)
       go_meet
       exact ⟨_, rfl, HFI.out.1, HFI.out.2⟩
    case rest =>
     obtain ⟨bx, rfl, hcw, hbx⟩ := hcut
     have HXW := Lib.hid HPR.out.2.1
     have HE := Lib.hid (show jg0 (ja1 s) = jbl (ja1 s) ∧ jb3 (ja1 s) = 0 from ⟨by unfold jg0; rw [if_pos HPR.out.1], by unfold jb3; rw [HPR.out.1]; rfl⟩)
     have hsl : 0 ≤ slotS (ja1 s) ∧ slotS (ja1 s) ≤ 1 := by unfold slotS; omega
     have hgn : 0 ≤ (ja1 s).gen ∧ (ja1 s).gen ≤ 18446744073709551615 := HPR.out.2.1.2.1
     have hsm := ji1 (ja1 s) HPR.out.1 HPR.out.2.1.2.2.2
     have hat := fun z (hz : z.heap[bx]? = some (.cells (supA (ja1 s)) 36 (0, 0))) => (show At z bx 0 (supA (ja1 s)).toList from fun j hj => by
      rw [cell_of_row _ _ _ _ _ _ hz, Nat.zero_add, ← Array.getElem?_toList]
      exact List.getElem?_eq_getElem hj)
     have HAT := Lib.hid hat
     have hatc := hat _ hbx
     have hx2 := jbx HXW.out
     have HENC := Lib.hid (jfb wc (ja1 s) HXW.out)
     have HSLT := Lib.hid (fun z => jbo z (ja1 s) hgn.1 hgn.2)
     obtain ⟨xs, hxs⟩ : ∃ xs, supA (ja1 s) = xs := ⟨_, rfl⟩
     have HXS := Lib.hid hxs
     rw [hxs] at hbx HAT hatc hx2 HENC HSLT
     have HCX := Lib.hid (And.intro hcw hbx)
     have HX2 := Lib.hid hx2
     clear hx2
     clear hcw hbx hat hxs
     go_wp2_with (refine jae rfl 36 (.tmp 5) rfl bx 0 rfl xs.toList _ hatc Tryz.underlying36 rfl HX2.out xs (by simp) ?_)
     refine HENC.out.mono ?_
     rintro e wd ⟨rfl, hbd⟩
     rw [HE.out.1, HE.out.2]
     have HC3 := Lib.hid (HCX.out.1.pure hbd)
     have HX3 := Lib.hid ((hbd.block _ (lt_of_block HCX.out.2)).trans HCX.out.2)
     obtain ⟨sb, hsb⟩ : ∃ sb, jbl (ja1 s) = sb := ⟨_, rfl⟩
     have HSB := Lib.hid hsb
     rw [hsb] at hsm ⊢
     have hatd := HAT.out _ HX3.out
     clear hatc hbd HENC hsb
     go_wp2_with (refine jae rfl 36 (.tmp 5) rfl bx 0 rfl xs.toList _ hatd Tryz.underlying36 rfl HX2.out xs (by simp) ?_)
     refine (HSLT.out wd).mono ?_
     rintro e u0 ⟨rfl, hbu⟩
     have HC4 := Lib.hid (HC3.out.pure hbu)
     have HX4 := Lib.hid ((hbu.block _ (lt_of_block HX3.out)).trans HX3.out)
     rw [show (ja1 s).gen % 2 = slotS (ja1 s) from rfl]
     have HSP := Lib.hid (show slotS (ja1 s) = slotS (ja1 s) from rfl)
     obtain ⟨sl, hsl2⟩ : ∃ sl, slotS (ja1 s) = sl := ⟨_, rfl⟩
     have HSE := Lib.hid hsl2
     rw [hsl2] at hsl ⊢
     clear hatd hbu HSLT hsl2 HC3 HX3 HSP
     go_upto_region 10 with (fail)
     obtain ⟨bv, wv, cv, hsn, hdo, hho⟩ := HC4.out.sto.cells
     obtain ⟨A6, n6, c6, rfl⟩ := jan hho.1
     have hnn := own_len hho.1
     subst hnn
     have hkw : supWf s.s0 ∧ supWf s.s1 ∧ kidE.wf s.table := by
      obtain ⟨_, _, _, _, _, _, h⟩ := HC4.out.sto
      exact h
     have hl := ja4 (d := s.dev) (bv := bv) (wv := wv) (x := .int .u32 s.heap.size) (cv := .slice A6 s.heap.cells.length c6) (p := s.v0) (q := s.v1) hkw.1 hkw.2.1 hkw.2.2
     have hsa := jcr (by rw [← hsn]; exact HC4.out.b0) hl
     have x0 : u0.cell? ⟨w.heap.size, 0, none⟩ = some (.int .u32 s.dev.size) := hsa.1.cell 0 _ rfl
     have x1 : u0.cell? ⟨w.heap.size, 1, none⟩ = some bv := hsa.1.cell 1 _ rfl
     have x2 : u0.cell? ⟨w.heap.size, 2, none⟩ = some wv := hsa.1.cell 2 _ rfl
     have x3 : u0.cell? ⟨w.heap.size, 3, none⟩ = some (.bool s.dev.down) := hsa.1.cell 3 _ rfl
     have x4 : u0.cell? ⟨w.heap.size, 4, none⟩ = some (.int .i64 s.dev.fuse) := hsa.1.cell 4 _ rfl
     have HDO := Lib.hid hdo
     have HHO := Lib.hid hho
     have HKW := Lib.hid hkw
     have HSN := Lib.hid hsn
     have HDS := Lib.hid (jgl HPR.out.2.2.2.2.1 (jmo hdo))
     clear hdo hho hkw hsn hl hsa
     have hnw := heap_alloc_new u0 (.cells #[.int .u32 s.dev.size, bv, wv, .bool s.dev.down, .int .i64 s.dev.fuse, .int .i64 0] 84)
     have hbw := (Below.refl u0.heap.size u0).alloc (Nat.le_refl _) (.cells #[.int .u32 s.dev.size, bv, wv, .bool s.dev.down, .int .i64 s.dev.fuse, .int .i64 0] 84)
     have hsz1 : (u0.alloc (.cells #[.int .u32 s.dev.size, bv, wv, .bool s.dev.down, .int .i64 s.dev.fuse, .int .i64 0] 84)).heap.size = u0.heap.size + 1 := by simp
     have hdw := jcy HDO.out hbw
     go_upto_region 11 with ((with_reducible refine jar 84 ?_); refine jah rfl 84 _ rfl [(0, .agg #[.int .u32 s.dev.size, bv, wv, .bool s.dev.down, .int .i64 s.dev.fuse])] rfl _ (built_wt _ _ _ _ _) ?_)
     generalize u0.alloc (.cells #[.int .u32 s.dev.size, bv, wv, .bool s.dev.down, .int .i64 s.dev.fuse, .int .i64 0] 84) = u1 at *
     have hc1 := HC4.out.pure hbw
     have hats : At u1 w.heap.size 0 sn := fun j hj => by
      rw [cell_of_row _ _ _ _ _ _ hc1.b0, Nat.zero_add]
      simp [hj]
     obtain ⟨oa, hoa⟩ : ∃ oa, (sn ++ [Value.int .u32 0, .int .i32 0, .int .u32 0, .map none]).toArray = oa := ⟨_, rfl⟩
     have HBT := Lib.hid (show Tryz.prog.built 135 [(0, .agg sna)] = some oa by rw [← HSNA.out, ← hoa]; exact built_old sn HC2.out.1)
     have HWT0 := Lib.hid (show WtAt w.heap.size u1 u0.heap.size ⟨s.dev, 0⟩ from ⟨bv, wv, hnw, hdw, HDS.out⟩)
     have hno := heap_alloc_new u1 (.cells oa 135)
     have hbo := (Below.refl u1.heap.size u1).alloc (Nat.le_refl _) (.cells oa 135)
     have HCR := Lib.hid (show CmR w u0 sn s u0.heap.size u1.heap.size 0 (u1.alloc (.cells oa 135)) from
      ⟨hbw.trans (hbo.mono hbw.size), Or.inl ⟨rfl, by unfold jeu; rw [hoa]; exact hno, jk3 HWT0.out hbo⟩⟩)
     have y6 : (u1.alloc (.cells oa 135)).cell? ⟨w.heap.size, 6, none⟩ = some (.slice A6 s.heap.cells.length c6) := by
      have h6 := (hc1.pure hbo).b0
      rw [HSN.out] at h6
      exact (jcr h6 (ja4 HKW.out.1 HKW.out.2.1 HKW.out.2.2)).2.1.cell 1 _ rfl
     have HBO := Lib.hid hsz1
     clear hnw hbw hdw hsz1 hc1 hoa hno hbo x0 x1 x2 x3 x4
     go_upto_region 12 with (first
      | (refine jae rfl 42 (.tmp 1) rfl w.heap.size 0 rfl sn _ hats Tryz.underlying42 rfl hsn2 sna HSNA.out ?_)
      | ((with_reducible refine jar 135 ?_); refine jah rfl 135 _ rfl [(0, .agg sna)] rfl oa HBT.out ?_))
     generalize u1.alloc (.cells oa 135) = u2 at *
     generalize u1.heap.size = bo at *
     clear hats HBT HWT0
     go_wp2_with (fail)
     go_loopw [12, 56, 57, 58, 59, 60, 61, 62, 63, 64, 65, 66, 67, 68, 69, 70, 71] (fun _ i _ _ _ _ _ _ _ _ _ _ _ _ _ _ _ wr => ∃ k : Nat, k ≤ s.heap.cells.length ∧ i = .int .i64 k ∧ CmR w u0 sn s u0.heap.size bo k wr) (fun _ i _ _ _ _ _ _ _ _ _ _ _ _ _ _ _ _ => s.heap.cells.length - (intOf i).toNat)
     case atStart => exact ⟨0, Nat.zero_le _, rfl, HCR.out⟩
     case round =>
      obtain ⟨k, hk, rfl, hr⟩ := hrel
      by_cases hlt : k < s.heap.cells.length
      · obtain ⟨c', ec, hslr, _⟩ := (HHO.out.v).below hr.below (Nat.le_refl _)
        simp only [Value.agg.injEq, Array.mk.injEq, List.cons.injEq, and_true, true_and] at ec
        subst ec
        obtain ⟨b, o, rfl, hat, hwf⟩ := jgk hslr k hlt
        have d0 := hat.cell 0 _ rfl
        have d1 := hat.cell 1 _ rfl
        have d2 := hat.cell 2 _ rfl
        simp only [celE, Nat.add_zero] at d0 d1 d2
        have hi1 : (0 : Int) ≤ k := by omega
        have hi2 : (k : Int) < s.heap.cells.length := by omega
        have HNU := Lib.hid (show u32Ok s.heap.cells[k].num ∧ s.heap.cells[k].data.size ≤ 9223372036854775807 from ⟨hwf.1, Nat.le_trans hwf.2.1 (by decide)⟩)
        have HSK := Lib.hid (fun (m n : Nat) (S : Int → Bool) (wx w' : World) (h : CmH w u0 wx sn s u0.heap.size bo k m n S w') (hS : S s.heap.cells[k].num = true) => h.skip hlt hS)
        have HWR := Lib.hid (fun (m n : Nat) (S : Int → Bool) (wx w' w2 : World) (h : CmH w u0 wx sn s u0.heap.size bo k m n S w') (hS : S s.heap.cells[k].num = false) (hw) (hg) => h.write (w2 := w2) hlt hS (by have := HBO.out; omega) (Nat.le_refl _) hw hg)
        have hnb := heap_alloc_new wr (.cells #[.int .u32 s.heap.cells[k].num, .string s.heap.cells[k].data, .int .i64 s.heap.cells[k].refs] 91)
        have hbb := (Below.refl wr.heap.size wr).alloc (Nat.le_refl _) (.cells #[.int .u32 s.heap.cells[k].num, .string s.heap.cells[k].data, .int .i64 s.heap.cells[k].refs] 91)
        have HR0 := Lib.hid (hr.pure hbb)
        have hbl5 : bo < wr.heap.size := by
         rcases hr.old with ⟨_, h1, _⟩ | ⟨_, _, _, h1, _⟩
         · exact lt_of_block h1
         · exact lt_of_block h1.row
        have HBL := Lib.hid hbl5
        clear hr hslr hat hwf hbb hbl5
        generalize s.heap.cells[k].num = num at *
        generalize s.heap.cells[k].data = data at *
        generalize s.heap.cells[k].refs = refs at *
        go_upto_region 15 with (fail)
        have HX := Lib.hid hnb
        generalize wr.alloc (.cells #[.int .u32 num, .string data, .int .i64 refs] 91) = wx at *
        generalize wr.heap.size = b5 at *
        have z0 : wx.cell? ⟨b5, 0, none⟩ = some (.int .u32 num) := by rw [cell_of_row _ _ _ _ _ _ hnb]; rfl
        have HHC := Lib.hid (has_cm HR0.out HC4.out.sto.v HC2.out.1 (by have := HBO.out; omega) (by have := HBO.out; omega) HPR.out.2.2.2.2.2 hmax HNU.out.1)
        clear hnb d0 d1 d2
        go_wp2_with (fail)
        refine HHC.out.mono ?_
        rintro e wy ⟨m, n, S, rfl, hch⟩
        have hr5 := (hch.keep b5 (lt_of_block HX.out) (by have := HBL.out; omega)).trans HX.out
        cases hS : S num with
        | true =>
         have HN := Lib.hid (HSK.out m n S wx wy hch hS)
         clear hch hS z0
         go_wp2_with (fail)
         exact ⟨⟨k + 1, by omega, by go_num, HN.out⟩, by simp [intOf]; omega⟩
        | false =>
         have z0 : wy.cell? ⟨b5, 0, none⟩ = some (.int .u32 num) := by rw [cell_of_row _ _ _ _ _ _ hr5]; rfl
         have z1 : wy.cell? ⟨b5, 1, none⟩ = some (.string data) := by rw [cell_of_row _ _ _ _ _ _ hr5]; rfl
         have HWC := Lib.hid (jfd w.heap.size wy u0.heap.size _ num data hch.wt (Nat.le_trans HC4.out.below.size hch.below.size) HNU.out.1 HNU.out.2)
         have HWR2 := Lib.hid (fun w2 hw hg => HWR.out m n S wx wy w2 hch hS hw hg)
         clear hch hS hr5
         go_wp2_with (fail)
         refine HWC.out.mono ?_
         rintro e w2 ⟨rfl, hw2, hg2⟩
         have HN := Lib.hid (HWR2.out w2 hw2 hg2)
         clear hw2 hg2 z0 z1
         go_wp2_with (fail)
         exact ⟨⟨k + 1, by omega, by go_num, HN.out⟩, by simp [intOf]; omega⟩
      · obtain rfl : k = s.heap.cells.length := by omega
        obtain ⟨H, HON, hwt⟩ := hr.done
        have HHN := Lib.hid HON
        have HBR := Lib.hid hr.below
        have HFL := Lib.hid (jgm w.heap.size wr u0.heap.size _ hwt (Nat.le_trans HC4.out.below.size hr.below.size))
        clear hr hwt HON
        go_wp2_with (fail)
        refine HFL.out.mono ?_
        rintro e w7 ⟨rfl, hw7, hg7⟩
        have HB7 := Lib.hid (HBR.out.grown hg7 HBR.out.size (fun g hg => by cases hg; exact Nat.le_refl _))
        have HW7 := Lib.hid (jfd w.heap.size w7 u0.heap.size _ sl sb hw7 (Nat.le_trans HC4.out.below.size HB7.out.size) ⟨hsl.1, by omega⟩ (Nat.le_trans hsm (by decide)))
        have hs1 := hsl.1
        have hs2 : sl ≤ 4294967295 := by omega
        clear hw7 hg7
        go_wp2_with (fail)
        refine HW7.out.mono ?_
        rintro e w8 ⟨rfl, hw8, hg8⟩
        have HB8 := Lib.hid (HB7.out.grown hg8 HB7.out.size (fun g hg => by cases hg; exact Nat.le_refl _))
        have HF8 := Lib.hid (jgm w.heap.size w8 u0.heap.size _ hw8 (Nat.le_trans HC4.out.below.size HB8.out.size))
        clear hw8 hg8 HW7
        go_wp2_with (fail)
        refine HF8.out.mono ?_
        rintro e w9 ⟨rfl, hw9, hg9⟩
        have HB9 := Lib.hid (HB8.out.grown hg9 HB8.out.size (fun g hg => by cases hg; exact Nat.le_refl _))
        obtain ⟨tF, htF⟩ : ∃ tF, jg4 s H = tF := ⟨_, rfl⟩
        have HTF := Lib.hid htF
        rw [show jd6 (jdc (jd6 (jdo H ⟨s.dev, 0⟩ s.heap.cells)) sl sb) = tF by rw [← HTF.out]; unfold jg4; rw [HSE.out, HSB.out]] at hw9
        have HC9 := Lib.hid (HC4.out.pure HB9.out)
        have HX9 := Lib.hid ((HB9.out.block _ (lt_of_block HX4.out)).trans HX4.out)
        have HH9 := Lib.hid (HHO.out.below HB9.out)
        obtain ⟨bv2, wv2, hrow, hdo, _⟩ := hw9
        have hdo2 := hdo
        obtain ⟨b', w', e, h1, h2, _⟩ := hdo2
        unfold jck at e
        simp only [Value.agg.injEq, Array.mk.injEq, List.cons.injEq, and_true, true_and] at e
        obtain ⟨rfl, rfl⟩ := e
        obtain ⟨A7, n7, c7, rfl⟩ := jan h1
        obtain ⟨A8, n8, c8, rfl⟩ := jan h2
        have HW9 := Lib.hid (show w9.heap[u0.heap.size]? = some (.cells #[.int .u32 tF.dev.size, .slice A7 n7 c7, .slice A8 n8 c8, .bool tF.dev.down, .int .i64 tF.dev.fuse, .int .i64 tF.why] 84 (0, 0)) ∧ DevO w.heap.size w9 (jck tF.dev (.slice A7 n7 c7) (.slice A8 n8 c8)) tF.dev from ⟨hrow, hdo⟩)
        have y5 : w9.cell? ⟨u0.heap.size, 5, none⟩ = some (.int .i64 tF.why) := by rw [cell_of_row _ _ _ _ _ _ HW9.out.1]; rfl
        clear hrow hdo h1 h2 hg9 HF8 htF
        by_cases hwhy : tF.why = 0
        · have hwb : (tF.why != 0) = false := by simp [hwhy]
          have HWY := Lib.hid hwhy
          clear hwhy
          have y0 : w9.cell? ⟨u0.heap.size, 0, none⟩ = some (.int .u32 tF.dev.size) := by rw [cell_of_row _ _ _ _ _ _ HW9.out.1]; rfl
          have y1 : w9.cell? ⟨u0.heap.size, 1, none⟩ = some (.slice A7 n7 c7) := by rw [cell_of_row _ _ _ _ _ _ HW9.out.1]; rfl
          have y2 : w9.cell? ⟨u0.heap.size, 2, none⟩ = some (.slice A8 n8 c8) := by rw [cell_of_row _ _ _ _ _ _ HW9.out.1]; rfl
          have y3 : w9.cell? ⟨u0.heap.size, 3, none⟩ = some (.bool tF.dev.down) := by rw [cell_of_row _ _ _ _ _ _ HW9.out.1]; rfl
          have y4 : w9.cell? ⟨u0.heap.size, 4, none⟩ = some (.int .i64 tF.dev.fuse) := by rw [cell_of_row _ _ _ _ _ _ HW9.out.1]; rfl
          have hb0 := HC9.out.b0
          rw [HSN.out] at hb0
          have HL9 := Lib.hid (ja4 (d := s.dev) (bv := bv) (wv := wv) (x := .int .u32 s.heap.size) (cv := .slice A6 s.heap.cells.length c6) (p := s.v0) (q := s.v1) HKW.out.1 HKW.out.2.1 HKW.out.2.2)
          have HL10 := Lib.hid (ja4 (d := tF.dev) (bv := .slice A7 n7 c7) (wv := .slice A8 n8 c8) (x := .int .u32 s.heap.size) (cv := .slice A6 s.heap.cells.length c6) (p := s.v0) (q := s.v1) HKW.out.1 HKW.out.2.1 HKW.out.2.2)
          have HB0 := Lib.hid hb0
          have hd1 : ∀ u ∈ (devL tF.dev (.slice A7 n7 c7) (.slice A8 n8 c8)), u.oneCell' = true := by
           intro u hu
           unfold devL at hu
           simp at hu
           rcases hu with rfl | rfl | rfl | rfl | rfl <;> rfl
          have HD1 := Lib.hid hd1
          clear hb0 hd1
          go_upto_region 24 with ((with_reducible refine jam 25 ?_); refine jaf rfl 25 _ _ rfl w.heap.size 0 rfl (devL tF.dev (.slice A7 n7 c7) (.slice A8 n8 c8)) rfl 42 _ HB0.out (by rw [List.size_toArray, jb4 HL9.out]; show 0 + 5 ≤ 113; decide) HD1.out jbz ?_)
          simp only [Act.put]
          rw [Nat.zero_add, sto_put0 rfl rfl]
          have hne0 : bx ≠ w.heap.size := by
           intro e
           have h9 := HX9.out
           rw [e, HB0.out] at h9
           injection h9 with h9
           injection h9 with _ h9 _
           exact absurd h9 (by decide)
          have hne1 : bx ≠ w.heap.size + 1 := by
           intro e
           have h9 := HX9.out
           rw [e, HC9.out.b1] at h9
           injection h9 with h9
           injection h9 with _ h9 _
           exact absurd h9 (by decide)
          have hr10 := jad w9 w.heap.size (stoL (devL tF.dev (.slice A7 n7 c7) (.slice A8 n8 c8)) [.int .u32 s.heap.size, .slice A6 s.heap.cells.length c6] (supA s.s0).toList (supA s.s1).toList [.bool s.v0, .bool s.v1] (kidE.enc s.table)).toArray _ _ HB0.out
          have hg10 := jaq w9 w.heap.size (stoL (devL tF.dev (.slice A7 n7 c7) (.slice A8 n8 c8)) [.int .u32 s.heap.size, .slice A6 s.heap.cells.length c6] (supA s.s0).toList (supA s.s1).toList [.bool s.v0, .bool s.v1] (kidE.enc s.table)).toArray
          have H10 := Lib.hid (And.intro hr10 (And.intro (jb1 HW9.out.2 hg10 HB0.out (by decide)) (And.intro (HH9.out.keep hg10 HB0.out (by decide)) (And.intro ((hg10.block _ (lt_of_block HC9.out.b1) (fun e => by injection e with e; omega)).trans HC9.out.b1) (And.intro ((hg10.block _ (lt_of_block HX9.out) (fun e => hne0 (by injection e))).trans HX9.out) (ja8 (cs := (stoL (devL tF.dev (.slice A7 n7 c7) (.slice A8 n8 c8)) [.int .u32 s.heap.size, .slice A6 s.heap.cells.length c6] (supA s.s0).toList (supA s.s1).toList [.bool s.v0, .bool s.v1] (kidE.enc s.table)).toArray) HC9.out.below (Nat.le_refl _)))))))
          generalize w9.setRow w.heap.size (stoL (devL tF.dev (.slice A7 n7 c7) (.slice A8 n8 c8)) [.int .u32 s.heap.size, .slice A6 s.heap.cells.length c6] (supA s.s0).toList (supA s.s1).toList [.bool s.v0, .bool s.v1] (kidE.enc s.table)).toArray = w10 at *
          have hs10 := jcr hr10 HL10.out
          have z5 : w10.cell? ⟨w.heap.size, 5, none⟩ = some (.int .u32 s.heap.size) := hs10.2.1.cell 0 _ rfl
          have z6 : w10.cell? ⟨w.heap.size, 6, none⟩ = some (.slice A6 s.heap.cells.length c6) := hs10.2.1.cell 1 _ rfl
          have z80 : w10.cell? ⟨w.heap.size, 80, none⟩ = some (.int .u32 s.table.num) := hs10.2.2.2.2.2.cell 1 _ rfl
          have HOL := Lib.hid (hold_any w10 _ s.heap s.table.num H10.out.2.2.1.v hmax)
          clear hr10 hg10 hs10 y0 y1 y2 y3 y4 y5
          go_wp2_with (fail)
          refine HOL.out.mono ?_
          rintro e w11 ⟨r, rfl, hrv, hb11⟩
          obtain ⟨A9, n9, c9, rfl⟩ := jg8 hrv
          have HCM := Lib.hid (show ∀ (hnv : validAt s (slotS (ja1 s)) = false), jep s H = (jhh s tF.dev (holdS s.heap s.table.num).1 (ja1 s), 0) from fun hnv => by
           unfold jep
           rw [if_neg (by rw [HC.out]; simp), if_neg HG.out, HTF.out, if_neg (by rw [HWY.out]; simp)]
           unfold commitH
           rw [hnv]
           rfl)
          obtain ⟨hh, hhE⟩ : ∃ hh, (holdS s.heap s.table.num).1 = hh := ⟨_, rfl⟩
          obtain ⟨er, hrE⟩ : ∃ er, (holdS s.heap s.table.num).2 = er := ⟨_, rfl⟩
          rw [hhE] at hrv HCM ⊢
          rw [hrE]
          have H11 := Lib.hid (And.intro ((hb11.block _ (lt_of_block H10.out.1)).trans H10.out.1) (And.intro (jcy H10.out.2.1 hb11) (And.intro hrv (And.intro ((hb11.block _ (lt_of_block H10.out.2.2.2.1)).trans H10.out.2.2.2.1) (And.intro ((hb11.block _ (lt_of_block H10.out.2.2.2.2.1)).trans H10.out.2.2.2.2.1) (H10.out.2.2.2.2.2.trans (hb11.mono H10.out.2.2.2.2.2.size)))))))
          have HL12 := Lib.hid (ja4 (d := tF.dev) (bv := .slice A7 n7 c7) (wv := .slice A8 n8 c8) (x := .int .u32 hh.size) (cv := .slice A9 n9 c9) (p := s.v0) (q := s.v1) HKW.out.1 HKW.out.2.1 HKW.out.2.2)
          clear hrv hb11 z5 z6 z80 HOL hhE hrE
          go_upto_region 25 with ((with_reducible refine jam 32 ?_); refine jaf rfl 32 _ _ rfl w.heap.size 5 rfl [.int .u32 hh.size, .slice A9 n9 c9] rfl 42 _ H11.out.1 (by rw [List.size_toArray, jb4 HL10.out]; show 5 + 2 ≤ 113; decide) (by intro u hu; simp at hu; rcases hu with rfl | rfl <;> rfl) jcu ?_)
          simp only [Act.put]
          rw [sto_put5 rfl rfl rfl]
          have hr12 := jad w11 w.heap.size (stoL (devL tF.dev (.slice A7 n7 c7) (.slice A8 n8 c8)) [.int .u32 hh.size, .slice A9 n9 c9] (supA s.s0).toList (supA s.s1).toList [.bool s.v0, .bool s.v1] (kidE.enc s.table)).toArray _ _ H11.out.1
          have hg12 := jaq w11 w.heap.size (stoL (devL tF.dev (.slice A7 n7 c7) (.slice A8 n8 c8)) [.int .u32 hh.size, .slice A9 n9 c9] (supA s.s0).toList (supA s.s1).toList [.bool s.v0, .bool s.v1] (kidE.enc s.table)).toArray
          have H12 := Lib.hid (And.intro hr12 (And.intro hg12 ((hg12.block _ (lt_of_block H11.out.2.2.2.2.1) (fun e => hne0 (by injection e))).trans H11.out.2.2.2.2.1)))
          generalize w11.setRow w.heap.size (stoL (devL tF.dev (.slice A7 n7 c7) (.slice A8 n8 c8)) [.int .u32 hh.size, .slice A9 n9 c9] (supA s.s0).toList (supA s.s1).toList [.bool s.v0, .bool s.v1] (kidE.enc s.table)).toArray = w12 at *
          have hs12 := jcr hr12 HL12.out
          clear hg12
          have hxl : xs.toList.length = 35 := by rw [← HXS.out, Array.length_toList]; exact jbn HXW.out
          have HXO := Lib.hid (show ∀ u ∈ xs.toList, u.oneCell' = true by rw [← HXS.out]; exact jbt _)
          have HXL := Lib.hid hxl
          have hatx := HAT.out w12 H12.out.2.2
          have hsl01 : sl = 0 ∨ sl = 1 := by omega
          clear hxl
          rcases hsl01 with rfl | rfl
          · have hvf : s.v0 = false := by
             have h9 := HNV.out
             rw [HSE.out] at h9
             exact h9
            have v77 : w12.cell? ⟨w.heap.size, 77, none⟩ = some (.bool false) := by
             have h9 := hs12.2.2.2.2.1.cell 0 (.bool s.v0) rfl
             rw [hvf] at h9
             exact h9
            have HVF := Lib.hid hvf
            clear hvf hs12 hr12
            go_wp2_with (first
             | (refine jae rfl 36 (.tmp 5) rfl bx 0 rfl xs.toList _ hatx Tryz.underlying36 rfl HX2.out xs (by simp) ?_)
             | ((with_reducible refine jam 36 ?_); refine jk2 ?_))
            refine ⟨?_, trivial⟩
            refine jaf rfl 36 _ _ rfl w.heap.size 7 rfl xs.toList (by simp; rfl) 42 _ H12.out.1 (by rw [List.size_toArray, jb4 HL12.out, HXL.out]; decide) HXO.out HX2.out ?_
            rw [List.toList_toArray, sto_aS HL12.out xs.toList HXL.out]
            have hr13 := jad w12 w.heap.size (stoL (devL tF.dev (.slice A7 n7 c7) (.slice A8 n8 c8)) [.int .u32 hh.size, .slice A9 n9 c9] xs.toList (supA s.s1).toList [.bool s.v0, .bool s.v1] (kidE.enc s.table)).toArray _ _ H12.out.1
            have hg13 := jaq w12 w.heap.size (stoL (devL tF.dev (.slice A7 n7 c7) (.slice A8 n8 c8)) [.int .u32 hh.size, .slice A9 n9 c9] xs.toList (supA s.s1).toList [.bool s.v0, .bool s.v1] (kidE.enc s.table)).toArray
            generalize w12.setRow w.heap.size (stoL (devL tF.dev (.slice A7 n7 c7) (.slice A8 n8 c8)) [.int .u32 hh.size, .slice A9 n9 c9] xs.toList (supA s.s1).toList [.bool s.v0, .bool s.v1] (kidE.enc s.table)).toArray = w13 at *
            have HL13 := Lib.hid (show StoLen (devL tF.dev (.slice A7 n7 c7) (.slice A8 n8 c8)) [.int .u32 hh.size, .slice A9 n9 c9] xs.toList (supA s.s1).toList [.bool s.v0, .bool s.v1] (kidE.enc s.table) from ⟨HL12.out.1, HL12.out.2, HXL.out, HL12.out.4, HL12.out.5, HL12.out.6⟩)
            have hs13 := jcr hr13 HL13.out
            have u77 : w13.cell? ⟨w.heap.size, 77, none⟩ = some (.bool false) := by
             have h9 := hs13.2.2.2.2.1.cell 0 (.bool s.v0) rfl
             rw [HVF.out] at h9
             exact h9
            have f77 : w13.frozen? ⟨w.heap.size, 77, none⟩ = false := jbi hr13 _
            have hset := ja2 hr13 (77 + 0) (.bool true)
            rw [sto_vS HL13.out 0 (by decide)] at hset
            have hgs := jap (World.grownBy.refl w13 (some w.heap.size)) 77 (.bool true)
            have H14 := Lib.hid (And.intro hset (jag (jag H12.out.2.1 hg13) hgs))
            clear hset hgs hg13 hr13 hs13 hatx v77
            go_upto_region 28 with (fail)
            generalize w13.setCell ⟨w.heap.size, 77, none⟩ (.bool true) = w14 at *
            obtain ⟨h14, hg14⟩ := H14.out
            have hw1 : w14.heap[w.heap.size + 1]? = some (.cells zSto.toArray 42 (0, 0)) := (hg14.block _ (lt_of_block H11.out.2.2.2.1) (fun e => by injection e with e; omega)).trans H11.out.2.2.2.1
            have hnc11 : NoCel (stoL (devL tF.dev (.slice A7 n7 c7) (.slice A8 n8 c8)) [.int .u32 s.heap.size, .slice A6 s.heap.cells.length c6] (supA s.s0).toList (supA s.s1).toList [.bool s.v0, .bool s.v1] (kidE.enc s.table)).toArray := jg9 jbe jbe jbe jf7
            have HOV := Lib.hid (show ∀ cs : Array Value, StoV (w14.setRow (w.heap.size + 1) cs) (.agg (stoL (devL tF.dev (.slice A7 n7 c7) (.slice A8 n8 c8)) [.int .u32 hh.size, .slice A9 n9 c9] xs.toList (supA s.s1).toList [.bool true, .bool s.v1] (kidE.enc s.table)).toArray) ⟨tF.dev, hh, ja1 s, s.s1, true, s.v1, s.table⟩ from fun cs =>
             ⟨.slice A7 n7 c7, .slice A8 n8 c8, .slice A9 n9 c9, by rw [← HXS.out], (jb1 (jb1 H11.out.2.1 hg14 H11.out.1 (by decide)) (jaq _ _ _) hw1 (by decide)).dev, (H11.out.2.2.1.keepN H11.out.1 hnc11 (fun b hb hne => hg14.block b hb (fun e => hne (by injection e)))).keepN hw1 jhk jdd, HXW.out, HKW.out.2.1, HKW.out.2.2⟩)
            have HOU := Lib.hid (show jhh s tF.dev hh (ja1 s) = ⟨tF.dev, hh, ja1 s, s.s1, true, s.v1, s.table⟩ by unfold jhh; rw [HSE.out]; simp)
            have HBF := Lib.hid (show Below w.heap.size w w14 from H11.out.2.2.2.2.2.grown hg14 H11.out.2.2.2.2.2.size (fun g hg => by cases hg; exact Nat.le_refl _))
            have hfl : (stoL (devL tF.dev (.slice A7 n7 c7) (.slice A8 n8 c8)) [.int .u32 hh.size, .slice A9 n9 c9] xs.toList (supA s.s1).toList [.bool true, .bool s.v1] (kidE.enc s.table)).length = 113 := jb4 ⟨rfl, rfl, HXL.out, HL12.out.4, rfl, HL12.out.6⟩
            have hfo : ∀ u ∈ stoL (devL tF.dev (.slice A7 n7 c7) (.slice A8 n8 c8)) [.int .u32 hh.size, .slice A9 n9 c9] xs.toList (supA s.s1).toList [.bool true, .bool s.v1] (kidE.enc s.table), u.oneCell' = true := by
             obtain ⟨st', e9, _, ho9, _⟩ := jcf (HOV.out #[])
             injection e9 with e9
             have e9 := congrArg Array.toList e9
             simp only [List.toList_toArray] at e9
             rw [e9]; exact ho9
            have hat14 : At w14 w.heap.size 0 (stoL (devL tF.dev (.slice A7 n7 c7) (.slice A8 n8 c8)) [.int .u32 hh.size, .slice A9 n9 c9] xs.toList (supA s.s1).toList [.bool true, .bool s.v1] (kidE.enc s.table)) := fun j hj => by
             rw [cell_of_row _ _ _ _ _ _ h14, Nat.zero_add]
             simp [hj]
            obtain ⟨fn, hfn⟩ : ∃ fn, stoL (devL tF.dev (.slice A7 n7 c7) (.slice A8 n8 c8)) [.int .u32 hh.size, .slice A9 n9 c9] xs.toList (supA s.s1).toList [.bool true, .bool s.v1] (kidE.enc s.table) = fn := ⟨_, rfl⟩
            have hset5 := h14
            have hfn2 := hfn
            rw [hfn] at hfl hfo hat14 HOV
            obtain ⟨fa, hfa⟩ : ∃ fa, fn.toArray = fa := ⟨_, rfl⟩
            have HFA := Lib.hid hfa
            have HFL := Lib.hid hfl
            have hfi : (Tryz.prog.info? 42).map (·.size) = some fn.length := by rw [hfl]; exact ja6
            clear hfn hfn2 hset5 hnc11 hfa h14 hg14 u77 f77 hfl
            go_wp2_with (first
             | (refine jae rfl 42 (.tmp 1) rfl w.heap.size 0 rfl fn _ hat14 Tryz.underlying42 rfl hfi fa HFA.out ?_)
             | ((with_reducible refine jab ?_); refine jaf rfl 42 _ _ rfl (w.heap.size + 1) 0 rfl fn (by rw [HFA.out]; rfl) 42 _ hw1 (by rw [HFL.out]; exact Nat.le_refl 113) hfo hfi ?_))
            rw [show List.drop fn.length zSto = [] by rw [HFL.out]; rfl, List.append_nil]
            refine bodyPost_ret (jb7 rfl _ (w.heap.size + 1) fn HFL.out (0, 0) _ rfl (jad _ _ _ _ _ hw1)) rfl ⟨H, HHN.out, .agg fn.toArray, ?_, ?_, ja8 HBF.out (by omega)⟩
            · rw [HCM.out HNV.out]; rfl
            · rw [HCM.out HNV.out, HOU.out]
              exact HOV.out _
          · have hvf : s.v1 = false := by
             have h9 := HNV.out
             rw [HSE.out] at h9
             exact h9
            have v77 : w12.cell? ⟨w.heap.size, 78, none⟩ = some (.bool false) := by
             have h9 := hs12.2.2.2.2.1.cell 1 (.bool s.v1) rfl
             rw [hvf] at h9
             exact h9
            have HVF := Lib.hid hvf
            clear hvf hs12 hr12
            go_wp2_with (first
             | (refine jae rfl 36 (.tmp 5) rfl bx 0 rfl xs.toList _ hatx Tryz.underlying36 rfl HX2.out xs (by simp) ?_)
             | ((with_reducible refine jam 36 ?_); refine jk2 ?_))
            refine ⟨?_, trivial⟩
            refine jaf rfl 36 _ _ rfl w.heap.size 42 rfl xs.toList (by simp; rfl) 42 _ H12.out.1 (by rw [List.size_toArray, jb4 HL12.out, HXL.out]; decide) HXO.out HX2.out ?_
            rw [List.toList_toArray, sto_bS HL12.out xs.toList HXL.out]
            have hr13 := jad w12 w.heap.size (stoL (devL tF.dev (.slice A7 n7 c7) (.slice A8 n8 c8)) [.int .u32 hh.size, .slice A9 n9 c9] (supA s.s0).toList xs.toList [.bool s.v0, .bool s.v1] (kidE.enc s.table)).toArray _ _ H12.out.1
            have hg13 := jaq w12 w.heap.size (stoL (devL tF.dev (.slice A7 n7 c7) (.slice A8 n8 c8)) [.int .u32 hh.size, .slice A9 n9 c9] (supA s.s0).toList xs.toList [.bool s.v0, .bool s.v1] (kidE.enc s.table)).toArray
            generalize w12.setRow w.heap.size (stoL (devL tF.dev (.slice A7 n7 c7) (.slice A8 n8 c8)) [.int .u32 hh.size, .slice A9 n9 c9] (supA s.s0).toList xs.toList [.bool s.v0, .bool s.v1] (kidE.enc s.table)).toArray = w13 at *
            have HL13 := Lib.hid (show StoLen (devL tF.dev (.slice A7 n7 c7) (.slice A8 n8 c8)) [.int .u32 hh.size, .slice A9 n9 c9] (supA s.s0).toList xs.toList [.bool s.v0, .bool s.v1] (kidE.enc s.table) from ⟨HL12.out.1, HL12.out.2, HL12.out.3, HXL.out, HL12.out.5, HL12.out.6⟩)
            have hs13 := jcr hr13 HL13.out
            have u77 : w13.cell? ⟨w.heap.size, 78, none⟩ = some (.bool false) := by
             have h9 := hs13.2.2.2.2.1.cell 1 (.bool s.v1) rfl
             rw [HVF.out] at h9
             exact h9
            have f77 : w13.frozen? ⟨w.heap.size, 78, none⟩ = false := jbi hr13 _
            have hset := ja2 hr13 (77 + 1) (.bool true)
            rw [sto_vS HL13.out 1 (by decide)] at hset
            have hgs := jap (World.grownBy.refl w13 (some w.heap.size)) 78 (.bool true)
            have H14 := Lib.hid (And.intro hset (jag (jag H12.out.2.1 hg13) hgs))
            clear hset hgs hg13 hr13 hs13 hatx v77
            go_upto_region 28 with (fail)
            generalize w13.setCell ⟨w.heap.size, 78, none⟩ (.bool true) = w14 at *
            obtain ⟨h14, hg14⟩ := H14.out
            have hw1 : w14.heap[w.heap.size + 1]? = some (.cells zSto.toArray 42 (0, 0)) := (hg14.block _ (lt_of_block H11.out.2.2.2.1) (fun e => by injection e with e; omega)).trans H11.out.2.2.2.1
            have hnc11 : NoCel (stoL (devL tF.dev (.slice A7 n7 c7) (.slice A8 n8 c8)) [.int .u32 s.heap.size, .slice A6 s.heap.cells.length c6] (supA s.s0).toList (supA s.s1).toList [.bool s.v0, .bool s.v1] (kidE.enc s.table)).toArray := jg9 jbe jbe jbe jf7
            have HOV := Lib.hid (show ∀ cs : Array Value, StoV (w14.setRow (w.heap.size + 1) cs) (.agg (stoL (devL tF.dev (.slice A7 n7 c7) (.slice A8 n8 c8)) [.int .u32 hh.size, .slice A9 n9 c9] (supA s.s0).toList xs.toList [.bool s.v0, .bool true] (kidE.enc s.table)).toArray) ⟨tF.dev, hh, s.s0, ja1 s, s.v0, true, s.table⟩ from fun cs =>
             ⟨.slice A7 n7 c7, .slice A8 n8 c8, .slice A9 n9 c9, by rw [← HXS.out], (jb1 (jb1 H11.out.2.1 hg14 H11.out.1 (by decide)) (jaq _ _ _) hw1 (by decide)).dev, (H11.out.2.2.1.keepN H11.out.1 hnc11 (fun b hb hne => hg14.block b hb (fun e => hne (by injection e)))).keepN hw1 jhk jdd, HKW.out.1, HXW.out, HKW.out.2.2⟩)
            have HOU := Lib.hid (show jhh s tF.dev hh (ja1 s) = ⟨tF.dev, hh, s.s0, ja1 s, s.v0, true, s.table⟩ by unfold jhh; rw [HSE.out]; simp)
            have HBF := Lib.hid (show Below w.heap.size w w14 from H11.out.2.2.2.2.2.grown hg14 H11.out.2.2.2.2.2.size (fun g hg => by cases hg; exact Nat.le_refl _))
            have hfl : (stoL (devL tF.dev (.slice A7 n7 c7) (.slice A8 n8 c8)) [.int .u32 hh.size, .slice A9 n9 c9] (supA s.s0).toList xs.toList [.bool s.v0, .bool true] (kidE.enc s.table)).length = 113 := jb4 ⟨rfl, rfl, HL12.out.3, HXL.out, rfl, HL12.out.6⟩
            have hfo : ∀ u ∈ stoL (devL tF.dev (.slice A7 n7 c7) (.slice A8 n8 c8)) [.int .u32 hh.size, .slice A9 n9 c9] (supA s.s0).toList xs.toList [.bool s.v0, .bool true] (kidE.enc s.table), u.oneCell' = true := by
             obtain ⟨st', e9, _, ho9, _⟩ := jcf (HOV.out #[])
             injection e9 with e9
             have e9 := congrArg Array.toList e9
             simp only [List.toList_toArray] at e9
             rw [e9]; exact ho9
            have hat14 : At w14 w.heap.size 0 (stoL (devL tF.dev (.slice A7 n7 c7) (.slice A8 n8 c8)) [.int .u32 hh.size, .slice A9 n9 c9] (supA s.s0).toList xs.toList [.bool s.v0, .bool true] (kidE.enc s.table)) := fun j hj => by
             rw [cell_of_row _ _ _ _ _ _ h14, Nat.zero_add]
             simp [hj]
            obtain ⟨fn, hfn⟩ : ∃ fn, stoL (devL tF.dev (.slice A7 n7 c7) (.slice A8 n8 c8)) [.int .u32 hh.size, .slice A9 n9 c9] (supA s.s0).toList xs.toList [.bool s.v0, .bool true] (kidE.enc s.table) = fn := ⟨_, rfl⟩
            have hset5 := h14
            have hfn2 := hfn
            rw [hfn] at hfl hfo hat14 HOV
            obtain ⟨fa, hfa⟩ : ∃ fa, fn.toArray = fa := ⟨_, rfl⟩
            have HFA := Lib.hid hfa
            have HFL := Lib.hid hfl
            have hfi : (Tryz.prog.info? 42).map (·.size) = some fn.length := by rw [hfl]; exact ja6
            clear hfn hfn2 hset5 hnc11 hfa h14 hg14 u77 f77 hfl
            go_wp2_with (first
             | (refine jae rfl 42 (.tmp 1) rfl w.heap.size 0 rfl fn _ hat14 Tryz.underlying42 rfl hfi fa HFA.out ?_)
             | ((with_reducible refine jab ?_); refine jaf rfl 42 _ _ rfl (w.heap.size + 1) 0 rfl fn (by rw [HFA.out]; rfl) 42 _ hw1 (by rw [HFL.out]; exact Nat.le_refl 113) hfo hfi ?_))
            rw [show List.drop fn.length zSto = [] by rw [HFL.out]; rfl, List.append_nil]
            refine bodyPost_ret (jb7 rfl _ (w.heap.size + 1) fn HFL.out (0, 0) _ rfl (jad _ _ _ _ _ hw1)) rfl ⟨H, HHN.out, .agg fn.toArray, ?_, ?_, ja8 HBF.out (by omega)⟩
            · rw [HCM.out HNV.out]; rfl
            · rw [HCM.out HNV.out, HOU.out]
              exact HOV.out _
        · -- BEGIN 2
          have hwb : (tF.why != 0) = true := by simp [hwhy]
          have HR := Lib.hid (show jep s H = ({ noSto with dev := tF.dev }, tF.why) by unfold jep; rw [if_neg (by rw [HC.out]; simp), if_neg HG.out, HTF.out, if_pos hwhy])
          clear hwhy
          go_upto_region 22 with (fail)
          have hHs : w9.drew.heap[u0.heap.size]? = some (.cells #[.int .u32 tF.dev.size, .slice A7 n7 c7, .slice A8 n8 c8, .bool tF.dev.down, .int .i64 tF.dev.fuse, .int .i64 tF.why] 84 (0, 0)) := HW9.out.1
          refine wp_region_held_drew (S := fun z => z.heap[u0.heap.size]? = some (.cells #[.int .u32 tF.dev.size, .slice A7 n7 c7, .slice A8 n8 c8, .bool tF.dev.down, .int .i64 tF.dev.fuse, .int .i64 tF.why] 84 (0, 0))) (by kernel_rfl) hHs (fun hHeld => ?_)
          refine wpAnyH_take (i := 0) (v := .pointer (some ⟨u0.heap.size, 0, none⟩)) rfl (by kernel_rfl) (by kernel_rfl) (by kernel_rfl) (fun _ _ _ h => h) (Or.inl ⟨by rfl, fun z hz => by go_simp⟩) hHeld ?_
          try simp only [Act.put, jy1, jy2, jy3, List.getElem_toArray, List.getElem_cons_zero, List.getElem_cons_succ]
          refine wpAnyH_take (i := 1) (v := .pointer (some ⟨u0.heap.size, 0, none⟩)) rfl (by kernel_rfl) (by kernel_rfl) (by kernel_rfl) (fun _ _ _ h => h) (Or.inl ⟨by rfl, fun z hz => by go_simp⟩) hHeld ?_
          try simp only [Act.put, jy1, jy2, jy3, List.getElem_toArray, List.getElem_cons_zero, List.getElem_cons_succ]
          refine wpAnyH_take (i := 2) (v := .pointer (some ⟨u0.heap.size, 0, none⟩)) rfl (by kernel_rfl) (by kernel_rfl) (by kernel_rfl) (fun _ _ _ h => h) (Or.inl ⟨by rfl, fun z hz => by go_simp⟩) hHeld ?_
          try simp only [Act.put, jy1, jy2, jy3, List.getElem_toArray, List.getElem_cons_zero, List.getElem_cons_succ]
          refine wpAnyH_take (i := 3) (v := .agg #[.int .u32 tF.dev.size, .slice A7 n7 c7, .slice A8 n8 c8, .bool tF.dev.down, .int .i64 tF.dev.fuse]) rfl (by kernel_rfl) (by kernel_rfl) (by kernel_rfl) (fun _ _ _ h => h) (yieldsIf_load_mid (by rfl) 25 (.tmp 88) rfl u0.heap.size 0 rfl [.int .u32 tF.dev.size, .slice A7 n7 c7, .slice A8 n8 c8, .bool tF.dev.down, .int .i64 tF.dev.fuse] _ (fun z hz j u hj => by rw [cell_of_row _ _ _ _ _ _ hz, Nat.zero_add]; match j with
           | 0 | 1 | 2 | 3 | 4 => exact hj
           | j + 5 => simp at hj) Tryz.underlying25 rfl jbz) hHeld ?_
          try simp only [Act.put, jy1, jy2, jy3, List.getElem_toArray, List.getElem_cons_zero, List.getElem_cons_succ]
          refine wpAnyH_take (i := 4) (v := .agg (stoL [.int .u32 tF.dev.size, .slice A7 n7 c7, .slice A8 n8 c8, .bool tF.dev.down, .int .i64 tF.dev.fuse] zHp zSup zSup zV zKid).toArray) rfl (by kernel_rfl) (by kernel_rfl) (by kernel_rfl) (fun _ _ _ h => h) (jff (by rfl) 42 _ rfl [(0, .agg #[.int .u32 tF.dev.size, .slice A7 n7 c7, .slice A8 n8 c8, .bool tF.dev.down, .int .i64 tF.dev.fuse])] rfl _ (jj0 _ _ _ _ _)) hHeld ?_
          generalize hst9 : stoL [.int .u32 tF.dev.size, .slice A7 n7 c7, .slice A8 n8 c8, .bool tF.dev.down, .int .i64 tF.dev.fuse] zHp zSup zSup zV zKid = st9
          try simp only [Act.put, jy1, jy2, jy3, List.getElem_toArray, List.getElem_cons_zero, List.getElem_cons_succ]
          refine wpAnyH_take (i := 5) (v := .pointer (some ⟨u0.heap.size, 0, none⟩)) rfl (by kernel_rfl) (by kernel_rfl) (by kernel_rfl) (fun _ _ _ h => h) (Or.inl ⟨by rfl, fun z hz => by go_simp⟩) hHeld ?_
          try simp only [Act.put, jy1, jy2, jy3, List.getElem_toArray, List.getElem_cons_zero, List.getElem_cons_succ]
          refine wpAnyH_take (i := 6) (v := .pointer (some ⟨u0.heap.size, 0, none⟩)) rfl (by kernel_rfl) (by kernel_rfl) (by kernel_rfl) (fun _ _ _ h => h) (Or.inl ⟨by rfl, fun z hz => by go_simp⟩) hHeld ?_
          try simp only [Act.put, jy1, jy2, jy3, List.getElem_toArray, List.getElem_cons_zero, List.getElem_cons_succ]
          refine wpAnyH_take (i := 7) (v := .pointer (some ⟨u0.heap.size, 5, none⟩)) rfl (by kernel_rfl) (by kernel_rfl) (by kernel_rfl) (fun _ _ _ h => h) (Or.inl ⟨by rfl, fun z hz => by go_simp⟩) hHeld ?_
          try simp only [Act.put, jy1, jy2, jy3, List.getElem_toArray, List.getElem_cons_zero, List.getElem_cons_succ]
          refine wpAnyH_take (i := 8) (v := .int .i64 tF.why) rfl (by kernel_rfl) (by kernel_rfl) (by kernel_rfl) (fun _ _ _ h => h) (Or.inl ⟨by rfl, fun z hz => by have h5 : z.cell? ⟨u0.heap.size, 5, none⟩ = some (.int .i64 tF.why) := (by rw [cell_of_row _ _ _ _ _ _ hz]; rfl); clear hz; go_simp⟩) hHeld ?_
          try simp only [Act.put, jy1, jy2, jy3, List.getElem_toArray, List.getElem_cons_zero, List.getElem_cons_succ]
          refine wpAnyH_ready (rs := [9]) (by kernel_rfl) (by simp) ?_
          refine AllReadyH.cons rfl (fun K hK => ?_) AllReadyH.nil
          rw [if_pos (by rfl)]
          have hl9 : st9.length = 113 := by rw [← hst9]; rfl
          have ho9 : ∀ u ∈ st9, u.oneCell' = true := by rw [← hst9]; exact stoD_one rfl rfl
          have hb1 := HC9.out.b1
          refine jdg 42 (.tmp 2) (.tmp 90) rfl (w.heap.size + 1) 0 rfl st9 rfl 42 zSto.toArray hb1 (by rw [hl9]; decide) ho9 (by rw [hl9]; exact ja6) ?_
          rw [jms (by rw [hl9]; rfl)]
          refine hK.out _ _ ((jac _ _ _ _ (by have := HC9.out.lt; have := HC4.out.lt; omega)).trans HW9.out.1) (fun hHeld => ?_)
          clear hK K
          try simp only [Act.put, jy1, jy2, jy3, List.getElem_toArray, List.getElem_cons_zero, List.getElem_cons_succ]
          refine wpAnyH_take (i := 10) (v := .int .i64 tF.why) rfl (by kernel_rfl) (by kernel_rfl) (by kernel_rfl) (fun _ _ _ h => h) (Or.inl ⟨by rfl, fun z hz => by go_simp⟩) hHeld ?_
          try simp only [Act.put, jy1, jy2, jy3, List.getElem_toArray, List.getElem_cons_zero, List.getElem_cons_succ]
          refine wpAnyH_done (by kernel_rfl) ?_ _
          go_wp2_with (fail)
          refine bodyPost_ret (jb7 rfl _ (w.heap.size + 1) st9 hl9 (0, 0) _ rfl (jad _ _ _ _ _ hb1)) rfl ⟨H, HHN.out, .agg st9.toArray, ?_, ?_, ja8 HC9.out.below.drew (by omega)⟩
          · rw [HR.out]; rfl
          · rw [HR.out]
            have hdv := (jb1 (jcy HW9.out.2 (Below.refl w9.heap.size w9).drew) (jaq w9.drew (w.heap.size + 1) st9.toArray) hb1 (by decide)).dev
            refine ⟨.slice A7 n7 c7, .slice A8 n8 c8, .slice none 0 0, ?_, hdv, ⟨_, rfl, Sl.nil _, show u32Ok 0 by unfold u32Ok; decide⟩, jcb, jcb, jg6⟩
            rw [← hst9]; rfl
end Go.Proofs.YtpaohkkhejpgjaaGreatDoor
