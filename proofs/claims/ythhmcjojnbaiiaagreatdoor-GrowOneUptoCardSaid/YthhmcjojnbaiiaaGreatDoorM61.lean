/- Texts of the proof: Ii Ij Oc. -/
import Derived.Test.YthhmcjojnbaiiaaGreatDoorM31
import Derived.Test.YthhmcjojnbaiiaaGreatDoorM25
import Derived.Deep.RegionLaw
import Derived.Lib.SliceRun
import Derived.Test.YthhmcjojnbaiiaaGreatDoorM26
import Derived.Deep.AppendLies
import Derived.Test.YthhmcjojnbaiiaaGreatDoorM19
set_option linter.all false
/- Items: slices.Insert of one (two cells an item; the walks after those at pointers, Is). -/
namespace Go.Proofs.YthhmcjojnbaiiaaGreatDoor
open Go Go.RowKit Go.Lib
/-- copy at elements of more than one cell. -/
theorem run_copy_many {P : Program} (w : World) (dT sT ty elem : TypeId) (sz b o dLen dCap : Nat) (a : Addr) (sLen sCap : Nat) (cs : List Value) (n : Nat)
    (hu : P.underlying dT = some (.slice elem)) (hs : (P.info? elem).map (·.size) = some sz) (hm : Nat.min sLen dLen = n) (hn : cs.length = n * sz)
    (hsrc : ∀ j v, cs[j]? = some v → w.cell? (a.add j) = some v) (hc : ∀ j, j < cs.length → (w.cell? ⟨b, o + j, none⟩).isSome = true) (hf : ∀ j, j < cs.length → w.frozen? ⟨b, o + j, none⟩ = false) (h1 : ∀ v ∈ cs, v.oneCell' = true) :
    (Builtin.copy_ #[dT, sT] ty #[.slice (some ⟨b, o, none⟩) dLen dCap, .slice (some a) sLen sCap]).run P w = .ok (goInt n) (w.setCells b o cs) := by
  have hl := run_loadCells_list (P := P) w a cs hsrc
  have hst := run_storeCells_cells (P := P) b o cs 0 w (by simpa using hc) (by simpa using hf) h1
  cases hq : P.info? elem with
  | none => simp [hq] at hs
  | some i =>
    have hi : i.size = sz := by simpa [hq] using hs
    simp [Builtin.copy_, run_underlying hu, Builtin.lenOf, Builtin.firstCells, sizeOf, typeInfo, hq, hi, hm, ← hn, hl, hst]
theorem item_sz : (Tryz.prog.info? 32).map (·.size) = some 2 := by kernel_rfl
theorem item_sizeOf (w : World) : (Go.sizeOf 32).run Tryz.prog w = .ok 2 w := by kernel_rfl
set_option maxHeartbeats 4000000 in
set_option maxRecDepth 100000 in
theorem insItem_shift (b off n c i vb voff m vc : Nat) (cs vs : List Value) (w : World) (hi : i < n) (hm : 0 < m) (hroom : n + m ≤ c) (hc63 : c ≤ 9223372036854775807) (hvb : vb ≠ b)
    (hcl : cs.length = n * 2) (hvl : vs.length = m * 2)
    (hcs : ∀ j v, cs[j]? = some v → w.cell? ⟨b, off + j, none⟩ = some v) (hsp : ∀ j, j < (n + m) * 2 → (w.cell? ⟨b, off + j, none⟩).isSome = true) (hfz : ∀ j, j < (n + m) * 2 → w.frozen? ⟨b, off + j, none⟩ = false)
    (hvs : ∀ j v, vs[j]? = some v → w.cell? ⟨vb, voff + j, none⟩ = some v) (h1c : ∀ v ∈ cs, v.oneCell' = true) (h1v : ∀ v ∈ vs, v.oneCell' = true)
    (tA tB : TypeId) (kA kB : Nat) (hsa : w.shape? vb = some (tA, kA)) (hsb : w.shape? b = some (tB, kB)) (hkB : kB ≠ 0) (hfa : w.frozen? ⟨vb, voff, none⟩ = false) (hfe : w.frozen? ⟨vb, kA, none⟩ = false) :
    Calls Tryz.prog 80 #[.slice (some ⟨b, off, none⟩) n c, .int .i64 i, .slice (some ⟨vb, voff, none⟩) m vc] w fun e w' =>
      e = .returned (.slice (some ⟨b, off, none⟩) (n + m) c) ∧ w' = (w.drew.setCells b (off + (i + m) * 2) (cs.drop (i * 2))).setCells b (off + i * 2) vs := by
  have hz1 : ¬ ((m : Int) = 0) := by omega
  have hz2 : ¬ ((i : Int) = (n : Int)) := by omega
  have hsz := item_sz
  have hov : ∀ lb cb, (callFunc 112 #[.slice (some ⟨vb, voff, none⟩) m vc, .slice (some ⟨b, off + (i + m) * 2, none⟩) lb cb]).run Tryz.prog w = .ok (.value (.bool false)) w := fun lb cb => by
    rw [run_callFunc_extern Tryz.func112 (by kernel_rfl) (by kernel_rfl) (by kernel_rfl) (e := Extern.SlicesOverlaps.overlaps #[27, 27] #[4]) (by kernel_rfl),
      Lib.run_overlaps_apart w 27 4 32 Tryz.underlying27 2 item_sizeOf ⟨vb, voff, none⟩ ⟨b, off + (i + m) * 2, none⟩ m vc lb cb hvb tA tB kA kB hsa hsb hkB hfa hfe]
    rfl
  have hdl : (cs.drop (i * 2)).length = (n - i) * 2 := by rw [List.length_drop, hcl]; omega
  have mixed : Tryz.prog.follows .mixedOrders = true := by kernel_rfl
  have hw1 : IntKind.i64.wrap ((i : Int) + (m : Int)) = (i : Int) + (m : Int) := by rw [IntKind.wrap_i64]; omega
  have hb1 : (0 : Int) ≤ (i : Int) + (m : Int) := by omega
  have hin : i ≤ n := by omega
  have htn : ((i : Int) + (m : Int)).toNat = i + m := by omega
  have hb2 : ¬ (c = i + m) := by omega
  have hb3 : (i : Int) ≤ (n : Int) + (m : Int) := by omega
  have hb4 : ¬ (c = i) := by omega
  have hcp1 : ∀ ty dc sc, (Builtin.copy_ #[27, 27] ty #[.slice (some ⟨b, off + (i + m) * 2, none⟩) (n + m - (i + m)) dc, .slice (some ⟨b, off + i * 2, none⟩) (n + m - i) sc]).run Tryz.prog w.drew = .ok (goInt ((n - i : Nat) : Int)) (w.drew.setCells b (off + (i + m) * 2) (cs.drop (i * 2))) := fun ty dc sc =>
    run_copy_many w.drew _ _ ty 32 2 b (off + (i + m) * 2) (n + m - (i + m)) dc ⟨b, off + i * 2, none⟩ (n + m - i) sc (cs.drop (i * 2)) (n - i) Tryz.underlying27 hsz (by simp only [Nat.min_def]; split <;> omega) hdl
      (fun j v hj => by rw [Addr.add_lit, Nat.add_assoc]; exact hcs (i * 2 + j) v (by rwa [List.getElem?_drop] at hj))
      (fun j hj => by rw [Nat.add_assoc]; exact hsp _ (by omega)) (fun j hj => by rw [Nat.add_assoc]; exact hfz _ (by omega)) (fun v hv => h1c v (List.mem_of_mem_drop hv))
  obtain ⟨W1, hW1⟩ : ∃ W1, W1 = w.drew.setCells b (off + (i + m) * 2) (cs.drop (i * 2)) := ⟨_, rfl⟩
  have hsp1 : ∀ k, k < (n + m) * 2 → (W1.cell? ⟨b, off + k, none⟩).isSome = true := fun k hk => by
    rw [hW1]
    exact isSome_setCells b _ _ _ (fun j hj => by rw [Nat.add_assoc]; exact hsp _ (by omega)) _ (hsp k hk)
  have hcp2 : ∀ (W : World), (∀ x, W.cell? x = W1.cell? x) → (∀ x, W.frozen? x = W1.frozen? x) → ∀ ty dc, (Builtin.copy_ #[27, 27] ty #[.slice (some ⟨b, off + i * 2, none⟩) (n + m - i) dc, .slice (some ⟨vb, voff, none⟩) m vc]).run Tryz.prog W = .ok (goInt m) (W.setCells b (off + i * 2) vs) := fun W hWc hWf ty dc =>
    run_copy_many W _ _ ty 32 2 b (off + i * 2) (n + m - i) dc ⟨vb, voff, none⟩ m vc vs m Tryz.underlying27 hsz (by simp only [Nat.min_def]; split <;> omega) hvl
      (fun j v hj => by
        rw [Addr.add_lit, hWc, hW1, World.cell?_setCells_out b _ _ _ _ (fun h _ => absurd h hvb)]
        exact hvs j v hj)
      (fun j hj => by rw [hWc, Nat.add_assoc]; exact hsp1 _ (by omega)) (fun j hj => by rw [hWf, hW1, World.frozen?_setCells, Nat.add_assoc]; exact hfz _ (by omega)) h1v
  rw [← hW1] at hcp1
  go_enter Tryz.func80, Tryz.ntmps80
  go_wp2_with (simp only [hov])
  go_region_law_o (refine step_copy_runI rfl _ _ 27 27 rfl _ _ (by simp [Act.eval, Act.put]) (by simp [Act.eval, Act.put]) (hcp1 _ _ _) ?_)
  go_wp2_with (at_builtin; refine wpList_copy_runI _ rfl _ _ 27 27 rfl _ _ rfl rfl (hcp2 _ (fun _ => rfl) (fun _ => rfl) _ _) ?_)
  go_ret
  first | exact ⟨rfl, rfl⟩ | exact ⟨rfl, by rw [hW1]⟩
set_option maxHeartbeats 4000000 in
set_option maxRecDepth 100000 in
theorem insItem_grow (b off n c i vb voff m vc : Nat) (cs vs : List Value) (w : World) (hi : i < n) (hm : 0 < m) (hnc : n ≤ c) (hroom : c < n + m) (hbig : (n + m) * 32 ≤ 140737488355328)
    (hcl : cs.length = n * 2) (hvl : vs.length = m * 2)
    (hcs : ∀ j v, cs[j]? = some v → w.cell? ⟨b, off + j, none⟩ = some v)
    (hvs : ∀ j v, vs[j]? = some v → w.cell? ⟨vb, voff + j, none⟩ = some v) (h1c : ∀ v ∈ cs, v.oneCell' = true) (h1v : ∀ v ∈ vs, v.oneCell' = true) :
    Calls Tryz.prog 80 #[.slice (some ⟨b, off, none⟩) n c, .int .i64 i, .slice (some ⟨vb, voff, none⟩) m vc] w fun e w' =>
      ∃ ROW : Array Value, ROW.size = grownCap w (n + m) c 32 * 2 ∧ (∀ j, j < i * 2 → ROW[j]? = cs[j]?) ∧ e = .returned (.slice (some ⟨w.heap.size, 0, none⟩) (n + m) (grownCap w (n + m) c 32)) ∧
      w' = (((w.alloc (.cells ROW 32)).drew.setCells w.heap.size (i * 2) vs).drew).setCells w.heap.size ((i + m) * 2) (cs.drop (i * 2)) := by
  have mixed : Tryz.prog.follows .mixedOrders = true := by kernel_rfl
  obtain ⟨i0, z0, hi0, hz0, hz1', hzs, hzz⟩ := info_open item_info
  have hz1 : ¬ ((m : Int) = 0) := by omega
  have hz2 : ¬ ((i : Int) = (n : Int)) := by omega
  have hz3 : (c : Int) < (n : Int) + (m : Int) := by omega
  have hsz := item_sz
  have hbw : b < w.heap.size := block_lt_of_cell (hcs 0 _ (List.getElem?_eq_getElem (by omega)))
  have hvw : vb < w.heap.size := block_lt_of_cell (hvs 0 _ (List.getElem?_eq_getElem (by omega)))
  have hkk : (n : Int) + (m : Int) - (i : Int) = ((n + m - i : Nat) : Int) := by omega
  have hik : i + (n + m - i) = n + m := by omega
  have hold : (Builtin.firstCells i0.size i (.slice (some ⟨b, off, none⟩) i c)).run Tryz.prog w.drew = .ok (cs.take (i * 2)).toArray w.drew := by
    rw [hz1']
    exact run_firstCells_some w.drew 2 i ⟨b, off, none⟩ i c (cs.take (i * 2)) (by rw [List.length_take]; omega) (fun j v hj => by
      rw [Addr.add_lit]
      rw [List.getElem?_take] at hj
      split at hj
      · exact hcs j v hj
      · cases hj)
  obtain ⟨ROW, hROW⟩ : ∃ ROW : Array Value, ROW = (cs.take (i * 2)).toArray ++ Builtin.zeroCells z0.cells (n + m - i) ++ Builtin.zeroCells z0.cells (grownCap w (n + m) c 32 - (n + m)) := ⟨_, rfl⟩
  have hrz : ∀ ty, (Builtin.append_ #[27, 3] ty #[.slice (some ⟨b, off, none⟩) i c, .int .i64 ((n : Int) + (m : Int) - (i : Int))]).run Tryz.prog w =
      .ok (.slice (some ⟨w.heap.size, 0, none⟩) (n + m) (grownCap w (n + m) c 32)) (w.drew.alloc (.cells ROW 32)) := fun ty => by
    have h := Lib.run_append_grow_zeros w 27 3 ty 32 i0 _ .i64 .i64 Tryz.underlying27 Tryz.underlying3 hi0 hz0 (some ⟨b, off, none⟩) i c (cs.take (i * 2)) hold (n + m - i) (by omega) (by omega) (by omega) (by omega) (by rw [hzs]; omega) (by rw [hzs, hik]; exact growslice_fits hroom hbig)
    rw [hik] at h
    rw [hkk, hROW]
    exact h
  have hGe : n + m ≤ grownCap w (n + m) c 32 := grownCap_ge w _ _ _
  have hRs : ROW.size = grownCap w (n + m) c 32 * 2 := by
    rw [hROW]
    have hzl : ∀ k, (Builtin.zeroCells z0.cells k).size = k * 2 := by
      intro k; simp [Builtin.zeroCells, hzz]
    rw [Array.size_append, Array.size_append, hzl, hzl]
    simp only [List.size_toArray, List.length_take]
    omega
  have hRg : ∀ j, j < i * 2 → ROW[j]? = cs[j]? := by
    intro j hj
    rw [hROW, Array.append_assoc, Array.getElem?_append_left (by simp; omega), List.getElem?_toArray, List.getElem?_take, if_pos hj]
  obtain ⟨G, hG⟩ : ∃ G, G = grownCap w (n + m) c 32 := ⟨_, rfl⟩
  rw [← hG] at hrz hRs hGe ⊢
  have hRl : (n + m) * 2 ≤ ROW.size := by omega
  obtain ⟨W1, hW1⟩ : ∃ W1, W1 = w.drew.alloc (.cells ROW 32) := ⟨_, rfl⟩
  rw [← hW1] at hrz
  have hN : ∀ j, j < (n + m) * 2 → (W1.cell? ⟨w.heap.size, j, none⟩).isSome = true := fun j hj => by
    rw [hW1, World.cell?_alloc_at (w := w.drew) ROW _ w.heap.size j rfl, Array.getElem?_eq_getElem (by omega)]; rfl
  have hNf : ∀ j, W1.frozen? ⟨w.heap.size, j, none⟩ = false := fun j => by rw [hW1]; exact World.frozen?_alloc_at (w := w.drew) ROW _ w.heap.size j rfl
  have hOb : ∀ j v, w.cell? ⟨b, j, none⟩ = some v → W1.cell? ⟨b, j, none⟩ = some v := fun j v h => by rw [hW1, World.cell?_alloc_past (w := w.drew) _ b j hbw]; exact h
  have hOv : ∀ j v, w.cell? ⟨vb, j, none⟩ = some v → W1.cell? ⟨vb, j, none⟩ = some v := fun j v h => by rw [hW1, World.cell?_alloc_past (w := w.drew) _ vb j hvw]; exact h
  have hcpA : ∀ (W : World), (∀ x, W.cell? x = W1.cell? x) → (∀ x, W.frozen? x = W1.frozen? x) → ∀ ty dc, (Builtin.copy_ #[27, 27] ty #[.slice (some ⟨w.heap.size, i * 2, none⟩) (n + m - i) dc, .slice (some ⟨vb, voff, none⟩) m vc]).run Tryz.prog W = .ok (goInt m) (W.setCells w.heap.size (i * 2) vs) := fun W hWc hWf ty dc =>
    run_copy_many W _ _ ty 32 2 w.heap.size (i * 2) (n + m - i) dc ⟨vb, voff, none⟩ m vc vs m Tryz.underlying27 hsz (by simp only [Nat.min_def]; split <;> omega) hvl
      (fun j v hj => by rw [Addr.add_lit, hWc]; exact hOv _ v (hvs j v hj))
      (fun j hj => by rw [hWc]; exact hN _ (by omega)) (fun j hj => by rw [hWf]; exact hNf _) h1v
  have hG63 : G ≤ 9223372036854775807 := by
    have := grownCap_le_maxLen w (n + m) c 32 (by unfold maxLen; omega)
    rw [← hG] at this
    unfold maxLen at this
    omega
  have hGi : ¬ (G = i) := by omega
  have hGim : ¬ (G = i + m) := by omega
  have hci : ¬ (c = i) := by omega
  have hbN : b ≠ w.heap.size := by omega
  have hdl : (cs.drop (i * 2)).length = (n - i) * 2 := by rw [List.length_drop, hcl]; omega
  have hcpB : ∀ (W : World), (∀ x, W.cell? x = (W1.setCells w.heap.size (i * 2) vs).cell? x) → (∀ x, W.frozen? x = (W1.setCells w.heap.size (i * 2) vs).frozen? x) → ∀ ty dc sc, (Builtin.copy_ #[27, 27] ty #[.slice (some ⟨w.heap.size, (i + m) * 2, none⟩) (n + m - (i + m)) dc, .slice (some ⟨b, off + i * 2, none⟩) (n - i) sc]).run Tryz.prog W = .ok (goInt ((n - i : Nat) : Int)) (W.setCells w.heap.size ((i + m) * 2) (cs.drop (i * 2))) := fun W hWc hWf ty dc sc =>
    run_copy_many W _ _ ty 32 2 w.heap.size ((i + m) * 2) (n + m - (i + m)) dc ⟨b, off + i * 2, none⟩ (n - i) sc (cs.drop (i * 2)) (n - i) Tryz.underlying27 hsz (by simp only [Nat.min_def]; split <;> omega) hdl
      (fun j v hj => by
        rw [Addr.add_lit, hWc, World.cell?_setCells_out _ _ _ _ _ (fun h _ => absurd h hbN), Nat.add_assoc]
        exact hOb _ v (hcs (i * 2 + j) v (by rwa [List.getElem?_drop] at hj)))
      (fun j hj => by rw [hWc]; exact isSome_setCells _ _ _ _ (fun t ht => hN _ (by omega)) _ (hN _ (by omega)))
      (fun j hj => by rw [hWf, World.frozen?_setCells]; exact hNf _) (fun v hv => h1c v (List.mem_of_mem_drop hv))
  subst hW1
  have hE1 : ∀ x, ((w.alloc (.cells ROW 32)).drew).cell? x = (w.drew.alloc (.cells ROW 32)).cell? x := fun x => rfl
  have hE2 : ∀ x, ((w.alloc (.cells ROW 32)).drew).frozen? x = (w.drew.alloc (.cells ROW 32)).frozen? x := fun x => rfl
  have hF1 : ∀ x, (((w.alloc (.cells ROW 32)).drew.setCells w.heap.size (i * 2) vs).drew).cell? x = ((w.drew.alloc (.cells ROW 32)).setCells w.heap.size (i * 2) vs).cell? x := fun x => rfl
  have hF2 : ∀ x, (((w.alloc (.cells ROW 32)).drew.setCells w.heap.size (i * 2) vs).drew).frozen? x = ((w.drew.alloc (.cells ROW 32)).setCells w.heap.size (i * 2) vs).frozen? x := fun x => rfl
  have hw1 : IntKind.i64.wrap ((i : Int) + (m : Int)) = (i : Int) + (m : Int) := by rw [IntKind.wrap_i64]; omega
  have hb1 : (0 : Int) ≤ (i : Int) + (m : Int) := by omega
  have hin : i ≤ n := by omega
  have htn : ((i : Int) + (m : Int)).toNat = i + m := by omega
  have hb3 : (i : Int) ≤ (n : Int) := by omega
  have HRR := Lib.hid (And.intro hRs hRg)
  clear hkk hik hold hROW hG hRl hRs hRg
  go_enter Tryz.func80, Tryz.ntmps80
  go_wp2_with (first
    | (at_builtin; refine Lib.wpList_append_run _ rfl _ _ _ _ rfl _ _ rfl rfl _ _ (hrz _) ?_)
    | (at_builtin; refine wpList_copy_runI _ rfl _ _ 27 27 rfl _ _ rfl rfl (hcpA _ hE1 hE2 _ _) ?_)
    | (at_builtin; refine wpList_copy_runI _ rfl _ _ 27 27 rfl _ _ rfl rfl (hcpB _ (fun _ => rfl) (fun _ => rfl) _ _ _) ?_))
  go_region_law_o (refine step_copy_runI rfl _ _ 27 27 rfl (.slice (some ⟨w.heap.size, (i + m) * 2, none⟩) (n + m - (i + m)) (G - (i + m))) (.slice (some ⟨b, off + i * 2, none⟩) (n - i) (c - i)) (by simp [Act.eval, Act.put]) (by simp [Act.eval, Act.put]) (hcpB _ hF1 hF2 3 (G - (i + m)) (c - i)) ?_)
  go_wp2
  go_ret
  exact ⟨ROW, HRR.out.1, HRR.out.2, rfl, rfl⟩
end Go.Proofs.YthhmcjojnbaiiaaGreatDoor

/- Items: slices.Insert of one, in one contract; an item's text set. -/
namespace Go.Proofs.YthhmcjojnbaiiaaGreatDoor
open Go Go.RowKit Go.Lib
theorem ins_app (y : Item) (a : List Item) : ∀ P : List Item, (P ++ a).insertIdx P.length y = P ++ y :: a
  | [] => by simp
  | p :: P => by
    have := ins_app y a P
    simp [this]
theorem ins_split (x : Item) {l : List Item} {i : Nat} (h : i ≤ l.length) : l.insertIdx i x = l.take i ++ x :: l.drop i := by
  have hl : (l.take i).length = i := by rw [List.length_take]; omega
  have := ins_app x (l.drop i) (l.take i)
  rw [hl, List.take_append_drop] at this
  exact this
/-- The cells of a list with one more in it. -/
theorem ins_cells (x : Item) {l : List Item} {i : Nat} (hwf : ∀ y ∈ l, itemE.wf y) (h : i ≤ l.length) (j : Nat) :
    ((l.insertIdx i x).flatMap itemE.enc)[j]? = if j < i * 2 then (l.flatMap itemE.enc)[j]? else if j < i * 2 + 2 then [Value.string x.key, .string x.val][j - i * 2]? else (l.flatMap itemE.enc)[j - 2]? := by
  have hwt : ∀ y ∈ l.take i, itemE.wf y := fun y hy => hwf y ((List.take_sublist _ _).subset hy)
  have htl : ((l.take i).flatMap itemE.enc).length = i * 2 := by rw [flat_length itemE _ hwt, List.length_take, Nat.min_eq_left h]; rfl
  have h8 : l.flatMap itemE.enc = (l.take i).flatMap itemE.enc ++ (l.drop i).flatMap itemE.enc := by rw [← List.flatMap_append, List.take_append_drop]
  have h9 : (l.insertIdx i x).flatMap itemE.enc = (l.take i).flatMap itemE.enc ++ ([Value.string x.key, .string x.val] ++ (l.drop i).flatMap itemE.enc) := by
    rw [ins_split x h, List.flatMap_append, List.flatMap_cons]; rfl
  rw [h9, h8]
  by_cases h1 : j < i * 2
  · rw [if_pos h1, List.getElem?_append_left (by omega), List.getElem?_append_left (by omega)]
  · rw [if_neg h1, List.getElem?_append_right (by omega), htl]
    by_cases h2 : j < i * 2 + 2
    · rw [if_pos h2, List.getElem?_append_left (by simp; omega)]
    · rw [if_neg h2, List.getElem?_append_right (by simp; omega), List.getElem?_append_right (by omega), htl]
      congr 1
      simp only [List.length_cons, List.length_nil]; omega
theorem ins_clen (x : Item) {l : List Item} {i : Nat} (hwf : ∀ y ∈ l, itemE.wf y) (h : i ≤ l.length) : ((l.insertIdx i x).flatMap itemE.enc).length = (l.length + 1) * 2 := by
  have h8 : l.flatMap itemE.enc = (l.take i).flatMap itemE.enc ++ (l.drop i).flatMap itemE.enc := by rw [← List.flatMap_append, List.take_append_drop]
  have h7 := flat_length itemE l hwf
  have h9 : (l.insertIdx i x).flatMap itemE.enc = (l.take i).flatMap itemE.enc ++ ([Value.string x.key, .string x.val] ++ (l.drop i).flatMap itemE.enc) := by
    rw [ins_split x h, List.flatMap_append, List.flatMap_cons]; rfl
  rw [h8] at h7
  rw [h9]
  simp only [List.length_append, List.length_cons, List.length_nil] at h7 ⊢
  have : itemE.sz = 2 := rfl
  rw [this] at h7
  omega
set_option maxHeartbeats 1000000 in
set_option maxRecDepth 100000 in
theorem insItem_any (B : Nat) (w : World) (v : Value) (n i g : Nat) (x : Item) (l : List Item) (hln : l.length = n) (hown : w.ownsRow B 32 2 v n (l.flatMap itemE.enc)) (hwf : ∀ y ∈ l, itemE.wf y) (hi : i ≤ n)
    (hg : w.heap[g]? = some (.cells #[.string x.key, .string x.val] 32 (0, 0))) (hgv : v.ownBlock ≠ some g) (hn : n + 1 ≤ 1073741825) (hB : B ≤ w.heap.size) :
    Calls Tryz.prog 80 #[v, .int .i64 i, .slice (some ⟨g, 0, none⟩) 1 1] w fun e w' => ∃ g' cap, e = .returned (.slice (some ⟨g', 0, none⟩) (n + 1) cap) ∧
      w'.ownsRow B 32 2 (.slice (some ⟨g', 0, none⟩) (n + 1) cap) (n + 1) ((l.insertIdx i x).flatMap itemE.enc) ∧ w.grownBy w' v.ownBlock := by
  obtain ⟨i0, z0, hi0, hz0, hz1, hz2, hzs⟩ := info_open item_info
  have hxl : (l.flatMap itemE.enc).length = n * 2 := by rw [flat_length itemE l hwf, hln]; rfl
  have hic := ins_cells x (l := l) (i := i) hwf (by omega)
  have hil := ins_clen x (l := l) (i := i) hwf (by omega)
  rw [hln] at hil
  have h1x := flat_one itemE l hwf
  have hvs : ∀ j v, [Value.string x.key, .string x.val][j]? = some v → w.cell? ⟨g, 0 + j, none⟩ = some v := by
    intro j v hj
    rw [cell_of_row _ _ _ _ _ _ hg, Nat.zero_add]
    match j with
    | 0 => simpa using hj
    | 1 => simpa using hj
    | j + 2 => simp at hj
  have h1v : ∀ v ∈ [Value.string x.key, .string x.val], v.oneCell' = true := by intro v hv; simp at hv; rcases hv with rfl | rfl <;> rfl
  by_cases hin : i = n
  · subst hin
    obtain ⟨g', cap, w', hr, h1, h2, _, _⟩ := run_append_lies (P := Tryz.prog) w 27 27 B 32 i0 z0 2 32 Tryz.underlying27 hi0 hz0 hz1 hz2 hzs (by decide) v i (l.flatMap itemE.enc) hown ⟨g, 0, none⟩ 1 1 [Value.string x.key, .string x.val] rfl (fun j u hj => by rw [add_at]; exact hvs j u hj) h1v (by decide) (by unfold maxLen; omega) (by omega) hB _ rfl
    have hins : (l.insertIdx i x).flatMap itemE.enc = l.flatMap itemE.enc ++ [Value.string x.key, .string x.val] := by
      rw [ins_split x (by omega), List.take_of_length_le (by omega), List.drop_of_length_le (by omega), List.flatMap_append]; rfl
    have HF := Lib.hid (And.intro h1 h2)
    have HR := Lib.hid hr
    have HI := Lib.hid hins
    clear h1 h2 hins hr hic hil h1x hvs h1v hxl hwf
    rcases hown.2 with ⟨rfl, rfl⟩ | ⟨b, c, cur, rfl, hbg, hb, hnc, hcm, hcs, htake⟩
    · go_enter Tryz.func80, Tryz.ntmps80
      go_wp2_with (at_builtin; refine Lib.wpList_append_run _ rfl _ _ _ _ rfl _ _ rfl rfl _ _ HR.out ?_)
      go_ret
      exact ⟨g', cap, rfl, by rw [HI.out]; exact HF.out.1, HF.out.2⟩
    · have hcm' : c ≤ 9223372036854775807 := by unfold maxLen at hcm; omega
      clear hcm htake hcs
      go_enter Tryz.func80, Tryz.ntmps80
      go_wp2_with (at_builtin; refine Lib.wpList_append_run _ rfl _ _ _ _ rfl _ _ rfl rfl _ _ HR.out ?_)
      all_goals go_ret
      all_goals exact ⟨g', cap, rfl, by rw [HI.out]; exact HF.out.1, HF.out.2⟩
  · rcases hown.2 with ⟨rfl, rfl⟩ | ⟨b, c, cur, rfl, hbg, hb, hnc, hcm, hcs, htake⟩
    · omega
    · have hgb : g ≠ b := by intro e; subst e; exact hgv rfl
      have hcm' : c ≤ 9223372036854775807 := by unfold maxLen at hcm; omega
      have hcsz : cur.size = c * 2 := hcs
      generalize hxs : l.flatMap itemE.enc = xs at *
      have hcur : ∀ j v, xs[j]? = some v → w.cell? ⟨b, 0 + j, none⟩ = some v := by
        intro j v hj
        have := hown.cells (g := b) rfl j v hj
        rwa [add_at] at this
      have hcj : ∀ j, j < n * 2 → cur[j]? = xs[j]? := by
        intro j hj
        rw [← htake, List.getElem?_take, if_pos (by omega), Array.getElem?_toList]
      have hfz : ∀ j, w.frozen? ⟨b, j, none⟩ = false := fun j => frozen_of_row _ _ _ _ _ hb
      have hfg : ∀ j, w.frozen? ⟨g, j, none⟩ = false := fun j => frozen_of_row _ _ _ _ _ hg
      have hdl : (xs.drop (i * 2)).length = (n - i) * 2 := by rw [List.length_drop, hxl]; omega
      by_cases hroom : n + 1 ≤ c
      · have hsa : w.shape? g = some (32, 2) := by unfold World.shape?; rw [hg]; rfl
        have hsb : w.shape? b = some (32, c * 2) := by unfold World.shape?; rw [hb, ← hcsz]
        refine (insItem_shift b 0 n c i g 0 1 1 xs [Value.string x.key, .string x.val] w (by omega) (by omega) hroom hcm' hgb hxl rfl hcur (fun j hj => by
          rw [cell_of_row _ _ _ _ _ _ hb, Array.getElem?_eq_getElem (by omega)]; rfl) (fun j _ => hfz _) hvs h1x h1v _ _ 2 (c * 2) hsa hsb (by omega) (hfg _) (hfg _)).mono ?_
        rintro e w' ⟨rfl, rfl⟩
        obtain ⟨cur1, k1, k2, k3, k4⟩ := setCells_row b (xs.drop (i * 2)) (0 + (i + 1) * 2) w.drew cur _ hb
        obtain ⟨cur2, m1, m2, m3, m4⟩ := setCells_row b [Value.string x.key, .string x.val] (0 + i * 2) _ cur1 _ k1
        have hget : ∀ j, j < (n + 1) * 2 → cur2[j]? = ((l.insertIdx i x).flatMap itemE.enc)[j]? := by
          intro j hj
          rw [hic j, m3, k3]
          simp only [List.length_cons, List.length_nil, hdl, k2, Nat.zero_add]
          by_cases h1 : j < i * 2
          · rw [if_neg (by omega), if_neg (by omega), if_pos h1]; exact hcj j (by omega)
          · by_cases h2 : j < i * 2 + 2
            · rw [if_pos (by omega), if_neg h1, if_pos h2]
            · rw [if_neg (by omega), if_pos (by omega), if_neg h1, if_neg h2, List.getElem?_drop]
              congr 1; omega
        refine ⟨b, c, rfl, ⟨hil, Or.inr ⟨b, c, cur2, rfl, hbg, m1, hroom, hcm, by rw [m2, k2, hcs], ?_⟩⟩, ?_⟩
        · exact take_of_get cur2 _ _ hil (by rw [m2, k2]; omega) hget
        · exact ⟨m4.os.trans k4.os, m4.tape.trans k4.tape, m4.output.trans k4.output, Nat.le_trans k4.size m4.size, fun k hk hne => (m4.block k (Nat.lt_of_lt_of_le hk k4.size) hne).trans (k4.block k hk hne)⟩
      · refine (insItem_grow b 0 n c i g 0 1 1 xs [Value.string x.key, .string x.val] w (by omega) (by omega) hnc (by omega) (by omega) hxl rfl hcur hvs h1x h1v).mono ?_
        rintro e w' ⟨ROW, hRs, hRg, rfl, rfl⟩
        have hge := grownCap_ge w (n + 1) c 32
        have hcmx : grownCap w (n + 1) c 32 ≤ maxLen := grownCap_le_maxLen w (n + 1) c 32 (by unfold maxLen; omega)
        generalize grownCap w (n + 1) c 32 = G at *
        have hnew : (w.alloc (.cells ROW 32)).drew.heap[w.heap.size]? = some (.cells ROW 32 (0, 0)) := heap_alloc_new _ _
        obtain ⟨cur1, k1, k2, k3, k4⟩ := setCells_row w.heap.size [Value.string x.key, .string x.val] (i * 2) _ ROW _ hnew
        have k1' : ((w.alloc (.cells ROW 32)).drew.setCells w.heap.size (i * 2) [Value.string x.key, .string x.val]).drew.heap[w.heap.size]? = some (.cells cur1 32 (0, 0)) := k1
        obtain ⟨cur2, m1, m2, m3, m4⟩ := setCells_row w.heap.size (xs.drop (i * 2)) ((i + 1) * 2) _ cur1 _ k1'
        have hget : ∀ j, j < (n + 1) * 2 → cur2[j]? = ((l.insertIdx i x).flatMap itemE.enc)[j]? := by
          intro j hj
          rw [hic j, m3, k3]
          simp only [List.length_cons, List.length_nil, hdl, k2]
          by_cases h1 : j < i * 2
          · rw [if_neg (by omega), if_neg (by omega), if_pos h1]; exact hRg j h1
          · by_cases h2 : j < i * 2 + 2
            · rw [if_neg (by omega), if_pos (by omega), if_neg h1, if_pos h2]
            · rw [if_pos (by omega), if_neg h1, if_neg h2, List.getElem?_drop]
              congr 1; omega
        refine ⟨w.heap.size, G, rfl, ⟨hil, Or.inr ⟨w.heap.size, G, cur2, rfl, hB, m1, hge, hcmx, by rw [m2, k2, hRs], ?_⟩⟩, ?_⟩
        · exact take_of_get cur2 _ _ hil (by rw [m2, k2]; omega) hget
        · refine ⟨m4.os.trans k4.os, m4.tape.trans k4.tape, m4.output.trans k4.output, ?_, fun k hk _ => ?_⟩
          · exact Nat.le_trans (show w.heap.size ≤ (w.alloc (.cells ROW 32)).drew.heap.size by simp [World.drew]) (Nat.le_trans k4.size m4.size)
          · have hkn : k ≠ w.heap.size := by omega
            have hk1 : k < (w.alloc (.cells ROW 32)).drew.heap.size := by simp [World.drew]; omega
            rw [m4.block k (Nat.lt_of_lt_of_le hk1 k4.size) (by simpa using hkn), show ((w.alloc (.cells ROW 32)).drew.setCells w.heap.size (i * 2) [Value.string x.key, .string x.val]).drew.heap[k]? = ((w.alloc (.cells ROW 32)).drew.setCells w.heap.size (i * 2) [Value.string x.key, .string x.val]).heap[k]? from rfl, k4.block k hk1 (by simpa using hkn)]
            exact Lib.alloc_old w _ k hk
theorem two_app {P D : List Value} {a b : Value} {p j : Nat} (hp : P.length = p) : (P ++ ([a, b] ++ D))[j]? = if j < p then P[j]? else if j = p then some a else if j = p + 1 then some b else D[j - (p + 2)]? := by
  subst hp
  by_cases h1 : j < P.length
  · rw [if_pos h1, List.getElem?_append_left h1]
  · rw [if_neg h1, List.getElem?_append_right (by omega)]
    obtain ⟨d, rfl⟩ : ∃ d, j = P.length + d := ⟨j - P.length, by omega⟩
    rw [Nat.add_sub_cancel_left]
    match d with
    | 0 => simp
    | 1 => simp
    | d + 2 =>
      rw [if_neg (by omega), if_neg (by omega), show P.length + (d + 2) - (P.length + 2) = d by omega]
      rfl
/-- An item's text written over: what is then there is a row. -/
theorem set_row {w : World} {base g cap i : Nat} {l : List Item} (ho : w.ownsRow base 32 2 (.slice (some ⟨g, 0, none⟩) l.length cap) l.length (l.flatMap itemE.enc)) (hwf : ∀ x ∈ l, itemE.wf x) (hi : i < l.length) (v : ByteArray) :
    (w.setCell ⟨g, i * 2 + 1, none⟩ (.string v)).ownsRow base 32 2 (.slice (some ⟨g, 0, none⟩) l.length cap) (l.set i ⟨l[i].key, v⟩).length ((l.set i ⟨l[i].key, v⟩).flatMap itemE.enc) ∧ w.grownBy (w.setCell ⟨g, i * 2 + 1, none⟩ (.string v)) (some g) := by
  obtain ⟨hl0, h2⟩ := ho
  rcases h2 with ⟨h0, _⟩ | ⟨g', cap', cur, h0, hb, hg, hr, hc, hcur, ht⟩
  · cases h0
  · simp only [Value.slice.injEq, Option.some.injEq, Addr.mk.injEq, and_true, true_and] at h0
    obtain ⟨rfl, rfl⟩ := h0
    have hwt : ∀ x ∈ l.take i, itemE.wf x := fun x hx => hwf x ((List.take_sublist _ _).subset hx)
    have htl : ((l.take i).flatMap itemE.enc).length = i * 2 := by rw [flat_length itemE _ hwt, List.length_take, Nat.min_eq_left (by omega)]; rfl
    have hwd : ∀ x ∈ l.drop (i + 1), itemE.wf x := fun x hx => hwf x ((List.drop_sublist _ _).subset hx)
    have hdl : ((l.drop (i + 1)).flatMap itemE.enc).length = (l.length - (i + 1)) * 2 := by rw [flat_length itemE _ hwd, List.length_drop]; rfl
    have h8 : l.flatMap itemE.enc = (l.take i).flatMap itemE.enc ++ ([Value.string l[i].key, .string l[i].val] ++ (l.drop (i + 1)).flatMap itemE.enc) := by
      conv => lhs; rw [← List.take_append_drop i l, List.drop_eq_getElem_cons hi, List.flatMap_append, List.flatMap_cons]
      rfl
    have h9 : (l.set i ⟨l[i].key, v⟩).flatMap itemE.enc = (l.take i).flatMap itemE.enc ++ ([Value.string l[i].key, .string v] ++ (l.drop (i + 1)).flatMap itemE.enc) := by
      rw [List.set_eq_take_append_cons_drop, if_pos hi, List.flatMap_append, List.flatMap_cons]; rfl
    obtain ⟨c1, a1, a2, a3, a4⟩ := setCells_row g [Value.string v] (i * 2 + 1) w cur _ hg
    have a1' : (w.setCell ⟨g, i * 2 + 1, none⟩ (.string v)).heap[g]? = some (.cells c1 32 (0, 0)) := a1
    have hel : ((l.set i ⟨l[i].key, v⟩).flatMap itemE.enc).length = l.length * 2 := by
      rw [h9]; simp only [List.length_append, List.length_cons, List.length_nil, htl, hdl]; omega
    refine ⟨⟨by rw [List.length_set]; exact hel, Or.inr ⟨g, cap, c1, by rw [List.length_set], hb, a1', by rw [List.length_set]; exact hr, hc, by rw [a2]; exact hcur, ?_⟩⟩, a4⟩
    rw [List.length_set]
    apply take_of_get c1 _ _ hel (by rw [a2, hcur]; exact Nat.mul_le_mul_right 2 hr)
    intro j hj
    rw [a3 j, h9]
    simp only [List.length_singleton]
    have hcj : cur[j]? = (l.flatMap itemE.enc)[j]? := by rw [← ht, List.getElem?_take, if_pos (by omega), Array.getElem?_toList]
    have hcs : cur.size = cap * 2 := hcur
    rw [two_app htl]
    by_cases h1 : i * 2 + 1 ≤ j ∧ j < i * 2 + 1 + 1 ∧ j < cur.size
    · rw [if_pos h1]
      obtain rfl : j = i * 2 + 1 := by omega
      rw [if_neg (by omega), if_neg (by omega), if_pos rfl, Nat.sub_self]
      rfl
    · rw [if_neg h1, hcj, h8, two_app htl]
      have h3 : j ≠ i * 2 + 1 := by
        intro e
        have : l.length ≤ cap := hr
        omega
      by_cases h2 : j < i * 2
      · rw [if_pos h2, if_pos h2]
      · rw [if_neg h2, if_neg h2]
        by_cases h4 : j = i * 2
        · rw [if_pos h4, if_pos h4]
        · rw [if_neg h4, if_neg h4, if_neg h3, if_neg h3]
end Go.Proofs.YthhmcjojnbaiiaaGreatDoor

/- Plain: what a change does to a right list. -/
namespace Go.Proofs.YthhmcjojnbaiiaaGreatDoor
open Go Go.RowKit
def Up (l : List Item) : Prop := (l.map (·.key)).Pairwise (fun a b => bl a b = true)
theorem up_app {P a : List Item} {x : Item} (h : Up (P ++ x :: a)) : (∀ p ∈ P, bl p.key x.key = true) ∧ (∀ z, a.head? = some z → bl x.key z.key = true) ∧ Up (P ++ a) := by
  unfold Up at h ⊢
  rw [List.map_append, List.map_cons, List.pairwise_append, List.pairwise_cons] at h
  obtain ⟨h1, ⟨h2, h3⟩, h4⟩ := h
  refine ⟨fun p hp => h4 _ (List.mem_map.2 ⟨p, hp, rfl⟩) _ (by simp), fun z hz => h2 _ (List.mem_map.2 ⟨z, List.mem_of_mem_head? hz, rfl⟩), ?_⟩
  rw [List.map_append, List.pairwise_append]
  exact ⟨h1, h3, fun p hp q hq => h4 p hp q (by simp [hq])⟩
theorem up_lt {P a : List Item} {x y : Item} (h : Up (P ++ x :: a)) (hP : ∀ p ∈ P, bl p.key y.key = true) (hy : bl y.key x.key = true) : Up (P ++ [y] ++ x :: a) := by
  unfold Up at h ⊢
  rw [List.map_append, List.map_cons, List.pairwise_append, List.pairwise_cons] at h
  obtain ⟨h1, ⟨h2, h3⟩, h4⟩ := h
  rw [List.append_assoc, List.map_append, List.pairwise_append]
  refine ⟨h1, ?_, ?_⟩
  · simp only [List.singleton_append, List.map_cons, List.pairwise_cons]
    refine ⟨fun z hz => ?_, h2, h3⟩
    rcases List.mem_cons.1 hz with rfl | hz
    · exact hy
    · exact bl_trans hy (h2 z hz)
  · intro p hp q hq
    simp only [List.singleton_append, List.map_cons, List.mem_cons] at hq
    rcases hq with rfl | rfl | hq
    · obtain ⟨p', hp', rfl⟩ := List.mem_map.1 hp; exact hP p' hp'
    · exact h4 p hp _ (by simp)
    · exact h4 p hp q (by simp [hq])
theorem up_key {P a : List Item} {x y : Item} (h : Up (P ++ x :: a)) (hxy : x.key = y.key) : Up (P ++ [y] ++ a) := by
  unfold Up at h ⊢
  simp only [List.map_append, List.map_cons, List.map_nil, List.append_assoc, List.singleton_append, ← hxy] at h ⊢
  exact h
theorem app_one (P b : List Item) (y : Item) : P ++ y :: b = P ++ [y] ++ b := by simp
theorem right_of {l : List Item} (h : itemsOk l = true) {x : Item} (hx : x ∈ l) : rightB x.key x.val = true := by
  unfold itemsOk at h
  rw [Bool.and_eq_true, List.all_eq_true] at h
  exact h.1 x hx
/-- A change that may be, done to a right list, makes a right one. -/
theorem applyOne_ok {l : List Item} (h : itemsOk l = true) {c : Change} (hc : changeB c = true) : itemsOk (applyOne l c) = true := by
  have hr : rightB c.key c.val = true := by
    unfold changeB at hc
    rw [Bool.and_eq_true] at hc
    exact hc.1
  obtain ⟨hk, hv⟩ := (items_iff l).1 h
  have hup : Up l := hk.2
  have hrk : c.key.size ≤ 48 ∧ bl ByteArray.empty c.key = true ∧ c.val.size ≤ 160 := by
    simp only [rightB, Bool.and_eq_true, decide_eq_true_eq] at hr
    exact ⟨hr.2.1, by rw [bl_empty]; exact hr.1, hr.2.2⟩
  have key : ∀ l' : List Item, Up l' → (∀ x ∈ l', x ∈ l ∨ x = ⟨c.key, c.val⟩) → itemsOk l' = true := by
    intro l' hu hm
    refine (items_iff l').2 ⟨⟨?_, hu⟩, ?_⟩
    · intro k hk'
      obtain ⟨x, hx, rfl⟩ := List.mem_map.1 hk'
      rcases hm x hx with hx | rfl
      · exact hk.1 _ (List.mem_map.2 ⟨x, hx, rfl⟩)
      · exact ⟨hrk.1, hrk.2.1⟩
    · intro x hx
      rcases hm x hx with hx | rfl
      · exact hv x hx
      · exact hrk.2.2
  have hs := ok_sorted h
  -- the list is what lies below the key, and the rest
  have hsplit : l = l.take (itemPos l c.key) ++ l.drop (itemPos l c.key) := (List.take_append_drop _ _).symm
  have hlow : ∀ p ∈ l.take (itemPos l c.key), bl p.key c.key = true := by
    intro p hp
    have e : l.take (itemPos l c.key) = l.takeWhile (fun x => bl x.key c.key) := (take_while _ l).1
    rw [e] at hp
    have := List.all_eq_true.1 (List.all_takeWhile (p := fun x : Item => bl x.key c.key) (l := l)) p hp
    exact this
  have hhi : ∀ x, (l.drop (itemPos l c.key)).head? = some x → bl x.key c.key = false := by
    intro x hx
    have e : l.drop (itemPos l c.key) = l.dropWhile (fun x => bl x.key c.key) := (take_while _ l).2
    rw [e] at hx
    have hx2 := List.head?_dropWhile_not (fun x : Item => bl x.key c.key) l
    rw [hx] at hx2
    simpa using hx2
  have hhas : itemHas l c.key = match (l.drop (itemPos l c.key)).head? with | some x => beqB x.key c.key | none => false := by
    unfold itemHas hasAt
    rw [List.head?_drop]
    cases l[itemPos l c.key]? <;> rfl
  unfold applyOne
  generalize itemPos l c.key = p at *
  cases hD : l.drop p with
  | nil =>
    rw [hD] at hhas hsplit
    simp only [List.head?_nil] at hhas
    rw [hhas, if_neg (by simp)]
    by_cases hch : c.has = true
    · rw [if_pos hch]
      have hpl : l.length ≤ p := List.drop_eq_nil_iff.1 hD
      rw [List.append_nil] at hsplit
      rw [← hsplit] at hlow
      rcases Nat.lt_or_ge l.length p with hlt | hge
      · rw [List.insertIdx_of_length_lt hlt]; exact h
      · obtain rfl : p = l.length := by omega
        have hi := ins_app ⟨c.key, c.val⟩ [] l
        rw [List.append_nil] at hi
        rw [hi]
        refine key _ ?_ (fun x hx => by simpa using hx)
        unfold Up at hup ⊢
        rw [List.map_append, List.pairwise_append]
        exact ⟨hup, by simp, fun a ha b hb => by
          obtain ⟨q, hq, rfl⟩ := List.mem_map.1 ha
          simp only [List.map_cons, List.map_nil, List.mem_singleton] at hb
          subst hb
          exact hlow q hq⟩
    · rw [if_neg hch]; exact h
  | cons x r =>
    rw [hD] at hhas hsplit hhi
    simp only [List.head?_cons] at hhas
    have hx0 := hhi x rfl
    have hpl : (l.take p).length = p := by
      have := congrArg List.length hD
      rw [List.length_drop, List.length_cons] at this
      rw [List.length_take]; omega
    generalize l.take p = P at *
    subst hsplit
    rw [hhas]
    obtain ⟨u1, u2, u3⟩ := up_app hup
    by_cases hk2 : beqB x.key c.key = true
    · rw [if_pos hk2]
      have hxk := (beqB_iff _ _).1 hk2
      by_cases hch : c.has = true
      · rw [if_pos hch]
        have e : (P ++ x :: r).set p ⟨c.key, c.val⟩ = P ++ ⟨c.key, c.val⟩ :: r := by
          rw [List.set_append_right _ _ (by omega), hpl, Nat.sub_self]; rfl
        rw [e]
        refine key _ (by rw [app_one]; exact up_key hup hxk) (fun z hz => ?_)
        rcases List.mem_append.1 hz with hz | hz
        · exact Or.inl (by simp [hz])
        · rcases List.mem_cons.1 hz with rfl | hz
          · exact Or.inr rfl
          · exact Or.inl (by simp [hz])
      · rw [if_neg hch]
        exact erase_ok h p
    · rw [if_neg hk2]
      by_cases hch : c.has = true
      · rw [if_pos hch]
        have hcx : bl c.key x.key = true := by
          cases hq : bl c.key x.key with
          | true => rfl
          | false => exact absurd ((beqB_iff _ _).2 (bl_total hx0 hq)) hk2
        have e : (P ++ x :: r).insertIdx p ⟨c.key, c.val⟩ = P ++ ⟨c.key, c.val⟩ :: x :: r := by
          rw [← hpl]; exact ins_app _ _ P
        rw [e]
        refine key _ (by rw [app_one]; exact up_lt (y := ⟨c.key, c.val⟩) hup hlow hcx) (fun z hz => ?_)
        rcases List.mem_append.1 hz with hz | hz
        · exact Or.inl (by simp [hz])
        · rcases List.mem_cons.1 hz with rfl | hz
          · exact Or.inr rfl
          · exact Or.inl (by simpa using Or.inr hz)
      · rw [if_neg hch]; exact h
theorem applyOne_len (l : List Item) (c : Change) : (applyOne l c).length ≤ l.length + 1 := by
  unfold applyOne
  split
  · split
    · simp
    · rw [List.length_eraseIdx]; split <;> omega
  · split
    · rw [List.length_insertIdx]; split <;> omega
    · omega
end Go.Proofs.YthhmcjojnbaiiaaGreatDoor
