/- Texts of the proof: Pt. -/
import Derived.Test.YthhmcjojnbaiiaaGreatDoorM12
import Derived.Test.YthhmcjojnbaiiaaGreatDoorM26
import Derived.Test.YthhmcjojnbaiiaaGreatDoorM24
import Derived.Test.YthhmcjojnbaiiaaGreatDoorM11
import Derived.Test.YthhmcjojnbaiiaaGreatDoorM19
set_option linter.all false
/- Heap: put. -/
namespace Go.Proofs.YthhmcjojnbaiiaaGreatDoor
open Go Go.RowKit
theorem kid_size : (Tryz.prog.info? 58).map (·.size) = some 34 := by kernel_rfl
theorem results_kid {fn : Func} {t u : Tmp} (h : fn.results = #[.cell t 58, .tmp u]) (tmps : Array Value) (g : Nat) (cs : Array Value) (fr : Nat × Nat) (w : World) (ht : tmps.getD t undef = .pointer (some ⟨g, 0, none⟩))
    (hg : w.heap[g]? = some (.cells cs 58 fr)) (hsz : cs.size = 34) :
    (results fn tmps).run Tryz.prog w = .ok (.tuple #[.agg cs, tmps.getD u undef]) w := by
  have hp' : tmps[t]?.getD undef = .pointer (some ⟨g, 0, none⟩) := by simpa using ht
  have hl := run_loadVar_row (P := Tryz.prog) w g 58 58 cs fr _ hg Tryz.underlying58 rfl (by rw [kid_size, hsz])
  simp [results, h, hp', asAddr, hl]
def kidA (k : Kid) : Array Value := (kidE.enc k).toArray
theorem kidA_size {k : Kid} (h : kidE.wf k) : (kidA k).size = 34 := by unfold kidA; rw [List.size_toArray]; exact kidE.len k h
theorem noKid_wf : kidE.wf noKid := ⟨by unfold strOk noKid; simp, by unfold u32Ok noKid; simp, by unfold noKid; exact ⟨by decide, fun x hx => by have := List.eq_of_mem_replicate hx; omega⟩⟩
set_option maxRecDepth 100000 in
theorem kidA_zero : kidA noKid = #[.string ⟨#[]⟩, .int .u32 0, .int .u8 0, .int .u8 0, .int .u8 0, .int .u8 0, .int .u8 0, .int .u8 0, .int .u8 0, .int .u8 0, .int .u8 0, .int .u8 0, .int .u8 0, .int .u8 0, .int .u8 0, .int .u8 0, .int .u8 0, .int .u8 0, .int .u8 0, .int .u8 0, .int .u8 0, .int .u8 0, .int .u8 0, .int .u8 0, .int .u8 0, .int .u8 0, .int .u8 0, .int .u8 0, .int .u8 0, .int .u8 0, .int .u8 0, .int .u8 0, .int .u8 0, .int .u8 0] := rfl
/-- A kid's block written whole. -/
theorem kid_store {w W : World} {B : Nat} (hB : Below B w W) {kb : Nat} (hkb : B ≤ kb) {cs : Array Value} (h : W.heap[kb]? = some (.cells cs 58 (0, 0))) (hs : cs.size = 34) (vs : List Value) (hl : vs.length = 34) :
    (W.setRow kb (cs.toList.take 0 ++ vs ++ cs.toList.drop (0 + vs.length)).toArray).heap[kb]? = some (.cells vs.toArray 58 (0, 0)) ∧ Below B w (W.setRow kb (cs.toList.take 0 ++ vs ++ cs.toList.drop (0 + vs.length)).toArray) ∧ W.grownBy (W.setRow kb (cs.toList.take 0 ++ vs ++ cs.toList.drop (0 + vs.length)).toArray) (some kb) := by
  have e : (cs.toList.take 0 ++ vs ++ cs.toList.drop (0 + vs.length)).toArray = vs.toArray := by rw [List.drop_of_length_le (by simp; omega)]; simp
  rw [e]
  exact ⟨heap_setRow_same _ _ _ _ _ h, hB.trans ⟨rfl, rfl, rfl, by simp [World.setRow], fun k hk => heap_setRow_other _ _ _ _ (by omega)⟩, ⟨rfl, rfl, rfl, by simp [World.setRow], fun k _ hk => heap_setRow_other _ _ _ _ (by simpa using hk)⟩⟩
/-- A block that is not one of the store's, written: the store goes along. -/
theorem Fr.new {w W W' : World} (hf : Fr w W) {g : Nat} (hg : W.grownBy W' (some g)) (hn : w.heap.size ≤ g) : Fr w W' := by
  refine ⟨hg.os.trans hf.os, hg.tape.trans hf.tape, hg.output.trans hf.output, Nat.le_trans hf.size hg.size, fun b hb => ?_⟩
  have h1 := hg.block b (Nat.lt_of_lt_of_le hb hf.size) (by simp; omega)
  rw [h1]
  rcases hf.block b hb with h2 | ⟨cs, t, fr, e, h2, h3, hc⟩
  · exact Or.inl h2
  · exact Or.inr ⟨cs, t, fr, e, h2, h3, fun ht => by
      obtain ⟨cs', e', r⟩ := hc ht
      exact ⟨cs', h1.trans e', r⟩⟩
/-- Right nodes have no empty texts where their rows begin. -/
def Keyed (n : Node) : Prop := (∀ x ∈ n.items, x.key ≠ ByteArray.empty) ∧ (∀ x ∈ n.kids, x.key ≠ ByteArray.empty) ∧ (∀ x ∈ n.vols, x.name ≠ ByteArray.empty)
theorem bl_ne {k : ByteArray} (h : bl ByteArray.empty k = true) : k ≠ ByteArray.empty := by
  intro e; rw [e, bl_irrefl] at h; cases h
theorem vols_keyed : ∀ (vs : List Vol) (b : ByteArray), volsGo b vs = true → (b = ByteArray.empty ∨ bl ByteArray.empty b = true) → ∀ v ∈ vs, v.name ≠ ByteArray.empty
  | [], _, _, _, v, hv => by simp at hv
  | x :: r, b, h, hb, v, hv => by
    rw [volsGo, Bool.and_eq_true] at h
    have hn : bl b x.name = true := by
      have := h.1
      unfold volRight namedB at this
      simp only [Bool.and_eq_true] at this
      exact this.1.1.1.2.2
    have hx : bl ByteArray.empty x.name = true := by
      rcases hb with rfl | hb
      · exact hn
      · exact bl_trans hb hn
    rcases List.mem_cons.1 hv with rfl | hv
    · exact bl_ne hx
    · exact vols_keyed r x.name h.2 (Or.inr hx) v hv
theorem err_keyed {n : Node} (h : nodeErr n = 0) : Keyed n := by
  have hs : shapedB n = true := by
    unfold nodeErr at h
    cases hs : shapedB n with
    | true => rfl
    | false => rw [hs] at h; simp at h
  unfold shapedB at hs
  split at hs
  · simp only [Bool.and_eq_true, decide_eq_true_eq, beq_iff_eq] at hs
    have hk : n.kids = [] := List.length_eq_zero_iff.1 (by omega)
    have hv : n.vols = [] := List.length_eq_zero_iff.1 (by omega)
    refine ⟨fun x hx => ?_, by simp [hk], by simp [hv]⟩
    exact bl_ne (((items_iff n.items).1 hs.2).1.1 x.key (List.mem_map.2 ⟨x, hx, rfl⟩)).2
  · split at hs
    · simp only [Bool.and_eq_true, beq_iff_eq] at hs
      have hk : n.items = [] := List.length_eq_zero_iff.1 (by omega)
      have hv : n.vols = [] := List.length_eq_zero_iff.1 (by omega)
      refine ⟨by simp [hk], fun x hx => ?_, by simp [hv]⟩
      exact bl_ne (((kids_iff n.kids).1 hs.2).1.1 x.key (List.mem_map.2 ⟨x, hx, rfl⟩)).2
    · split at hs
      · simp only [Bool.and_eq_true, beq_iff_eq] at hs
        have hk : n.items = [] := List.length_eq_zero_iff.1 (by omega)
        have hv : n.kids = [] := List.length_eq_zero_iff.1 (by omega)
        have hg := hs.2
        unfold volsOk at hg
        rw [Bool.and_eq_true] at hg
        exact ⟨by simp [hk], by simp [hv], vols_keyed n.vols _ hg.1 (Or.inl rfl)⟩
      · cases hs
theorem err_bounds {n : Node} (h : nodeErr n = 0) : Bounds n := by
  refine shaped_bounds n ?_
  unfold nodeErr at h
  cases hs : shapedB n with
  | true => rfl
  | false => rw [hs] at h; simp at h
theorem decB_keyed {s : ByteArray} (h : decB s = true) : Keyed (decN s) := by
  refine err_keyed ?_
  unfold decN
  rw [h, if_pos rfl]
  unfold decB at h
  simp only [Bool.and_eq_true, beq_iff_eq] at h
  exact h.2.2.1
theorem good_keyed {sz : Int} {cs : List CC} (g : Good sz cs) : ∀ c ∈ cs, Keyed c.node := fun c hc => by
  obtain ⟨h1, h2, _⟩ := g.dec c hc
  rw [h2]; exact decB_keyed h1
/-- A block whose texts are all empty. -/
def NoText (cs : Array Value) : Prop := ∀ (i : Nat) (s : ByteArray), cs[i]? = some (.string s) → s = ByteArray.empty
theorem row_noText {α : Type} {E : Enc α} {f : α → ByteArray} (hE : ∀ x, (E.enc x)[0]? = some (.string (f x))) {w w' : World} {g : Nat} {cs : Array Value} {t : TypeId} {fr : Nat × Nat} (hg : w.heap[g]? = some (.cells cs t fr)) (hn : NoText cs) (hk : w.grownBy w' (some g)) {v : Value} {xs : List α} (hx : ∀ x ∈ xs, f x ≠ ByteArray.empty) (hs : Sl E w v xs) : Sl E w' v xs := by
  obtain ⟨A, cp, e, h1, h2, h3⟩ := hs
  refine ⟨A, cp, e, h1, h2, fun k hk' => ?_⟩
  obtain ⟨b, o, eA, hat, hwf⟩ := h3 k hk'
  have c0 := hat.cell 0 _ (hE xs[k])
  refine ⟨b, o, eA, hat.heap (hk.block b (block_lt_of_cell c0) fun e => ?_), hwf⟩
  injection e with e
  subst e
  rw [cell_of_row _ _ _ _ _ _ hg] at c0
  exact hx _ (List.getElem_mem hk') (hn _ _ c0)
theorem St.noText {B : Nat} {w w' : World} {p : Nat} {sz : Int} {pcs : List (Nat × CC)} (h : St B w p sz pcs) (hg : Good sz (pcs.map (·.2))) {g : Nat} {cs : Array Value} {t : TypeId} {fr : Nat × Nat} (hc : w.heap[g]? = some (.cells cs t fr)) (ht : ¬ BadT t) (hn : NoText cs) (hk : w.grownBy w' (some g)) : St B w' p sz pcs := by
  have hne : ∀ (b : Nat) (cs' : Array Value) (t' : TypeId) (fr' : Nat × Nat), w.heap[b]? = some (Obj.cells cs' t' fr') → (t' = 114 ∨ t' = 96 ∨ t' = 91) → w'.heap[b]? = w.heap[b]? := by
    intro b cs' t' fr' hb ht'
    refine hk.block b (lt_of_block hb) fun e => ?_
    injection e with e
    subst e
    rw [hc] at hb
    injection hb with hb
    injection hb with _ hb _
    subst hb
    apply ht
    rcases ht' with h1 | h1 | h1
    · exact Or.inl h1
    · exact Or.inr (Or.inl h1)
    · exact Or.inr (Or.inr (Or.inl h1))
  obtain ⟨v, a, hp, hown⟩ := h.row
  refine ⟨h.low, ⟨v, a, by rw [hne p _ _ _ hp (Or.inl rfl)]; exact hp, hown.1, hown.2.imp id ?_⟩, fun x hx => ⟨?_, (h.cells x hx).2⟩, h.nodup, h.wf, ?_⟩
  · rintro ⟨g', cap, cur, h1, h2, h3, h4⟩
    exact ⟨g', cap, cur, h1, h2, by rw [hne g' _ _ _ h3 (Or.inr (Or.inr rfl))]; exact h3, h4⟩
  · obtain ⟨vi, vk, vv, hb, h1, h2, h3⟩ := (h.cells x hx).1
    have hky := good_keyed hg x.2 (List.mem_map.2 ⟨x, hx, rfl⟩)
    exact ⟨vi, vk, vv, by rw [hne x.1 _ _ _ hb (Or.inr (Or.inl rfl))]; exact hb, row_noText (f := (·.key)) (fun _ => rfl) hc hn hk hky.1 h1, row_noText (f := (·.key)) (fun _ => rfl) hc hn hk hky.2.1 h2, row_noText (f := (·.name)) (fun _ => rfl) hc hn hk hky.2.2 h3⟩
  · intro v' g' cs' t' fr' hc' ho hgb
    have hp' : w'.heap[p]? = some (.cells #[.int .u32 sz, v, .int .i64 a] 114 (0, 0)) := by rw [hne p _ _ _ hp (Or.inl rfl)]; exact hp
    have hv : v' = v := by
      rw [cell_of_row _ _ _ _ _ _ hp'] at hc'
      simpa using hc'.symm
    subst hv
    rcases hown.2 with ⟨e1, _⟩ | ⟨g2, cap, cur, e1, h2, h3, h4⟩
    · rw [e1] at ho; cases ho
    · have e2 : g2 = g' := by rw [e1] at ho; simpa [Value.ownBlock] using ho
      subst e2
      rw [hne g2 _ _ _ h3 (Or.inr (Or.inr rfl))] at hgb
      exact h.spare v' g2 cs' t' fr' (by rw [cell_of_row _ _ _ _ _ _ hp]; rfl) ho hgb
theorem kidA_num (k : Kid) : (kidA k)[1]? = some (.int .u32 k.num) := by unfold kidA kidE; simp
theorem kidA_set (H : List Int) (a b : Int) : (kidA ⟨ByteArray.empty, a, H⟩).setIfInBounds 1 (.int .u32 b) = kidA ⟨ByteArray.empty, b, H⟩ := by unfold kidA kidE; simp
theorem nb_kid : ¬ BadT 58 := by unfold BadT; decide
theorem nb_node : ¬ BadT 44 := by unfold BadT; decide
theorem nb_str : ¬ BadT 9 := by unfold BadT; decide
theorem at_block {W : World} {b : Nat} {vs : List Value} {t : TypeId} {fr : Nat × Nat} (h : W.heap[b]? = some (.cells vs.toArray t fr)) : At W b 0 vs := by
  intro i hi
  rw [cell_of_row _ _ _ _ _ _ h, Nat.zero_add]
  simp [hi]
theorem rangeAt_set {w : World} {b o p i : Nat} {cs : List Value} {v : Value} (h : w.rangeAt b o cs) (hne : b ≠ p) : (w.setCell ⟨p, i, none⟩ v).rangeAt b o cs := fun j u hj => by
  rw [World.cell?_of_block (w := w) (Below.heap_setCell _ _ _ _ hne)]
  exact h j u hj
theorem built_kid0' : Tryz.prog.built 58 [] = some (kidA noKid) := built_kid0
theorem kid_noText (k : Kid) (h : k.key = ByteArray.empty) : NoText (kidA k) := by
  intro i s hi
  unfold kidA kidE at hi
  simp only [List.getElem?_toArray] at hi
  match i with
  | 0 => simp at hi; rw [← hi]; exact h
  | 1 => simp at hi
  | i + 2 =>
    simp [hashV] at hi
/-- What is held of a world on the way: the store, the frame, blocks that stay. -/
structure Pc (B : Nat) (w W : World) (p : Nat) (sz : Int) (pcs : List (Nat × CC)) (ks : List (Nat × Array Value × TypeId)) : Prop where
  st : St B W p sz pcs
  bl : Below B w W
  fr : Fr w W
  keep : ∀ x ∈ ks, W.heap[x.1]? = some (.cells x.2.1 x.2.2 (0, 0)) ∧ ¬ BadT x.2.2
section
variable {B : Nat} {w W W' : World} {p : Nat} {sz : Int} {pcs qcs : List (Nat × CC)} {ks : List (Nat × Array Value × TypeId)}
theorem Pc.pure (h : Pc B w W p sz pcs ks) (hB : B ≤ w.heap.size) (hb : Below W.heap.size W W') : Pc B w W' p sz pcs ks :=
  ⟨h.st.below hb, h.bl.trans (hb.mono (Nat.le_trans hB h.bl.size)), h.fr.trans (Fr.of_below hb), fun x hx => ⟨(hb.block _ (lt_of_block (h.keep x hx).1)).trans (h.keep x hx).1, (h.keep x hx).2⟩⟩
theorem Pc.op (h : Pc B w W p sz pcs ks) (hst : St B W' p sz qcs) (hb : Below B W W') (hf : Fr W W') : Pc B w W' p sz qcs ks :=
  ⟨hst, h.bl.trans hb, h.fr.trans hf, fun x hx => ⟨hf.keep (h.keep x hx).1 (h.keep x hx).2, (h.keep x hx).2⟩⟩
theorem Pc.alloc (h : Pc B w W p sz pcs ks) (hB : B ≤ w.heap.size) (cs : Array Value) (t : TypeId) (ht : ¬ BadT t) : Pc B w (W.alloc (.cells cs t)) p sz pcs ((W.heap.size, cs, t) :: ks) := by
  have hp := h.pure hB (below_box W (.cells cs t))
  refine ⟨hp.st, hp.bl, hp.fr, fun x hx => ?_⟩
  rcases List.mem_cons.1 hx with rfl | hx
  · exact ⟨heap_alloc_new _ _, ht⟩
  · exact hp.keep x hx
theorem Pc.node (h : Pc B w W p sz pcs ks) {v : Value} {n : Node} (hv : NodeV w v n) : NodeV W v n := hv.soft h.fr.soft
/-- The result's block written, at the end. -/
theorem Pc.out (h : Pc B w W p sz pcs ks) (hB : B ≤ w.heap.size) {kb : Nat} (hkb : w.heap.size ≤ kb) {cs : Array Value} (hc : W.heap[kb]? = some (.cells cs 58 (0, 0))) (hs : cs.size = 34) (vs : List Value) (hl : vs.length = 34) (hg : Good sz (pcs.map (·.2))) (hn : NoText cs) :
    (W.setRow kb (cs.toList.take 0 ++ vs ++ cs.toList.drop (0 + vs.length)).toArray).heap[kb]? = some (.cells vs.toArray 58 (0, 0)) ∧ St B (W.setRow kb (cs.toList.take 0 ++ vs ++ cs.toList.drop (0 + vs.length)).toArray) p sz pcs ∧
      Below B w (W.setRow kb (cs.toList.take 0 ++ vs ++ cs.toList.drop (0 + vs.length)).toArray) ∧ Fr w (W.setRow kb (cs.toList.take 0 ++ vs ++ cs.toList.drop (0 + vs.length)).toArray) ∧ Kp W (W.setRow kb (cs.toList.take 0 ++ vs ++ cs.toList.drop (0 + vs.length)).toArray) := by
  have hk := kid_store h.bl (Nat.le_trans hB hkb) hc hs vs hl
  exact ⟨hk.1, h.st.noText hg hc (by unfold BadT; decide) hn hk.2.2, hk.2.1, h.fr.new hk.2.2 hkb, Kp.of_grown hk.2.2 hc (by decide)⟩
end
theorem NodeV.wfs {w : World} {v : Value} {n : Node} (h : NodeV w v n) : nodeWf n := by
  obtain ⟨a, b, c, _, h1, h2, h3, _⟩ := h
  exact ⟨h1.wf, h2.wf, h3.wf⟩
theorem wholeB_size (n : Node) (hn : nodeErr n = 0) (hw : (∀ x ∈ n.kids, kidE.wf x) ∧ (∀ x ∈ n.vols, volE.wf x)) : (wholeB n).size ≤ 512 := by
  have hsh : shapedB n = true := by
    unfold nodeErr at hn
    cases h : shapedB n with
    | true => rfl
    | false => rw [h] at hn; simp at hn
  have hsz : (encL n).length ≤ 508 := by
    rw [encL_length n hsh hw.1 hw.2]
    unfold nodeErr at hn
    rw [hsh] at hn
    simp only [if_true] at hn
    split at hn
    · omega
    · omega
  have hpl : (padTo 508 (encL n)).length = 508 := by unfold padTo; simp; omega
  have hn4 : (numB (crcOf (padTo 508 (encL n))) 4).data.toList.length = 4 := numU_length _ 4
  show (wholeL (encL n)).toArray.size ≤ 512
  unfold wholeL Lib.trimRightB
  have := (List.dropWhile_sublist (fun b : UInt8 => b == 0) (l := ((numB (crcOf (padTo 508 (encL n))) 4).data.toList ++ padTo 508 (encL n)).reverse)).length_le
  simp only [List.length_reverse, List.length_append, hn4, hpl] at this
  simpa using this
set_option maxRecDepth 100000 in
theorem cell_fold (num : Int) (d : ByteArray) (kd : Int) (a b c : Value) (H : List Int) (hl : H.length = 32) :
    List.foldl (fun (cs : Array Value) (x : Value × Nat) => cs.setIfInBounds (7 + x.2) x.1) #[.int .u32 num, .string d, .int .i64 0, .int .u8 kd, a, b, c, .int .u8 0, .int .u8 0, .int .u8 0, .int .u8 0, .int .u8 0, .int .u8 0, .int .u8 0, .int .u8 0, .int .u8 0, .int .u8 0, .int .u8 0, .int .u8 0, .int .u8 0, .int .u8 0, .int .u8 0, .int .u8 0, .int .u8 0, .int .u8 0, .int .u8 0, .int .u8 0, .int .u8 0, .int .u8 0, .int .u8 0, .int .u8 0, .int .u8 0, .int .u8 0, .int .u8 0, .int .u8 0, .int .u8 0, .int .u8 0, .int .u8 0, .int .u8 0, .int .i64 0] (hashV H).zipIdx = #[.int .u32 num, .string d, .int .i64 0, .int .u8 kd, a, b, c] ++ (hashV H).toArray ++ #[.int .i64 0] := by
  obtain ⟨x0, x1, x2, x3, x4, x5, x6, x7, x8, x9, x10, x11, x12, x13, x14, x15, x16, x17, x18, x19, x20, x21, x22, x23, x24, x25, x26, x27, x28, x29, x30, x31, rfl⟩ := lit32a H hl
  kernel_rfl
/-- Insert behind the making of a cell and of its pointer. -/
theorem insPtr_push (B : Nat) (w : World) (o1 : Obj) (v : Value) (n i : Nat) (xs : List Value) (hown : w.ownsRow B 91 1 v n xs) (hns : NoStr w v) (hxs : ∀ x ∈ xs, ∀ s, x ≠ .string s) (hx1 : ∀ x ∈ xs, x.oneCell' = true) (hi : i ≤ n) (hn : n + 1 ≤ 1073741825) (hB : B ≤ w.heap.size)
    (p : Nat) (cs : Array Value) (hp : w.heap[p]? = some (.cells cs 114 (0, 0))) (hpv : w.cell? ⟨p, 1, none⟩ = some v) :
    Calls Tryz.prog 90 #[v, .int .i64 i, .slice (some ⟨w.heap.size + 1, 0, none⟩) 1 1] ((w.alloc o1).alloc (.cells #[.pointer (some ⟨w.heap.size, 0, none⟩)] 91)).drew fun e wc => ∃ g cap, e = .returned (.slice (some ⟨g, 0, none⟩) (n + 1) cap) ∧
      wc.cell? ⟨p, 1, none⟩ = some v ∧ wc.frozen? ⟨p, 1, none⟩ = false ∧ wc.heap[p]? = some (.cells cs 114 (0, 0)) ∧
      wc.ownsRow B 91 1 (.slice (some ⟨g, 0, none⟩) (n + 1) cap) (n + 1) (insL i (.pointer (some ⟨w.heap.size, 0, none⟩)) xs) ∧ NoStr wc (.slice (some ⟨g, 0, none⟩) (n + 1) cap) ∧
      (∀ b, b < w.heap.size + 2 → some b ≠ v.ownBlock → wc.heap[b]? = ((w.alloc o1).alloc (.cells #[.pointer (some ⟨w.heap.size, 0, none⟩)] 91)).heap[b]?) ∧ Fr w wc ∧ Below B w wc ∧ w.heap.size < wc.heap.size := by
  have hown2 : ((w.alloc o1).alloc (.cells #[.pointer (some ⟨w.heap.size, 0, none⟩)] 91)).drew.ownsRow B 91 1 v n xs := ((hown.alloc _).alloc _).drew
  have hns2 : NoStr ((w.alloc o1).alloc (.cells #[.pointer (some ⟨w.heap.size, 0, none⟩)] 91)).drew v := by
    intro g cs t fr ho hg
    rw [push_old _ _ _ _ (hown.lt g ho).2] at hg
    exact hns g cs t fr ho hg
  have hgg : ((w.alloc o1).alloc (.cells #[.pointer (some ⟨w.heap.size, 0, none⟩)] 91)).drew.heap[w.heap.size + 1]? = some (.cells #[.pointer (some ⟨w.heap.size, 0, none⟩)] 91 (0, 0)) := by
    have h := heap_alloc_new (w.alloc o1) (.cells #[.pointer (some ⟨w.heap.size, 0, none⟩)] 91)
    simpa [World.drew] using h
  have hgv : v.ownBlock ≠ some (w.heap.size + 1) := fun e => by have := (hown.lt _ e).2; omega
  refine (insPtr_any B _ v n i (w.heap.size + 1) _ xs hown2 hns2 hxs hx1 hi hgg hgv rfl (fun s => by simp) hn (by simp [World.drew]; omega)).mono ?_
  rintro e wc ⟨g, cap, rfl, h1, h2, h3⟩
  have hlt : ((w.alloc o1).alloc (.cells #[.pointer (some ⟨w.heap.size, 0, none⟩)] 91)).drew.heap.size = w.heap.size + 2 := by simp [World.drew]
  have hsz := h3.size
  have hpl := lt_of_block hp
  have hpc : wc.heap[p]? = some (.cells cs 114 (0, 0)) := by
    rw [h3.block p (by omega) (fun e => own_ne hown hp (by decide) e.symm), push_old _ _ _ _ hpl]; exact hp
  have hb0 : Below w.heap.size w ((w.alloc o1).alloc (.cells #[.pointer (some ⟨w.heap.size, 0, none⟩)] 91)).drew := (((Below.refl _ w).alloc (Nat.le_refl _) _).alloc (by simp) _).drew
  refine ⟨g, cap, rfl, ?_, frozen_of_row _ _ _ _ _ hpc, hpc, h1, h2, fun b hb hne => h3.block b (by omega) hne, (Fr.of_below hb0).trans (append_fr hown2 hns2 h3), (hb0.mono hB).grown h3 (by omega) (fun k hk => (hown.lt k hk).1), by omega⟩
  rw [← hpv, cell_of_row _ _ _ _ _ _ hpc, cell_of_row _ _ _ _ _ _ hp]
theorem ptrs_ins (pcs : List (Nat × CC)) (i : Nat) (x : Nat × CC) : ptrsV (pcs.take i ++ x :: pcs.drop i) = insL i (.pointer (some ⟨x.1, 0, none⟩)) (ptrsV pcs) := by
  unfold ptrsV insL
  rw [List.map_append, List.map_cons, List.map_take, List.map_drop]
theorem St.inserted {B : Nat} {w wd : World} {p : Nat} {sz : Int} {pcs : List (Nat × CC)} (h : St B w p sz pcs) (ix : Nat) (hix : ix ≤ pcs.length) {v0 v' : Value} {a0 : Int} (hp : wd.heap[p]? = some (.cells #[.int .u32 sz, v0, .int .i64 a0] 114 (0, 0)))
    (hold : w.ownsRow B 91 1 v0 pcs.length (ptrsV pcs)) (hown : wd.ownsRow B 91 1 v' (pcs.length + 1) (insL ix (.pointer (some ⟨w.heap.size, 0, none⟩)) (ptrsV pcs))) (hns : NoStr wd v') {cs : Array Value} {o2 : Obj}
    (hbk : ∀ b, b < w.heap.size + 2 → some b ≠ v0.ownBlock → wd.heap[b]? = ((w.alloc (.cells cs 96)).alloc o2).heap[b]?) (hfr : Fr w wd) (hbl : Below B w wd) (hB : B ≤ w.heap.size) (c : CC) {vi vk vv : Value} (hcs : cs = (ccRow c vi vk vv).toArray)
    (hi : Sl itemE w vi c.node.items) (hk : Sl kidE w vk c.node.kids) (hv : Sl volE w vv c.node.vols) (hwf : ccWf c) :
    St B (wd.setCell ⟨p, 1, none⟩ v') p sz (pcs.take ix ++ (w.heap.size, c) :: pcs.drop ix) ∧ Fr w (wd.setCell ⟨p, 1, none⟩ v') ∧ Below B w (wd.setCell ⟨p, 1, none⟩ v') ∧ Slots (wd.setCell ⟨p, 1, none⟩ v') w.heap.size vi vk vv := by
  have hlt : ∀ x ∈ pcs, x.1 < w.heap.size := by
    intro x hx
    obtain ⟨_, _, _, hb, _⟩ := (h.cells x hx).1
    exact lt_of_block hb
  have hne : some w.heap.size ≠ v0.ownBlock := fun e => by have := (hold.lt _ e.symm).2; omega
  have hmem : ∀ x, x ∈ pcs.take ix ++ (w.heap.size, c) :: pcs.drop ix → x ∈ pcs ∨ x = (w.heap.size, c) := by
    intro x hx
    rcases List.mem_append.1 hx with hx | hx
    · exact Or.inl ((List.take_subset _ _) hx)
    · rcases List.mem_cons.1 hx with hx | hx
      · exact Or.inr hx
      · exact Or.inl ((List.drop_subset _ _) hx)
  have hr := St.newRow (pcs := pcs.take ix ++ (w.heap.size, c) :: pcs.drop ix) h.low hp (own_noStr hold) (by
      rw [ptrs_ins, show (pcs.take ix ++ (w.heap.size, c) :: pcs.drop ix).length = pcs.length + 1 by simp; omega]; exact hown) hns (by
    intro x hx
    rcases hmem x hx with hx | rfl
    · have hc := (h.cells x hx).1
      obtain ⟨_, _, _, hb, _⟩ := id hc
      refine ⟨hc.keep hfr.soft ?_, (h.cells x hx).2⟩
      have hl := hlt x hx
      rw [hbk x.1 (by omega) (fun e => own_ne hold hb (by decide) e.symm)]
      exact push_old w _ _ _ hl
    · refine ⟨⟨vi, vk, vv, ?_, hi.soft item_opens hfr.soft, hk.soft kid_opens hfr.soft, hv.soft vol_opens hfr.soft⟩, hB⟩
      show wd.heap[w.heap.size]? = _
      rw [hbk _ (by omega) hne, Lib.alloc_old _ _ _ (by simp), ← hcs]
      exact heap_alloc_new _ _) (by
    have hpm : ((pcs.take ix ++ (w.heap.size, c) :: pcs.drop ix).map (·.1)).Perm (((w.heap.size, c) :: pcs).map (·.1)) := by
      refine List.Perm.map _ ?_
      have := List.perm_middle (a := (w.heap.size, c)) (l₁ := pcs.take ix) (l₂ := pcs.drop ix)
      rwa [List.take_append_drop] at this
    rw [hpm.nodup_iff, List.map_cons, List.nodup_cons]
    refine ⟨fun hm => ?_, h.nodup⟩
    obtain ⟨x, hx, e⟩ := List.mem_map.1 hm
    have := hlt x hx
    simp at e
    omega) (by
    intro x hx
    rcases hmem x hx with hx | rfl
    · exact h.wf x hx
    · exact hwf)
  have hplt := h.plt
  refine ⟨hr.1, hfr.trans hr.2.1, hbl.trans hr.2.2, cs, ?_, by rw [hcs]; simp [ccRow], by rw [hcs]; simp [ccRow], by rw [hcs]; simp [ccRow]⟩
  rw [Below.heap_setCell wd ⟨p, 1, none⟩ v' w.heap.size (by simp; omega), hbk _ (by omega) hne, Lib.alloc_old _ _ _ (by simp)]
  exact heap_alloc_new _ _
theorem ids_set (pcs : List (Nat × CC)) (q : Nat) (c' : CC) : (pcs.map fun y => if y.1 = q then (y.1, c') else y).map (·.1) = pcs.map (·.1) := by
  rw [List.map_map]; apply List.map_congr_left; intro y _; simp only [Function.comp]; split <;> rfl
theorem put_num {sz : Int} {cs : List CC} (g : Good sz cs) : 2 ≤ freeNum (ccNums cs) ∧ freeNum (ccNums cs) ∉ ccNums cs :=
  freeGo_spec (ccNums cs) 2 g.ris (fun x hx => by
    obtain ⟨c, hc, rfl⟩ := List.mem_map.1 hx
    exact (g.dec c hc).2.2.2.1)
theorem hold_step {pcs : List (Nat × CC)} (hnd : (pcs.map (·.1)).Nodup) (hso : Rising (nums pcs)) {x : Nat × CC} (hx : x ∈ pcs) {t : Int} (ht : x.2.num = t) :
    (((pcs.map fun y => if y.1 = x.1 then (y.1, { x.2 with refs := x.2.refs + 1 }) else y).map fun y => if y.1 = x.1 then (y.1, { x.2 with refs := x.2.refs + 1, led := x.2.led + 1 }) else y)).map (·.2) = (pcs.map (·.2)).map (refUp t) := by
  have e : (((pcs.map fun y => if y.1 = x.1 then (y.1, { x.2 with refs := x.2.refs + 1 }) else y).map fun y => if y.1 = x.1 then (y.1, { x.2 with refs := x.2.refs + 1, led := x.2.led + 1 }) else y)) = pcs.map fun y => if y.1 = x.1 then (y.1, { x.2 with refs := x.2.refs + 1, led := x.2.led + 1 }) else y := by
    rw [List.map_map]
    apply List.map_congr_left
    intro y _
    simp only [Function.comp]
    by_cases h : y.1 = x.1
    · simp [h]
    · simp [h]
  rw [e, map_one hnd hx { x.2 with refs := x.2.refs + 1, led := x.2.led + 1 } (fun y => (y.1, refUp t y.2)) (by unfold refUp; rw [if_pos ht]) (fun y hy hne => by
    have : ¬ y.2.num = t := fun e => hne (rising_uniq hso hy hx (by rw [e, ht]))
    unfold refUp; rw [if_neg this])]
  rw [List.map_map, List.map_map]
  rfl
theorem ptrs_one (pcs : List (Nat × CC)) : ∀ x ∈ ptrsV pcs, x.oneCell' = true := by
  intro x hx
  obtain ⟨y, _, rfl⟩ := List.mem_map.1 hx
  rfl
/-- What a put comes to. -/
def PutPost (B : Nat) (w : World) (p : Nat) (sz : Int) (pcs : List (Nat × CC)) (v : Value) (n : Node) (e : Ending) (w' : World) : Prop :=
  ∃ (k : Kid) (er : Int) (qcs : List (Nat × CC)), e = .returned (.tuple #[.agg (kidA k), .int .i64 er]) ∧ putS sz (pcs.map (·.2)) n = (k, er, qcs.map (·.2)) ∧ kidE.wf k ∧ St B w' p sz qcs ∧ Below B w w' ∧ Fr w w' ∧ ∀ y ∈ qcs, (∃ x ∈ pcs, x.1 = y.1) ∨ (w.heap.size ≤ y.1 ∧ ∃ k a b c, v = .agg #[k, a, b, c] ∧ Slots w' y.1 a b c)
set_option maxRecDepth 100000 in
set_option maxHeartbeats 4000000 in
theorem putH_any (B : Nat) (w : World) (p : Nat) (sz : Int) (pcs : List (Nat × CC)) (v : Value) (n : Node) (h : St B w p sz pcs) (hBw : B ≤ w.heap.size) (hg : Good sz (pcs.map (·.2))) (hmax : pcs.length ≤ 1048576) (hv : NodeV w v n) (hsm : smallN n) (hl : n.kids.length ≤ 100000 ∧ n.vols.length ≤ 100000) :
    Calls Tryz.prog 59 #[.pointer (some ⟨p, 0, none⟩), v] w fun e w' => PutPost B w p sz pcs v n e w' := by
  have hris : Rising (nums pcs) := by rw [nums_cc]; exact rising_of_pair hg.ris
  have HS := Lib.hid (And.intro h (And.intro hg (And.intro hris hv)))
  obtain ⟨va, vb, vc, rfl, ha, hb0, hc0, hk0, hk1⟩ := hv
  obtain ⟨A1, n1, c1, rfl⟩ := sl_slice ha
  obtain ⟨A2, n2, c2, rfl⟩ := sl_slice hb0
  obtain ⟨A3, n3, c3, rfl⟩ := sl_slice hc0
  have hplt := h.plt
  clear ha hb0 hc0 h hg hris
  generalize hkd : n.kind = kd at *
  have HKD := Lib.hid hkd
  clear hkd
  obtain ⟨W0, hW0⟩ : ∃ W0, W0 = (w.alloc (.cells #[.int .u8 kd, .slice A1 n1 c1, .slice A2 n2 c2, .slice A3 n3 c3] 44)).alloc (.cells (kidA noKid) 58) := ⟨_, rfl⟩
  have hP0 : Pc B w W0 p sz pcs [(w.heap.size + 1, kidA noKid, 58), (w.heap.size, #[.int .u8 kd, .slice A1 n1 c1, .slice A2 n2 c2, .slice A3 n3 c3], 44)] := by
    have h0 : Pc B w w p sz pcs [] := ⟨HS.out.1, Below.refl _ _, Fr.refl _, fun x hx => by simp at hx⟩
    have h1 := (h0.alloc hBw #[.int .u8 kd, .slice A1 n1 c1, .slice A2 n2 c2, .slice A3 n3 c3] 44 (by unfold BadT; decide)).alloc hBw (kidA noKid) 58 (by unfold BadT; decide)
    rw [← hW0] at h1
    simpa using h1
  have hnb : ¬ w.heap.size + 1 = w.heap.size := by omega
  have HP0 := Lib.hid hP0
  have HW0 := Lib.hid hW0
  clear hP0 hW0
  rw [kidA_zero] at HW0
  go_enter Tryz.func59, Tryz.ntmps59
  go_wp2_with (fail)
  rw [← HW0.out]
  clear HW0
  go_at_call 85
  refine (encode_any _ _ n (HP0.out.node HS.out.2.2.2) hsm).mono ?_
  rintro e w1 ⟨rfl, hb1⟩
  have HP1 := Lib.hid (HP0.out.pure hBw hb1)
  clear hb1
  obtain ⟨d, hd, hdw⟩ : ∃ d : ByteArray, (if nodeErr n = 0 then #[.string ⟨(wholeL (encL n)).toArray⟩, .int .i64 0] else #[.string ByteArray.empty, .int .i64 (nodeErr n)]) = #[Value.string d, .int .i64 (nodeErr n)] ∧ (nodeErr n = 0 → d = wholeB n) := by
    by_cases h0 : nodeErr n = 0
    · exact ⟨wholeB n, by rw [if_pos h0, h0]; rfl, fun _ => rfl⟩
    · exact ⟨ByteArray.empty, by rw [if_neg h0], fun h => absurd h h0⟩
  rw [hd]
  have HD := Lib.hid hdw
  clear hd hdw
  have HP2 := Lib.hid (HP1.out.alloc hBw #[.string d] 9 (by unfold BadT; decide))
  have kn := (HP2.out.keep (w.heap.size, #[.int .u8 kd, .slice A1 n1 c1, .slice A2 n2 c2, .slice A3 n3 c3], 44) (by simp)).1
  have kn1 := (HP1.out.keep (w.heap.size, #[.int .u8 kd, .slice A1 n1 c1, .slice A2 n2 c2, .slice A3 n3 c3], 44) (by simp)).1
  have y0 : w1.cell? ⟨w.heap.size, 0, none⟩ = some (.int .u8 kd) := by rw [cell_of_row _ _ _ _ _ _ kn1]; rfl
  have y1 : w1.cell? ⟨w.heap.size, 1, none⟩ = some (.slice A1 n1 c1) := by rw [cell_of_row _ _ _ _ _ _ kn1]; rfl
  have y2 : w1.cell? ⟨w.heap.size, 2, none⟩ = some (.slice A2 n2 c2) := by rw [cell_of_row _ _ _ _ _ _ kn1]; rfl
  have y3 : w1.cell? ⟨w.heap.size, 3, none⟩ = some (.slice A3 n3 c3) := by rw [cell_of_row _ _ _ _ _ _ kn1]; rfl
  have ylt := lt_of_block kn1
  clear kn kn1
  generalize hne : nodeErr n = e1 at *
  have HNE := Lib.hid hne
  clear hne
  go_wp2_with (fail)
  go_at_call 67
  refine (leads_any B _ p sz pcs _ n HP2.out.st (Nat.le_trans hBw HP2.out.bl.size) HS.out.2.2.1 (by omega) (HP2.out.node HS.out.2.2.2) hl).mono ?_
  rintro e w3 ⟨rfl, hst3, hB3, hF3, _⟩
  have HP3 := Lib.hid (HP2.out.op hst3 hB3 hF3)
  clear hst3 hB3 hF3 y0 y1 y2 y3 ylt
  obtain ⟨le, hle⟩ : ∃ le, leadsE (pcs.map (·.2)) n = le := ⟨_, rfl⟩
  have HLE := Lib.hid hle
  rw [hle]
  clear hle
  go_wp2_with (fail)
  go_at_call 57
  have hso : Sl errE (w3.alloc (.cells #[.int .i64 e1, .int .i64 le] 28)) (.slice (some ⟨w3.heap.size, 0, none⟩) 2 2) [e1, le] := by
    refine ⟨_, 2, rfl, Nat.le_refl _, by omega, Row.mk fun k hk => ⟨?_, trivial⟩⟩
    have ha := new_at w3 [.int .i64 e1, .int .i64 le] 28
    intro i hi
    have hi0 : i = 0 := by simp [errE] at hi; omega
    subst hi0
    match k, hk with
    | 0, _ => exact ha.cell 0 _ rfl
    | 1, _ => exact ha.cell 1 _ rfl
  refine (or_any _ _ [e1, le] hso).mono ?_
  rintro e _ ⟨rfl, rfl⟩
  have HP4 := Lib.hid (HP3.out.alloc hBw #[.int .i64 e1, .int .i64 le] 28 (by unfold BadT; decide))
  clear hso
  obtain ⟨w4, hw4⟩ : ∃ w4, w4 = w3.alloc (.cells #[.int .i64 e1, .int .i64 le] 28) := ⟨_, rfl⟩
  rw [← hw4] at HP4 ⊢
  clear hw4
  by_cases h0 : orL [e1, le] = 0
  · obtain ⟨he1, hle0⟩ : e1 = 0 ∧ le = 0 := by
      rw [orL_two] at h0
      split at h0
      · exact ⟨by assumption, h0⟩
      · exact absurd h0 (by assumption)
    have HZ := Lib.hid (And.intro he1 hle0)
    rw [h0]
    clear h0 he1 hle0
    -- BEGIN 1
    have hd := HD.out (by rw [HZ.out.1])
    have hdk := (HP4.out.keep (w1.heap.size, #[.string d], 9) (by simp)).1
    have c6 : w4.cell? ⟨w1.heap.size, 0, none⟩ = some (.string d) := by rw [cell_of_row _ _ _ _ _ _ hdk]; rfl
    have hds : d.size ≤ 512 := by rw [hd]; exact wholeB_size n (by rw [HNE.out, HZ.out.1]) ⟨HS.out.2.2.2.wfs.2.1, HS.out.2.2.2.wfs.2.2⟩
    have HDD := Lib.hid hd
    have hdl := lt_of_block hdk
    clear hd hdk
    go_wp2_with (fail)
    go_at_call 66
    refine (hash_any _ d (by omega)).mono ?_
    rintro e w5 ⟨rfl, hb5⟩
    have HP5 := Lib.hid (HP4.out.pure hBw hb5)
    clear hb5 c6
    obtain ⟨H, hH⟩ : ∃ H, shaOf d.data.toList = H := ⟨_, rfl⟩
    have hHok : hashOk H := by rw [← hH]; exact shaOf_ok _
    rw [show u8s (shaOf d.data.toList) = (hashV H).toArray by rw [hH]; rfl]
    have hk1wf : kidE.wf ⟨ByteArray.empty, 0, H⟩ := ⟨by unfold strOk; simp, by unfold u32Ok; simp, hHok⟩
    have hbk := built_kidH H hHok.1
    obtain ⟨ha, hha⟩ : ∃ ha, (hashV H).toArray = ha := ⟨_, rfl⟩
    obtain ⟨ka, hka⟩ : ∃ ka, kidA ⟨ByteArray.empty, 0, H⟩ = ka := ⟨_, rfl⟩
    rw [hha, show (kidE.enc ⟨ByteArray.empty, 0, H⟩).toArray = ka from hka] at hbk
    rw [hha]
    have hka34 : ka.size = 34 := by rw [← hka]; exact kidA_size hk1wf
    have hkone : ∀ v ∈ ka.toList, v.oneCell' = true := by rw [← hka]; exact fun v hv => kidE.one _ hk1wf v (by simpa [kidA] using hv)
    have HK := Lib.hid (And.intro hbk (And.intro hka34 (And.intro hkone (And.intro hka (And.intro hha (And.intro hH (And.intro hk1wf hHok)))))))
    clear hbk hka34 hkone hka hha hH hk1wf hHok
    have HP6 := Lib.hid (HP5.out.alloc hBw ka 58 (by unfold BadT; decide))
    obtain ⟨sv, s1, hsown⟩ := HP6.out.st.field
    obtain ⟨SA, sc, rfl, hsc1, hsc2, _⟩ := St.sl hsown
    have hsl6 := St.sl hsown
    rw [List.length_map] at s1 hsc1 hsl6
    have HSO := Lib.hid hsl6
    clear hsl6
    have hp6 := HP6.out.st.plt
    clear hsown
    obtain ⟨w6, hw6⟩ : ∃ w6, w6 = w5.alloc (.cells ka 58) := ⟨_, rfl⟩
    have hw5 : ¬ p = w5.heap.size := by
      have := HP5.out.st.plt; omega
    have hp5 := HP5.out.st.plt
    have s5 : w5.cell? ⟨p, 1, none⟩ = some (.slice SA pcs.length sc) := by
      rw [← s1]; exact (World.cell?_of_block (Lib.alloc_old w5 _ p hp5)).symm
    clear s1
    go_wp2_with (first
      | ((with_reducible refine probe_build 58 ?_); refine wpList_build_cells rfl 58 _ rfl [(2, .agg ha)] rfl ka HK.out.1 ?_)
      | ((with_reducible refine probe_storeT 58 ?_); refine wpList_store_arr rfl 58 (.tmp 8) (.tmp 37) rfl 58 _ rfl ka rfl (by rw [HK.out.2.1]; rfl) HK.out.2.2.1 (by rw [HK.out.2.1]; exact kid_size) ?_))
    rw [← hw6]
    rw [← hw6] at HP6 HSO hp6
    go_at_call 86
    have hdk6 := (HP6.out.keep (w1.heap.size, #[.string d], 9) (by simp)).1
    refine (index_any B w6 p sz pcs _ w1.heap.size d HP6.out.st HSO.out (by omega) (by rw [cell_of_row _ _ _ _ _ _ hdk6]; rfl)).mono ?_
    rintro e w7 ⟨rfl, q7, hq7⟩
    have hb7 : Below w6.heap.size w6 w7 := by rw [hq7]; exact Below.drewN' (Below.refl _ _) q7
    have HP7 := Lib.hid (HP6.out.pure hBw hb7)
    have HS7 := Lib.hid (HSO.out.below hb7 (Nat.le_refl _))
    have hk7 := (HP7.out.keep (w5.heap.size, ka, 58) (by simp)).1
    have hkb7 := (HP7.out.keep (w.heap.size + 1, kidA noKid, 58) (by simp)).1
    have s7 : w7.cell? ⟨p, 1, none⟩ = some (.slice SA pcs.length sc) := by
      have h1 : w7.cell? ⟨p, 1, none⟩ = w6.cell? ⟨p, 1, none⟩ := hb7.cell (p := ⟨p, 1, none⟩) hp6
      rw [h1, hw6]
      exact (World.cell?_of_block (Lib.alloc_old w5 _ p hp5)).trans s5
    have hp7 := HP7.out.st.plt
    have HKW := Lib.hid (And.intro hk7 hkb7)
    have h8 := lt_of_block hk7
    have HNB := Lib.hid (show ¬ w5.heap.size = w.heap.size + 1 by have := HP4.out.keep (w.heap.size + 1, kidA noKid, 58) (by simp); have h9 := lt_of_block this.1; have := HP5.out.keep (w.heap.size + 1, kidA noKid, 58) (by simp); have h10 := lt_of_block this.1; omega)
    clear hdk6 hq7 hb7 hk7 hkb7 s5 hw5 hp5 hp6 hw6
    cases hix : (pcs.map (·.2))[dataIx (datas pcs) d]? with
    | some c =>
      -- BEGIN 5
      obtain ⟨hil, hic⟩ := List.getElem?_eq_some_iff.1 hix
      rw [List.length_map] at hil
      have hres : dataRes pcs d = ((dataIx (datas pcs) d : Nat) : Int) := by unfold dataRes; rw [if_pos hil]
      rw [hres]
      have hput : putS sz (pcs.map (·.2)) n = (⟨ByteArray.empty, c.num, H⟩, 0, pcs.map (·.2)) := by
        rw [putS_kid (by rw [HNE.out, HZ.out.1]) (by rw [HLE.out, HZ.out.2]), ← HDD.out, show (pcs.map (·.2)).map (·.data) = datas pcs by unfold datas; rw [List.map_map]; rfl, hix]
        simp only [HK.out.2.2.2.2.2.1]
      have HPUT := Lib.hid hput
      generalize dataIx (datas pcs) d = ix at *
      obtain ⟨b, o, hA, hat, _⟩ := (HS7.out.len_eq).2.2.2 ix (by rw [List.length_map]; exact hil)
      subst hA
      have hcx : pcs[ix].2 = c := by rw [List.getElem_map] at hic; exact hic
      have d0 : w7.cell? ⟨b, o + ix, none⟩ = some (.pointer (some ⟨pcs[ix].1, 0, none⟩)) := by
        have := hat.cell 0 _ rfl
        simpa [ptrE] using this
      have hbr : b < w7.heap.size := block_lt_of_cell d0
      have hmx : pcs[ix] ∈ pcs := List.getElem_mem hil
      have d1 : w7.cell? ⟨pcs[ix].1, 0, none⟩ = some (.int .u32 c.num) := by
        have := (HP7.out.st.cells _ hmx).1.num
        rwa [hcx] at this
      have hcn : u32Ok c.num := by have := (HP7.out.st.wf _ hmx).cel.1; rwa [hcx] at this
      have HI := Lib.hid (And.intro hcn hmx)
      have hixn : (0 : Int) ≤ (ix : Int) := by omega
      clear hix hic hres hput hat hcx hmx hcn
      generalize pcs[ix].1 = q at *
      have k1c : w7.cell? ⟨w5.heap.size, 1, none⟩ = some (.int .u32 0) := by rw [cell_of_row _ _ _ _ _ _ HKW.out.1, ← HK.out.2.2.2.1]; exact kidA_num _
      have k1f : w7.frozen? ⟨w5.heap.size, 1, none⟩ = false := frozen_of_row _ _ _ _ _ HKW.out.1
      have hset := blk_set HKW.out.1 1 (.int .u32 c.num)
      have hgs := grown_set (World.grownBy.refl w7 (some w5.heap.size)) 1 (.int .u32 c.num)
      have hst8 := HP7.out.st.noText HS.out.2.1 HKW.out.1 nb_kid (by rw [← HK.out.2.2.2.1]; exact kid_noText _ rfl) hgs
      have hkb8 := (hgs.block (w.heap.size + 1) (lt_of_block HKW.out.2) (by have := HNB.out; simpa using fun e => this e.symm)).trans HKW.out.2
      have hka2 : ka.setIfInBounds 1 (.int .u32 c.num) = kidA ⟨ByteArray.empty, c.num, H⟩ := by rw [← HK.out.2.2.2.1]; exact kidA_set _ _ _
      rw [hka2] at hset
      have hw5l : w.heap.size ≤ w5.heap.size := HP5.out.bl.size
      have HP8 : Pc B w (w7.setCell ⟨w5.heap.size, 1, none⟩ (.int .u32 c.num)) p sz pcs [] := ⟨hst8, HP7.out.bl.setCell (p := ⟨w5.heap.size, 1, none⟩) (Nat.le_trans hBw hw5l) _, HP7.out.fr.new hgs hw5l, fun x hx => by simp at hx⟩
      have hkwf : kidE.wf ⟨ByteArray.empty, c.num, H⟩ := ⟨by unfold strOk; simp, HI.out.1, HK.out.2.2.2.2.2.2.2⟩
      have HF := Lib.hid (HP8.out hBw (kb := w.heap.size + 1) (by omega) hkb8 (kidA_size noKid_wf) (kidE.enc ⟨ByteArray.empty, c.num, H⟩) (kidE.len _ hkwf) HS.out.2.1 (kid_noText _ rfl))
      have HX := Lib.hid (And.intro hset (And.intro hkb8 hkwf))
      clear hset hgs hst8 hkb8 hka2 HP8 hkwf
      have hat8 := at_block HX.out.1
      have hkl := kid_len _ HX.out.2.2
      have hkl2 := kidE.len _ HX.out.2.2
      have hko := kidE.one _ HX.out.2.2
      have HL8 := Lib.hid (And.intro hkl2 (show (kidA noKid).size = 34 from kidA_size noKid_wf))
      obtain ⟨kv, hkv⟩ : ∃ kv, kidE.enc ⟨ByteArray.empty, c.num, H⟩ = kv := ⟨_, rfl⟩
      have HKV := Lib.hid hkv
      rw [hkv] at hat8 hkl hko HL8 HF
      clear hkl2 hkv
      obtain ⟨ka2, hka2⟩ : ∃ ka2, kv.toArray = ka2 := ⟨_, rfl⟩
      have HK2 := Lib.hid hka2
      clear hka2
      generalize kidA noKid = kz at *
      generalize c.num = cnum at *
      go_wp2_with (first
        | ((with_reducible refine probe_loadT 58 ?_); refine wpList_load_arr rfl 58 (.tmp 8) rfl w5.heap.size 0 rfl kv _ hat8 Tryz.underlying58 rfl hkl ka2 HK2.out ?_)
        | ((with_reducible refine probe_storeT 58 ?_); refine wpList_store_at rfl 58 (.tmp 4) _ rfl (w.heap.size + 1) 0 rfl kv (by rw [HK2.out]; rfl) 58 kz HX.out.2.1 (by rw [HL8.out.1, HL8.out.2]; decide) hko hkl ?_))
      have hfo := HF.out
      simp only [List.take_zero, List.nil_append, Nat.zero_add] at hfo
      refine bodyPost_ret (results_kid rfl _ (w.heap.size + 1) _ (0, 0) _ rfl hfo.1 (by rw [List.size_toArray]; exact HL8.out.1)) rfl ⟨⟨ByteArray.empty, cnum, H⟩, 0, pcs, ?_, HPUT.out, HX.out.2.2, hfo.2.1, hfo.2.2.1, hfo.2.2.2.1, fun y hy => Or.inl ⟨y, hy, rfl⟩⟩
      show _ = Ending.returned (Value.tuple #[Value.agg (kidE.enc ⟨ByteArray.empty, cnum, H⟩).toArray, _])
      rw [HKV.out]; rfl
      -- END 5
    | none =>
      -- BEGIN 2
      have hres : dataRes pcs d = -1 := by
        unfold dataRes
        rw [if_neg (by have := List.getElem?_eq_none_iff.1 hix; rw [List.length_map] at this; omega)]
      rw [hres]
      have HPN := Lib.hid (show putS sz (pcs.map (·.2)) n = (if ¬ freeNum (ccNums (pcs.map (·.2))) < sz then (noKid, 8, pcs.map (·.2))
          else if (kidNums n).any (fun t => decide (16777216 - (countL (kidNums n) t : Int) < refsOf (pcs.map (·.2)) t)) then (noKid, 1, pcs.map (·.2))
          else (⟨ByteArray.empty, freeNum (ccNums (pcs.map (·.2))), H⟩, 0, holds (kidNums n) (insCC (newCC (freeNum (ccNums (pcs.map (·.2)))) n) (pcs.map (·.2))))) by
        rw [putS_kid (by rw [HNE.out, HZ.out.1]) (by rw [HLE.out, HZ.out.2]), ← HDD.out, show (pcs.map (·.2)).map (·.data) = datas pcs by unfold datas; rw [List.map_map]; rfl, hix]
        simp only [HK.out.2.2.2.2.2.1])
      clear hix hres
      rw [← nums_cc] at HPN
      obtain ⟨KS, hKS⟩ : ∃ KS, KS = [(w5.heap.size, ka, 58), (w3.heap.size, #[.int .i64 e1, .int .i64 le], 28), (w1.heap.size, #[.string d], 9), (w.heap.size + 1, kidA noKid, 58), (w.heap.size, #[.int .u8 kd, .slice A1 n1 c1, .slice A2 n2 c2, .slice A3 n3 c3], 44)] := ⟨_, rfl⟩
      rw [← hKS] at HP7
      have HKS := Lib.hid hKS
      clear hKS HKW
      go_wp2_with (fail)
      go_at_call 88
      refine (free_any B w7 p sz pcs HP7.out.st (by omega)).mono ?_
      rintro e w8 ⟨rfl, q8, hq8⟩
      have hb8 : Below w7.heap.size w7 w8 := by rw [hq8]; exact Below.drewN' (Below.refl _ _) q8
      have HP8 := Lib.hid (HP7.out.pure hBw hb8)
      have s8 : w8.cell? ⟨p, 1, none⟩ = some (.slice SA pcs.length sc) := (hb8.cell (p := ⟨p, 1, none⟩) hp7).trans s7
      clear hq8 hb8 s7 hp7 h8
      have hf2 := put_num HS.out.2.1
      rw [← nums_cc] at hf2
      generalize freeNum (nums pcs) = fnum at *
      have HFN := Lib.hid hf2
      clear hf2
      by_cases hfree : fnum < sz
      · rw [decide_eq_true hfree]
        have HFR := Lib.hid hfree
        clear hfree
        -- BEGIN 3
        have kn := (HP8.out.keep (w.heap.size, #[.int .u8 kd, .slice A1 n1 c1, .slice A2 n2 c2, .slice A3 n3 c3], 44) (by rw [HKS.out]; simp)).1
        have y0 : w8.cell? ⟨w.heap.size, 0, none⟩ = some (.int .u8 kd) := by rw [cell_of_row _ _ _ _ _ _ kn]; rfl
        have y1 : w8.cell? ⟨w.heap.size, 1, none⟩ = some (.slice A1 n1 c1) := by rw [cell_of_row _ _ _ _ _ _ kn]; rfl
        have y2 : w8.cell? ⟨w.heap.size, 2, none⟩ = some (.slice A2 n2 c2) := by rw [cell_of_row _ _ _ _ _ _ kn]; rfl
        have y3 : w8.cell? ⟨w.heap.size, 3, none⟩ = some (.slice A3 n3 c3) := by rw [cell_of_row _ _ _ _ _ _ kn]; rfl
        clear kn
        go_wp2_with (fail)
        go_at_call 68
        refine (nodeKids_any w8 _ n (HP8.out.node HS.out.2.2.2) hl).mono ?_
        rintro e wk ⟨r, rfl, ⟨hsl, hown⟩, hbk⟩
        have HPk := Lib.hid (HP8.out.pure hBw hbk)
        have HW32 := Lib.hid hsl.wf
        obtain ⟨ra, rc, rfl, hrc1, hrc2, _⟩ := hsl
        have HOW := Lib.hid hown
        have hnk : ∀ t ∈ kidNums n, ∃ c, ccFind (pcs.map (·.2)) t = some c := by
          intro t ht
          obtain ⟨kd', hkd', rfl⟩ := kidNums_named n t ht
          obtain ⟨c, hc, hcn, _⟩ := (leads_zero HS.out.2.1.ris n).1 (by rw [HLE.out, HZ.out.2]) kd' hkd'
          exact ⟨c, (find_uniq HS.out.2.1.ris).2 ⟨hc, hcn⟩⟩
        have HNK := Lib.hid hnk
        have hbo := err_bounds (show nodeErr n = 0 by rw [HNE.out, HZ.out.1])
        have hnl : (kidNums n).length ≤ 255 := kidNums_len n ⟨hbo.k0, Nat.le_trans hbo.v0 (by omega)⟩
        clear hbo
        clear hnk hown hbk y0 y1 y2 y3 s8
        obtain ⟨ts, hts⟩ : ∃ ts, kidNums n = ts := ⟨_, rfl⟩
        have HTS := Lib.hid hts
        rw [hts] at HPN HNK HOW HW32 hnl hrc1 ⊢
        clear hts
        go_wp2_with (fail)
        go_loopw [13, 14, 70, 71, 72, 73, 74, 75, 76, 77, 78, 79, 80, 81, 82, 83, 84, 85, 86, 87, 88, 89] (fun _ _ i _ _ _ _ _ _ _ _ _ _ _ _ _ _ _ _ _ _ _ wr => ∃ j : Nat, j ≤ ts.length ∧ i = .int .i64 j ∧ Pc B w wr p sz pcs KS ∧ (∀ t ∈ ts.take j, ¬ (16777216 - (countL ts t : Int) < refsOf (pcs.map (·.2)) t)) ∧ Fr wk wr) (fun _ _ i _ _ _ _ _ _ _ _ _ _ _ _ _ _ _ _ _ _ _ _ => ts.length - (intOf i).toNat)
        case atStart => exact ⟨0, Nat.zero_le _, rfl, HPk.out, by simp, Fr.refl _⟩
        case round =>
          obtain ⟨j, hj, rfl, hP, hok, hF⟩ := hrel
          by_cases hjt : j < ts.length
          · -- BEGIN 4
            have hrow := (u32_sl (hF.own HOW.out (by unfold BadT; decide)) rfl HW32.out).len_eq.2.2.2
            obtain ⟨b2, o2, rfl, hat2, hw2⟩ := hrow j hjt
            have e0 : wr.cell? ⟨b2, o2 + j, none⟩ = some (.int .u32 ts[j]) := by have := hat2.cell 0 _ rfl; simpa [u32E] using this
            have hbr2 : b2 < wr.heap.size := block_lt_of_cell e0
            obtain ⟨c0, hc0⟩ := HNK.out ts[j] (List.getElem_mem hjt)
            obtain ⟨y, hco⟩ : ∃ y, cellOf pcs ts[j] = some y := by
              cases hq : cellOf pcs ts[j] with
              | none => rw [cellOf_none HS.out.2.2.1 hq] at hc0; cases hc0
              | some y => exact ⟨y, rfl⟩
            obtain ⟨hym, hyn⟩ := cellOf_mem hco
            have hrf : refsOf (pcs.map (·.2)) ts[j] = y.2.refs := by unfold refsOf; rw [cellOf_some HS.out.2.2.1 hco]; rfl
            have htj : ts.take (j + 1) = ts.take j ++ [ts[j]] := List.take_succ_eq_append_getElem hjt
            have htm : ts[j] ∈ ts := List.getElem_mem hjt
            have HG := Lib.hid (And.intro hP (And.intro hok (And.intro hF (And.intro hco (And.intro hym (And.intro hrf (And.intro htj htm)))))))
            have hpl4 := hP.st.plt
            clear hP hok hF hat2 hrow hw2 hc0 hco hym hyn hrf htj htm
            generalize ts[j] = t at *
            go_wp2_with (fail)
            go_at_call 42
            refine (at_any B wr p sz pcs t HG.out.1.st HS.out.2.2.1 (by omega)).mono ?_
            rintro e _ ⟨rfl, a, rfl⟩
            rw [HG.out.2.2.2.1]
            have hask := HG.out.1.st.asked a
            have hfa := Fr.asked HG.out.1.st a
            have HPa := Lib.hid (HG.out.1.op hask.1 hask.2.2 hfa)
            have HFa := Lib.hid (HG.out.2.2.1.trans hfa)
            clear hask hfa
            obtain ⟨wa, hwa⟩ : ∃ wa, wa = wr.setCell ⟨p, 2, none⟩ (.int .i64 a) := ⟨_, rfl⟩
            rw [← hwa] at HPa HFa ⊢
            clear hwa
            have kn := (HPa.out.keep (w.heap.size, #[.int .u8 kd, .slice A1 n1 c1, .slice A2 n2 c2, .slice A3 n3 c3], 44) (by rw [HKS.out]; simp)).1
            have y0 : wa.cell? ⟨w.heap.size, 0, none⟩ = some (.int .u8 kd) := by rw [cell_of_row _ _ _ _ _ _ kn]; rfl
            have y1 : wa.cell? ⟨w.heap.size, 1, none⟩ = some (.slice A1 n1 c1) := by rw [cell_of_row _ _ _ _ _ _ kn]; rfl
            have y2 : wa.cell? ⟨w.heap.size, 2, none⟩ = some (.slice A2 n2 c2) := by rw [cell_of_row _ _ _ _ _ _ kn]; rfl
            have y3 : wa.cell? ⟨w.heap.size, 3, none⟩ = some (.slice A3 n3 c3) := by rw [cell_of_row _ _ _ _ _ _ kn]; rfl
            have y4 : wa.cell? ⟨y.1, 2, none⟩ = some (.int .i64 y.2.refs) := HPa.out.st.refs_cell HG.out.2.2.2.2.1
            have l1 := lt_of_block kn
            have l2 := HPa.out.st.blt HG.out.2.2.2.2.1
            have HND := Lib.hid (show NodeV wa.drew (.agg #[.int .u8 kd, .slice A1 n1 c1, .slice A2 n2 c2, .slice A3 n3 c3]) n from (HPa.out.pure hBw (Below.refl _ wa).drew).node HS.out.2.2.2)
            have hcl : countL ts t ≤ 255 := Nat.le_trans (countL_le ts t) hnl
            have HTS2 := Lib.hid HTS.out
            clear kn
            have hrfs := (HPa.out.st.wf _ HG.out.2.2.2.2.1).cel.2.2
            by_cases hgt : 16777216 - (countL ts t : Int) < y.2.refs
            · have HRE := Lib.hid (show putS sz (pcs.map (·.2)) n = (noKid, 1, pcs.map (·.2)) by
                rw [HPN.out, if_neg (by have := HFR.out; omega), if_pos (List.any_eq_true.2 ⟨t, HG.out.2.2.2.2.2.2.2, by rw [HG.out.2.2.2.2.2.1]; simpa using hgt⟩)])
              have hgb : decide (y.2.refs > 16777216 - (countL ts t : Int)) = true := decide_eq_true hgt
              obtain ⟨cn, hcn⟩ : ∃ cn, countL ts t = cn := ⟨_, rfl⟩
              rw [hcn] at hgb hcl
              have hwr : IntKind.i64.wrap (16777216 - (cn : Int)) = 16777216 - (cn : Int) := by rw [IntKind.wrap_i64]; omega
              have HCN := Lib.hid hcn
              clear hgt hcn
              generalize y.2.refs = rf at *
              go_wp2_with (fail)
              go_region_held3 (fun x => x.cell? ⟨w.heap.size, 0, none⟩ = some (.int .u8 kd) ∧ x.cell? ⟨w.heap.size, 1, none⟩ = some (.slice A1 n1 c1) ∧ x.cell? ⟨w.heap.size, 2, none⟩ = some (.slice A2 n2 c2) ∧ x.cell? ⟨w.heap.size, 3, none⟩ = some (.slice A3 n3 c3) ∧ x.cell? ⟨y.1, 2, none⟩ = some (.int .i64 rf)) (go_keep) (first
                | (go_at_call 68; refine (nodeKids_any wa.drew _ n HND.out hl).mono ?_; rintro e wk2 ⟨r2, rfl, ⟨hsl2, _⟩, hbk2⟩; have hk1 : ∀ i, wk2.cell? ⟨w.heap.size, i, none⟩ = wa.cell? ⟨w.heap.size, i, none⟩ := (fun i => hbk2.cell (p := ⟨w.heap.size, i, none⟩) l1); have hk2 : ∀ i, wk2.cell? ⟨y.1, i, none⟩ = wa.cell? ⟨y.1, i, none⟩ := (fun i => hbk2.cell (p := ⟨y.1, i, none⟩) l2); have HB2 := Lib.hid hbk2; have HSL2 := Lib.hid hsl2; clear hsl2 hbk2)
                | (go_at_call 89; refine (count_any _ _ (kidNums n) t HSL2.out).mono ?_; rintro e _ ⟨rfl, rfl⟩; rw [show countL (kidNums n) t = cn by rw [HTS2.out]; exact HCN.out]))
              have HPE := Lib.hid (HPa.out.pure hBw ((Below.refl _ wa).drew.trans HB2.out))
              clear hk1 hk2 y0 y1 y2 y3 y4
              have hkbE := (HPE.out.keep (w.heap.size + 1, kidA noKid, 58) (by rw [HKS.out]; simp)).1
              have HKE := Lib.hid hkbE
              have HFE := Lib.hid (HPE.out.out hBw (kb := w.heap.size + 1) (by omega) hkbE (kidA_size noKid_wf) (kidE.enc noKid) (kidE.len _ noKid_wf) HS.out.2.1 (kid_noText _ rfl))
              clear hkbE
              generalize hkz : kidA noKid = kz at *
              have HKZ := Lib.hid hkz
              clear hkz
              go_wp2_with (first
                | ((with_reducible refine probe_build 58 ?_); refine wpList_build_cells rfl 58 _ rfl [] rfl kz (by rw [← HKZ.out]; exact built_kid0') ?_)
                | ((with_reducible refine probe_storeT 58 ?_); refine wpList_store_at rfl 58 (.tmp 4) _ rfl (w.heap.size + 1) 0 rfl (kidE.enc noKid) (by rw [show (kidE.enc noKid).toArray = kz from HKZ.out]; rfl) 58 kz HKE.out (by rw [← HKZ.out, kidA_size noKid_wf, kidE.len _ noKid_wf]; decide) (kidE.one _ noKid_wf) (kid_len _ noKid_wf) ?_))
              refine bodyPost_ret (results_kid rfl _ (w.heap.size + 1) _ (0, 0) _ rfl HFE.out.1 (kidA_size noKid_wf)) rfl ⟨noKid, 1, pcs, rfl, HRE.out, noKid_wf, HFE.out.2.1, HFE.out.2.2.1, HFE.out.2.2.2.1, fun y hy => Or.inl ⟨y, hy, rfl⟩⟩
            · have hgb : decide (y.2.refs > 16777216 - (countL ts t : Int)) = false := decide_eq_false hgt
              have HOKN := Lib.hid (show ∀ t' ∈ ts.take (j + 1), ¬ (16777216 - (countL ts t' : Int) < refsOf (pcs.map (·.2)) t') from by
                intro t' ht'
                rw [HG.out.2.2.2.2.2.2.1] at ht'
                rcases List.mem_append.1 ht' with ht' | ht'
                · have h9 := HG.out.2.1 t' ht'
                  omega
                · simp at ht'; subst ht'; rw [HG.out.2.2.2.2.2.1]; omega)
              obtain ⟨cn, hcn⟩ : ∃ cn, countL ts t = cn := ⟨_, rfl⟩
              rw [hcn] at hgb hcl
              have hwr : IntKind.i64.wrap (16777216 - (cn : Int)) = 16777216 - (cn : Int) := by rw [IntKind.wrap_i64]; omega
              have HCN := Lib.hid hcn
              clear hgt hcn
              generalize y.2.refs = rf at *
              go_wp2_with (fail)
              go_region_held3 (fun x => x.cell? ⟨w.heap.size, 0, none⟩ = some (.int .u8 kd) ∧ x.cell? ⟨w.heap.size, 1, none⟩ = some (.slice A1 n1 c1) ∧ x.cell? ⟨w.heap.size, 2, none⟩ = some (.slice A2 n2 c2) ∧ x.cell? ⟨w.heap.size, 3, none⟩ = some (.slice A3 n3 c3) ∧ x.cell? ⟨y.1, 2, none⟩ = some (.int .i64 rf)) (go_keep) (first
                | (go_at_call 68; refine (nodeKids_any wa.drew _ n HND.out hl).mono ?_; rintro e wk2 ⟨r2, rfl, ⟨hsl2, _⟩, hbk2⟩; have hk1 : ∀ i, wk2.cell? ⟨w.heap.size, i, none⟩ = wa.cell? ⟨w.heap.size, i, none⟩ := (fun i => hbk2.cell (p := ⟨w.heap.size, i, none⟩) l1); have hk2 : ∀ i, wk2.cell? ⟨y.1, i, none⟩ = wa.cell? ⟨y.1, i, none⟩ := (fun i => hbk2.cell (p := ⟨y.1, i, none⟩) l2); have HB2 := Lib.hid hbk2; have HSL2 := Lib.hid hsl2; clear hsl2 hbk2)
                | (go_at_call 89; refine (count_any _ _ (kidNums n) t HSL2.out).mono ?_; rintro e _ ⟨rfl, rfl⟩; rw [show countL (kidNums n) t = cn by rw [HTS2.out]; exact HCN.out]))
              have HPE := Lib.hid (HPa.out.pure hBw ((Below.refl _ wa).drew.trans HB2.out))
              have HFE := Lib.hid (HFa.out.trans (Fr.of_below ((Below.refl _ wa).drew.trans HB2.out)))
              clear hk1 hk2 y0 y1 y2 y3 y4
              go_wp2_with (fail)
              exact ⟨⟨j + 1, by omega, by go_num, HPE.out, (fun t' ht' => by have h9 := HOKN.out t' ht'; omega), HFE.out⟩, by simp [intOf]; omega⟩
            -- END 4
          · obtain rfl : j = ts.length := by omega
            rw [List.take_length] at hok
            have hany : ts.any (fun t => decide (16777216 - (countL ts t : Int) < refsOf (pcs.map (·.2)) t)) = false := by
              rw [List.any_eq_false]
              intro t ht
              have := hok t ht
              simpa using this
            have HPUT := Lib.hid (show putS sz (pcs.map (·.2)) n = (⟨ByteArray.empty, fnum, H⟩, 0, holds ts (insCC (newCC fnum n) (pcs.map (·.2)))) by
              rw [HPN.out, if_neg (by have := HFR.out; omega), hany]; simp)
            have HPx := Lib.hid hP
            have hplx := hP.st.plt
            obtain ⟨wx, hwx⟩ : ∃ wx, wx = wr := ⟨wr, rfl⟩
            rw [← hwx] at HPx hplx ⊢
            clear hP hok hF hany hwx hrc1 hrc2
            go_wp2_with (fail)
            go_at_call 69
            refine (find_any B wx p sz pcs fnum HPx.out.st HS.out.2.2.1 (by omega)).mono ?_
            rintro e _ ⟨rfl, a, rfl⟩
            have hask := HPx.out.st.asked a
            have hfa := Fr.asked HPx.out.st a
            have HP9 := Lib.hid (HPx.out.op hask.1 hask.2.2 hfa)
            clear hask hfa
            obtain ⟨w9, hw9⟩ : ∃ w9, w9 = wx.setCell ⟨p, 2, none⟩ (.int .i64 a) := ⟨_, rfl⟩
            rw [← hw9] at HP9 ⊢
            clear hw9
            obtain ⟨ix, hix⟩ : ∃ ix, numPos (nums pcs) fnum = ix := ⟨_, rfl⟩
            have hixl : ix ≤ pcs.length := by
              rw [← hix]; unfold numPos posOf
              have := (List.takeWhile_sublist (fun n : Int => decide (n < fnum)) (l := nums pcs)).length_le
              simpa [nums] using this
            have HIX := Lib.hid hix
            rw [hix]
            clear hix
            have kn := (HP9.out.keep (w.heap.size, #[.int .u8 kd, .slice A1 n1 c1, .slice A2 n2 c2, .slice A3 n3 c3], 44) (by rw [HKS.out]; simp)).1
            have y0 : w9.cell? ⟨w.heap.size, 0, none⟩ = some (.int .u8 kd) := by rw [cell_of_row _ _ _ _ _ _ kn]; rfl
            have y1 : w9.cell? ⟨w.heap.size, 1, none⟩ = some (.slice A1 n1 c1) := by rw [cell_of_row _ _ _ _ _ _ kn]; rfl
            have y2 : w9.cell? ⟨w.heap.size, 2, none⟩ = some (.slice A2 n2 c2) := by rw [cell_of_row _ _ _ _ _ _ kn]; rfl
            have y3 : w9.cell? ⟨w.heap.size, 3, none⟩ = some (.slice A3 n3 c3) := by rw [cell_of_row _ _ _ _ _ _ kn]; rfl
            have kd9 := (HP9.out.keep (w1.heap.size, #[.string d], 9) (by rw [HKS.out]; simp)).1
            have y4 : w9.cell? ⟨w1.heap.size, 0, none⟩ = some (.string d) := by rw [cell_of_row _ _ _ _ _ _ kd9]; rfl
            have kk9 := (HP9.out.keep (w5.heap.size, ka, 58) (by rw [HKS.out]; simp)).1
            obtain ⟨sv9, s9, hso9⟩ := HP9.out.st.field
            have l1 := lt_of_block kn
            have l2 := lt_of_block kd9
            have l3 := lt_of_block kk9
            have l4 := HP9.out.st.plt
            have HK9 := Lib.hid (And.intro kn (And.intro kd9 (And.intro kk9 hso9)))
            clear kn kd9 kk9 hso9
            obtain ⟨v0, a9, hp9, hv9⟩ : ∃ v0 a9, w9.heap[p]? = some (.cells #[.int .u32 sz, v0, .int .i64 a9] 114 (0, 0)) ∧ v0 = sv9 := by
              obtain ⟨v0, a9, hp9, _⟩ := HP9.out.st.row
              refine ⟨v0, a9, hp9, ?_⟩
              rw [cell_of_row _ _ _ _ _ _ hp9] at s9
              simpa using s9
            subst hv9
            have HNS9 := Lib.hid (And.intro (HP9.out.st.noStr s9) (And.intro (Nat.le_trans hBw HP9.out.bl.size) hp9))
            have hj0 : ∀ (b : Nat) (cs' : Array Value) (t' : TypeId), w9.heap[b]? = some (Obj.cells cs' t' (0, 0)) → t' ≠ 91 → ∀ (wd : World) (o1 o2 : Obj), (∀ q, q < w9.heap.size + 2 → some q ≠ v0.ownBlock → wd.heap[q]? = ((w9.alloc o1).alloc o2).heap[q]?) → wd.heap[b]? = w9.heap[b]? := by
              intro b cs' t' hb ht wd o1 o2 hh
              have hl := lt_of_block hb
              rw [hh b (by omega) (fun e => own_ne HK9.out.2.2.2 hb ht e.symm)]
              exact push_old w9 o1 o2 b hl
            obtain ⟨hs, hhs⟩ : ∃ hs, hashV H = hs := ⟨_, rfl⟩
            have y5 : w9.rangeAt w5.heap.size 2 hs := by
              have h9 := HK9.out.2.2.1
              rw [← HK.out.2.2.2.1] at h9
              have h10 := hash_at (at_block h9)
              rw [← hhs]
              intro j v hj
              exact h10.cell j v hj
            have HJ := Lib.hid (show (∀ (wd : World) (o1 o2 : Obj), (∀ q, q < w9.heap.size + 2 → some q ≠ v0.ownBlock → wd.heap[q]? = ((w9.alloc o1).alloc o2).heap[q]?) → ∀ i, wd.cell? ⟨w.heap.size, i, none⟩ = w9.cell? ⟨w.heap.size, i, none⟩) ∧
                (∀ (wd : World) (o1 o2 : Obj), (∀ q, q < w9.heap.size + 2 → some q ≠ v0.ownBlock → wd.heap[q]? = ((w9.alloc o1).alloc o2).heap[q]?) → ∀ i, wd.cell? ⟨w1.heap.size, i, none⟩ = w9.cell? ⟨w1.heap.size, i, none⟩) ∧
                (∀ (wd : World) (o1 o2 : Obj), (∀ q, q < w9.heap.size + 2 → some q ≠ v0.ownBlock → wd.heap[q]? = ((w9.alloc o1).alloc o2).heap[q]?) → wd.rangeAt w5.heap.size 2 hs) from
              ⟨fun wd o1 o2 hh i => World.cell?_of_block (hj0 _ _ _ HK9.out.1 (show 44 ≠ 91 by decide) wd o1 o2 hh), fun wd o1 o2 hh i => World.cell?_of_block (hj0 _ _ _ HK9.out.2.1 (show 9 ≠ 91 by decide) wd o1 o2 hh), fun wd o1 o2 hh j u hj => (World.cell?_of_block (hj0 _ _ _ HK9.out.2.2.1 (show 58 ≠ 91 by decide) wd o1 o2 hh)).trans (y5 j u hj)⟩)
            have ne1 : ¬ w.heap.size = p := fun e => by have h9 := HK9.out.1; rw [e, hp9] at h9; injection h9 with h9; injection h9 with _ h9 _; exact absurd h9 (show ¬ (114 = 44) by decide)
            have ne2 : ¬ w1.heap.size = p := fun e => by have h9 := HK9.out.2.1; rw [e, hp9] at h9; injection h9 with h9; injection h9 with _ h9 _; exact absurd h9 (show ¬ (114 = 9) by decide)
            have ne3 : w5.heap.size ≠ p := fun e => by have h9 := HK9.out.2.2.1; rw [e, hp9] at h9; injection h9 with h9; injection h9 with _ h9 _; exact absurd h9 (show ¬ (114 = 58) by decide)
            have ne4 : ¬ p = w.heap.size := fun e => ne1 e.symm
            have ne5 : ¬ p = w1.heap.size := fun e => ne2 e.symm
            clear hj0 hp9
            have hs32 : hs.length = 32 := by rw [← hhs]; simp [hashV, HK.out.2.2.2.2.2.2.2.1]
            have hsone : ∀ v ∈ hs, v.oneCell' = true := by rw [← hhs]; exact hashV_one _
            have hsinfo : (Tryz.prog.info? 56).map (·.size) = some hs.length := by rw [hs32]; exact size32h
            have hsu := Tryz.underlying56
            have HHS := Lib.hid hhs
            clear hhs
            have hnc : ∃ vi vk vv, (Value.agg #[.int .u8 kd, .slice A1 n1 c1, .slice A2 n2 c2, .slice A3 n3 c3]) = .agg #[.int .u8 kd, vi, vk, vv] ∧ Sl itemE w9 vi n.items ∧ Sl kidE w9 vk n.kids ∧ Sl volE w9 vv n.vols := by
              obtain ⟨vi, vk, vv, e, h1, h2, h3, _⟩ := HP9.out.node HS.out.2.2.2
              rw [HKD.out] at e
              exact ⟨vi, vk, vv, e, h1, h2, h3⟩
            have hslN : Sl itemE w9 (.slice A1 n1 c1) n.items ∧ Sl kidE w9 (.slice A2 n2 c2) n.kids ∧ Sl volE w9 (.slice A3 n3 c3) n.vols := by
              obtain ⟨vi, vk, vv, e, h1, h2, h3⟩ := hnc
              simp only [Value.agg.injEq, Array.mk.injEq, List.cons.injEq, and_true, true_and] at e
              obtain ⟨rfl, rfl, rfl⟩ := e
              exact ⟨h1, h2, h3⟩
            have hbo := err_bounds (show nodeErr n = 0 by rw [HNE.out, HZ.out.1])
            have hccw : ccWf (newCC fnum n) := by
              refine ⟨shaOf_ok _, ⟨?_, ?_, by simp [newCC]⟩, ⟨hbo.i0, hbo.k0, Nat.le_trans hbo.v0 (by omega)⟩, ?_⟩
              · have h8 := HS.out.2.1.hi
                have h7 := HFR.out
                have h6 := HFN.out
                unfold u32Ok newCC
                simp only
                omega
              · unfold strOk newCC
                simp only
                rw [← HDD.out]; omega
              · have := HKD.out
                unfold newCC
                simp only
                omega
            have HCC := Lib.hid (And.intro hslN hccw)
            clear hnc hslN hccw hbo
            go_upto_region 21 with (fail)
            go_cut [] (fun wx => Pc B w wx p sz (pcs.take ix ++ (w9.heap.size, newCC fnum n) :: pcs.drop ix) KS ∧ Slots wx w9.heap.size (.slice A1 n1 c1) (.slice A2 n2 c2) (.slice A3 n3 c3))
            case first =>
              -- BEGIN 6
              rw [ldOp_eq 110 (.tmp 99)]
              go_region_held3 (fun x => x.cell? ⟨w.heap.size, 0, none⟩ = some (.int .u8 kd) ∧ x.cell? ⟨w.heap.size, 1, none⟩ = some (.slice A1 n1 c1) ∧ x.cell? ⟨w.heap.size, 2, none⟩ = some (.slice A2 n2 c2) ∧ x.cell? ⟨w.heap.size, 3, none⟩ = some (.slice A3 n3 c3) ∧ x.cell? ⟨w1.heap.size, 0, none⟩ = some (.string d) ∧ x.rangeAt w5.heap.size 2 hs) ((go_split_ands; (try simp only [World.rangeAt_drew] at *); refine ⟨?_, ?_, ?_, ?_, ?_, ?_⟩ <;> first | assumption | (apply World.rangeAt_alloc; assumption) | (exact rangeAt_set (by assumption) (by assumption)) | (simp [*, World.cell?_alloc_some, World.cell?_setCell_far]; done))) (first
                | (go_at_call 90; refine (insPtr_push B w9 _ v0 pcs.length ix (ptrsV pcs) HK9.out.2.2.2 HNS9.out.1 (ptrs_noStr pcs) (ptrs_one pcs) hixl (by omega) HNS9.out.2.1 p _ HNS9.out.2.2 s9).mono ?_; rintro e wi ⟨g, cap, rfl, hcd, hfd, hpd, ho2, hns2, hbk, hfr2, hbl2, hgt2⟩; have hk1 := HJ.out.1 wi _ _ hbk; have hk2 := HJ.out.2.1 wi _ _ hbk; have hk3 := HJ.out.2.2 wi _ _ hbk; have HD9 := Lib.hid (And.intro hpd (And.intro ho2 (And.intro hns2 (And.intro hbk (And.intro hfr2 (And.intro hbl2 hgt2)))))); clear hpd ho2 hns2 hbk hfr2 hbl2 hgt2))
              all_goals (
                have hfin := St.inserted HP9.out.st ix hixl HD9.out.1 HK9.out.2.2.2 HD9.out.2.1 HD9.out.2.2.1 HD9.out.2.2.2.1 HD9.out.2.2.2.2.1 HD9.out.2.2.2.2.2.1 HNS9.out.2.1 (newCC fnum n) (by
                  rw [← HHS.out, cell_fold fnum d kd _ _ _ H HK.out.2.2.2.2.2.2.2.1]
                  have h9 := ccRow_cells (newCC fnum n) (.slice A1 n1 c1) (.slice A2 n2 c2) (.slice A3 n3 c3) rfl
                  rw [← h9]
                  simp only [newCC]
                  rw [← HDD.out, HK.out.2.2.2.2.2.1, HKD.out]) HCC.out.1.1 HCC.out.1.2.1 HCC.out.1.2.2 HCC.out.2
                have HFIN := Lib.hid (And.intro (HP9.out.op hfin.1 hfin.2.2.1 hfin.2.1) hfin.2.2.2)
                clear hfin hk1 hk2 hk3 hcd hfd
                go_wp2_with (fail)
                go_meet
                exact HFIN.out)
              -- END 6
            case rest =>
              have hins : (pcs.take ix ++ (w9.heap.size, newCC fnum n) :: pcs.drop ix).map (·.2) = insCC (newCC fnum n) (pcs.map (·.2)) := by
                unfold insCC
                rw [List.map_append, List.map_cons, List.map_take, List.map_drop, ← nums_cc, show (newCC fnum n).num = fnum from rfl, HIX.out]
              have HINS := Lib.hid hins
              have hids : ∀ b, b ∈ (pcs.take ix ++ (w9.heap.size, newCC fnum n) :: pcs.drop ix).map (·.1) → (∃ x ∈ pcs, x.1 = b) ∨ b = w9.heap.size := by
                intro b hb
                obtain ⟨y, hy, rfl⟩ := List.mem_map.1 hb
                rcases List.mem_append.1 hy with hy | hy
                · exact Or.inl ⟨y, List.take_subset _ _ hy, rfl⟩
                · rcases List.mem_cons.1 hy with rfl | hy
                  · exact Or.inr rfl
                  · exact Or.inl ⟨y, List.drop_subset _ _ hy, rfl⟩
              have HIDS := Lib.hid hids
              clear hids
              have hqln : (pcs.take ix ++ (w9.heap.size, newCC fnum n) :: pcs.drop ix).length = pcs.length + 1 := by simp; omega
              generalize pcs.take ix ++ (w9.heap.size, newCC fnum n) :: pcs.drop ix = qcs at *
              have HPC := Lib.hid hcut.1
              have HSLT := Lib.hid hcut.2
              have HQL := Lib.hid hqln
              have kn := (HPC.out.keep (w.heap.size, #[.int .u8 kd, .slice A1 n1 c1, .slice A2 n2 c2, .slice A3 n3 c3], 44) (by rw [HKS.out]; simp)).1
              have z0 : wc.cell? ⟨w.heap.size, 0, none⟩ = some (.int .u8 kd) := by rw [cell_of_row _ _ _ _ _ _ kn]; rfl
              have z1 : wc.cell? ⟨w.heap.size, 1, none⟩ = some (.slice A1 n1 c1) := by rw [cell_of_row _ _ _ _ _ _ kn]; rfl
              have z2 : wc.cell? ⟨w.heap.size, 2, none⟩ = some (.slice A2 n2 c2) := by rw [cell_of_row _ _ _ _ _ _ kn]; rfl
              have z3 : wc.cell? ⟨w.heap.size, 3, none⟩ = some (.slice A3 n3 c3) := by rw [cell_of_row _ _ _ _ _ _ kn]; rfl
              clear hcut hins hqln kn y0 y1 y2 y3 y4 y5 s9 l1 l2 l3 l4 ne1 ne2 ne3 ne4 ne5 hs32 hsone hsinfo hsu
              go_wp2_with (fail)
              go_at_call 68
              refine (nodeKids_any wc _ n (HPC.out.node HS.out.2.2.2) hl).mono ?_
              rintro e wk2 ⟨r, rfl, ⟨hsl, hown⟩, hbk⟩
              rw [HTS.out] at hsl hown
              have HPk2 := Lib.hid (HPC.out.pure hBw hbk)
              have HSL2 := Lib.hid (Kp.of_below hbk _ _ _ _ HSLT.out)
              have HV32 := Lib.hid hsl.wf
              obtain ⟨ra2, rc2, rfl, hrc1, hrc2, _⟩ := hsl
              have HOW2 := Lib.hid hown
              have hfree := put_num HS.out.2.1
              rw [← nums_cc] at hfree
              have hri : (ccNums (insCC (newCC fnum n) (pcs.map (·.2)))).Pairwise (· < ·) := ins_rising HS.out.2.1.ris (by rw [← nums_cc]; exact HFN.out.2)
              have HRI := Lib.hid hri
              clear hown hbk z0 z1 z2 z3 hfree hri
              go_wp2_with (fail)
              go_loopw [18, 19, 117, 118, 119, 120, 121, 122, 123, 124, 125, 126, 127, 128, 129, 130, 131, 132, 133, 134, 135, 136, 137, 138, 139, 140, 141, 142] (fun _ _ i _ _ _ _ _ _ _ _ _ _ _ _ _ _ _ _ _ _ _ _ _ _ _ _ _ wr => ∃ (j : Nat) (rcs : List (Nat × CC)), j ≤ ts.length ∧ i = .int .i64 j ∧ Pc B w wr p sz rcs KS ∧ rcs.map (·.2) = holds (ts.take j) (insCC (newCC fnum n) (pcs.map (·.2))) ∧ rcs.map (·.1) = qcs.map (·.1) ∧ Fr wk2 wr) (fun _ _ i _ _ _ _ _ _ _ _ _ _ _ _ _ _ _ _ _ _ _ _ _ _ _ _ _ _ => ts.length - (intOf i).toNat)
              case atStart => exact ⟨0, qcs, Nat.zero_le _, rfl, HPk2.out, by rw [List.take_zero]; exact HINS.out, rfl, Fr.refl _⟩
              case round =>
                obtain ⟨j, rcs, hj, rfl, hP, hrm, hri, hF⟩ := hrel
                have HRI2 := Lib.hid hri
                clear hri
                by_cases hjt : j < ts.length
                · -- BEGIN 7
                  have hrow := (u32_sl (hF.own HOW2.out (by unfold BadT; decide)) rfl HV32.out).len_eq.2.2.2
                  obtain ⟨b2, o2, rfl, hat2, hw2⟩ := hrow j hjt
                  have e0 : wr.cell? ⟨b2, o2 + j, none⟩ = some (.int .u32 ts[j]) := by have := hat2.cell 0 _ rfl; simpa [u32E] using this
                  have hbr2 : b2 < wr.heap.size := block_lt_of_cell e0
                  have hnm : ccNums (rcs.map (·.2)) = ccNums (insCC (newCC fnum n) (pcs.map (·.2))) := by rw [hrm, holds_map, nums_map]; intro; rfl
                  have hris : Rising (nums rcs) := by rw [nums_cc, hnm]; exact rising_of_pair HRI.out
                  have hrl : rcs.length ≤ 1073741824 := by
                    have h9 := congrArg List.length hrm
                    rw [holds_map, List.length_map, List.length_map, (ins_perm _ _).length_eq, List.length_cons, List.length_map] at h9
                    omega
                  obtain ⟨c0, hc0⟩ := HNK.out ts[j] (List.getElem_mem hjt)
                  obtain ⟨y, hco⟩ : ∃ y, cellOf rcs ts[j] = some y := by
                    cases hq : cellOf rcs ts[j] with
                    | none =>
                      have h9 := cellOf_none hris hq
                      unfold ccFind at h9
                      rw [List.find?_eq_none] at h9
                      obtain ⟨h8, h7⟩ := (find_uniq HS.out.2.1.ris).1 hc0
                      have h6 : ts[j] ∈ ccNums (rcs.map (·.2)) := by
                        rw [hnm, ← h7]
                        exact List.mem_map.2 ⟨c0, ins_mem.2 (Or.inr h8), rfl⟩
                      obtain ⟨c, hc, h5⟩ := List.mem_map.1 h6
                      exact absurd h5 (by simpa using h9 c hc)
                    | some y => exact ⟨y, rfl⟩
                  obtain ⟨hym, hyn⟩ := cellOf_mem hco
                  have hbd : (0 ≤ y.2.led ∧ y.2.led ≤ 100000000) ∧ 0 ≤ y.2.refs ∧ y.2.refs ≤ 100000000 := by
                    have h9 : y.2 ∈ rcs.map (·.2) := List.mem_map.2 ⟨y, hym, rfl⟩
                    rw [hrm, holds_map] at h9
                    obtain ⟨c, hc, e⟩ := List.mem_map.1 h9
                    have h8 := countL_le (ts.take j) c.num
                    rw [List.length_take] at h8
                    have e1 : y.2.led = c.led + countL (ts.take j) c.num := by rw [← e]
                    have e2 : y.2.refs = c.refs + countL (ts.take j) c.num := by rw [← e]
                    rcases ins_mem.1 hc with rfl | hc
                    · simp only [newCC] at e1 e2 h8
                      omega
                    · obtain ⟨g1, g2, g3⟩ := HS.out.2.1.cnt c hc
                      omega
                  have hst := hold_step hP.st.nodup hris hym hyn
                  have htj : holds (ts.take (j + 1)) (insCC (newCC fnum n) (pcs.map (·.2))) = (rcs.map (·.2)).map (refUp ts[j]) := by
                    rw [hrm, List.take_succ_eq_append_getElem hjt]
                    unfold holds
                    rw [List.foldl_append]; rfl
                  have HG := Lib.hid (And.intro hP (And.intro hF (And.intro hco (And.intro hym (And.intro hris (And.intro hst htj))))))
                  have hpl4 := hP.st.plt
                  clear hP hrm hF hat2 hrow hw2 hnm hris hc0 hco hym hyn hst htj
                  generalize ts[j] = t at *
                  go_wp2_with (fail)
                  go_at_call 42
                  refine (at_any B wr p sz rcs t HG.out.1.st HG.out.2.2.2.2.1 hrl).mono ?_
                  rintro e _ ⟨rfl, a, rfl⟩
                  rw [HG.out.2.2.1]
                  have hask := HG.out.1.st.asked a
                  have hfa := Fr.asked HG.out.1.st a
                  have HPa := Lib.hid (HG.out.1.op hask.1 hask.2.2 hfa)
                  have HFa := Lib.hid (HG.out.2.1.trans hfa)
                  clear hask hfa
                  obtain ⟨wa, hwa⟩ : ∃ wa, wa = wr.setCell ⟨p, 2, none⟩ (.int .i64 a) := ⟨_, rfl⟩
                  rw [← hwa] at HPa HFa ⊢
                  clear hwa
                  have r1 := HPa.out.st.refs_cell HG.out.2.2.2.1
                  have r2 := HPa.out.st.led_cell HG.out.2.2.2.1
                  have f1 := HPa.out.st.froz HG.out.2.2.2.1 2
                  have f2 := HPa.out.st.froz HG.out.2.2.2.1 39
                  have l1 := HPa.out.st.blt HG.out.2.2.2.1
                  have hs1' := HPa.out.st.setRefs HG.out.2.2.2.1 (y.2.refs + 1) (by omega)
                  have hs2' := hs1'.1.setLed (x := (y.1, { y.2 with refs := y.2.refs + 1 })) (List.mem_map.2 ⟨y, HG.out.2.2.2.1, by simp⟩) (y.2.led + 1)
                  have HFIN := Lib.hid (And.intro hs2'.1 (And.intro (hs1'.2.2.trans hs2'.2.2) (hs1'.2.1.trans hs2'.2.1)))
                  clear hs1' hs2'
                  obtain ⟨⟨hl0, hl1'⟩, hr0, hr1⟩ := hbd
                  simp only at HFIN
                  generalize y.2.led = yl at *
                  generalize y.2.refs = yr at *
                  go_wp2_with (fail)
                  go_region
                  go_wp2_with (fail)
                  exact ⟨⟨j + 1, _, by omega, by go_num, (HPa.out.op HFIN.out.1 HFIN.out.2.1 HFIN.out.2.2).pure hBw (Below.refl _ _).drew, HG.out.2.2.2.2.2.1.trans HG.out.2.2.2.2.2.2.symm, (ids_set _ _ _).trans ((ids_set _ _ _).trans HRI2.out), (HFa.out.trans HFIN.out.2.2).trans (Fr.of_below (Below.refl _ _).drew)⟩, by simp [intOf]; omega⟩
                  -- END 7
                · -- BEGIN 8
                  obtain rfl : j = ts.length := by omega
                  rw [List.take_length] at hrm
                  have hgood : Good sz (rcs.map (·.2)) := by
                    have hpg := put_good HS.out.2.1 (by rw [HNE.out, HZ.out.1]) HS.out.2.2.2.wfs (by rw [HLE.out, HZ.out.2])
                    rw [HPUT.out] at hpg
                    rcases hpg with (h9 | h9) | ⟨_, h9⟩
                    · simp at h9
                    · simp at h9
                    · rw [hrm]; exact h9.good
                  have hput : putS sz (pcs.map (·.2)) n = (⟨ByteArray.empty, fnum, H⟩, 0, rcs.map (·.2)) := by rw [HPUT.out, hrm]
                  have hHW := (hP.keep (w5.heap.size, ka, 58) (by rw [HKS.out]; simp)).1
                  have hHW2 := (hP.keep (w.heap.size + 1, kidA noKid, 58) (by rw [HKS.out]; simp)).1
                  have hfn : u32Ok fnum := by
                    have h8 := HS.out.2.1.hi
                    have h7 := HFR.out
                    have h6 := HFN.out
                    unfold u32Ok
                    omega
                  have hP7 : Pc B w wr p sz rcs [] := ⟨hP.st, hP.bl, hP.fr, fun x hx => by simp at hx⟩
                  have hsl8 := Fr.kp hF _ _ _ _ HSL2.out
                  clear hP hF hrm
                  have k1c : wr.cell? ⟨w5.heap.size, 1, none⟩ = some (.int .u32 0) := by rw [cell_of_row _ _ _ _ _ _ hHW, ← HK.out.2.2.2.1]; exact kidA_num _
                  have k1f : wr.frozen? ⟨w5.heap.size, 1, none⟩ = false := frozen_of_row _ _ _ _ _ hHW
                  have hset := blk_set hHW 1 (.int .u32 fnum)
                  have hgs := grown_set (World.grownBy.refl wr (some w5.heap.size)) 1 (.int .u32 fnum)
                  have hst8 := hP7.st.noText hgood hHW nb_kid (by rw [← HK.out.2.2.2.1]; exact kid_noText _ rfl) hgs
                  have hkb8 := (hgs.block (w.heap.size + 1) (lt_of_block hHW2) (by have := HNB.out; simpa using fun e => this e.symm)).trans hHW2
                  have hka2 : ka.setIfInBounds 1 (.int .u32 fnum) = kidA ⟨ByteArray.empty, fnum, H⟩ := by rw [← HK.out.2.2.2.1]; exact kidA_set _ _ _
                  rw [hka2] at hset
                  have hw5l : w.heap.size ≤ w5.heap.size := HP5.out.bl.size
                  have HP8 : Pc B w (wr.setCell ⟨w5.heap.size, 1, none⟩ (.int .u32 fnum)) p sz rcs [] := ⟨hst8, hP7.bl.setCell (p := ⟨w5.heap.size, 1, none⟩) (Nat.le_trans hBw hw5l) _, hP7.fr.new hgs hw5l, fun x hx => by simp at hx⟩
                  have hkwf : kidE.wf ⟨ByteArray.empty, fnum, H⟩ := ⟨by unfold strOk; simp, hfn, HK.out.2.2.2.2.2.2.2⟩
                  have HF := Lib.hid (HP8.out hBw (kb := w.heap.size + 1) (by omega) hkb8 (kidA_size noKid_wf) (kidE.enc ⟨ByteArray.empty, fnum, H⟩) (kidE.len _ hkwf) hgood (kid_noText _ rfl))
                  have hsl9 := Kp.of_grown hgs hHW (show 58 ≠ 96 by decide) _ _ _ _ hsl8
                  have HSL9 := Lib.hid (HF.out.2.2.2.2 _ _ _ _ hsl9)
                  clear hsl8 hsl9
                  have HX := Lib.hid (And.intro hset (And.intro hkb8 (And.intro hkwf hput)))
                  clear hset hgs hst8 hkb8 hka2 HP8 hkwf hput hHW hHW2 hP7
                  have hat8 := at_block HX.out.1
                  have hkl := kid_len _ HX.out.2.2.1
                  have hkl2 := kidE.len _ HX.out.2.2.1
                  have hko := kidE.one _ HX.out.2.2.1
                  have HL8 := Lib.hid (And.intro hkl2 (show (kidA noKid).size = 34 from kidA_size noKid_wf))
                  obtain ⟨kv, hkv⟩ : ∃ kv, kidE.enc ⟨ByteArray.empty, fnum, H⟩ = kv := ⟨_, rfl⟩
                  have HKV := Lib.hid hkv
                  rw [hkv] at hat8 hkl hko HL8 HF
                  clear hkl2 hkv
                  obtain ⟨ka2, hka2⟩ : ∃ ka2, kv.toArray = ka2 := ⟨_, rfl⟩
                  have HK2 := Lib.hid hka2
                  clear hka2
                  generalize kidA noKid = kz at *
                  go_wp2_with (first
                    | ((with_reducible refine probe_loadT 58 ?_); refine wpList_load_arr rfl 58 (.tmp 8) rfl w5.heap.size 0 rfl kv _ hat8 Tryz.underlying58 rfl hkl ka2 HK2.out ?_)
                    | ((with_reducible refine probe_storeT 58 ?_); refine wpList_store_at rfl 58 (.tmp 4) _ rfl (w.heap.size + 1) 0 rfl kv (by rw [HK2.out]; rfl) 58 kz HX.out.2.1 (by rw [HL8.out.1, HL8.out.2]; decide) hko hkl ?_))
                  have hfo := HF.out
                  simp only [List.take_zero, List.nil_append, Nat.zero_add] at hfo
                  refine bodyPost_ret (results_kid rfl _ (w.heap.size + 1) _ (0, 0) _ rfl hfo.1 (by rw [List.size_toArray]; exact HL8.out.1)) rfl ⟨⟨ByteArray.empty, fnum, H⟩, 0, rcs, ?_, HX.out.2.2.2, HX.out.2.2.1, hfo.2.1, hfo.2.2.1, hfo.2.2.2.1, ?_⟩
                  · show _ = Ending.returned (Value.tuple #[Value.agg (kidE.enc ⟨ByteArray.empty, fnum, H⟩).toArray, _])
                    rw [HKV.out]; rfl
                  · intro y hy
                    rcases HIDS.out y.1 (by rw [← HRI2.out]; exact List.mem_map.2 ⟨y, hy, rfl⟩) with h9 | h9
                    · exact Or.inl h9
                    · refine Or.inr ⟨by rw [h9]; exact HP9.out.bl.size, _, _, _, _, rfl, ?_⟩
                      rw [h9]
                      have h10 := HSL9.out
                      rw [HKV.out] at h10
                      simp only [List.take_zero, List.nil_append, Nat.zero_add] at h10
                      exact h10
                  -- END 8
        -- END 3
      · rw [decide_eq_false hfree]
        have HRE := Lib.hid (show putS sz (pcs.map (·.2)) n = (noKid, 8, pcs.map (·.2)) by rw [HPN.out, if_pos (by omega)])
        clear hfree
        have hkbE := (HP8.out.keep (w.heap.size + 1, kidA noKid, 58) (by rw [HKS.out]; simp)).1
        have HKE := Lib.hid hkbE
        have HFE := Lib.hid (HP8.out.out hBw (kb := w.heap.size + 1) (by omega) hkbE (kidA_size noKid_wf) (kidE.enc noKid) (kidE.len _ noKid_wf) HS.out.2.1 (kid_noText _ rfl))
        clear hkbE
        generalize hkz : kidA noKid = kz at *
        have HKZ := Lib.hid hkz
        clear hkz
        go_wp2_with (first
          | ((with_reducible refine probe_build 58 ?_); refine wpList_build_cells rfl 58 _ rfl [] rfl kz (by rw [← HKZ.out]; exact built_kid0') ?_)
          | ((with_reducible refine probe_storeT 58 ?_); refine wpList_store_at rfl 58 (.tmp 4) _ rfl (w.heap.size + 1) 0 rfl (kidE.enc noKid) (by rw [show (kidE.enc noKid).toArray = kz from HKZ.out]; rfl) 58 kz HKE.out (by rw [← HKZ.out, kidA_size noKid_wf, kidE.len _ noKid_wf]; decide) (kidE.one _ noKid_wf) (kid_len _ noKid_wf) ?_))
        refine bodyPost_ret (results_kid rfl _ (w.heap.size + 1) _ (0, 0) _ rfl HFE.out.1 (kidA_size noKid_wf)) rfl ⟨noKid, 8, pcs, rfl, HRE.out, noKid_wf, HFE.out.2.1, HFE.out.2.2.1, HFE.out.2.2.2.1, fun y hy => Or.inl ⟨y, hy, rfl⟩⟩
      -- END 2
    -- END 1
  · have h0b : (orL [e1, le] != 0) = true := by simpa using h0
    have hkb := (HP4.out.keep (w.heap.size + 1, kidA noKid, 58) (by simp)).1
    have HK := Lib.hid hkb
    have HF := Lib.hid (HP4.out.out hBw (Nat.le_succ _) hkb (kidA_size noKid_wf) (kidE.enc noKid) (kidE.len _ noKid_wf) HS.out.2.1 (kid_noText _ rfl))
    have HR := Lib.hid (show putS sz (pcs.map (·.2)) n = (noKid, orL [e1, le], pcs.map (·.2)) by
      unfold putS
      rw [HNE.out, HLE.out, if_pos h0])
    clear hkb h0
    generalize orL [e1, le] = er at *
    generalize hkz : kidA noKid = kz at *
    have HKZ := Lib.hid hkz
    clear hkz
    go_wp2_with (first
      | ((with_reducible refine probe_build 58 ?_); refine wpList_build_cells rfl 58 _ rfl [] rfl kz (by rw [← HKZ.out]; exact built_kid0') ?_)
      | ((with_reducible refine probe_storeT 58 ?_); refine wpList_store_at rfl 58 (.tmp 4) _ rfl (w.heap.size + 1) 0 rfl (kidE.enc noKid) (by rw [show (kidE.enc noKid).toArray = kz from HKZ.out]; rfl) 58 kz HK.out (by rw [← HKZ.out, kidA_size noKid_wf, kidE.len _ noKid_wf]; decide) (kidE.one _ noKid_wf) (kid_len _ noKid_wf) ?_))
    refine bodyPost_ret (results_kid rfl _ (w.heap.size + 1) _ (0, 0) _ rfl HF.out.1 (kidA_size noKid_wf)) rfl ⟨noKid, er, pcs, rfl, HR.out, noKid_wf, HF.out.2.1, HF.out.2.2.1, HF.out.2.2.2.1, fun y hy => Or.inl ⟨y, hy, rfl⟩⟩
end Go.Proofs.YthhmcjojnbaiiaaGreatDoor
