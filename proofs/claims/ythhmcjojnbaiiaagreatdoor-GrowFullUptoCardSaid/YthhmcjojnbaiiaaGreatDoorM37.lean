/- Texts of the proof: Ri. -/
import Derived.Test.YthhmcjojnbaiiaaGreatDoorM35
import Derived.Test.YthhmcjojnbaiiaaGreatDoorM36
set_option linter.all false
/- Grow: what raise asks of the function that puts; the frame of its rounds. -/
namespace Go.Proofs.YthhmcjojnbaiiaaGreatDoor
open Go Go.RowKit
/-- What a put, called by raise, comes to. -/
def PutsPost (B : Nat) {σ : Type} (put : σ → Node → Kid × Int × σ) (Inv : World → Nat → σ → Prop) (W : World) (M : Nat) (s : σ) (n : Node) (e : Ending) (W' : World) : Prop :=
  e = .returned (.tuple #[.agg (kidA (put s n).1), .int .i64 (put s n).2.1]) ∧ kidE.wf (put s n).1 ∧ Inv W' M (put s n).2.2 ∧ Below B W W' ∧ Fr W W'
/-- What raise asks of a function that puts nodes: M bounds the blocks in which the rows of what was put may lie. -/
structure Puts (B N : Nat) (pre post : Array Value) {σ : Type} (put : σ → Node → Kid × Int × σ) (Inv : World → Nat → σ → Prop) : Prop where
  enter : ∀ args w, (callFunc N args).run Tryz.prog w = .ok (.enter N args) w
  below : ∀ (W W' : World) (M : Nat) (s : σ), Inv W M s → Below W.heap.size W W' → Inv W' M s
  rise : ∀ (W : World) (M M' : Nat) (s : σ), Inv W M s → M ≤ M' → Inv W M' s
  away : ∀ (W W' : World) (M : Nat) (s : σ) (g : Nat) (cs : Array Value) (fr : Nat × Nat), Inv W M s → M ≤ g → W.heap[g]? = some (.cells cs 58 fr) → W.grownBy W' (some g) → Inv W' M s
  zero : ∀ (W W' : World) (M : Nat) (s : σ) (g : Nat) (fr : Nat × Nat), Inv W M s → W.heap[g]? = some (.cells (kidA noKid) 58 fr) → W.grownBy W' (some g) → Inv W' M s
  call : ∀ (W0 W : World) (M : Nat) (s : σ) (v : Value) (n : Node), Inv W M s → B ≤ W.heap.size → W0.heap.size ≤ M → NodeV W0 v n → NodeV W v n → n.items.length ≤ 255 → n.kids.length ≤ 255 → n.vols.length ≤ 255 →
    Calls Tryz.prog N (pre.push v ++ post) W fun e W' => PutsPost B put Inv W M s n e W'
/-- What holds of a world in a level of raise that began at wl. -/
structure Rc (B : Nat) {σ : Type} (Inv : World → Nat → σ → Prop) (wl W : World) (s : σ) : Prop where
  inv : Inv W wl.heap.size s
  bl : Below B wl W
  fr : Fr wl W
section
variable {B N : Nat} {pre post : Array Value} {σ : Type} {put : σ → Node → Kid × Int × σ} {Inv : World → Nat → σ → Prop} {wl W W' : World} {s s' : σ}
theorem Rc.pure (h : Rc B Inv wl W s) (hp : Puts B N pre post put Inv) (hB : B ≤ wl.heap.size) (hb : Below W.heap.size W W') : Rc B Inv wl W' s :=
  ⟨hp.below _ _ _ _ h.inv hb, h.bl.trans (hb.mono (Nat.le_trans hB h.bl.size)), h.fr.trans (Fr.of_below hb)⟩
theorem Rc.op (h : Rc B Inv wl W s) (hi : Inv W' wl.heap.size s') (hb : Below B W W') (hf : Fr W W') : Rc B Inv wl W' s' := ⟨hi, h.bl.trans hb, h.fr.trans hf⟩
/-- A block of a kid's, made in this level, is written. -/
theorem Rc.set (h : Rc B Inv wl W s) (hp : Puts B N pre post put Inv) (hB : B ≤ wl.heap.size) {g : Nat} {cs : Array Value} {fr : Nat × Nat} (hg : wl.heap.size ≤ g) (hc : W.heap[g]? = some (.cells cs 58 fr)) (hk : W.grownBy W' (some g)) : Rc B Inv wl W' s :=
  ⟨hp.away _ _ _ _ g cs fr h.inv hg hc hk, h.bl.trans ⟨hk.os, hk.tape, hk.output, hk.size, fun k hk' => hk.block k (Nat.lt_of_lt_of_le hk' (Nat.le_trans hB h.bl.size)) (by simp; omega)⟩, h.fr.new hk hg⟩
/-- A row of kids, made in this level, is appended to. -/
theorem Rc.row (h : Rc B Inv wl W s) (hp : Puts B N pre post put Inv) (hB : B ≤ wl.heap.size) {v : Value} {n : Nat} {xs : List Value} (ho : W.ownsRow wl.heap.size 58 34 v n xs) (hk : W.grownBy W' v.ownBlock) : Rc B Inv wl W' s := by
  cases hv : v.ownBlock with
  | none =>
    rw [hv] at hk
    exact h.pure hp hB ⟨hk.os, hk.tape, hk.output, hk.size, fun k hk' => hk.block k hk' (by simp)⟩
  | some g =>
    obtain ⟨h1, h2⟩ := ho
    rcases h2 with ⟨rfl, _⟩ | ⟨g', cap, cur, rfl, hb, hg, _⟩
    · simp [Value.ownBlock] at hv
    · rw [hv] at hk
      simp [Value.ownBlock] at hv
      subst hv
      exact h.set hp hB hb hg hk
end
theorem kidA_key (k : Kid) (s : ByteArray) : (kidA k).setIfInBounds 0 (.string s) = kidA { k with key := s } := by unfold kidA kidE; simp
theorem kidA_key0 (k : Kid) : (kidA k)[0]? = some (.string k.key) := by unfold kidA kidE; simp
theorem putAll_cons {σ : Type} (put : σ → Node → Kid × Int × σ) (acc : List Kid) (s : σ) (n : Node) (r : List Node) :
    putAll put acc s (n :: r) = if (put s n).2.1 ≠ 0 then (acc, (put s n).2.1, (put s n).2.2) else putAll put (acc ++ [{ (put s n).1 with key := keyOf n }]) (put s n).2.2 r := rfl
theorem raise_err {σ : Type} (put : σ → Node → Kid × Int × σ) {f : Nat} {d : Int} {s s2 : σ} {ns : List Node} {ks : List Kid} {er : Int} (h : putAll put [] s ns = (ks, er, s2)) (he : er ≠ 0) (hf : 0 < f) : raiseGo put f d s ns = (noKid, er, s2) := by
  obtain ⟨f', rfl⟩ : ∃ f', f = f' + 1 := ⟨f - 1, by omega⟩
  unfold raiseGo
  rw [h, if_pos he]
theorem raise_one {σ : Type} (put : σ → Node → Kid × Int × σ) {f : Nat} {d : Int} {s s2 : σ} {ns : List Node} {k : Kid} (h : putAll put [] s ns = ([k], 0, s2)) (hf : 0 < f) : raiseGo put f d s ns = (bare k, 0, s2) := by
  obtain ⟨f', rfl⟩ : ∃ f', f = f' + 1 := ⟨f - 1, by omega⟩
  unfold raiseGo
  rw [h, if_neg (by simp)]
theorem raise_more {σ : Type} (put : σ → Node → Kid × Int × σ) {f : Nat} {d : Int} {s s2 : σ} {ns : List Node} {ks : List Kid} (h : putAll put [] s ns = (ks, 0, s2)) (hl : ks.length ≠ 1) (hf : 0 < f) : raiseGo put f d s ns = raiseGo put (f - 1) ((d + 1) % 256) s2 (branchesL d ks) := by
  obtain ⟨f', rfl⟩ : ∃ f', f = f' + 1 := ⟨f - 1, by omega⟩
  conv => lhs; unfold raiseGo
  rw [h, if_neg (by simp)]
  match ks, hl with
  | [], _ => rfl
  | [k], hl => exact absurd rfl hl
  | a :: b :: r, _ => rfl
theorem nodesAt_get {w : World} : ∀ (xs : List Value) (ns : List Node), NodesAt w xs ns → ∀ j (hj : j < ns.length), ∃ k a b c, NodeV w (.agg #[k, a, b, c]) ns[j] ∧ xs[j * 4]? = some k ∧ xs[j * 4 + 1]? = some a ∧ xs[j * 4 + 2]? = some b ∧ xs[j * 4 + 3]? = some c
  | [], [], _, j, hj => by simp at hj
  | k :: a :: b :: c :: xs, n :: ns, h, 0, _ => ⟨k, a, b, c, h.1, rfl, rfl, rfl, rfl⟩
  | k :: a :: b :: c :: xs, n :: ns, h, j + 1, hj => by
    obtain ⟨k', a', b', c', h1, h2, h3, h4, h5⟩ := nodesAt_get xs ns h.2 j (by simpa using hj)
    refine ⟨k', a', b', c', by simpa using h1, ?_, ?_, ?_, ?_⟩
    · rw [show (j + 1) * 4 = j * 4 + 4 by omega]; simpa using h2
    · rw [show (j + 1) * 4 + 1 = j * 4 + 1 + 4 by omega]; simpa using h3
    · rw [show (j + 1) * 4 + 2 = j * 4 + 2 + 4 by omega]; simpa using h4
    · rw [show (j + 1) * 4 + 3 = j * 4 + 3 + 4 by omega]; simpa using h5
  | [], _ :: _, h, _, _ => h.elim
  | [_], _, h, _, _ => h.elim
  | [_, _], _, h, _, _ => h.elim
  | [_, _, _], _, h, _, _ => h.elim
  | _ :: _ :: _ :: _ :: _, [], h, _, _ => h.elim
theorem nodesAt_row {w W : World} {xs : List Value} {ns : List Node} (h : NodesAt w xs ns) {base g m cap : Nat} (ho : W.ownsRow base 44 4 (.slice (some ⟨g, 0, none⟩) m cap) m xs) (j : Nat) (hj : j < ns.length) :
    ∃ A1 n1 c1 A2 n2 c2 A3 n3 c3, NodeV w (.agg #[.int .u8 ns[j].kind, .slice A1 n1 c1, .slice A2 n2 c2, .slice A3 n3 c3]) ns[j] ∧ At W g (j * 4) [.int .u8 ns[j].kind, .slice A1 n1 c1, .slice A2 n2 c2, .slice A3 n3 c3] := by
  obtain ⟨k, a, b, c, hv, h0, h1, h2, h3⟩ := nodesAt_get xs ns h j hj
  obtain ⟨va, vb, vc, he, ha, hb, hc, hk⟩ := hv
  simp only [Value.agg.injEq, Array.mk.injEq, List.cons.injEq, and_true] at he
  obtain ⟨rfl, rfl, rfl, rfl⟩ := he
  obtain ⟨A1, n1, c1, rfl⟩ := sl_slice ha
  obtain ⟨A2, n2, c2, rfl⟩ := sl_slice hb
  obtain ⟨A3, n3, c3, rfl⟩ := sl_slice hc
  refine ⟨A1, n1, c1, A2, n2, c2, A3, n3, c3, ⟨_, _, _, rfl, ha, hb, hc, hk⟩, ?_⟩
  have hcell := ho.cells (g := g) rfl
  intro i hi
  match i, hi with
  | 0, _ => have := hcell _ _ h0; rw [add_at] at this; simpa using this
  | 1, _ => have := hcell _ _ h1; rw [add_at] at this; simpa using this
  | 2, _ => have := hcell _ _ h2; rw [add_at] at this; simpa using this
  | 3, _ => have := hcell _ _ h3; rw [add_at] at this; simpa using this
theorem nodesAt_len {w : World} : ∀ (xs : List Value) (ns : List Node), NodesAt w xs ns → xs.length = ns.length * 4
  | [], [], _ => rfl
  | _ :: _ :: _ :: _ :: xs, _ :: ns, h => by
    have := nodesAt_len xs ns h.2
    simp only [List.length_cons]; omega
  | [], _ :: _, h => h.elim
  | [_], _, h => h.elim
  | [_, _], _, h => h.elim
  | [_, _, _], _, h => h.elim
  | _ :: _ :: _ :: _ :: _, [], h => h.elim
/-- Nodes that raise may come by. -/
def LevelOk (n : Node) : Prop := ((n.kind = 1 ∧ n.items ≠ []) ∨ (n.kind = 2 ∧ n.kids ≠ [])) ∧ n.items.length ≤ 255 ∧ n.kids.length ≤ 255 ∧ n.vols.length ≤ 255 ∧ (keyOf n).size ≤ 48
theorem leaves_level (l : List Item) (hne : l ≠ []) (hsz : ∀ x ∈ l, x.key.size ≤ 48 ∧ x.val.size ≤ 160) : (∀ n ∈ leavesL l, LevelOk n) ∧ leavesL l ≠ [] ∧ (leavesL l).length ≤ l.length := by
  obtain ⟨f1, f2, f3⟩ := level_facts itemSz (fun x m => lastB x.key 0 m) l hne (fun x hx => by have := item_two x (hsz x hx); omega) (fun x => last_one _ _)
  have hpos := List.length_pos_iff.2 hne
  refine ⟨fun n hn => ?_, fun e => ?_, by unfold leavesL; rw [List.length_map]; omega⟩
  · obtain ⟨c, hc, rfl⟩ := List.mem_map.1 hn
    obtain ⟨g1, g2, _⟩ := f2 c hc
    obtain ⟨x, r, rfl⟩ := List.exists_cons_of_ne_nil g1
    have hx : x ∈ l := by
      have := (chunk_sub _ _ hc).subset (List.mem_cons_self (a := x) (l := r))
      rwa [f1] at this
    exact ⟨Or.inl ⟨rfl, g1⟩, g2, by simp, by simp, by unfold keyOf hdKey; simpa using (hsz x hx).1⟩
  · unfold leavesL at e
    rw [List.map_eq_nil_iff.1 e] at f1; exact hne f1.symm
theorem branches_level (d : Int) (l : List Kid) (hne : l ≠ []) (hsz : ∀ x ∈ l, x.key.size ≤ 48) : (∀ n ∈ branchesL d l, LevelOk n) ∧ branchesL d l ≠ [] ∧ 2 * (branchesL d l).length ≤ l.length + 1 := by
  obtain ⟨f1, f2, f3⟩ := level_facts kidSz (fun x m => lastB x.key d m) l hne (fun x hx => by have := hsz x hx; unfold kidSz; omega) (fun x => last_one _ _)
  refine ⟨fun n hn => ?_, (branches_len d l hsz hne).2, (branches_len d l hsz hne).1⟩
  obtain ⟨c, hc, rfl⟩ := List.mem_map.1 hn
  obtain ⟨g1, g2, _⟩ := f2 c hc
  obtain ⟨x, r, rfl⟩ := List.exists_cons_of_ne_nil g1
  have hx : x ∈ l := by
    have := (chunk_sub _ _ hc).subset (List.mem_cons_self (a := x) (l := r))
    rwa [f1] at this
  exact ⟨Or.inr ⟨rfl, g1⟩, by simp, g2, by simp, by unfold keyOf hdKey; simpa using hsz x hx⟩
theorem own_low {w : World} {b b' : Nat} {e : TypeId} {sz : Nat} {v : Value} {n : Nat} {xs : List Value} (h : w.ownsRow b e sz v n xs) (hb : b' ≤ b) : w.ownsRow b' e sz v n xs :=
  ⟨h.1, h.2.imp id fun ⟨g, cap, cur, h1, h2, h3⟩ => ⟨g, cap, cur, h1, Nat.le_trans hb h2, h3⟩⟩
def sliceLen : Value → Nat
  | .slice _ n _ => n
  | _ => 0
def RaisePost (B : Nat) {σ : Type} (Inv : World → Nat → σ → Prop) (w : World) (r : Kid × Int × σ) (e : Ending) (w' : World) : Prop :=
  e = .returned (.tuple #[.agg (kidA r.1), .int .i64 r.2.1]) ∧ kidE.wf r.1 ∧ (∃ M, Inv w' M r.2.2) ∧ Below B w w' ∧ Fr w w'
end Go.Proofs.YthhmcjojnbaiiaaGreatDoor
