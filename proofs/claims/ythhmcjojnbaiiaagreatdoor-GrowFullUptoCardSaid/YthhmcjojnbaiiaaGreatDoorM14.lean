/- Texts of the proof: Tk3. -/
import Derived.Test.YthhmcjojnbaiiaaGreatDoorM13
import Derived.Deep.AppendLies
set_option linter.all false
/- Node's taker: a node taken. The plain side, and what is held of memory. -/
namespace Go.Proofs.YthhmcjojnbaiiaaGreatDoor
open Go Go.RowKit
def itemT (t : Tk) : Item × Tk := (⟨(textT t).1, (textT (textT t).2).1⟩, (textT (textT t).2).2)
def kidT (t : Tk) : Kid × Tk :=
  let a := textT t; let b := numT a.2 4; let c := hashT b.2
  (⟨a.1, b.1, c.1⟩, c.2)
def volT (t : Tk) : Vol × Tk :=
  let a := textT t; let b := textT a.2; let c := numT b.2 1; let d := numT c.2 8; let e := numT d.2 4; let f := hashT e.2
  (⟨a.1, c.1, b.1, d.1, e.1, f.1⟩, f.2)
def stepT (n : Node) (t : Tk) : Node × Tk :=
  if n.kind = 1 then ({ n with items := n.items ++ [(itemT t).1] }, (itemT t).2)
  else if n.kind = 2 then ({ n with kids := n.kids ++ [(kidT t).1] }, (kidT t).2)
  else if n.kind = 3 then ({ n with vols := n.vols ++ [(volT t).1] }, (volT t).2)
  else (n, ⟨t.left, true⟩)
def takeLoop : Nat → Node → Tk → Node × Tk
  | 0, n, t => (n, t)
  | c + 1, n, t => if (stepT n t).2.bad then stepT n t else takeLoop c (stepT n t).1 (stepT n t).2
def takeT (t : Tk) : Node × Tk := takeLoop (numT (numT t 1).2 1).1.toNat ⟨(numT t 1).1, [], [], []⟩ (numT (numT t 1).2 1).2

theorem own_ne {w : World} {B : Nat} {e T : TypeId} {s : Nat} {v : Value} {n : Nat} {xs : List Value} {b : Nat} {cs : Array Value} {fr : Nat × Nat} (hown : w.ownsRow B e s v n xs) (hb : w.heap[b]? = some (.cells cs T fr)) (hTe : T ≠ e) : v.ownBlock ≠ some b := by
  intro he
  rcases hown.2 with ⟨rfl, _⟩ | ⟨g, cap, cur, rfl, _, hg, _⟩
  · simp [Value.ownBlock] at he
  · have hgb : g = b := by simpa [Value.ownBlock] using he
    subst hgb
    rw [hg] at hb
    injection hb with hb
    injection hb with _ h2 _
    exact hTe h2.symm
theorem own_keep {w w' : World} {B : Nat} {e T : TypeId} {s : Nat} {v : Value} {n : Nat} {xs : List Value} {b : Nat} {cs : Array Value} {fr : Nat × Nat} (hown : w.ownsRow B e s v n xs) (hg : w.grownBy w' (some b)) (hb : w.heap[b]? = some (.cells cs T fr)) (hTe : T ≠ e) : w'.ownsRow B e s v n xs :=
  hown.kept hg (Or.inr (own_ne hown hb hTe))
theorem own_other {w w' : World} {B e s n e2 s2 n2 : Nat} {v u : Value} {xs ys : List Value} (hown : w.ownsRow B e s v n xs) (hu : w.ownsRow B e2 s2 u n2 ys) (hg : w.grownBy w' u.ownBlock) (hee : e2 ≠ e) : w'.ownsRow B e s v n xs := by
  refine hown.kept hg ?_
  rcases hu.2 with ⟨rfl, _⟩ | ⟨g, cap, cur, rfl, _, hg2, _⟩
  · cases hv : v.ownBlock with
    | none => exact Or.inl rfl
    | some k => right; simp [Value.ownBlock]
  · exact Or.inr (by simpa [Value.ownBlock] using own_ne hown hg2 hee)
/-- A node that is being taken: in block nb, its rows the call's own. -/
structure NodeOwn (B nb : Nat) (n : Node) (w : World) (vi vk vv : Value) : Prop where
  blk : w.heap[nb]? = some (.cells #[.int .u8 n.kind, vi, vk, vv] 44 (0, 0))
  oi : w.ownsRow B 32 2 vi n.items.length (n.items.flatMap itemE.enc)
  ok : w.ownsRow B 58 34 vk n.kids.length (n.kids.flatMap kidE.enc)
  ov : w.ownsRow B 178 37 vv n.vols.length (n.vols.flatMap volE.enc)
theorem NodeOwn.keep {B nb g : Nat} {n : Node} {w w' : World} {vi vk vv : Value} {t : Tk} (h : NodeOwn B nb n w vi vk vv) (hg : w.grownBy w' (some g)) (ht : TkAt w g t) : NodeOwn B nb n w' vi vk vv := by
  have hne : nb ≠ g := by
    intro e
    have := h.blk
    rw [e, ht] at this
    injection this with this
    injection this with _ h2 _
    exact absurd h2 (by decide)
  exact ⟨(hg.block nb (lt_of_block h.blk) (by simpa using hne)).trans h.blk, own_keep h.oi hg ht (by decide), own_keep h.ok hg ht (by decide), own_keep h.ov hg ht (by decide)⟩
def nodeWf (n : Node) : Prop := (∀ x ∈ n.items, itemE.wf x) ∧ (∀ x ∈ n.kids, kidE.wf x) ∧ (∀ x ∈ n.vols, volE.wf x)
theorem textT_le (t : Tk) (m : Nat) (h : t.left.size ≤ m) : (textT t).1.size ≤ m ∧ (textT t).2.left.size ≤ m := by
  unfold textT
  have h1 : (numT t 1).2.left.size ≤ m := Nat.le_trans (someF_le t 1) h
  refine ⟨?_, Nat.le_trans (someF_le _ _) h1⟩
  unfold someF
  split
  · simp
  · simp; omega
theorem numT_le (t : Tk) (k m : Nat) (h : t.left.size ≤ m) : (numT t k).2.left.size ≤ m := Nat.le_trans (someF_le t k) h
theorem hashT_le (t : Tk) (m : Nat) (h : t.left.size ≤ m) : (hashT t).2.left.size ≤ m := Nat.le_trans (someF_le t 32) h
theorem numT_range (t : Tk) (k : Nat) (hk : k ≤ 8) : 0 ≤ (numT t k).1 ∧ (numT t k).1 < 256 ^ k := by
  unfold numT
  have hp : (0 : Int) < 256 ^ k := Int.pow_pos (by decide)
  split
  · exact ⟨Int.le_refl _, hp⟩
  · rename_i h
    exact takeOf_range k _ (by simp; omega) hk
theorem hashT_ok (t : Tk) : hashOk (hashT t).1 := by
  refine ⟨hashT_len t, ?_⟩
  unfold hashT
  intro x hx
  split at hx
  · simp only [bytesI, List.mem_map] at hx
    obtain ⟨b, _, rfl⟩ := hx
    have := b.toNat_lt
    omega
  · simp only [zero32, List.mem_replicate] at hx
    omega
theorem itemT_ok (t : Tk) (h : t.left.size ≤ 4096) : itemE.wf (itemT t).1 ∧ (itemT t).2.left.size ≤ 4096 := by
  have h1 := textT_le t 4096 h
  have h2 := textT_le (textT t).2 4096 h1.2
  refine ⟨⟨?_, ?_⟩, h2.2⟩
  · show (textT t).1.size ≤ 140737488355328; omega
  · show (textT (textT t).2).1.size ≤ 140737488355328; omega
theorem kidT_ok (t : Tk) (h : t.left.size ≤ 4096) : kidE.wf (kidT t).1 ∧ (kidT t).2.left.size ≤ 4096 := by
  have h1 := textT_le t 4096 h
  have h2 := numT_le (textT t).2 4 4096 h1.2
  have h3 := hashT_le (numT (textT t).2 4).2 4096 h2
  have r := numT_range (textT t).2 4 (by omega)
  refine ⟨⟨?_, ⟨r.1, ?_⟩, hashT_ok _⟩, h3⟩
  · show (textT t).1.size ≤ 140737488355328; omega
  · have := r.2; show (numT (textT t).2 4).1 ≤ 4294967295; omega
theorem volT_ok (t : Tk) (h : t.left.size ≤ 4096) : volE.wf (volT t).1 ∧ (volT t).2.left.size ≤ 4096 := by
  have h1 := textT_le t 4096 h
  have h2 := textT_le (textT t).2 4096 h1.2
  have h3 := numT_le (textT (textT t).2).2 1 4096 h2.2
  have h4 := numT_le _ 8 4096 h3
  have h5 := numT_le _ 4 4096 h4
  have h6 := hashT_le _ 4096 h5
  have r1 := numT_range (textT (textT t).2).2 1 (by omega)
  have r2 := numT_range (numT (textT (textT t).2).2 1).2 8 (by omega)
  have r3 := numT_range (numT (numT (textT (textT t).2).2 1).2 8).2 4 (by omega)
  refine ⟨⟨?_, ⟨r1.1, ?_⟩, ?_, ⟨r2.1, ?_⟩, ⟨r3.1, ?_⟩, hashT_ok _⟩, h6⟩
  · show (textT t).1.size ≤ 140737488355328; omega
  · have := r1.2; show (numT (textT (textT t).2).2 1).1 ≤ 255; omega
  · show (textT (textT t).2).1.size ≤ 140737488355328; omega
  · have := r2.2; show (numT (numT (textT (textT t).2).2 1).2 8).1 ≤ 18446744073709551615; omega
  · have := r3.2; show (numT (numT (numT (textT (textT t).2).2 1).2 8).2 4).1 ≤ 4294967295; omega
end Go.Proofs.YthhmcjojnbaiiaaGreatDoor
