/- Texts of the proof: Or Hd. -/
import Derived.Test.YthhmcjojnbaiiaaGreatDoorM4
import Derived.Test.YthhmcjojnbaiiaaGreatDoorM14
import Derived.Test.YthhmcjojnbaiiaaGreatDoorM15
set_option linter.all false
/- cmp.Or of error numbers. -/
namespace Go.Proofs.YthhmcjojnbaiiaaGreatDoor
open Go Go.RowKit
def errE : Enc Int where
  sz := 1
  enc x := [.int .i64 x]
  wf _ := True
  len _ _ := rfl
  one x _ u hu := by simp at hu; subst hu; rfl
  pos := by decide
def orL : List Int → Int
  | [] => 0
  | x :: r => if x = 0 then orL r else x
set_option maxRecDepth 100000 in
set_option maxHeartbeats 1000000 in
theorem or_any (w : World) (v : Value) (xs : List Int) (hv : Sl errE w v xs) :
    Calls Tryz.prog 57 #[v] w fun e w' => e = .returned (.int .i64 (orL xs)) ∧ w' = w := by
  obtain ⟨A, c, rfl, hc, hc2, hrow⟩ := hv
  have HR := Lib.hid hrow
  clear hrow
  go_enter Tryz.func57, Tryz.ntmps57
  go_wp2
  go_loopw [5, 8, 9, 10, 11, 12, 13, 14, 15, 16] (fun _ i _ _ _ _ _ _ _ _ wr => ∃ k : Nat, k ≤ xs.length ∧ i = .int .i64 k ∧ orL xs = orL (xs.drop k) ∧ wr = w) (fun _ i _ _ _ _ _ _ _ _ _ => xs.length - (intOf i).toNat)
  case atStart => exact ⟨0, Nat.zero_le _, rfl, rfl, rfl⟩
  case round =>
    obtain ⟨k, hk, rfl, hor, rfl⟩ := hrel
    by_cases hlt : k < xs.length
    · obtain ⟨b, o, rfl, hat, _⟩ := HR.out k hlt
      have d0 : wr.cell? ⟨b, o + k, none⟩ = some (.int .i64 xs[k]) := by have := hat.cell 0 _ rfl; simpa [errE] using this
      have hbr : b < wr.heap.size := block_lt_of_cell d0
      rw [List.drop_eq_getElem_cons hlt, orL] at hor
      have HF := Lib.hid hor
      clear hor hat
      generalize xs[k] = y at *
      by_cases hy : y = 0
      · have HF2 := Lib.hid (show orL xs = orL (xs.drop (k + 1)) by rw [HF.out, if_pos hy])
        subst hy
        go_wp2
        exact ⟨⟨k + 1, by omega, by go_num, HF2.out, trivial⟩, by simp [intOf]; omega⟩
      · have HF2 := Lib.hid (show orL xs = y by rw [HF.out, if_neg hy])
        have hyb : (y != 0) = true := by simpa using hy
        clear hy
        go_wp2
        go_ret
        exact ⟨by rw [HF2.out]; rfl, rfl⟩
    · have HF2 := Lib.hid (show orL xs = 0 by rw [hor, List.drop_of_length_le (by omega)]; rfl)
      clear hor
      go_wp2
      go_ret
      exact ⟨by rw [HF2.out]; rfl, rfl⟩
end Go.Proofs.YthhmcjojnbaiiaaGreatDoor

/- Plain: what a heap at work is asked (no bytes of nodes yet). -/
namespace Go.Proofs.YthhmcjojnbaiiaaGreatDoor
open Go Go.RowKit
structure Hp where
  size : Int
  cells : List Cel
def noKid : Kid := ⟨ByteArray.empty, 0, zero32⟩
def namedK (n : Node) : List Kid := n.kids.map (fun k => ⟨ByteArray.empty, k.num, k.hash⟩) ++ (n.vols.filter (fun v => v.root != 0)).map (fun v => ⟨ByteArray.empty, v.root, v.hash⟩)
def ccFind (cs : List CC) (t : Int) : Option CC := cs.find? (fun c => c.num == t)
def leadsGo (cs : List CC) : Int → List Kid → Int
  | why, [] => why
  | why, k :: r => match ccFind cs k.num with
    | none => 5
    | some c => leadsGo cs (if c.hash = k.hash then why else 9) r
def leadsE (cs : List CC) (n : Node) : Int := leadsGo cs 0 (namedK n)
def ledUp (t : Int) (c : CC) : CC := if c.num = t then { c with led := c.led + 1 } else c
def bumps (ts : List Int) (cs : List CC) : List CC := ts.foldl (fun cs t => cs.map (ledUp t)) cs
def refUp (t : Int) (c : CC) : CC := if c.num = t then { c with refs := c.refs + 1, led := c.led + 1 } else c
def holds (ts : List Int) (cs : List CC) : List CC := ts.foldl (fun cs t => cs.map (refUp t)) cs
theorem countL_cons (x : Int) (r : List Int) (t : Int) : countL (x :: r) t = (if x = t then 1 else 0) + countL r t := by
  unfold countL
  by_cases h : x = t <;> simp [h]; omega
theorem countL_app (a b : List Int) (t : Int) : countL (a ++ b) t = countL a t + countL b t := by
  unfold countL; simp
theorem countL_zero {l : List Int} {t : Int} (h : t ∉ l) : countL l t = 0 := by
  unfold countL
  rw [List.length_eq_zero_iff, List.filter_eq_nil_iff]
  intro a ha; simp; intro e; subst e; exact h ha
theorem ledUp_num (t : Int) (c : CC) : (ledUp t c).num = c.num := by unfold ledUp; split <;> rfl
theorem refUp_num (t : Int) (c : CC) : (refUp t c).num = c.num := by unfold refUp; split <;> rfl
theorem bumps_map : ∀ (ts : List Int) (cs : List CC), bumps ts cs = cs.map (fun c => { c with led := c.led + countL ts c.num })
  | [], cs => by simp [bumps, countL]
  | t :: r, cs => by
    have e : bumps (t :: r) cs = bumps r (cs.map (ledUp t)) := rfl
    rw [e, bumps_map r, List.map_map]
    apply List.map_congr_left
    intro c _
    simp only [Function.comp, ledUp, countL_cons]
    by_cases h : c.num = t
    · simp [h]; omega
    · have h' : ¬ t = c.num := fun e => h e.symm
      simp [h, h']
theorem holds_map : ∀ (ts : List Int) (cs : List CC), holds ts cs = cs.map (fun c => { c with refs := c.refs + countL ts c.num, led := c.led + countL ts c.num })
  | [], cs => by simp [holds, countL]
  | t :: r, cs => by
    have e : holds (t :: r) cs = holds r (cs.map (refUp t)) := rfl
    rw [e, holds_map r, List.map_map]
    apply List.map_congr_left
    intro c _
    simp only [Function.comp, refUp, countL_cons]
    by_cases h : c.num = t
    · simp [h]; omega
    · have h' : ¬ t = c.num := fun e => h e.symm
      simp [h, h']
theorem orL_two (a b : Int) : orL [a, b] = if a = 0 then b else a := by
  unfold orL orL orL
  by_cases h : a = 0 <;> by_cases k : b = 0 <;> simp [h, k]

theorem shaOf_ok (s : List UInt8) : hashOk (shaOf s) := by
  refine ⟨shaOf_length s, fun x hx => ?_⟩
  obtain ⟨i, _, rfl⟩ := List.mem_map.1 hx
  omega

end Go.Proofs.YthhmcjojnbaiiaaGreatDoor
