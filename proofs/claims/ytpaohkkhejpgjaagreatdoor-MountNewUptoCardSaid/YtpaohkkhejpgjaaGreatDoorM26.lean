/- Texts of the proof: U0. -/
import Derived.Test.YtpaohkkhejpgjaaGreatDoorM15
set_option linter.all false
set_option maxRecDepth 100000
set_option maxHeartbeats 8000000
namespace Go.Proofs.YtpaohkkhejpgjaaGreatDoor
open Go Go.RowKit
structure Sup where
 size : Int
 gen : Int
 table : Int
 hash : List Int
def noSup : Sup := ⟨0, 0, 0, jbm⟩
def supB (s : Sup) : Bool := (decide (16 ≤ s.size) && decide (s.size ≤ 65536)) && ((decide (1 ≤ s.gen) && decide (s.gen ≤ 4611686018427387904)) && (jd1 s.table && decide (s.table < s.size)))
def supL (s : Sup) : List UInt8 := [67, 66] ++ (numU s.size 4 ++ (numU s.gen 8 ++ (numU s.table 4 ++ hashU s.hash)))
def jbl (s : Sup) : ByteArray := ⟨(jcw (supL s)).toArray⟩
def supTk (data : ByteArray) : Tk := ⟨(fillB data).extract 6 512, false⟩
def supOf (data : ByteArray) : Sup :=
 ⟨(numT (supTk data) 4).1, (numT (numT (supTk data) 4).2 8).1, (numT (numT (numT (supTk data) 4).2 8).2 4).1, (hashT (numT (numT (numT (supTk data) 4).2 8).2 4).2).1⟩
def jcj (data : ByteArray) : Option Sup := if 512 < data.size then none else if supB (supOf data) = true ∧ beqB (jbl (supOf data)) data = true then some (supOf data) else none
theorem supL_length (s : Sup) (hh : jd7 s.hash) : (supL s).length = 50 := by
 unfold supL
 simp only [List.length_append, jaw, hashU, List.length_map, hh.1]
 rfl
theorem sup_enc (s : Sup) (hb : supB s = true) (hh : jd7 s.hash) : (jbl s).size ≤ 512 ∧ supOf (jbl s) = s := by
 have hsl := supL_length s hh
 have hpl : (padTo 508 (supL s)).length = 508 := by unfold padTo; simp; omega
 have hn4 : (numB (crcOf (padTo 508 (supL s))) 4).data.toList.length = 4 := jaw _ 4
 have hfl : fillB (jbl s) = ⟨((numB (crcOf (padTo 508 (supL s))) 4).data.toList ++ padTo 508 (supL s)).toArray⟩ := by
  unfold fillB jbl jcw
  apply jgq
  show padTo 512 (Lib.trimRightB _ 0) = _
  rw [trim_pad _ 512 (by rw [List.length_append, hn4, hpl])]
 have htk : supTk (jbl s) = tkL (numU s.size 4 ++ (numU s.gen 8 ++ (numU s.table 4 ++ (hashU s.hash ++ List.replicate 458 0)))) := by
  unfold supTk tkL
  rw [hfl]
  refine tk_ext (jgq ?_)
  rw [Lib.extract_data]
  show List.take (512 - 6) (List.drop 6 ((numB (crcOf (padTo 508 (supL s))) 4).data.toList ++ padTo 508 (supL s))) = _
  have h1 : List.drop 6 ((numB (crcOf (padTo 508 (supL s))) 4).data.toList ++ padTo 508 (supL s)) = List.drop 2 (padTo 508 (supL s)) := by
   rw [List.drop_append, hn4, List.drop_eq_nil_of_le (by omega)]
   rfl
  rw [h1, List.take_of_length_le (by rw [List.length_drop]; omega)]
  unfold padTo
  rw [hsl]
  unfold supL
  generalize hashU s.hash = hu
  generalize numU s.size 4 = n1
  generalize numU s.gen 8 = n2
  generalize numU s.table 4 = n3
  have h9 : 508 - 50 = 458 := rfl
  rw [h9]
  generalize List.replicate 458 (0 : UInt8) = zz
  show List.drop 2 (67 :: 66 :: (n1 ++ (n2 ++ (n3 ++ hu)) ++ zz)) = _
  simp only [List.drop_succ_cons, List.drop_zero, List.append_assoc]
 have hws : (jbl s).size ≤ 512 := by
  show (jcw (supL s)).toArray.size ≤ 512
  unfold jcw Lib.trimRightB
  have := (List.dropWhile_sublist (fun b : UInt8 => b == 0) (l := ((numB (crcOf (padTo 508 (supL s))) 4).data.toList ++ padTo 508 (supL s)).reverse)).length_le
  simp only [List.length_reverse, List.length_append, hn4, hpl] at this
  simpa using this
 refine ⟨hws, ?_⟩
 unfold supB jd1 at hb
 simp only [Bool.and_eq_true, decide_eq_true_eq] at hb
 obtain ⟨⟨b1, b2⟩, ⟨b3, b4⟩, ⟨b5, b6⟩, b7⟩ := hb
 unfold supOf
 rw [htk, jd3 s.size 4 _ (by omega) (by omega) (by omega)]
 simp only
 rw [jd3 s.gen 8 _ (by omega) (by omega) (by omega)]
 simp only
 rw [jd3 s.table 4 _ (by omega) (by omega) (by omega)]
 simp only
 rw [jlt s.hash _ hh]
theorem dec_sup (s : Sup) (hb : supB s = true) (hh : jd7 s.hash) : jcj (jbl s) = some s := by
 obtain ⟨h1, h2⟩ := sup_enc s hb hh
 unfold jcj
 rw [if_neg (by omega), h2, if_pos ⟨hb, (jga _ _).2 rfl⟩]
theorem jl3 {data : ByteArray} {s : Sup} (h : jcj data = some s) : supB s = true ∧ s = supOf data := by
 unfold jcj at h
 generalize supOf data = s0 at *
 by_cases h1 : 512 < data.size
 · rw [if_pos h1] at h; cases h
 · rw [if_neg h1] at h
   by_cases h2 : supB s0 = true ∧ beqB (jbl s0) data = true
   · rw [if_pos h2] at h
     injection h with h
     subst h
     exact ⟨h2.1, rfl⟩
   · rw [if_neg h2] at h; cases h
def slotS (s : Sup) : Int := s.gen % 2
def jcm (a b : ByteArray) : List Sup :=
 match (jcj a).bind (fun s => if slotS s = 0 then some s else none), (jcj b).bind (fun s => if slotS s = 1 then some s else none) with
 | some s, some t => if t.gen < s.gen then [s, t] else [t, s]
 | some s, none => [s]
 | none, some t => [t]
 | none, none => []
end Go.Proofs.YtpaohkkhejpgjaaGreatDoor
