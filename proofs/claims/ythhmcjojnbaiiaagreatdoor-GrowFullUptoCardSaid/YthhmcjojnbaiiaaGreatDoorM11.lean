/- Texts of the proof: Num. -/
import Derived.Test.YthhmcjojnbaiiaaGreatDoorM10
set_option linter.all false
/- Numbers as bytes and back: plain. -/
namespace Go.Proofs.YthhmcjojnbaiiaaGreatDoor
open Go Go.RowKit
theorem takeStep_eq (n b : Int) (h0 : 0 ≤ n) (h1 : n < 72057594037927936) (b0 : 0 ≤ b) (b1 : b < 256) : takeStep n b = n * 256 + b := by
  unfold takeStep bits
  have e1 : IntKind.u64.wrap (n * 256) = n * 256 := by rw [IntKind.wrap_u64]; omega
  have e2 : IntKind.u64.wrap b = b := by rw [IntKind.wrap_u64]; omega
  rw [e1, e2]
  obtain ⟨m, rfl⟩ := Int.eq_ofNat_of_zero_le h0
  obtain ⟨c, rfl⟩ := Int.eq_ofNat_of_zero_le b0
  have k : (BitVec.ofInt 64 ((m : Int) * 256) ||| BitVec.ofInt 64 (c : Int)).toNat = m * 256 + c := by
    rw [BitVec.toNat_or]
    have t1 : (BitVec.ofInt 64 ((m : Int) * 256)).toNat = m * 256 := by
      rw [BitVec.toNat_ofInt]; omega
    have t2 : (BitVec.ofInt 64 (c : Int)).toNat = c := by
      rw [BitVec.toNat_ofInt]; omega
    rw [t1, t2]
    have := Nat.shiftLeft_add_eq_or_of_lt (i := 8) (b := c) (by omega) m
    rw [Nat.shiftLeft_eq, show (2 : Nat) ^ 8 = 256 from rfl] at this
    omega
  show IntKind.u64.wrap ((BitVec.ofInt 64 ((m : Int) * 256) ||| BitVec.ofInt 64 (c : Int)).toNat : Int) = _
  rw [k, IntKind.wrap_u64]
  have e : ((m * 256 + c : Nat) : Int) = (m : Int) * 256 + c := by rw [Int.natCast_add, Int.natCast_mul]; rfl
  rw [e]
  omega
theorem pow256 : ∀ k : Nat, k ≤ 7 → (256 : Int) ^ k ≤ 72057594037927936
  | 0, _ => by decide
  | 1, _ => by decide
  | 2, _ => by decide
  | 3, _ => by decide
  | 4, _ => by decide
  | 5, _ => by decide
  | 6, _ => by decide
  | 7, _ => by decide
  | k + 8, h => by omega
theorem takeOf_range : ∀ (k : Nat) (l : List UInt8), l.length = k → k ≤ 8 → 0 ≤ takeOf l ∧ takeOf l < 256 ^ k
  | 0, l, h, _ => by
    have : l = [] := List.length_eq_zero_iff.1 h
    subst this
    exact ⟨by decide, by decide⟩
  | k + 1, l, h, hk => by
    rcases List.eq_nil_or_concat l with rfl | ⟨r, b, rfl⟩
    · simp at h
    · rw [List.concat_eq_append] at h ⊢
      have hr : r.length = k := by simpa using h
      obtain ⟨i0, i1⟩ := takeOf_range k r hr (by omega)
      have hb : (b.toNat : Int) < 256 := by have := b.toNat_lt; omega
      have hp := pow256 k (by omega)
      rw [takeOf_snoc, takeStep_eq _ _ i0 (by omega) (by omega) hb]
      have hs : (256 : Int) ^ (k + 1) = 256 ^ k * 256 := Int.pow_succ ..
      constructor <;> omega
theorem takeOf_num (k : Nat) (l : List UInt8) (b : UInt8) (h : l.length < 8) : takeOf (l ++ [b]) = takeOf l * 256 + b.toNat := by
  obtain ⟨i0, i1⟩ := takeOf_range l.length l rfl (by omega)
  have hb : (b.toNat : Int) < 256 := by have := b.toNat_lt; omega
  have hp := pow256 l.length (by omega)
  rw [takeOf_snoc, takeStep_eq _ _ i0 (by omega) (by omega) hb]
end Go.Proofs.YthhmcjojnbaiiaaGreatDoor
