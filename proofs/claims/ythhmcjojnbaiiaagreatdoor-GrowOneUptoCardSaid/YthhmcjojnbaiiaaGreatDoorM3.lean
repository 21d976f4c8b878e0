/- Texts of the proof: Pk3. -/
import Derived.Test.YthhmcjojnbaiiaaGreatDoorM2
set_option linter.all false
/- Package pack: a number taken from bytes. -/
namespace Go.Proofs.YthhmcjojnbaiiaaGreatDoor
open Go Go.RowKit
def takeStep (n b : Int) : Int := bits BinOp.or IntKind.u64 (IntKind.u64.wrap (n * 256)) (IntKind.u64.wrap b)
def takeOf (l : List UInt8) : Int := l.foldl (fun n b => takeStep n b.toNat) 0
theorem takeOf_snoc (l : List UInt8) (b : UInt8) : takeOf (l ++ [b]) = takeStep (takeOf l) b.toNat := by simp [takeOf]
set_option maxRecDepth 100000 in
set_option maxHeartbeats 400000 in
theorem takeNumber_short (w : World) (s : ByteArray) (k : Nat) (hk : 1 ≤ k) (hk8 : k ≤ 8) (hlt : s.size < k) :
    Calls Tryz.prog 174 #[.string s, .int .i64 k] w fun e w' => e = .returned (.tuple #[.int .u64 0, .string ByteArray.empty, .int .i64 3]) ∧ w = w' := by
  go_enter Tryz.func174, Tryz.ntmps174
  go_wp2
  go_ret3
  exact ⟨rfl, rfl⟩
set_option maxRecDepth 100000 in
set_option maxHeartbeats 400000 in
theorem takeNumber_yes (w : World) (s : ByteArray) (k : Nat) (hs : s.size ≤ 9223372036854775807) (hk : 1 ≤ k) (hk8 : k ≤ 8) (hle : k ≤ s.size) :
    Calls Tryz.prog 174 #[.string s, .int .i64 k] w fun e w' => e = .returned (.tuple #[.int .u64 (takeOf (s.data.toList.take k)), .string (s.extract k s.size), .int .i64 0]) ∧ ∃ n, w' = w.drewN n := by
  have hd : decide (s.size < k) = false := by simp; omega
  go_enter Tryz.func174, Tryz.ntmps174
  go_wp2
  go_loop [7, 8, 22] (fun n _ i => ∃ j : Nat, j ≤ k ∧ i = .int .i64 j ∧ n = .int .u64 (takeOf (s.data.toList.take j))) (fun _ _ i => k - (intOf i).toNat)
  case atStart => exact ⟨0, Nat.zero_le _, rfl, rfl⟩
  case round =>
    obtain ⟨j, hj, rfl, rfl⟩ := hrel
    by_cases hlt : j < k
    · have hsn := takeOf_snoc (s.data.toList.take j) (s[j]'(by omega))
      rw [← take_snoc s j (by omega)] at hsn
      have HS := Lib.hid hsn
      clear hsn
      generalize takeOf (s.data.toList.take j) = n at *
      go_wp2
      go_round
      case rel => exact ⟨j + 1, by omega, by go_num, by rw [HS.out]; rfl⟩
      case measure => simp [intOf]; omega
    · obtain rfl : j = k := by omega
      go_wp2
      go_quiet (fail)
      go_wp2
      go_ret3
      exact ⟨rfl, _, rfl⟩
#print axioms takeNumber_yes
end Go.Proofs.YthhmcjojnbaiiaaGreatDoor
