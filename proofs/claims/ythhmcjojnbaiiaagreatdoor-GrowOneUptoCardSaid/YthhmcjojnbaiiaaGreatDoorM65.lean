/- Texts of the proof: Kq. -/
import Derived.Test.YthhmcjojnbaiiaaGreatDoorM14
import Derived.Test.YthhmcjojnbaiiaaGreatDoorM27
import Derived.Test.YthhmcjojnbaiiaaGreatDoorM8
set_option linter.all false
/- A kid is equal to itself. -/
namespace Go.Proofs.YthhmcjojnbaiiaaGreatDoor
open Go Go.RowKit
theorem eqHash_at (d : Nat) (a : List Int) (w : World) (ha : a.length = 32) :
    (Op.equalIn (d + 2) 56 (.agg (hashV a).toArray) (.agg (hashV a).toArray)).run Tryz.prog w = .ok true w := by
  obtain ⟨i, hi⟩ := Option.isSome_iff_exists.1 u8_infos
  have key : ((List.range 32).all fun j => a.getD j 0 == a.getD j 0) = true := by simp
  rw [← key, ← eqItems_u8 d a a w (List.range 32) (fun j hj => by rw [List.mem_range] at hj; omega)]
  have h := run_equalIn_array (P := Tryz.prog) w (d + 1) (hashV a).toArray (hashV a).toArray Tryz.underlying56 hi
  rw [cells_u8] at h
  exact h
set_option maxRecDepth 100000 in
theorem kid_parts (k : Kid) (hk : k.hash.length = 32) (w : World) : (part 9 (kidA k) 0).run Tryz.prog w = .ok (.string k.key) w ∧ (part 22 (kidA k) 1).run Tryz.prog w = .ok (.int .u32 k.num) w ∧ (part 56 (kidA k) 2).run Tryz.prog w = .ok (.agg (hashV k.hash).toArray) w := by
  obtain ⟨key, num, hash⟩ := k
  obtain ⟨x0, x1, x2, x3, x4, x5, x6, x7, x8, x9, x10, x11, x12, x13, x14, x15, x16, x17, x18, x19, x20, x21, x22, x23, x24, x25, x26, x27, x28, x29, x30, x31, rfl⟩ := lit32a hash hk
  refine ⟨by kernel_rfl, by kernel_rfl, by kernel_rfl⟩
theorem kid_fields : (Tryz.prog.fieldsOf 58).toList.map (fun f => (f.type, f.offset, f.name != "_")) = [(9, 0, true), (22, 1, true), (56, 2, true)] := by kernel_rfl
theorem kid_hS : Tryz.prog.underlying 58 = some (.struct (Tryz.prog.fieldsOf 58)) := by kernel_rfl
theorem kid_hp : Tryz.prog.stoodInHeld 58 = false := by kernel_rfl
theorem fields_three {xs : Array Value} {k : ByteArray} {n : Int} {hs : List Int} (w : World) (d : Nat) (fs : List Field) (hf : fs.map (fun f => (f.type, f.offset, f.name != "_")) = [(9, 0, true), (22, 1, true), (56, 2, true)])
    (p0 : (part 9 xs 0).run Tryz.prog w = .ok (.string k) w) (p1 : (part 22 xs 1).run Tryz.prog w = .ok (.int .u32 n) w) (p2 : (part 56 xs 2).run Tryz.prog w = .ok (.agg (hashV hs).toArray) w) (hk : hs.length = 32) :
    (Op.eqFields (d + 2) xs xs fs).run Tryz.prog w = .ok true w := by
  obtain ⟨f0, f1, f2, rfl⟩ : ∃ f0 f1 f2, fs = [f0, f1, f2] := by
    have hl : fs.length = 3 := by have := congrArg List.length hf; simpa using this
    rcases fs with _ | ⟨f0, _ | ⟨f1, _ | ⟨f2, _ | ⟨f3, r⟩⟩⟩⟩
    · simp at hl
    · simp at hl
    · simp at hl
    · exact ⟨f0, f1, f2, rfl⟩
    · simp at hl
  simp only [List.map_cons, List.map_nil, List.cons.injEq, Prod.mk.injEq, and_true] at hf
  obtain ⟨⟨a0, b0, c0⟩, ⟨a1, b1, c1⟩, ⟨a2, b2, c2⟩⟩ := hf
  have e0 := run_equalIn_string (P := Tryz.prog) w (d + 1) 9 k k Tryz.underlying9
  have e1 := run_equalIn_int (P := Tryz.prog) w (d + 1) 22 .u32 .u32 n n Tryz.underlying22
  have e2 := eqHash_at d hs w hk
  simp only [bne_iff_ne, ne_eq] at c0 c1 c2
  rw [beq_self_eq_true] at e0 e1
  rw [← a0] at e0 p0
  rw [← a1] at e1 p1
  rw [← a2] at e2 p2
  rw [← b0] at p0
  rw [← b1] at p1
  rw [← b2] at p2
  generalize Tryz.prog = Q at *
  simp only [Op.eqFields, c0, c1, c2, ne_eq, not_false_eq_true, if_true, Sem.run_bind, p0, p1, p2, e0, e1, e2, Result.andThen_ok, Bool.not_true, Bool.false_eq_true, if_false, Sem.run_pure]
theorem kid_eq_at (k : Kid) (hk : k.hash.length = 32) (w : World) (d : Nat) : (Op.equalIn (d + 3) 58 (.agg (kidA k)) (.agg (kidA k))).run Tryz.prog w = .ok true w := by
  obtain ⟨p0, p1, p2⟩ := kid_parts k hk w
  rw [run_equalIn_agg w (d + 2) 58 _ _ kid_hS kid_hp]
  exact fields_three w d _ kid_fields p0 p1 p2 hk
theorem kid_eq_refl (k : Kid) (hk : k.hash.length = 32) (w : World) : (binOp .eql 58 (.agg (kidA k)) (.agg (kidA k))).run Tryz.prog w = .ok (.bool true) w := by
  have h := kid_eq_at k hk w 9997
  rw [run_eql_struct, h]
  rfl
end Go.Proofs.YthhmcjojnbaiiaaGreatDoor
