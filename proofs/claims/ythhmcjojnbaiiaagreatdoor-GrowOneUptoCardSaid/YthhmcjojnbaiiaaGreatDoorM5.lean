/- Texts of the proof: N1. -/
import Derived.Test.YthhmcjojnbaiiaaGreatDoorM4
set_option linter.all false
/- Nodes: what is asked of one, how it is told; the walks of node.Block, named, kids, volumes. -/
namespace Go.Proofs.YthhmcjojnbaiiaaGreatDoor
open Go Go.RowKit
def blockB (n : Int) : Bool := decide (2 ≤ n) && decide (n < 65536)
def namedB (before name : ByteArray) (most : Nat) : Bool := decide (name.size ≤ most) && bl before name
def kidsGo : ByteArray → List Kid → Bool
  | _, [] => true
  | before, k :: r => (namedB before k.key 48 && blockB k.num) && kidsGo k.key r
def kidsOk (ks : List Kid) : Bool := kidsGo ByteArray.empty ks && (decide (0 < ks.length) && decide (ks.length ≤ 255))
def zero32 : List Int := List.replicate 32 0
def ledB (v : Vol) : Bool := blockB v.root || (v.root == 0 && v.hash == zero32)
def volRight (before : ByteArray) (v : Vol) : Bool := ledB v && namedB before v.name 16 && decide (v.src.size ≤ 16) && decide (0 < v.kind) && decide (v.kind < 3)
def volsGo : ByteArray → List Vol → Bool
  | _, [] => true
  | before, v :: r => volRight before v && volsGo v.name r
def volsOk (vs : List Vol) : Bool := volsGo ByteArray.empty vs && decide (vs.length ≤ 6)

/-- A value stored whole into the block made last. -/
theorem wpList_store_new {P : Program} {ops : Array Oper} {rest : List Oper} {o : Oper} {a : Act} {w : World} {Q : Exit → Act → World → Prop} (hgd : o.guard = none) (ty : TypeId) (x v : Operand) (ho : o.op = .store ty x v)
    (t : TypeId) (z : Array Value) (hx : a.eval x = .pointer (some ⟨w.heap.size, 0, none⟩)) (vs : List Value) (hv : a.eval v = .agg vs.toArray) (hz : z.size = vs.length) (h1 : ∀ v ∈ vs, v.oneCell' = true)
    (hi : (P.info? ty).map (·.size) = some vs.length) (h : wpList P ops Q rest (a.put o.dst undef) (w.alloc (.cells vs.toArray t))) : wpList P ops Q (o :: rest) a (w.alloc (.cells z t)) := by
  refine wpList_store_at hgd ty x v ho w.heap.size 0 hx vs hv t z (heap_alloc_new _ _) (by omega) h1 hi ?_
  have : (z.toList.take 0 ++ vs ++ z.toList.drop (0 + vs.length)).toArray = vs.toArray := by
    rw [List.drop_of_length_le (by simp; omega)]; simp
  rw [this, setRow_alloc]
  exact h
theorem new_cell {w : World} {vs : List Value} {t : TypeId} (i : Nat) (v : Value) (h : vs[i]? = some v) : (w.alloc (.cells vs.toArray t)).cell? ⟨w.heap.size, i, none⟩ = some v := by
  rw [cell_of_row _ _ i vs.toArray t (0, 0) (heap_alloc_new _ _)]; simpa using h

/-! Looks at the goal alone: is it a load, or a store, of such a type? -/
theorem probe_load {P : Program} {ops : Array Oper} {rest : List Oper} {d : Option Tmp} {x : Operand} {t : TypeId} {p : String} {af : Array Edge} {g : Option (Nat × Bool)} {a : Act} {w : World} {Q : Exit → Act → World → Prop} {ty : TypeId}
    (h : wpList P ops Q (⟨d, .load ty x, t, p, af, g⟩ :: rest) a w) : wpList P ops Q (⟨d, .load ty x, t, p, af, g⟩ :: rest) a w := h
theorem probe_store {P : Program} {ops : Array Oper} {rest : List Oper} {d : Option Tmp} {x v : Operand} {t : TypeId} {p : String} {af : Array Edge} {g : Option (Nat × Bool)} {a : Act} {w : World} {Q : Exit → Act → World → Prop} {ty : TypeId}
    (h : wpList P ops Q (⟨d, .store ty x v, t, p, af, g⟩ :: rest) a w) : wpList P ops Q (⟨d, .store ty x v, t, p, af, g⟩ :: rest) a w := h

set_option maxRecDepth 100000 in
set_option maxHeartbeats 400000 in
theorem block_any (w : World) (n : Int) : Calls Tryz.prog 211 #[.int .u32 n] w fun e w' => e = .returned (.bool (blockB n)) ∧ w' = w := by
  by_cases h : 2 ≤ n
  · have hb : blockB n = decide (n < 65536) := by simp [blockB, h]
    have HB := Lib.hid hb
    have h2 : decide (n ≥ 2) = true := by simpa using h
    clear hb
    go_enter Tryz.func211, Tryz.ntmps211
    go_wp2
    go_ret
    exact ⟨by rw [HB.out]; rfl, rfl⟩
  · have hb : blockB n = false := by simp [blockB, h]
    have HB := Lib.hid hb
    have h2 : decide (n ≥ 2) = false := by simpa using h
    clear hb
    go_enter Tryz.func211, Tryz.ntmps211
    go_wp2
    go_ret
    exact ⟨by rw [HB.out]; rfl, rfl⟩
set_option maxRecDepth 100000 in
set_option maxHeartbeats 400000 in
theorem named_any (w : World) (b s : ByteArray) (m : Nat) : Calls Tryz.prog 210 #[.string b, .string s, .int .i64 m] w fun e w' => e = .returned (.bool (namedB b s m)) ∧ w' = w := by
  by_cases h : s.size ≤ m
  · have h2 : decide (s.size ≤ m) = true := by simpa using h
    have h3 : decide ((s.size : Int) ≤ (m : Int)) = true := by simp; omega
    cases hl : bl b s with
    | true =>
      have HB := Lib.hid (show namedB b s m = true by simp [namedB, h, hl])
      have hl1 : Op.bytesLess b.toList s.toList = true := hl
      have hl2 : Op.bytesLess s.toList b.toList = false := bl_asymm hl
      have hl3 : (s.toList == b.toList) = false := by
        rw [← Bool.not_eq_true]; intro hh; have := (beqB_iff s b).1 hh; subst this; rw [bl_irrefl] at hl; cases hl
      clear hl
      go_enter Tryz.func210, Tryz.ntmps210
      go_wp2
      go_ret
      exact ⟨by rw [HB.out]; rfl, rfl⟩
    | false =>
      have HB := Lib.hid (show namedB b s m = false by simp [namedB, hl])
      have hl0 : (!Op.bytesLess s.toList b.toList && !s.toList == b.toList) = false := by
        cases h1 : Op.bytesLess s.toList b.toList with
        | true => rfl
        | false =>
          have := (beqB_iff s b).2 (bl_total h1 hl)
          unfold beqB at this; rw [this]; rfl
      have HL0 := Lib.hid hl0
      clear hl hl0
      go_enter Tryz.func210, Tryz.ntmps210
      go_wp2
      go_ret
      exact ⟨by rw [HB.out, ← HL0.out]; rfl, rfl⟩
  · have hb : namedB b s m = false := by simp [namedB, h]
    have HB := Lib.hid hb
    have h2 : decide (s.size ≤ m) = false := by simpa using h
    have h3 : decide ((s.size : Int) ≤ (m : Int)) = false := by simp; omega
    clear hb
    go_enter Tryz.func210, Tryz.ntmps210
    go_wp2
    go_ret
    exact ⟨by rw [HB.out]; rfl, rfl⟩
theorem kid_len (k : Kid) (h : kidE.wf k) : (Tryz.prog.info? 58).map (·.size) = some (kidE.enc k).length := by
  rw [kidE.len k h]; kernel_rfl
theorem vol_len (k : Vol) (h : volE.wf k) : (Tryz.prog.info? 178).map (·.size) = some (volE.enc k).length := by
  rw [volE.len k h]; kernel_rfl
set_option maxRecDepth 100000 in
set_option maxHeartbeats 1000000 in
theorem kids_any (w : World) (v : Value) (xs : List Kid) (hv : Sl kidE w v xs) :
    Calls Tryz.prog 186 #[v] w fun e w' => e = .returned (.bool (kidsOk xs)) ∧ Below w.heap.size w w' := by
  obtain ⟨A, c, rfl, hc, hc2, hrow⟩ := hv
  have HR := Lib.hid hrow
  clear hrow
  go_enter Tryz.func186, Tryz.ntmps186
  go_wp2
  go_loopw [3, 5, 8, 10, 11, 12, 13, 14, 15, 16, 17, 18, 19, 20, 21, 22, 23, 24, 25] (fun vb _ i _ _ _ _ _ _ _ _ _ _ _ _ _ _ _ _ wr => ∃ (k : Nat) (b : ByteArray), k ≤ xs.length ∧ i = .int .i64 k ∧ vb = .string b ∧ kidsGo ByteArray.empty xs = kidsGo b (xs.drop k) ∧ Below w.heap.size w wr) (fun _ _ i _ _ _ _ _ _ _ _ _ _ _ _ _ _ _ _ _ => xs.length - (intOf i).toNat)
  case atStart => exact ⟨0, _, Nat.zero_le _, rfl, rfl, rfl, Below.refl _ _⟩
  case round =>
    obtain ⟨k, bf, hk, rfl, rfl, hgo, hB⟩ := hrel
    by_cases hlt : k < xs.length
    · obtain ⟨b, o, rfl, hat, hwf⟩ := HR.out k hlt
      have hb : b < w.heap.size := hat.lt (by simp [kidE])
      have hatr := hat.below hB (Nat.le_refl _)
      have hbr : b < wr.heap.size := Nat.lt_of_lt_of_le hb hB.size
      rw [List.drop_eq_getElem_cons hlt, kidsGo] at hgo
      have HG := Lib.hid (And.intro hgo hB)
      clear hgo hB hat
      generalize xs[k] = kk at *
      have HK := kid_len kk hwf
      have hl := kidE.len kk hwf
      have h1 := kidE.one kk hwf
      have n0 : (wr.alloc (.cells (kidE.enc kk).toArray 58)).cell? ⟨wr.heap.size, 0, none⟩ = some (.string kk.key) := new_cell 0 _ rfl
      have n1 : (wr.alloc (.cells (kidE.enc kk).toArray 58)).cell? ⟨wr.heap.size, 1, none⟩ = some (.int .u32 kk.num) := new_cell 1 _ rfl
      have HL := Lib.hid hl
      have HW := Lib.hid hwf
      clear hl hwf
      generalize kidE.enc kk = vs at *
      generalize kk.key = key at *
      generalize kk.num = num at *
      cases hnm : namedB bf key 48 with
      | false =>
        go_wp2_with (first | ((with_reducible refine probe_load ?_); refine wpList_load_at rfl 58 (.tmp 10) rfl b (o + k * 34) rfl vs _ hatr Tryz.underlying58 rfl HK ?_) | ((with_reducible refine probe_store ?_); refine wpList_store_new rfl 58 (.tmp 5) (.tmp 11) rfl 58 _ rfl vs rfl (by rw [HL.out]; rfl) h1 HK ?_) | (go_at_call 210; refine (named_any _ _ _ 48).mono ?_; rintro e _ ⟨rfl, rfl⟩; rw [hnm]) | (go_at_call 211; refine (block_any _ _).mono ?_; rintro e _ ⟨rfl, rfl⟩; rw [hbk]))
        go_ret
        refine ⟨by rw [kidsOk, HG.out.1, hnm]; rfl, HG.out.2.alloc HG.out.2.size _⟩
      | true =>
        cases hbk : blockB num with
        | false =>
          go_wp2_with (first | ((with_reducible refine probe_load ?_); refine wpList_load_at rfl 58 (.tmp 10) rfl b (o + k * 34) rfl vs _ hatr Tryz.underlying58 rfl HK ?_) | ((with_reducible refine probe_store ?_); refine wpList_store_new rfl 58 (.tmp 5) (.tmp 11) rfl 58 _ rfl vs rfl (by rw [HL.out]; rfl) h1 HK ?_) | (go_at_call 210; refine (named_any _ _ _ 48).mono ?_; rintro e _ ⟨rfl, rfl⟩; rw [hnm]) | (go_at_call 211; refine (block_any _ _).mono ?_; rintro e _ ⟨rfl, rfl⟩; rw [hbk]))
          go_ret
          refine ⟨by rw [kidsOk, HG.out.1, hnm, hbk]; rfl, HG.out.2.alloc HG.out.2.size _⟩
        | true =>
          go_wp2_with (first | ((with_reducible refine probe_load ?_); refine wpList_load_at rfl 58 (.tmp 10) rfl b (o + k * 34) rfl vs _ hatr Tryz.underlying58 rfl HK ?_) | ((with_reducible refine probe_store ?_); refine wpList_store_new rfl 58 (.tmp 5) (.tmp 11) rfl 58 _ rfl vs rfl (by rw [HL.out]; rfl) h1 HK ?_) | (go_at_call 210; refine (named_any _ _ _ 48).mono ?_; rintro e _ ⟨rfl, rfl⟩; rw [hnm]) | (go_at_call 211; refine (block_any _ _).mono ?_; rintro e _ ⟨rfl, rfl⟩; rw [hbk]))
          go_roundw
          case rel =>
            refine ⟨k + 1, key, by omega, by go_num, rfl, ?_, HG.out.2.alloc HG.out.2.size _⟩
            rw [HG.out.1, hnm, hbk]; rfl
          case measure => simp [intOf]; omega
    · rw [List.drop_of_length_le (by omega), kidsGo] at hgo
      have hf : kidsOk xs = (decide (0 < xs.length) && decide (xs.length ≤ 255)) := by rw [kidsOk, hgo]; rfl
      have HG := Lib.hid (And.intro hf hB)
      clear hf hgo hB
      by_cases h0 : 0 < xs.length
      · have hd : decide (0 < xs.length) = true := by simpa using h0
        have hd2 : decide ((xs.length : Int) > 0) = true := by simp; omega
        have hd3 : decide (0 < (xs.length : Int)) = true := by simp; omega
        go_wp2
        go_ret
        refine ⟨by rw [HG.out.1, hd]; simp; omega, HG.out.2⟩
      · have hd : decide (0 < xs.length) = false := by simpa using h0
        have hd2 : decide ((xs.length : Int) > 0) = false := decide_eq_false (by omega)
        have hd3 : decide (0 < (xs.length : Int)) = false := decide_eq_false (by omega)
        go_wp2
        go_ret
        refine ⟨by rw [HG.out.1, hd]; simp, HG.out.2⟩
end Go.Proofs.YthhmcjojnbaiiaaGreatDoor
