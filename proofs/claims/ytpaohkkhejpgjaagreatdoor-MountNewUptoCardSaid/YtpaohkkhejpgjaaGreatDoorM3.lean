/- Texts of the proof: Pk3 It Ip N1. -/
import Derived.Test.YtpaohkkhejpgjaaGreatDoorM2
import Derived.Test.YtpaohkkhejpgjaaGreatDoorM1
set_option linter.all false
set_option maxRecDepth 100000
set_option maxHeartbeats 8000000
namespace Go.Proofs.YtpaohkkhejpgjaaGreatDoor
open Go Go.RowKit
def jku (n b : Int) : Int := bits BinOp.or IntKind.u64 (IntKind.u64.wrap (n * 256)) (IntKind.u64.wrap b)
def jeq (l : List UInt8) : Int := l.foldl (fun n b => jku n b.toNat) 0
theorem jhy (l : List UInt8) (b : UInt8) : jeq (l ++ [b]) = jku (jeq l) b.toNat := by simp [jeq]
theorem jkp (w : World) (s : ByteArray) (k : Nat) (hk : 1 ≤ k) (hk8 : k ≤ 8) (hlt : s.size < k) :
 Calls Tryz.prog 251 #[.string s, .int .i64 k] w fun e w' => e = .returned (.tuple #[.int .u64 0, .string ByteArray.empty, .int .i64 3]) ∧ w = w' := by
 go_enter Tryz.func251, Tryz.ntmps251
 go_wp2
 go_ret3
 exact ⟨rfl, rfl⟩
theorem jhn (w : World) (s : ByteArray) (k : Nat) (hs : s.size ≤ 9223372036854775807) (hk : 1 ≤ k) (hk8 : k ≤ 8) (hle : k ≤ s.size) :
 Calls Tryz.prog 251 #[.string s, .int .i64 k] w fun e w' => e = .returned (.tuple #[.int .u64 (jeq (s.data.toList.take k)), .string (s.extract k s.size), .int .i64 0]) ∧ ∃ n, w' = w.drewN n := by
 have hd : decide (s.size < k) = false := by simp; omega
 go_enter Tryz.func251, Tryz.ntmps251
 go_wp2
 go_loop [7, 8, 22] (fun n _ i => ∃ j : Nat, j ≤ k ∧ i = .int .i64 j ∧ n = .int .u64 (jeq (s.data.toList.take j))) (fun _ _ i => k - (intOf i).toNat)
 case atStart => exact ⟨0, Nat.zero_le _, rfl, rfl⟩
 case round =>
  obtain ⟨j, hj, rfl, rfl⟩ := hrel
  by_cases hlt : j < k
  · have hsn := jhy (s.data.toList.take j) (s[j]'(by omega))
    rw [← take_snoc s j (by omega)] at hsn
    have HS := Lib.hid hsn
    clear hsn
    generalize jeq (s.data.toList.take j) = n at *
    go_wp2
    go_round
    case rel => exact ⟨j + 1, by omega, by go_num, by rw [HS.out]; rfl⟩
    case measure => simp [intOf]; omega
  · obtain rfl : j = k := by omega
    go_wp2
    go_quiet (fail)
    go_wp2
    go_ret3
    exact ⟨rfl, _, rfl⟩
#print axioms jhn
theorem jid (w : World) (k v : ByteArray) :
 Calls Tryz.prog 183 #[.string k, .string v] w fun e w' => e = .returned (.bool (jdx k v)) ∧ w' = w := by
 cases h1 : k.toList.isEmpty with
 | true =>
  have hr : jdx k v = false := by simp [jdx, h1]
  have HR := Lib.hid hr
  clear hr
  go_enter Tryz.func183, Tryz.ntmps183
  go_wp2
  go_ret
  exact ⟨by rw [HR.out]; rfl, rfl⟩
 | false =>
  by_cases h2 : k.size ≤ 48
  · by_cases h3 : v.size ≤ 160
    · have hr : jdx k v = true := by simp [jdx, h1, h2, h3]
      have HR := Lib.hid hr
      clear hr
      go_enter Tryz.func183, Tryz.ntmps183
      go_wp2
      go_ret
      exact ⟨by rw [HR.out]; simp; omega, rfl⟩
    · have hr : jdx k v = false := by simp [jdx, h3]
      have HR := Lib.hid hr
      clear hr
      go_enter Tryz.func183, Tryz.ntmps183
      go_wp2
      go_ret
      exact ⟨by rw [HR.out]; simp; omega, rfl⟩
  · have hr : jdx k v = false := by simp [jdx, h2]
    have HR := Lib.hid hr
    clear hr
    go_enter Tryz.func183, Tryz.ntmps183
    go_wp2
    go_ret
    exact ⟨by rw [HR.out]; simp, rfl⟩
theorem jhs (w : World) (k v : ByteArray) (h : jdx k v = true) : Calls Tryz.prog 183 #[.string k, .string v] w fun e w' => e = .returned (.bool true) ∧ w' = w := by
 rw [← h]; exact jid w k v
theorem jlg (w : World) (k v : ByteArray) (h : jdx k v = false) : Calls Tryz.prog 183 #[.string k, .string v] w fun e w' => e = .returned (.bool false) ∧ w' = w := by
 rw [← h]; exact jid w k v
theorem At.pair {w : World} {b o : Nat} {x y : Value} (h : At w b o [x, y]) : w.cell? ⟨b, o, none⟩ = some x ∧ w.cell? ⟨b, o + 1, none⟩ = some y :=
 ⟨h.cell 0 x rfl, h.cell 1 y rfl⟩
def errIf (b : Bool) (n : Int) : Int := if b then 0 else n
theorem jgf (w : World) (v : Value) (xs : List Item) (hv : Sl itemE w v xs) :
 Calls Tryz.prog 128 #[v] w fun e w' => e = .returned (.int .i64 (errIf (jfr xs) 4)) ∧ Below w.heap.size w w' := by
 obtain ⟨A, c, rfl, hc, hc2, hrow⟩ := hv
 have HR := Lib.hid hrow
 clear hrow
 go_enter Tryz.func128, Tryz.ntmps128
 go_wp2
 go_loopw [3, 4, 7, 8, 9, 10, 11, 12, 13, 14, 15, 16, 17, 18, 19, 20, 21, 22, 23, 24, 25, 26, 27, 28, 29, 30, 31, 32] (fun _ _ i _ _ _ _ _ _ _ _ _ _ _ _ _ _ _ _ _ _ _ _ _ _ _ _ _ wr => ∃ k : Nat, k ≤ xs.length ∧ i = .int .i64 k ∧ (∀ j, j < k → okAt xs j) ∧ Below w.heap.size w wr) (fun _ _ i _ _ _ _ _ _ _ _ _ _ _ _ _ _ _ _ _ _ _ _ _ _ _ _ _ _ => xs.length - (intOf i).toNat)
 case atStart => exact ⟨0, Nat.zero_le _, rfl, fun j hj => by omega, Below.refl _ _⟩
 case round =>
  obtain ⟨k, hk, rfl, hok, hB⟩ := hrel
  have HO := Lib.hid hok
  have HB := Lib.hid hB
  by_cases hlt : k < xs.length
  · obtain ⟨b, o, rfl, hat, hwf⟩ := HR.out k hlt
    have hb : b < w.heap.size := hat.lt (by simp [itemE])
    obtain ⟨d0, d1⟩ := (hat.below hB (Nat.le_refl _)).pair
    have hbr : b < wr.heap.size := Nat.lt_of_lt_of_le hb hB.size
    by_cases hk0 : k = 0
    · clear hok hB hat hwf
      have hokk : okAt xs k ↔ jdx xs[k].key xs[k].val = true := ⟨fun h => (h hlt).1, fun h _ => ⟨h, fun h0 => by omega⟩⟩
      have HK := Lib.hid hokk
      clear hokk
      generalize xs[k].key = kk at *
      generalize xs[k].val = kv at *
      have hg0 : decide (0 < (k : Int)) = false := by simp; omega
      have hg1 : decide (0 < k) = false := by simp; omega
      have HK0 := Lib.hid hk0
      clear hk0
      simp only [itemE] at d0 d1
      cases hr : jdx kk kv with
      | false =>
       go_wp2
       go_quiet ((go_at_call 183; exact Calls.quiet_of_same (jlg _ _ _ hr)))
       go_wp2
       go_ret
       refine ⟨?_, Below.drewN' (HB.out.alloc HB.out.size _) _⟩
       rw [jjd hlt (by rw [HK.out, hr]; simp)]; rfl
      | true =>
       go_wp2
       go_quiet ((go_at_call 183; exact Calls.quiet_of_same (jhs _ _ _ hr)))
       go_wp2
       go_roundw
       case rel =>
        refine ⟨k + 1, by omega, by go_num, fun j hj => ?_, Below.drewN' (HB.out.alloc HB.out.size _) _⟩
        rcases Nat.lt_succ_iff_lt_or_eq.1 hj with h | h
        · exact HO.out j h
        · rw [h, HK.out]; exact hr
       case measure => simp [intOf]; omega
    · obtain ⟨_, _, e, hatp, hwfp⟩ := HR.out (k - 1) (by omega)
      injection e with e; injection e with e1 e2 _
      subst e1 e2
      obtain ⟨p0, _⟩ := (hatp.below hB (Nat.le_refl _)).pair
      clear hok hB hat hatp hwf hwfp
      have hokk : okAt xs k ↔ (jdx xs[k].key xs[k].val = true ∧ bl xs[k - 1].key xs[k].key = true) := ⟨fun h => ⟨(h hlt).1, (h hlt).2 (by omega) (by omega)⟩, fun h _ => ⟨h.1, fun _ _ => h.2⟩⟩
      have HK := Lib.hid hokk
      clear hokk
      generalize xs[k - 1].key = pk at *
      generalize xs[k].key = kk at *
      generalize xs[k].val = kv at *
      have hg0 : decide (0 < (k : Int)) = true := by simp; omega
      have hg1 : decide (0 < k) = true := by simp; omega
      have hk1 : 0 ≤ (k : Int) - 1 := by omega
      simp only [itemE] at d0 d1 p0
      cases hr : jdx kk kv with
      | false =>
       go_wp2
       go_quiet ((go_at_call 183; exact Calls.quiet_of_same (jlg _ _ _ hr)))
       go_wp2
       go_ret
       refine ⟨?_, Below.drewN' (HB.out.alloc HB.out.size _) _⟩
       rw [jjd hlt (by rw [HK.out, hr]; simp)]; rfl
      | true =>
       cases hbl : bl pk kk with
       | false =>
        have hbl2 : Op.bytesLess pk.toList kk.toList = false := hbl
        go_wp2
        go_quiet ((go_at_call 183; exact Calls.quiet_of_same (jhs _ _ _ hr)))
        go_wp2
        go_ret
        refine ⟨?_, Below.drewN' (HB.out.alloc HB.out.size _) _⟩
        rw [jjd hlt (by rw [HK.out, hbl]; simp)]; rfl
       | true =>
        have hbl2 : Op.bytesLess pk.toList kk.toList = true := hbl
        go_wp2
        go_quiet ((go_at_call 183; exact Calls.quiet_of_same (jhs _ _ _ hr)))
        go_wp2
        go_roundw
        case rel =>
         refine ⟨k + 1, by omega, by go_num, fun j hj => ?_, Below.drewN' (HB.out.alloc HB.out.size _) _⟩
         rcases Nat.lt_succ_iff_lt_or_eq.1 hj with h | h
         · exact HO.out j h
         · rw [h, HK.out]; exact ⟨hr, hbl⟩
        case measure => simp [intOf]; omega
  · have hall : jfr xs = true := (jk9 xs).2 fun j hj => hok j (by omega)
    have HA := Lib.hid hall
    clear hall hok hB
    go_wp2
    go_ret
    exact ⟨by rw [HA.out]; rfl, HB.out⟩
#print axioms jgf
theorem jd0 {α : Type} (p : α → Bool) : ∀ (xs : List α) (i : Nat), i ≤ xs.length → (∀ k (h : k < xs.length), k < i → p xs[k] = true) → (∀ h : i < xs.length, p xs[i] = false) → (xs.takeWhile p).length = i
 | [], i, h, _, _ => by simp at h ⊢; omega
 | x :: xs, 0, _, _, h2 => by have := h2 (by simp); simp at this; simp [List.takeWhile_cons, this]
 | x :: xs, i + 1, h, h1, h2 => by
  have h0 := h1 0 (by simp) (by omega)
  simp only [List.getElem_cons_zero] at h0
  rw [List.takeWhile_cons, if_pos h0, List.length_cons, jd0 p xs i (by simpa using h) (fun k hk hi => by have := h1 (k + 1) (by simpa using hk) (by omega); simpa using this) (fun hi => by have := h2 (by simpa using hi); simpa using this)]
def posOf {α : Type} (lt : α → Bool) (xs : List α) : Nat := (xs.takeWhile lt).length
theorem posOf_le {α : Type} (lt : α → Bool) (xs : List α) : posOf lt xs ≤ xs.length := (List.takeWhile_prefix _).length_le
def hasAt {α : Type} (eq : α → Bool) (xs : List α) (i : Nat) : Bool := match xs[i]? with
 | some x => eq x
 | none => false
def jd1 (n : Int) : Bool := decide (2 ≤ n) && decide (n < 65536)
def jfk (before name : ByteArray) (most : Nat) : Bool := decide (name.size ≤ most) && bl before name
def jj6 : ByteArray → List Kid → Bool
 | _, [] => true
 | before, k :: r => (jfk before k.key 48 && jd1 k.num) && jj6 k.key r
def jif (ks : List Kid) : Bool := jj6 ByteArray.empty ks && (decide (0 < ks.length) && decide (ks.length ≤ 255))
def jbm : List Int := List.replicate 32 0
def ledB (v : Vol) : Bool := jd1 v.root || (v.root == 0 && v.hash == jbm)
def volRight (before : ByteArray) (v : Vol) : Bool := ledB v && jfk before v.name 16 && decide (v.src.size ≤ 16) && decide (0 < v.kind) && decide (v.kind < 3)
def jj7 : ByteArray → List Vol → Bool
 | _, [] => true
 | before, v :: r => volRight before v && jj7 v.name r
def jei (vs : List Vol) : Bool := jj7 ByteArray.empty vs && decide (vs.length ≤ 6)
theorem jaa {P : Program} {ops : Array Oper} {rest : List Oper} {o : Oper} {a : Act} {w : World} {Q : Exit → Act → World → Prop} (hgd : o.guard = none) (ty : TypeId) (x v : Operand) (ho : o.op = .store ty x v)
 (t : TypeId) (z : Array Value) (hx : a.eval x = .pointer (some ⟨w.heap.size, 0, none⟩)) (vs : List Value) (hv : a.eval v = .agg vs.toArray) (hz : z.size = vs.length) (h1 : ∀ v ∈ vs, v.oneCell' = true)
 (hi : (P.info? ty).map (·.size) = some vs.length) (h : wpList P ops Q rest (a.put o.dst undef) (w.alloc (.cells vs.toArray t))) : wpList P ops Q (o :: rest) a (w.alloc (.cells z t)) := by
 refine jaf hgd ty x v ho w.heap.size 0 hx vs hv t z (heap_alloc_new _ _) (by omega) h1 hi ?_
 have : (z.toList.take 0 ++ vs ++ z.toList.drop (0 + vs.length)).toArray = vs.toArray := by
  rw [List.drop_of_length_le (by simp; omega)]; simp
 rw [this, setRow_alloc]
 exact h
theorem jay {w : World} {vs : List Value} {t : TypeId} (i : Nat) (v : Value) (h : vs[i]? = some v) : (w.alloc (.cells vs.toArray t)).cell? ⟨w.heap.size, i, none⟩ = some v := by
 rw [cell_of_row _ _ i vs.toArray t (0, 0) (heap_alloc_new _ _)]; simpa using h
/-! Looks at the goal alone: is it a load, or a store, of such a type? -/
theorem jao {P : Program} {ops : Array Oper} {rest : List Oper} {d : Option Tmp} {x : Operand} {t : TypeId} {p : String} {af : Array Edge} {g : Option (Nat × Bool)} {a : Act} {w : World} {Q : Exit → Act → World → Prop} {ty : TypeId}
 (h : wpList P ops Q (⟨d, .load ty x, t, p, af, g⟩ :: rest) a w) : wpList P ops Q (⟨d, .load ty x, t, p, af, g⟩ :: rest) a w := h
theorem jab {P : Program} {ops : Array Oper} {rest : List Oper} {d : Option Tmp} {x v : Operand} {t : TypeId} {p : String} {af : Array Edge} {g : Option (Nat × Bool)} {a : Act} {w : World} {Q : Exit → Act → World → Prop} {ty : TypeId}
 (h : wpList P ops Q (⟨d, .store ty x v, t, p, af, g⟩ :: rest) a w) : wpList P ops Q (⟨d, .store ty x v, t, p, af, g⟩ :: rest) a w := h
theorem ja7 (w : World) (n : Int) : Calls Tryz.prog 107 #[.int .u32 n] w fun e w' => e = .returned (.bool (jd1 n)) ∧ w' = w := by
 by_cases h : 2 ≤ n
 · have hb : jd1 n = decide (n < 65536) := by simp [jd1, h]
   have HB := Lib.hid hb
   have h2 : decide (n ≥ 2) = true := by simpa using h
   clear hb
   go_enter Tryz.func107, Tryz.ntmps107
   go_wp2
   go_ret
   exact ⟨by rw [HB.out]; rfl, rfl⟩
 · have hb : jd1 n = false := by simp [jd1, h]
   have HB := Lib.hid hb
   have h2 : decide (n ≥ 2) = false := by simpa using h
   clear hb
   go_enter Tryz.func107, Tryz.ntmps107
   go_wp2
   go_ret
   exact ⟨by rw [HB.out]; rfl, rfl⟩
theorem jcv (w : World) (b s : ByteArray) (m : Nat) : Calls Tryz.prog 246 #[.string b, .string s, .int .i64 m] w fun e w' => e = .returned (.bool (jfk b s m)) ∧ w' = w := by
 by_cases h : s.size ≤ m
 · have h2 : decide (s.size ≤ m) = true := by simpa using h
   have h3 : decide ((s.size : Int) ≤ (m : Int)) = true := by simp; omega
   cases hl : bl b s with
   | true =>
    have HB := Lib.hid (show jfk b s m = true by simp [jfk, h, hl])
    have hl1 : Op.bytesLess b.toList s.toList = true := hl
    have hl2 : Op.bytesLess s.toList b.toList = false := bl_asymm hl
    have hl3 : (s.toList == b.toList) = false := by
     rw [← Bool.not_eq_true]; intro hh; have := (jga s b).1 hh; subst this; rw [bl_irrefl] at hl; cases hl
    clear hl
    go_enter Tryz.func246, Tryz.ntmps246
    go_wp2
    go_ret
    exact ⟨by rw [HB.out]; rfl, rfl⟩
   | false =>
    have HB := Lib.hid (show jfk b s m = false by simp [jfk, hl])
    have hl0 : (!Op.bytesLess s.toList b.toList && !s.toList == b.toList) = false := by
     cases h1 : Op.bytesLess s.toList b.toList with
     | true => rfl
     | false =>
      have := (jga s b).2 (bl_total h1 hl)
      unfold beqB at this; rw [this]; rfl
    have HL0 := Lib.hid hl0
    clear hl hl0
    go_enter Tryz.func246, Tryz.ntmps246
    go_wp2
    go_ret
    exact ⟨by rw [HB.out, ← HL0.out]; rfl, rfl⟩
 · have hb : jfk b s m = false := by simp [jfk, h]
   have HB := Lib.hid hb
   have h2 : decide (s.size ≤ m) = false := by simpa using h
   have h3 : decide ((s.size : Int) ≤ (m : Int)) = false := by simp; omega
   clear hb
   go_enter Tryz.func246, Tryz.ntmps246
   go_wp2
   go_ret
   exact ⟨by rw [HB.out]; rfl, rfl⟩
theorem jc7 (k : Kid) (h : kidE.wf k) : (Tryz.prog.info? 40).map (·.size) = some (kidE.enc k).length := by
 rw [kidE.len k h]; kernel_rfl
theorem jjm (k : Vol) (h : volE.wf k) : (Tryz.prog.info? 155).map (·.size) = some (volE.enc k).length := by
 rw [volE.len k h]; kernel_rfl
theorem kids_any (w : World) (v : Value) (xs : List Kid) (hv : Sl kidE w v xs) :
 Calls Tryz.prog 204 #[v] w fun e w' => e = .returned (.bool (jif xs)) ∧ Below w.heap.size w w' := by
 obtain ⟨A, c, rfl, hc, hc2, hrow⟩ := hv
 have HR := Lib.hid hrow
 clear hrow
 go_enter Tryz.func204, Tryz.ntmps204
 go_wp2
 go_loopw [3, 5, 8, 10, 11, 12, 13, 14, 15, 16, 17, 18, 19, 20, 21, 22, 23, 24, 25] (fun vb _ i _ _ _ _ _ _ _ _ _ _ _ _ _ _ _ _ wr => ∃ (k : Nat) (b : ByteArray), k ≤ xs.length ∧ i = .int .i64 k ∧ vb = .string b ∧ jj6 ByteArray.empty xs = jj6 b (xs.drop k) ∧ Below w.heap.size w wr) (fun _ _ i _ _ _ _ _ _ _ _ _ _ _ _ _ _ _ _ _ => xs.length - (intOf i).toNat)
 case atStart => exact ⟨0, _, Nat.zero_le _, rfl, rfl, rfl, Below.refl _ _⟩
 case round =>
  obtain ⟨k, bf, hk, rfl, rfl, hgo, hB⟩ := hrel
  by_cases hlt : k < xs.length
  · obtain ⟨b, o, rfl, hat, hwf⟩ := HR.out k hlt
    have hb : b < w.heap.size := hat.lt (by simp [kidE])
    have hatr := hat.below hB (Nat.le_refl _)
    have hbr : b < wr.heap.size := Nat.lt_of_lt_of_le hb hB.size
    rw [List.drop_eq_getElem_cons hlt, jj6] at hgo
    have HG := Lib.hid (And.intro hgo hB)
    clear hgo hB hat
    generalize xs[k] = kk at *
    have HK := jc7 kk hwf
    have hl := kidE.len kk hwf
    have h1 := kidE.one kk hwf
    have n0 : (wr.alloc (.cells (kidE.enc kk).toArray 40)).cell? ⟨wr.heap.size, 0, none⟩ = some (.string kk.key) := jay 0 _ rfl
    have n1 : (wr.alloc (.cells (kidE.enc kk).toArray 40)).cell? ⟨wr.heap.size, 1, none⟩ = some (.int .u32 kk.num) := jay 1 _ rfl
    have HL := Lib.hid hl
    have HW := Lib.hid hwf
    clear hl hwf
    generalize kidE.enc kk = vs at *
    generalize kk.key = key at *
    generalize kk.num = num at *
    cases hnm : jfk bf key 48 with
    | false =>
     go_wp2_with (first | ((with_reducible refine jao ?_); refine jai rfl 40 (.tmp 10) rfl b (o + k * 34) rfl vs _ hatr Tryz.underlying40 rfl HK ?_) | ((with_reducible refine jab ?_); refine jaa rfl 40 (.tmp 5) (.tmp 11) rfl 40 _ rfl vs rfl (by rw [HL.out]; rfl) h1 HK ?_) | (go_at_call 246; refine (jcv _ _ _ 48).mono ?_; rintro e _ ⟨rfl, rfl⟩; rw [hnm]) | (go_at_call 107; refine (ja7 _ _).mono ?_; rintro e _ ⟨rfl, rfl⟩; rw [hbk]))
     go_ret
     refine ⟨by rw [jif, HG.out.1, hnm]; rfl, HG.out.2.alloc HG.out.2.size _⟩
    | true =>
     cases hbk : jd1 num with
     | false =>
      go_wp2_with (first | ((with_reducible refine jao ?_); refine jai rfl 40 (.tmp 10) rfl b (o + k * 34) rfl vs _ hatr Tryz.underlying40 rfl HK ?_) | ((with_reducible refine jab ?_); refine jaa rfl 40 (.tmp 5) (.tmp 11) rfl 40 _ rfl vs rfl (by rw [HL.out]; rfl) h1 HK ?_) | (go_at_call 246; refine (jcv _ _ _ 48).mono ?_; rintro e _ ⟨rfl, rfl⟩; rw [hnm]) | (go_at_call 107; refine (ja7 _ _).mono ?_; rintro e _ ⟨rfl, rfl⟩; rw [hbk]))
      go_ret
      refine ⟨by rw [jif, HG.out.1, hnm, hbk]; rfl, HG.out.2.alloc HG.out.2.size _⟩
     | true =>
      go_wp2_with (first | ((with_reducible refine jao ?_); refine jai rfl 40 (.tmp 10) rfl b (o + k * 34) rfl vs _ hatr Tryz.underlying40 rfl HK ?_) | ((with_reducible refine jab ?_); refine jaa rfl 40 (.tmp 5) (.tmp 11) rfl 40 _ rfl vs rfl (by rw [HL.out]; rfl) h1 HK ?_) | (go_at_call 246; refine (jcv _ _ _ 48).mono ?_; rintro e _ ⟨rfl, rfl⟩; rw [hnm]) | (go_at_call 107; refine (ja7 _ _).mono ?_; rintro e _ ⟨rfl, rfl⟩; rw [hbk]))
      go_roundw
      case rel =>
       refine ⟨k + 1, key, by omega, by go_num, rfl, ?_, HG.out.2.alloc HG.out.2.size _⟩
       rw [HG.out.1, hnm, hbk]; rfl
      case measure => simp [intOf]; omega
  · rw [List.drop_of_length_le (by omega), jj6] at hgo
    have hf : jif xs = (decide (0 < xs.length) && decide (xs.length ≤ 255)) := by rw [jif, hgo]; rfl
    have HG := Lib.hid (And.intro hf hB)
    clear hf hgo hB
    by_cases h0 : 0 < xs.length
    · have hd : decide (0 < xs.length) = true := by simpa using h0
      have hd2 : decide ((xs.length : Int) > 0) = true := by simp; omega
      have hd3 : decide (0 < (xs.length : Int)) = true := by simp; omega
      go_wp2
      go_ret
      refine ⟨by rw [HG.out.1, hd]; simp; omega, HG.out.2⟩
    · have hd : decide (0 < xs.length) = false := by simpa using h0
      have hd2 : decide ((xs.length : Int) > 0) = false := decide_eq_false (by omega)
      have hd3 : decide (0 < (xs.length : Int)) = false := decide_eq_false (by omega)
      go_wp2
      go_ret
      refine ⟨by rw [HG.out.1, hd]; simp, HG.out.2⟩
end Go.Proofs.YtpaohkkhejpgjaaGreatDoor
