/- Texts of the proof: Ic. -/
import Derived.Test.YthhmcjojnbaiiaaGreatDoorM31
import Derived.Test.YthhmcjojnbaiiaaGreatDoorM5
import Derived.Test.YthhmcjojnbaiiaaGreatDoorM18
set_option linter.all false
/- Items: slices.Clone, CheckChanges. -/
namespace Go.Proofs.YthhmcjojnbaiiaaGreatDoor
open Go Go.RowKit
set_option maxRecDepth 100000 in
set_option maxHeartbeats 1000000 in
theorem cloneItem_any (w : World) (v : Value) (xs : List Item) (hv : Sl itemE w v xs) (hmax : xs.length ≤ 1073741824) :
    Calls Tryz.prog 48 #[v] w fun e w' => ∃ r, e = .returned r ∧ w'.ownsRow w.heap.size 32 2 r xs.length (xs.flatMap itemE.enc) ∧ Below w.heap.size w w' := by
  obtain ⟨i0, z0, hi, hz0, hz1, hz2, hzs⟩ := info_open item_info
  obtain ⟨A, c, rfl, hc1, hc2, hrow⟩ := hv
  have HR := Lib.hid hrow
  cases A with
  | none =>
    have hx : xs = [] := by
      cases xs with
      | nil => rfl
      | cons x r => obtain ⟨b, o, e, _⟩ := hrow 0 (by simp); cases e
    subst hx
    clear hrow
    have hnil := run_eql_nil w 27 32 none 0 c Tryz.underlying27
    go_enter Tryz.func48, Tryz.ntmps48
    go_wp2_with (fail)
    go_ret
    exact ⟨_, rfl, World.ownsRow_nil _ _ _ _, Below.refl _ _⟩
  | some a =>
    clear hrow
    have hnil := run_eql_nil w 27 32 (some a) xs.length c Tryz.underlying27
    go_enter Tryz.func48, Tryz.ntmps48
    have hfl := flat_length itemE xs HR.out.wf
    have HN := Lib.hid (show ∀ j u, (xs.flatMap itemE.enc)[j]? = some u → (w.alloc (.cells #[] 32)).cell? (a.add j) = some u from by
      intro j u hj
      have hne : xs ≠ [] := by intro e; subst e; simp at hj
      obtain ⟨b, o, e, hlt⟩ := HR.out.addr hne
      injection e with e
      subst e
      rw [add_at]
      have := row_flat HR.out j u hj
      exact (World.cell?_of_block (Lib.alloc_old w _ b hlt)).trans this)
    have HF := Lib.hid (And.intro hfl (flat_one itemE xs HR.out.wf))
    clear hfl
    go_wp2_with (at_builtin; refine wpList_append_own _ rfl (.tmp 5) (.tmp 6) 27 rfl w.heap.size 32 i0 z0 2 32 Tryz.underlying27 hi hz0 hz1 hz2 hzs (by decide) _ 0 [] rfl (World.ownsRow_made w #[] 0 (Nat.le_refl _) (by unfold maxLen; omega) rfl) a xs.length c (xs.flatMap itemE.enc) rfl HF.out.1 HN.out HF.out.2 (by unfold maxLen; omega) (by omega) (by simp) ?_; intro v' w2 hown hgrow _)
    go_ret
    exact ⟨_, rfl, by have h9 := hown; simp only [Nat.zero_add, List.nil_append] at h9; exact h9, (below_box w _).grown hgrow (by simp) (fun q hq => Nat.le_of_eq (Option.some.inj (hq : some w.heap.size = some q)))⟩
def changeB (c : Change) : Bool := rightB c.key c.val && (c.has || c.val.toList.isEmpty)
def changesOk (cs : List Change) : Bool := cs.all changeB
set_option maxRecDepth 100000 in
set_option maxHeartbeats 1000000 in
theorem checkCh_any (w : World) (v : Value) (cs : List Change) (hv : Sl changeE w v cs) (hmax : cs.length ≤ 1073741824) :
    Calls Tryz.prog 78 #[v] w fun e w' => e = .returned (.int .i64 (errIf (changesOk cs) 4)) ∧ Below w.heap.size w w' := by
  obtain ⟨A, c, rfl, hc, hc2, hrow⟩ := hv
  have HR := Lib.hid hrow
  clear hrow
  go_enter Tryz.func78, Tryz.ntmps78
  go_wp2
  go_loopw [2, 4, 7, 8, 9, 10, 11, 12, 13, 14, 15, 16, 17, 18, 19, 20, 21, 22, 23, 24, 25, 26, 27] (fun _ _ i _ _ _ _ _ _ _ _ _ _ _ _ _ _ _ _ _ _ _ _ wr => ∃ k : Nat, k ≤ cs.length ∧ i = .int .i64 k ∧ (∀ j (h : j < cs.length), j < k → changeB cs[j] = true) ∧ Below w.heap.size w wr) (fun _ _ i _ _ _ _ _ _ _ _ _ _ _ _ _ _ _ _ _ _ _ _ _ => cs.length - (intOf i).toNat)
  case atStart => exact ⟨0, Nat.zero_le _, rfl, fun j _ hj => by omega, Below.refl _ _⟩
  case round =>
    obtain ⟨k, hk, rfl, hok, hB⟩ := hrel
    have HO := Lib.hid hok
    have HB := Lib.hid hB
    by_cases hlt : k < cs.length
    · obtain ⟨b, o, rfl, hat, hwf⟩ := HR.out k hlt
      have hb : b < w.heap.size := hat.lt (by simp [changeE])
      have hat2 := hat.below hB (Nat.le_refl _)
      have d0 := hat2.cell 0 _ rfl
      have d1 := hat2.cell 1 _ rfl
      have d2 := hat2.cell 2 _ rfl
      have hbr : b < wr.heap.size := Nat.lt_of_lt_of_le hb hB.size
      have hno : changeB cs[k] = false → changesOk cs = false := fun h => by
        rw [← Bool.not_eq_true]
        intro hh
        rw [List.all_eq_true.1 hh _ (List.getElem_mem hlt)] at h
        cases h
      have HN := Lib.hid hno
      have HC := Lib.hid (show changeB cs[k] = (rightB cs[k].key cs[k].val && (cs[k].has || cs[k].val.toList.isEmpty)) from rfl)
      clear hok hB hat hat2 hno hwf
      have HK := Lib.hid (show ∀ j (h : j < cs.length), j < k + 1 → changeB cs[k] = true → changeB cs[j] = true from fun j h hj h1 => by
        rcases Nat.lt_succ_iff_lt_or_eq.1 hj with h2 | h2
        · exact HO.out j h h2
        · subst h2; exact h1)
      generalize changeB cs[k] = cb at *
      generalize cs[k].key = kk at *
      generalize cs[k].val = kv at *
      generalize cs[k].has = kh at *
      simp only [changeE, Nat.add_zero] at d0 d1 d2
      cases hr : rightB kk kv with
      | false =>
        go_wp2_with (go_at_call 49; refine (itemRight_f _ _ _ hr).mono ?_; rintro e w1 ⟨rfl, rfl⟩)
        go_ret
        refine ⟨?_, HB.out.alloc HB.out.size _⟩
        rw [HN.out (by rw [HC.out, hr]; rfl)]; rfl
      | true =>
        cases kh with
        | true =>
          go_wp2_with (go_at_call 49; refine (itemRight_t _ _ _ hr).mono ?_; rintro e w1 ⟨rfl, rfl⟩)
          refine ⟨⟨k + 1, by omega, by go_num, fun j h hj => HK.out j h hj (by rw [HC.out, hr]; rfl), HB.out.alloc HB.out.size _⟩, by simp [intOf]; omega⟩
        | false =>
          cases he : kv.toList.isEmpty with
          | true =>
            have he2 : kv.toList = [] := by simpa using he
            go_wp2_with (go_at_call 49; refine (itemRight_t _ _ _ hr).mono ?_; rintro e w1 ⟨rfl, rfl⟩)
            refine ⟨⟨k + 1, by omega, by go_num, fun j h hj => HK.out j h hj (by rw [HC.out, hr, he]; rfl), HB.out.alloc HB.out.size _⟩, by simp [intOf]; omega⟩
          | false =>
            have he2 : ¬ kv.toList = [] := by simpa using he
            go_wp2_with (go_at_call 49; refine (itemRight_t _ _ _ hr).mono ?_; rintro e w1 ⟨rfl, rfl⟩)
            go_ret
            refine ⟨?_, HB.out.alloc HB.out.size _⟩
            rw [HN.out (by rw [HC.out, hr, he]; rfl)]; rfl
    · have hall : changesOk cs = true := List.all_eq_true.2 fun x hx => by
        obtain ⟨j, hj, rfl⟩ := List.getElem_of_mem hx
        exact hok j hj (by omega)
      have HA := Lib.hid hall
      clear hall hok hB
      go_wp2
      go_ret
      exact ⟨by rw [HA.out]; rfl, HB.out⟩
end Go.Proofs.YthhmcjojnbaiiaaGreatDoor
