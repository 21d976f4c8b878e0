/- Texts of the proof: V9 Va. -/
import Derived.Test.YtpaohkkhejpgjaaGreatDoorM7
import Derived.Test.YtpaohkkhejpgjaaGreatDoorM3
set_option linter.all false
set_option maxRecDepth 100000
set_option maxHeartbeats 8000000
namespace Go.Proofs.YtpaohkkhejpgjaaGreatDoor
open Go Go.RowKit
def RiseB (bs : List Blk) : Prop := (bs.map (·.num)).Pairwise (· < ·)
theorem jl7 : ∀ bs : List Blk, jdj bs = true ↔ RiseB bs
 | [] => by simp [jdj, RiseB]
 | [_] => by simp [jdj, RiseB]
 | a :: b :: r => by
  rw [jdj, Bool.and_eq_true, jl7 (b :: r), decide_eq_true_eq]
  unfold RiseB
  simp only [List.map_cons, List.pairwise_cons]
  constructor
  · rintro ⟨h, h1, h2⟩
    refine ⟨fun k hk => ?_, h1, h2⟩
    rcases List.mem_cons.1 hk with rfl | hk
    · exact h
    · exact Int.lt_trans h (h1 k hk)
  · rintro ⟨h, h1, h2⟩
    exact ⟨h _ (by simp), h1, h2⟩
theorem blk_split (bs : List Blk) (t : Int) (h : RiseB bs) : ∃ P R, bs = P ++ R ∧ (∀ p ∈ P, p.num < t) ∧ jbr bs t = P.length ∧
 ((∃ x R', R = x :: R' ∧ x.num = t ∧ jer bs t = true ∧ ∀ y ∈ R', t < y.num) ∨ (jer bs t = false ∧ ∀ y ∈ R, t < y.num)) := by
 refine ⟨bs.takeWhile (fun b => decide (b.num < t)), bs.dropWhile (fun b => decide (b.num < t)), (List.takeWhile_append_dropWhile).symm, ?_, rfl, ?_⟩
 · intro p hp
   have := List.all_eq_true.1 (List.all_takeWhile (p := fun b : Blk => decide (b.num < t)) (l := bs)) p hp
   simpa using this
 · have hget : bs[jbr bs t]? = (bs.dropWhile (fun b => decide (b.num < t))).head? := by
    have key : ∀ P R : List Blk, (P ++ R)[P.length]? = R.head? := fun P R => by rw [List.getElem?_append_right (Nat.le_refl _), Nat.sub_self, List.head?_eq_getElem?]
    have := key (bs.takeWhile (fun b => decide (b.num < t))) (bs.dropWhile (fun b => decide (b.num < t)))
    rw [List.takeWhile_append_dropWhile] at this
    exact this
   have hnot := List.head?_dropWhile_not (fun b : Blk => decide (b.num < t)) bs
   have hrd : RiseB (bs.dropWhile (fun b => decide (b.num < t))) := by
    unfold RiseB at h ⊢
    exact h.sublist ((List.dropWhile_sublist _).map _)
   have hh : jer bs t = match (bs.dropWhile (fun b => decide (b.num < t))).head? with | some x => x.num == t | none => false := by
    unfold jer hasAt
    rw [hget]
    cases (bs.dropWhile (fun b => decide (b.num < t))).head? <;> rfl
   cases hd : bs.dropWhile (fun b => decide (b.num < t)) with
   | nil =>
    rw [hd] at hh
    exact Or.inr ⟨hh, fun y hy => by simp at hy⟩
   | cons x R' =>
    rw [hd] at hh hnot hrd
    simp only [List.head?_cons] at hh hnot
    have hx : t ≤ x.num := by simpa using hnot
    have hgt : ∀ y ∈ R', x.num < y.num := by
     unfold RiseB at hrd
     rw [List.map_cons, List.pairwise_cons] at hrd
     intro y hy
     exact hrd.1 _ (List.mem_map.2 ⟨y, hy, rfl⟩)
    by_cases he : x.num = t
    · left
      refine ⟨x, R', rfl, he, by rw [hh, he]; simp, fun y hy => ?_⟩
      have := hgt y hy
      omega
    · right
      refine ⟨by rw [hh]; simpa using he, fun y hy => ?_⟩
      rcases List.mem_cons.1 hy with rfl | hy
      · omega
      · have := hgt y hy
        omega
theorem rise_parts {P R : List Blk} (h : RiseB (P ++ R)) : RiseB P ∧ RiseB R ∧ ∀ p ∈ P, ∀ r ∈ R, p.num < r.num := by
 unfold RiseB at h ⊢
 rw [List.map_append, List.pairwise_append] at h
 exact ⟨h.1, h.2.1, fun p hp r hr => h.2.2 _ (List.mem_map.2 ⟨p, hp, rfl⟩) _ (List.mem_map.2 ⟨r, hr, rfl⟩)⟩
theorem rise_mk {P R : List Blk} (h1 : RiseB P) (h2 : RiseB R) (h3 : ∀ p ∈ P, ∀ r ∈ R, p.num < r.num) : RiseB (P ++ R) := by
 unfold RiseB at h1 h2 ⊢
 rw [List.map_append, List.pairwise_append]
 refine ⟨h1, h2, fun a ha b hb => ?_⟩
 obtain ⟨p, hp, rfl⟩ := List.mem_map.1 ha
 obtain ⟨r, hr, rfl⟩ := List.mem_map.1 hb
 exact h3 p hp r hr
theorem rise_cons {x : Blk} {R : List Blk} (h1 : RiseB R) (h2 : ∀ r ∈ R, x.num < r.num) : RiseB (x :: R) := by
 unfold RiseB at h1 ⊢
 rw [List.map_cons, List.pairwise_cons]
 exact ⟨fun a ha => by obtain ⟨r, hr, rfl⟩ := List.mem_map.1 ha; exact h2 r hr, h1⟩
theorem insB_app (b : Blk) (R : List Blk) : ∀ P : List Blk, (P ++ R).insertIdx P.length b = P ++ b :: R
 | [] => by simp
 | p :: P => by
  have := insB_app b R P
  simp [this]
def lookB (bs : List Blk) (n : Int) : ByteArray := ((bs.find? (fun b => b.num == n)).map (·.data)).getD ByteArray.empty
theorem look_none {bs : List Blk} {n : Int} (h : ∀ b ∈ bs, b.num ≠ n) : bs.find? (fun b => b.num == n) = none := by
 rw [List.find?_eq_none]
 intro b hb
 simpa using h b hb
theorem jky {s : ByteArray} (h : s.toList.isEmpty = true) : s = ByteArray.empty := by
 rw [ByteArray.toList_eq, List.isEmpty_iff] at h
 exact jgq (by rw [h]; rfl)
theorem jf2 {P R : List Blk} {t n : Int} (hP : ∀ p ∈ P, p.num < t) (hR : ∀ r ∈ R, t < r.num) (x : Blk) (hx : x.num = t) :
 lookB (P ++ x :: R) n = if n = t then x.data else lookB (P ++ R) n := by
 unfold lookB
 rw [List.find?_append, List.find?_append]
 by_cases hn : n = t
 · subst hn
   rw [if_pos rfl, look_none (fun b hb => by have := hP b hb; omega), List.find?_cons_of_pos (by simpa using hx)]
   rfl
 · rw [if_neg hn, List.find?_cons_of_neg (by simp [hx]; omega)]
theorem look_at {P R : List Blk} {t n : Int} (hP : ∀ p ∈ P, p.num < t) (hR : ∀ r ∈ R, t < r.num) : lookB (P ++ R) t = ByteArray.empty := by
 unfold lookB
 rw [look_none (fun b hb => by
  rcases List.mem_append.1 hb with hb | hb
  · have := hP b hb; omega
  · have := hR b hb; omega)]
 rfl
theorem put_rise {bs : List Blk} (h : RiseB bs) (b : Blk) : RiseB (putB bs b) ∧ (∀ x ∈ putB bs b, x ∈ bs ∨ (x = b ∧ b.data.toList.isEmpty = false)) ∧ ∀ n, lookB (putB bs b) n = if n = b.num then b.data else lookB bs n := by
 obtain ⟨P, R, rfl, hP, hpos, hc⟩ := blk_split bs b.num h
 obtain ⟨r1, r2, r3⟩ := rise_parts h
 unfold putB
 rw [hpos]
 rcases hc with ⟨x, R', rfl, hx, hhas, hgt⟩ | ⟨hhas, hgt⟩
 · rw [hhas, if_pos rfl]
   obtain ⟨_, r4, _⟩ := rise_parts (P := [x]) (R := R') r2
   have hlow : ∀ p ∈ P, ∀ r ∈ R', p.num < r.num := fun p hp r hr => r3 p hp r (by simp [hr])
   cases he : b.data.toList.isEmpty with
   | true =>
    rw [if_pos rfl, List.eraseIdx_append_of_length_le (Nat.le_refl _), Nat.sub_self]
    show RiseB (P ++ R') ∧ _
    refine ⟨rise_mk r1 r4 hlow, fun y hy => Or.inl ?_, fun n => ?_⟩
    · rcases List.mem_append.1 hy with hy | hy
      · simp [hy]
      · simp [show y ∈ R' from hy]
    · show lookB (P ++ R') n = _
      rw [jf2 hP hgt x hx]
      by_cases hn : n = b.num
      · subst hn
        rw [if_pos rfl, jky he, look_at (n := b.num) hP hgt]
      · rw [if_neg hn, if_neg hn]
   | false =>
    rw [if_neg (by simp), List.set_append_right _ _ (Nat.le_refl _), Nat.sub_self]
    show RiseB (P ++ b :: R') ∧ _
    refine ⟨rise_mk r1 (rise_cons r4 hgt) (fun p hp r hr => ?_), fun y hy => ?_, fun n => ?_⟩
    · rcases List.mem_cons.1 hr with rfl | hr
      · exact hP p hp
      · exact hlow p hp r hr
    · rcases List.mem_append.1 hy with hy | hy
      · exact Or.inl (by simp [hy])
      · rcases List.mem_cons.1 hy with rfl | hy
        · exact Or.inr ⟨rfl, rfl⟩
        · exact Or.inl (by simp [hy])
    · show lookB (P ++ b :: R') n = _
      rw [jf2 hP hgt b rfl, jf2 hP hgt x hx]
      by_cases hn : n = b.num
      · rw [if_pos hn, if_pos hn]
      · rw [if_neg hn, if_neg hn, if_neg hn]
 · rw [hhas, if_neg (by simp)]
   cases he : b.data.toList.isEmpty with
   | true =>
    rw [if_pos rfl]
    refine ⟨h, fun y hy => Or.inl hy, fun n => ?_⟩
    by_cases hn : n = b.num
    · subst hn
      rw [if_pos rfl, jky he, look_at (n := b.num) hP hgt]
    · rw [if_neg hn]
   | false =>
    rw [if_neg (by simp), insB_app]
    refine ⟨rise_mk r1 (rise_cons r2 hgt) (fun p hp r hr => ?_), fun y hy => ?_, fun n => jf2 hP hgt b rfl⟩
    · rcases List.mem_cons.1 hr with rfl | hr
      · exact hP p hp
      · exact r3 p hp r hr
    · rcases List.mem_append.1 hy with hy | hy
      · exact Or.inl (by simp [hy])
      · rcases List.mem_cons.1 hy with rfl | hy
        · exact Or.inr ⟨rfl, rfl⟩
        · exact Or.inl (by simp [hy])
theorem lookB_has {bs : List Blk} (h : RiseB bs) (n : Int) : (if jer bs n then ((bs[jbr bs n]?).map (·.data)).getD ByteArray.empty else ByteArray.empty) = lookB bs n := by
 obtain ⟨P, R, rfl, hP, hpos, hc⟩ := blk_split bs n h
 rcases hc with ⟨x, R', rfl, hx, hhas, hgt⟩ | ⟨hhas, hgt⟩
 · rw [hhas, if_pos rfl, hpos, List.getElem?_append_right (Nat.le_refl _), Nat.sub_self, jf2 hP hgt x hx, if_pos rfl]
   rfl
 · rw [hhas, if_neg (by simp), look_at (n := n) hP hgt]
theorem jhf {d : Dv} (h : RiseB d.blocks) (n : Int) : readB d n = match jek d.waits n with | some b => b.data | none => lookB d.blocks n := by
 unfold readB
 cases jek d.waits n with
 | some b => rfl
 | none => exact lookB_has h n
theorem lastOf_snoc (ws : List Blk) (b : Blk) (n : Int) : jek (ws ++ [b]) n = if b.num = n then some b else jek ws n := by
 unfold jek
 rw [List.reverse_append, List.reverse_singleton, List.singleton_append]
 by_cases h : b.num = n
 · rw [if_pos h, List.find?_cons_of_pos (by simpa using h)]
 · rw [if_neg h, List.find?_cons_of_neg (by simpa using h)]
theorem lastOf_cons (ws : List Blk) (b : Blk) (n : Int) : jek (b :: ws) n = match jek ws n with | some x => some x | none => if b.num = n then some b else none := by
 unfold jek
 rw [List.reverse_cons, List.find?_append]
 cases ws.reverse.find? (fun b => b.num == n) with
 | some x => rfl
 | none =>
  by_cases h : b.num = n
  · simp [h]
  · simp [h]
theorem lastOf_mem {ws : List Blk} {n : Int} {b : Blk} (h : jek ws n = some b) : b ∈ ws ∧ b.num = n := by
 unfold jek at h
 have h1 := List.mem_of_find?_eq_some h
 have h2 := List.find?_some h
 exact ⟨by simpa using h1, by simpa using h2⟩
theorem jkz : ∀ (ws bs : List Blk), RiseB bs → RiseB (ws.foldl putB bs) ∧ (∀ x ∈ ws.foldl putB bs, x ∈ bs ∨ (x ∈ ws ∧ x.data.toList.isEmpty = false)) ∧ ∀ n, lookB (ws.foldl putB bs) n = match jek ws n with | some b => b.data | none => lookB bs n
 | [], bs, h => ⟨h, fun x hx => Or.inl hx, fun n => rfl⟩
 | b :: ws, bs, h => by
  obtain ⟨p1, p2, p3⟩ := put_rise h b
  obtain ⟨i1, i2, i3⟩ := jkz ws (putB bs b) p1
  rw [List.foldl_cons]
  refine ⟨i1, fun x hx => ?_, fun n => ?_⟩
  · rcases i2 x hx with h1 | ⟨h1, h2⟩
    · rcases p2 x h1 with h2 | ⟨rfl, h2⟩
      · exact Or.inl h2
      · exact Or.inr ⟨by simp, h2⟩
    · exact Or.inr ⟨by simp [h1], h2⟩
  · rw [i3 n, lastOf_cons]
    cases jek ws n with
    | some x => rfl
    | none =>
     simp only
     rw [p3 n]
     by_cases hn : n = b.num
     · rw [if_pos hn, if_pos hn.symm]
     · rw [if_neg hn, if_neg (fun e => hn e.symm)]
theorem jhp {α : Type} (p : α → Bool) : ∀ l : List α, (l.dropWhile p).dropWhile p = l.dropWhile p
 | [] => rfl
 | x :: r => by
  by_cases h : p x = true
  · rw [List.dropWhile_cons_of_pos h]; exact jhp p r
  · rw [List.dropWhile_cons_of_neg h, List.dropWhile_cons_of_neg h]
theorem cut_idem (s : ByteArray) : cutB (cutB s) = cutB s := by
 unfold cutB Lib.trimRightB
 simp only [List.reverse_reverse, jhp]
theorem cut_size (s : ByteArray) : (cutB s).size ≤ s.size := by
 unfold cutB Lib.trimRightB
 have h1 : (s.data.toList.reverse.dropWhile (· == 0)).length ≤ s.data.toList.reverse.length := (List.dropWhile_sublist _).length_le
 show (((s.data.toList.reverse.dropWhile (· == 0)).reverse).toArray).size ≤ _
 have h2 : s.size = s.data.toList.length := by rw [Array.length_toList]; rfl
 rw [List.size_toArray, List.length_reverse, h2]
 rw [List.length_reverse] at h1
 exact h1
structure DevOk (d : Dv) : Prop where
 lo : 16 ≤ d.size
 hi : d.size ≤ 65536
 wl : d.waits.length ≤ 16384
 bs : ∀ b ∈ d.blocks, ja3 b d.size = true ∧ b.data.toList.isEmpty = false
 ris : RiseB d.blocks
 ws : ∀ b ∈ d.waits, ja3 b d.size = true
theorem jcq (d : Dv) : devB d = true ↔ DevOk d := by
 unfold devB
 simp only [Bool.and_eq_true, decide_eq_true_eq, List.all_eq_true, Bool.not_eq_true', jl7]
 constructor
 · rintro ⟨⟨h1, h2, h3⟩, h4, h5, h6⟩; exact ⟨h1, h2, h3, h4, h5, h6⟩
 · rintro ⟨h1, h2, h3, h4, h5, h6⟩; exact ⟨⟨h1, h2, h3⟩, h4, h5, h6⟩
theorem DevOk.burn {d : Dv} (h : DevOk d) : DevOk (burnD d) := ⟨h.lo, h.hi, h.wl, h.bs, h.ris, h.ws⟩
theorem DevOk.write {d : Dv} (h : DevOk d) {num : Int} {data : ByteArray} (hn : num < d.size) (hd : data.size ≤ 512) (hw : d.waits.length < 16384) : DevOk { d with waits := d.waits ++ [⟨num, cutB data⟩] } := by
 refine ⟨h.lo, h.hi, by simp; omega, h.bs, h.ris, fun b hb => ?_⟩
 rcases List.mem_append.1 hb with hb | hb
 · exact h.ws b hb
 · rw [List.mem_singleton.1 hb]
   unfold ja3
   have := cut_size data
   rw [Bool.and_eq_true, Bool.and_eq_true, decide_eq_true_eq, decide_eq_true_eq, jga, cut_idem]
   exact ⟨hn, by simp only; omega, rfl⟩
theorem DevOk.flush {d : Dv} (h : DevOk d) : DevOk { d with blocks := d.waits.foldl putB d.blocks, waits := [] } := by
 obtain ⟨f1, f2, _⟩ := jkz d.waits d.blocks h.ris
 refine ⟨h.lo, h.hi, by simp, fun b hb => ?_, f1, fun b hb => by simp at hb⟩
 rcases f2 b hb with hb | ⟨hb, he⟩
 · exact h.bs b hb
 · exact ⟨h.ws b hb, he⟩
theorem write_ok {d : Dv} (h : DevOk d) (hdn : d.down = false) (hf : d.fuse ≠ 0) {num : Int} {data : ByteArray} (hn : num < d.size) (hd : data.size ≤ 512) (hw : d.waits.length < 16384) :
 jbg d num data = (burnD { d with waits := d.waits ++ [⟨num, cutB data⟩] }, 0) := by
 have he : jes d num data = 0 := by
  unfold jes
  rw [hdn, if_neg (by simp), if_neg (by omega), if_neg (by omega), if_neg (by omega)]
 have hb : (burnD d).down = false := by
  unfold burnD
  simp [hdn, hf]
 unfold jbg
 rw [if_neg (by rw [(jcq d).2 h]; simp), if_neg (by rw [he]; simp), hb]
 rfl
theorem flush_ok {d : Dv} (h : DevOk d) (hdn : d.down = false) (hf : d.fuse ≠ 0) : jbs d = ({ burnD d with blocks := d.waits.foldl putB d.blocks, waits := [] }, 0) := by
 have hb : (burnD d).down = false := by
  unfold burnD
  simp [hdn, hf]
 unfold jbs
 rw [if_neg (by rw [(jcq d).2 h]; simp), hdn, if_neg (by simp), hb, if_neg (by simp)]
theorem read_write {d : Dv} (h : RiseB d.blocks) (num : Int) (x : ByteArray) (n : Int) : readB { d with waits := d.waits ++ [⟨num, x⟩] } n = if num = n then x else readB d n := by
 rw [jhf (d := { d with waits := d.waits ++ [⟨num, x⟩] }) h, jhf h]
 simp only [lastOf_snoc]
 by_cases hn : num = n
 · rw [if_pos hn, if_pos hn]
 · rw [if_neg hn, if_neg hn]
theorem read_flush {d : Dv} (h : RiseB d.blocks) (n : Int) : readB { d with blocks := d.waits.foldl putB d.blocks, waits := [] } n = readB d n := by
 obtain ⟨f1, _, f3⟩ := jkz d.waits d.blocks h
 rw [jhf (d := { d with blocks := d.waits.foldl putB d.blocks, waits := [] }) f1, jhf h]
 show lookB (d.waits.foldl putB d.blocks) n = _
 rw [f3 n]
end Go.Proofs.YtpaohkkhejpgjaaGreatDoor
