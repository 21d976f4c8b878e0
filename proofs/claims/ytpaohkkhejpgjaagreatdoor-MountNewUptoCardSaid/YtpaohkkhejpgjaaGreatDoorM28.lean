/- Texts of the proof: W4 W5 No. -/
import Derived.Test.YtpaohkkhejpgjaaGreatDoorM27
import Derived.Test.YtpaohkkhejpgjaaGreatDoorM12
set_option linter.all false
set_option maxRecDepth 100000
set_option maxHeartbeats 8000000
namespace Go.Proofs.YtpaohkkhejpgjaaGreatDoor
open Go Go.RowKit
structure Wt where
 dev : Dv
 why : Int
def jdc (w : Wt) (num : Int) (data : ByteArray) : Wt := if w.why = 0 then ⟨(jbg w.dev num data).1, (jbg w.dev num data).2⟩ else w
def jd6 (w : Wt) : Wt := if w.why = 0 then ⟨(jbs w.dev).1, (jbs w.dev).2⟩ else w
def jdq : Node := ⟨3, [], [], []⟩
def noneB : ByteArray := wholeB jdq
def jbj (nb : ByteArray) (size : Int) : Sup := ⟨size, 1, 2, shaOf nb.data.toList⟩
def jiz (size : Int) : Sup := jbj noneB size
def jgj (d : Dv) : Wt := jd6 (jdc (jdc (jd6 (jdc ⟨d, 0⟩ 2 noneB)) 1 (jbl (jiz d.size))) 0 ByteArray.empty)
def jc1 (d : Dv) : Dv × Int := if devB d = false then (noDev, 7) else ((jgj d).dev, (jgj d).why)
structure Rdy (d : Dv) (m : Nat) : Prop where
 ok : DevOk d
 fuse : d.fuse = -1
 up : d.down = false
 waits : d.waits.length ≤ m
theorem burn_still {d : Dv} (hf : d.fuse = -1) (hd : d.down = false) : burnD d = d := by
 cases d
 simp only at hf hd
 subst hf
 subst hd
 rfl
theorem Rdy.write {d : Dv} {m : Nat} (h : Rdy d m) (hm : m < 16384) {num : Int} {data : ByteArray} (hn : num < d.size) (hd : data.size ≤ 512) (hcut : cutB data = data) :
 (jbg d num data).2 = 0 ∧ Rdy (jbg d num data).1 (m + 1) ∧ (jbg d num data).1.size = d.size ∧ ∀ n, readB (jbg d num data).1 n = if num = n then data else readB d n := by
 have hw := h.waits
 rw [write_ok h.ok h.up (by rw [h.fuse]; decide) hn hd (by omega), burn_still (d := { d with waits := d.waits ++ [⟨num, cutB data⟩] }) h.fuse h.up, hcut]
 refine ⟨rfl, ⟨?_, h.fuse, h.up, by simp; omega⟩, rfl, fun n => read_write h.ok.ris num data n⟩
 have := h.ok.write (num := num) (data := data) hn hd (by omega)
 rw [hcut] at this
 exact this
theorem Rdy.flush {d : Dv} {m : Nat} (h : Rdy d m) : (jbs d).2 = 0 ∧ Rdy (jbs d).1 0 ∧ (jbs d).1.size = d.size ∧ ∀ n, readB (jbs d).1 n = readB d n := by
 rw [flush_ok h.ok h.up (by rw [h.fuse]; decide), burn_still h.fuse h.up]
 exact ⟨rfl, ⟨h.ok.flush, h.fuse, h.up, by simp⟩, rfl, fun n => read_flush h.ok.ris n⟩
theorem Rdy.read {d : Dv} {m : Nat} (h : Rdy d m) {n : Int} (hn : n < d.size) : readD d n = (readB d n, 0) := by
 unfold readD
 rw [if_neg (by rw [(jcq d).2 h.ok]; simp), h.up, if_neg (by simp), if_neg (by omega)]
theorem ji0 (l : List UInt8) : cutB ⟨(jcw l).toArray⟩ = ⟨(jcw l).toArray⟩ := by
 unfold jcw
 exact cut_idem ⟨((numB (crcOf (padTo 508 l)) 4).data.toList ++ padTo 508 l).toArray⟩
theorem cut_empty : cutB ByteArray.empty = ByteArray.empty := rfl
theorem jmg : jcd jdq = 0 ∧ jfn jdq := ⟨by decide, by refine ⟨?_, ?_, ?_⟩ <;> intro x hx <;> simp [jdq] at hx⟩
theorem none_dec : decB noneB = true ∧ decN noneB = jdq := dec_enc jdq jmg.1 jmg.2
theorem jjx : noneB.size ≤ 512 := by
 have h := none_dec.1
 unfold decB at h
 simp only [Bool.and_eq_true, decide_eq_true_eq] at h
 exact h.1
theorem sup_ok {size g : Int} (h : 16 ≤ size) (h2 : size ≤ 65536) (hg : 1 ≤ g) (hg2 : g ≤ 4611686018427387904) (hash : List Int) : supB ⟨size, g, 2, hash⟩ = true := by
 unfold supB jd1
 simp only [Bool.and_eq_true, decide_eq_true_eq]
 exact ⟨⟨h, h2⟩, ⟨hg, hg2⟩, ⟨by omega, by omega⟩, by omega⟩
structure NoneD (nb : ByteArray) : Prop where
 dec : decB nb = true ∧ decN nb = jdq
 small : nb.size ≤ 512
 cut : cutB nb = nb
theorem jk1 : NoneD noneB := ⟨none_dec, jjx, ji0 _⟩
structure Fmt (nb : ByteArray) (e : Dv) (size : Int) : Prop where
 rdy : Rdy e 0
 siz : e.size = size
 r0 : readB e 0 = ByteArray.empty
 r1 : readB e 1 = jbl (jbj nb size)
 r2 : readB e 2 = nb
theorem jmh (nb : ByteArray) : jd7 (shaOf nb.data.toList) := jgc _
theorem ji1 (s : Sup) (hs : supB s = true) (hh : jd7 s.hash) : (jbl s).size ≤ 512 := (sup_enc s hs hh).1
theorem format_rdy {d : Dv} {m : Nat} (h : Rdy d m) (hm : m < 16384) : (jc1 d).2 = 0 ∧ Fmt noneB (jc1 d).1 d.size := by
 have hlo := h.ok.lo
 have hhi := h.ok.hi
 have hsb : supB (jiz d.size) = true := sup_ok hlo hhi (by decide) (by decide) _
 obtain ⟨a1, a2, a3, a4⟩ := h.write hm (num := 2) (data := noneB) (by omega) jjx (ji0 _)
 obtain ⟨b1, b2, b3, b4⟩ := a2.flush
 obtain ⟨c1, c2, c3, c4⟩ := b2.write (by omega) (num := 1) (data := jbl (jiz d.size)) (by omega) (ji1 _ hsb (jmh _)) (ji0 _)
 obtain ⟨d1, d2, d3, d4⟩ := c2.write (by omega) (num := 0) (data := ByteArray.empty) (by omega) (by decide) cut_empty
 obtain ⟨e1, e2, e3, e4⟩ := d2.flush
 have hw : jgj d = ⟨(jbs (jbg (jbg (jbs (jbg d 2 noneB).1).1 1 (jbl (jiz d.size))).1 0 ByteArray.empty).1).1, 0⟩ := by
  unfold jgj jd6 jdc
  simp only [a1, b1, c1, d1, e1, if_true]
 unfold jc1
 rw [if_neg (by rw [(jcq d).2 h.ok]; simp), hw]
 refine ⟨rfl, e2, e3.trans (d3.trans (c3.trans (b3.trans a3))), ?_, ?_, ?_⟩
 · rw [e4, d4, if_pos rfl]
 · rw [e4, d4, if_neg (by decide), c4, if_pos rfl]; rfl
 · rw [e4, d4, if_neg (by decide), c4, if_neg (by decide), b4, a4, if_pos rfl]
theorem format_inv {d : Dv} (hf : d.fuse = -1) (h0 : (jc1 d).2 = 0) : ∃ m, m < 16384 ∧ Rdy d m := by
 unfold jc1 at h0
 cases hd : devB d with
 | false => rw [if_pos hd] at h0; simp at h0
 | true =>
  rw [if_neg (by rw [hd]; simp)] at h0
  have he : jes d 2 noneB = 0 := by
   by_cases he : jes d 2 noneB = 0
   · exact he
   · exfalso
     have h1 : (jbg d 2 noneB).2 ≠ 0 := by
      unfold jbg
      rw [if_neg (by rw [hd]; simp), if_pos he]
      exact he
     apply h1
     have h2 : jgj d = ⟨(jbg d 2 noneB).1, (jbg d 2 noneB).2⟩ := by
      unfold jgj jd6 jdc
      simp only [if_true, if_neg h1]
     rw [h2] at h0
     exact h0
  unfold jes at he
  cases hdn : d.down with
  | true => rw [hdn, if_pos rfl] at he; simp at he
  | false =>
   rw [hdn, if_neg (by simp)] at he
   by_cases h1 : d.size ≤ 2
   · rw [if_pos h1] at he; simp at he
   · rw [if_neg h1, if_neg (by have := jjx; omega)] at he
     by_cases h2 : 16384 ≤ d.waits.length
     · rw [if_pos h2] at he; simp at he
     · exact ⟨d.waits.length, by omega, (jcq d).1 hd, hf, hdn, Nat.le_refl _⟩
theorem numT_zero (k : Nat) (r : List UInt8) (hk : k ≤ 8) : numT (tkL (numU 0 k ++ r)) k = (0, tkL r) := jd3 0 k r (Int.le_refl _) (by
 have : (0 : Int) < 256 ^ k := Int.pow_pos (by decide)
 exact this) hk
theorem dec_empty : jcj ByteArray.empty = none := by
 have h1 : supTk ByteArray.empty = tkL (numU 0 4 ++ List.replicate 502 0) := by
  unfold supTk tkL
  refine tk_ext (jgq ?_)
  rw [Lib.extract_data]
  show List.take (512 - 6) (List.drop 6 (padTo 512 [])) = _
  unfold padTo
  rfl
 have h2 : supB (supOf ByteArray.empty) = false := by
  unfold supB supOf
  rw [h1, numT_zero 4 _ (by omega)]
  simp
 unfold jcj
 rw [h2]
 simp
theorem load_tab {nb : ByteArray} (hnb : NoneD nb) {d : Dv} {m : Nat} (h : Rdy d m) (h2 : readB d 2 = nb) {k : Kid} (hn : k.num = 2) (hk : k.hash = shaOf nb.data.toList) (f : Nat) (cs : List CC) :
 loadS d (f + 1) true k cs = if jba (jaj cs) 2 = true then (true, cs.map (rUp 2)) else (true, insCC (newL 2 nb) cs) := by
 have hlo := h.ok.lo
 have hr : readD d 2 = (nb, 0) := by rw [h.read (by omega), h2]
 have hok : jda d k true = true := by
  unfold jda
  rw [hn, hr]
  simp only [hnb.dec.1, hnb.dec.2, hk]
  decide
 unfold loadS
 rw [hok, if_neg (by simp), hn]
 by_cases hh : jba (jaj cs) 2 = true
 · rw [if_pos hh, if_pos hh]
 · rw [if_neg hh, if_neg hh, hr, hnb.dec.2]
   rfl
theorem jmi {nb : ByteArray} (hnb : NoneD nb) {e : Dv} {size : Int} (h : Fmt nb e size) : jcz e = (⟨e, ⟨size, [⟨2, nb, 2⟩]⟩, noSup, jbj nb size, false, true, tabOf (jbj nb size)⟩, 0) := by
 obtain ⟨hr, rfl, r0, r1, r2⟩ := h
 have hlo := hr.ok.lo
 have hhi := hr.ok.hi
 have hsb : supB (jbj nb e.size) = true := sup_ok hlo hhi (by decide) (by decide) _
 have ho : jcm (readD e 0).1 (readD e 1).1 = [jbj nb e.size] := by
  rw [hr.read (by omega), hr.read (by omega), r0, r1]
  unfold jcm
  rw [dec_empty, dec_sup _ hsb (jmh nb)]
  rfl
 unfold jcz
 rw [if_neg (by rw [(jcq e).2 hr.ok]; simp), hr.up, if_neg (by simp), ho]
 have hl := load_tab hnb hr r2 (k := tabOf (jbj nb e.size)) rfl rfl 65536 []
 have hst : jc5 e mt0 (jbj nb e.size) = ⟨[newL 2 nb], noSup, jbj nb e.size, false, true, tabOf (jbj nb e.size)⟩ := by
  unfold jc5
  have hl' : loadS e 65537 true (tabOf (jbj nb e.size)) mt0.cs = (true, [newL 2 nb]) := hl
  rw [hl', if_neg (by simp [jbj])]
  rfl
 show mtEnd e (jc5 e mt0 (jbj nb e.size)) = _
 rw [hst]
 rfl
def noHp : Hp := ⟨0, []⟩
def holdE (cs : List CC) (num : Int) : Int := match jc6 cs num with
 | none => 5
 | some c => if c.refs = 16777216 then 1 else 0
def holdS (h : Hp) (num : Int) : Hp × Int :=
 if openB h = false then (noHp, 7)
 else if holdE (jav h) num ≠ 0 then (jfi h.size (jav h), holdE (jav h) num)
 else (jfi h.size ((jav h).map (rUp num)), 0)
def rDn (t : Int) (c : CC) : CC := if c.num = t then { c with refs := c.refs - 1 } else c
def lDn (t : Int) (c : CC) : CC := if c.num = t then { c with led := c.led - 1 } else c
def kidsOf (cs : List CC) (t : Int) : List Int := ((jc6 cs t).map (fun c => jbk c.node)).getD []
def letS : Nat → Int → List CC → List CC
 | 0, _, cs => cs
 | f + 1, t, cs =>
  if je3 cs t - 1 = 0 then
   (kidsOf cs t).foldl (fun cs k => if jba (jaj cs) k then letS f k (cs.map (lDn k)) else cs) ((cs.map (rDn t)).eraseIdx (ja5 (jaj cs) t))
  else cs.map (rDn t)
def dropE (cs : List CC) (num : Int) : Int := match jc6 cs num with
 | none => 5
 | some c => if c.refs = c.led then 7 else 0
def dropS (h : Hp) (num : Int) : Hp × Int :=
 if openB h = false then (noHp, 7)
 else if dropE (jav h) num ≠ 0 then (jfi h.size (jav h), dropE (jav h) num)
 else (jfi h.size (letS (h.cells.length + 1) num (jav h)), 0)
def swapS (s : Sto) (h : Hp) (k : Kid) : Sto × Int :=
 if jdm s = false then (noSto, 7)
 else if jdm { s with heap := h, table := k } = false then (s, 4)
 else ({ s with heap := h, table := k }, 0)
def jbh (s : Sto) : List Sup := (if s.v0 then [s.s0] else []) ++ (if s.v1 then [s.s1] else [])
def genS (s : Sto) : Int := (jbh s).foldl (fun n x => max n x.gen) 0
def ja1 (s : Sto) : Sup := ⟨s.dev.size, genS s + 1, s.table.num, s.table.hash⟩
def validAt (s : Sto) (i : Int) : Bool := if i = 0 then s.v0 else s.v1
def slotAt (s : Sto) (i : Int) : Sup := if i = 0 then s.s0 else s.s1
def jdo (H : Int → Bool) (w : Wt) (cs : List Cel) : Wt := cs.foldl (fun w c => if H c.num then w else jdc w c.num c.data) w
def jg4 (s : Sto) (H : Int → Bool) : Wt := jd6 (jdc (jd6 (jdo H ⟨s.dev, 0⟩ s.heap.cells)) (slotS (ja1 s)) (jbl (ja1 s)))
def commitH (s : Sto) : Hp :=
 if validAt s (slotS (ja1 s)) then (dropS (holdS s.heap s.table.num).1 (slotAt s (slotS (ja1 s))).table).1 else (holdS s.heap s.table.num).1
def jhh (s : Sto) (d : Dv) (h : Hp) (x : Sup) : Sto :=
 ⟨d, h, if slotS x = 0 then x else s.s0, if slotS x = 0 then s.s1 else x, s.v0 || decide (slotS x = 0), s.v1 || !decide (slotS x = 0), s.table⟩
def jep (s : Sto) (H : Int → Bool) : Sto × Int :=
 if jdm s = false then (noSto, 7)
 else if genS s = 4611686018427387904 then (s, 1)
 else if (jg4 s H).why ≠ 0 then ({ noSto with dev := (jg4 s H).dev }, (jg4 s H).why)
 else (jhh s (jg4 s H).dev (commitH s) (ja1 s), 0)
def sto1 (nb : ByteArray) (e : Dv) (size : Int) : Sto := ⟨e, ⟨size, [⟨2, nb, 2⟩]⟩, noSup, jbj nb size, false, true, tabOf (jbj nb size)⟩
def sup2 (nb : ByteArray) (size : Int) : Sup := ⟨size, 2, 2, shaOf nb.data.toList⟩
def sto2 (nb : ByteArray) (e : Dv) (size : Int) : Sto := ⟨e, ⟨size, [⟨2, nb, 3⟩]⟩, sup2 nb size, jbj nb size, true, true, tabOf (jbj nb size)⟩
theorem jjy {nb : ByteArray} (hnb : NoneD nb) {e : Dv} {size : Int} (h : Fmt nb e size) : jdm (sto1 nb e size) = true := by
 have h1 := jh5 e (by rw [jmi hnb h])
 rw [jmi hnb h] at h1
 exact h1.1
theorem opened_one {nb : ByteArray} (hnb : NoneD nb) (size r : Int) : jav ⟨size, [⟨2, nb, r⟩]⟩ = [⟨2, nb, r, jdq, shaOf nb.data.toList, 0⟩] := by
 unfold jav
 have hk : ([⟨2, nb, r⟩] : List Cel).map cc1 = [⟨2, nb, r, jdq, shaOf nb.data.toList, 0⟩] := by
  show [cc1 ⟨2, nb, r⟩] = _
  unfold cc1
  rw [hnb.dec.2]
 have ha : jaz [(⟨2, nb, r, jdq, shaOf nb.data.toList, 0⟩ : CC)] = [] := rfl
 show bumps (jaz (([⟨2, nb, r⟩] : List Cel).map cc1)) (([⟨2, nb, r⟩] : List Cel).map cc1) = _
 rw [hk, ha]
 rfl
theorem commit_new {nb : ByteArray} (hnb : NoneD nb) {e : Dv} {size : Int} (h : Fmt nb e size) (H : Int → Bool) : ∃ f, jep (sto1 nb e size) H = (sto2 nb f size, 0) ∧ jcz f = (sto2 nb f size, 0) := by
 have hc := jjy hnb h
 obtain ⟨hr, rfl, r0, r1, r2⟩ := h
 have hlo := hr.ok.lo
 have hhi := hr.ok.hi
 have hx : ja1 (sto1 nb e e.size) = sup2 nb e.size := rfl
 have hsb : supB (sup2 nb e.size) = true := sup_ok hlo hhi (by decide) (by decide) _
 have hsf : supB (jbj nb e.size) = true := sup_ok hlo hhi (by decide) (by decide) _
 have hw0 : ∃ e0, jdo H ⟨e, 0⟩ (sto1 nb e e.size).heap.cells = ⟨e0, 0⟩ ∧ Rdy e0 1 ∧ e0.size = e.size ∧ ∀ n, readB e0 n = readB e n := by
  show ∃ e0, (if H 2 then (⟨e, 0⟩ : Wt) else jdc ⟨e, 0⟩ 2 nb) = ⟨e0, 0⟩ ∧ _
  cases H 2 with
  | true => exact ⟨e, rfl, ⟨hr.ok, hr.fuse, hr.up, Nat.le_trans hr.waits (by omega)⟩, rfl, fun n => rfl⟩
  | false =>
   obtain ⟨a1, a2, a3, a4⟩ := hr.write (by omega) (num := 2) (data := nb) (by omega) hnb.small hnb.cut
   refine ⟨(jbg e 2 nb).1, ?_, a2, a3, fun n => ?_⟩
   · show jdc ⟨e, 0⟩ 2 nb = _
     unfold jdc
     rw [if_pos rfl, a1]
   · rw [a4]
     by_cases hn : 2 = n
     · rw [if_pos hn, ← hn, r2]
     · rw [if_neg hn]
 obtain ⟨e0, hw0, q0, z0, y0⟩ := hw0
 obtain ⟨b1, b2, b3, b4⟩ := q0.flush
 obtain ⟨d1, d2, d3, d4⟩ := b2.write (by omega) (num := 0) (data := jbl (sup2 nb e.size)) (by omega) (ji1 _ hsb (jmh nb)) (ji0 _)
 obtain ⟨e1, e2, e3, e4⟩ := d2.flush
 have hwc : jg4 (sto1 nb e e.size) H = ⟨(jbs (jbg (jbs e0).1 0 (jbl (sup2 nb e.size))).1).1, 0⟩ := by
  unfold jg4
  rw [hx]
  show jd6 (jdc (jd6 (jdo H ⟨e, 0⟩ (sto1 nb e e.size).heap.cells)) _ _) = _
  rw [hw0]
  show jd6 (jdc (jd6 ⟨e0, 0⟩) 0 (jbl (sup2 nb e.size))) = _
  unfold jd6 jdc
  simp only [b1, d1, e1, if_true]
 have hh : (holdS (sto1 nb e e.size).heap 2).1 = ⟨e.size, [⟨2, nb, 3⟩]⟩ := by
  have ho : openB (sto1 nb e e.size).heap = true := by
   unfold jdm at hc
   simp only [Bool.and_eq_true] at hc
   exact hc.2.1
  unfold holdS
  rw [if_neg (by rw [ho]; simp)]
  show (if holdE (jav ⟨e.size, [⟨2, nb, 2⟩]⟩) 2 ≠ 0 then _ else (jfi e.size ((jav ⟨e.size, [⟨2, nb, 2⟩]⟩).map (rUp 2)), (0 : Int))).1 = _
  rw [opened_one hnb]
  rfl
 have hch : commitH (sto1 nb e e.size) = ⟨e.size, [⟨2, nb, 3⟩]⟩ := by
  unfold commitH
  rw [hx]
  exact hh
 generalize hf : (jbs (jbg (jbs e0).1 0 (jbl (sup2 nb e.size))).1).1 = f at *
 refine ⟨f, ?_, ?_⟩
 · unfold jep
   rw [hc, if_neg (by simp), hwc, hch, hx, if_neg (show ¬ genS (sto1 nb e e.size) = 4611686018427387904 by show ¬ (max (0 : Int) 1) = 4611686018427387904; decide), if_neg (by simp)]
   rfl
 · have hfs : f.size = e.size := by omega
   have x0 : readB f 0 = jbl (sup2 nb e.size) := by rw [e4, d4, if_pos rfl]
   have x1 : readB f 1 = jbl (jbj nb e.size) := by rw [e4, d4, if_neg (by decide), b4, y0, r1]
   have x2 : readB f 2 = nb := by rw [e4, d4, if_neg (by decide), b4, y0, r2]
   have ho : jcm (readD f 0).1 (readD f 1).1 = [sup2 nb e.size, jbj nb e.size] := by
    rw [e2.read (by omega), e2.read (by omega), x0, x1]
    unfold jcm
    rw [dec_sup _ hsf (jmh nb), dec_sup _ hsb (jmh nb)]
    rfl
   unfold jcz
   rw [if_neg (by rw [(jcq f).2 e2.ok]; simp), e2.up, if_neg (by simp), ho]
   have hst : jc5 f mt0 (sup2 nb e.size) = ⟨[newL 2 nb], sup2 nb e.size, noSup, true, false, tabOf (sup2 nb e.size)⟩ := by
    unfold jc5
    have hl' : loadS f 65537 true (tabOf (sup2 nb e.size)) mt0.cs = (true, [newL 2 nb]) := load_tab hnb e2 x2 (k := tabOf (sup2 nb e.size)) rfl rfl 65536 []
    rw [hl', if_neg (by simp [sup2, hfs])]
    rfl
   have hst2 : jc5 f (jc5 f mt0 (sup2 nb e.size)) (jbj nb e.size) = ⟨[{ newL 2 nb with refs := 2 }], sup2 nb e.size, jbj nb e.size, true, true, tabOf (sup2 nb e.size)⟩ := by
    rw [hst]
    unfold jc5
    have hl' : loadS f 65537 true (tabOf (jbj nb e.size)) [newL 2 nb] = (true, [{ newL 2 nb with refs := 2 }]) := load_tab hnb e2 x2 (k := tabOf (jbj nb e.size)) rfl rfl 65536 [newL 2 nb]
    rw [hl', if_neg (by simp [jbj, hfs])]
    rfl
   show mtEnd f (jc5 f (jc5 f mt0 (sup2 nb e.size)) (jbj nb e.size)) = _
   rw [hst2]
   unfold mtEnd
   rw [hfs]
   rfl
theorem namedHO_any (w : World) (v : Value) (n : Node) (hv : NodeV w v n) (hl : n.kids.length ≤ 100000 ∧ n.vols.length ≤ 100000) :
 Calls Tryz.prog 109 #[v] w fun e w' => ∃ r, e = .returned r ∧ (Sl kidE w' r (jcn n) ∧ ∀ g, r.ownBlock = some g → w.heap.size ≤ g) ∧ Below w.heap.size w w' := by
 obtain ⟨i0, z0, hi, hz0, hz1, hz2, hzs⟩ := jbw kid_info
 obtain ⟨va, vb, vc, rfl, ha, hb0, hc0, hk0, hk1⟩ := hv
 obtain ⟨A, ca, rfl, ha1, ha2, hra⟩ := ha
 obtain ⟨B, cb, rfl, hb1, hb2, hrb⟩ := hb0
 obtain ⟨C, cc, rfl, hc1, hc2, hrc⟩ := hc0
 have HR := Lib.hid (And.intro hra (And.intro hrb hrc))
 have HB := Lib.hid ((Below.refl w.heap.size w).alloc (Nat.le_refl _) (.cells #[.int .u8 n.kind, .slice A n.items.length ca, .slice B n.kids.length cb, .slice C n.vols.length cc] 59))
 obtain ⟨hl1, hl2⟩ := hl
 clear hra hrb hrc
 generalize n.kind = kd at *
 go_enter Tryz.func109, Tryz.ntmps109
 go_wp2
 go_loopw [3, 5, 11, 12, 13, 14, 15, 16, 17, 18, 19, 20, 21, 22, 23] (fun s _ i _ _ _ _ _ _ _ _ _ _ _ _ wr => ∃ k : Nat, k ≤ n.kids.length ∧ i = .int .i64 k ∧ wr.ownsRow w.heap.size 40 34 s k (((n.kids.take k).map jcx).flatMap kidE.enc) ∧ Below w.heap.size w wr ∧ wr.heap[w.heap.size]? = some (.cells #[.int .u8 kd, .slice A n.items.length ca, .slice B n.kids.length cb, .slice C n.vols.length cc] 59 (0, 0))) (fun _ _ i _ _ _ _ _ _ _ _ _ _ _ _ _ => n.kids.length - (intOf i).toNat)
 case atStart => exact ⟨0, Nat.zero_le _, rfl, ⟨rfl, Or.inl ⟨rfl, rfl⟩⟩, HB.out, heap_alloc_new _ _⟩
 case round =>
  obtain ⟨k, hk, rfl, hown, hB, hbox⟩ := hrel
  by_cases hlt : k < n.kids.length
  · obtain ⟨b, o, rfl, hat, hwf⟩ := HR.out.2.1 k hlt
    have hb : b < w.heap.size := hat.lt (by simp [kidE])
    have hatr := hat.below hB (Nat.le_refl _)
    have hbr : b < wr.heap.size := Nat.lt_of_lt_of_le hb hB.size
    have htk : ((n.kids.take (k + 1)).map jcx).flatMap kidE.enc = ((n.kids.take k).map jcx).flatMap kidE.enc ++ kidE.enc (jcx n.kids[k]) := by
     rw [List.take_succ_eq_append_getElem hlt, List.map_append, List.flatMap_append]; simp
    have HG := Lib.hid (And.intro htk (And.intro hB hbox))
    have hbs := hB.size
    have hbl := lt_of_block hbox
    clear hB hat htk hbox
    generalize n.kids[k] = kk at *
    have HK := jc7 kk hwf
    have hl := kidE.len kk hwf
    have h1' := kidE.one kk hwf
    have n1 : (wr.alloc (.cells (kidE.enc kk).toArray 40)).cell? ⟨wr.heap.size, 1, none⟩ = some (.int .u32 kk.num) := jay 1 _ rfl
    have n2 := hash_at (new_at wr (kidE.enc kk) 40)
    have HH := jfh hwf.2.2
    have hnl : (kidE.enc (jcx kk)).length = 34 := kidE.len _ (jhb hwf)
    have hn1 := kidE.one _ (jhb hwf)
    have hbk : Tryz.prog.built 40 [(1, .int .u32 kk.num), (2, .agg (hashV kk.hash).toArray)] = some (kidE.enc (jcx kk)).toArray := jgp _ _ hwf.2.2.1
    have HL := Lib.hid (And.intro hl (And.intro hnl hbk))
    clear hl hwf hnl hbk
    generalize kidE.enc kk = vs at *
    generalize kidE.enc (jcx kk) = us at *
    generalize hashV kk.hash = hs at *
    generalize kk.num = num at *
    obtain ⟨ha, hha⟩ : ∃ ha, hs.toArray = ha := ⟨_, rfl⟩
    obtain ⟨ua, hua⟩ : ∃ ua, us.toArray = ua := ⟨_, rfl⟩
    have HA := Lib.hid (And.intro hha hua)
    have hsz : ua.size = 34 := by rw [← hua]; simpa using HL.out.2.1
    have HSZ := Lib.hid hsz
    rw [hha, hua] at HL
    clear hha hua hsz
    generalize hzs : ((n.kids.take k).map jcx).flatMap kidE.enc = zs at *
    clear hzs
    go_wp2_with (first
     | ((with_reducible refine jbv 40 ?_); refine jai rfl 40 (.tmp 13) rfl b (o + k * 34) rfl vs _ hatr Tryz.underlying40 rfl HK ?_)
     | ((with_reducible refine jam 40 ?_); refine jaa rfl 40 (.tmp 5) (.tmp 14) rfl 40 _ rfl vs rfl (by rw [HL.out.1]; rfl) h1' HK ?_)
     | ((with_reducible refine jbv 34 ?_); refine jae rfl 34 (.tmp 18) rfl wr.heap.size 2 rfl hs _ n2 Tryz.underlying34 rfl HH ha HA.out.1 ?_)
     | ((with_reducible refine jar 40 ?_); go_loud (refine jah rfl 40 _ rfl [(1, .int .u32 num), (2, .agg ha)] rfl ua HL.out.2.2 ?_))
     | ((with_reducible refine jf8 56 1 ?_); refine jdn rfl 56 40 (.tmp 20) rfl ua rfl 34 Tryz.underlying56 ⟨i0, z0, hi, hz0, hz1, hzs⟩ HSZ.out (by decide) (by decide) (wr.heap.size + 1) (by simp) ?_)
     | (at_builtin; go_loud (refine wpList_append_own _ rfl (.tmp 15) (.tmp 21) 56 rfl w.heap.size 40 i0 z0 34 56 Tryz.underlying56 hi hz0 hz1 hz2 hzs (by decide) _ _ _ rfl ((hown.alloc _).alloc _) ⟨wr.heap.size + 1, 0, none⟩ 1 1 us rfl HL.out.2.1 ?c1 ?c2 ?c3 ?c4 ?c5 ?_)))
    case c1 => intro j u hj; rw [jcl, Nat.zero_add]; have := jay (w := wr.alloc (.cells vs.toArray 40)) (vs := us) (t := 40) j u hj; rw [HA.out.2] at this; simpa using this
    case c2 => exact hn1
    case c3 => unfold maxLen; omega
    case c4 => omega
    case c5 => simp; omega
    intro v' w2 hown' hgrow _
    go_wp2
    refine ⟨⟨k + 1, by omega, by go_num, ?_, ?_, ?_⟩, by simp [intOf]; omega⟩
    · rw [HG.out.1]; exact hown'
    · exact ((HG.out.2.1.alloc hbs _).alloc (by simp; omega) _).grown hgrow (by simp; omega) (fun q hq => (hown.lt q hq).1)
    · rw [hgrow.block _ (by simp; omega) (fun e => jb8 ((hown.alloc (.cells vs.toArray 40)).alloc (.cells ua 40)) ((Lib.alloc_old _ _ _ (by simp; omega)).trans ((Lib.alloc_old _ _ _ hbl).trans HG.out.2.2)) (by decide) e.symm), Lib.alloc_old _ _ _ (by simp; omega), Lib.alloc_old _ _ _ hbl]
      exact HG.out.2.2
  · obtain rfl : k = n.kids.length := by omega
    rw [List.take_length] at hown
    have c3 : wr.cell? ⟨w.heap.size, 3, none⟩ = some (.slice C n.vols.length cc) := by rw [cell_of_row _ _ _ _ _ _ hbox]; rfl
    have HX := Lib.hid (And.intro hown (And.intro hB hbox))
    have hbl0 := lt_of_block hbox
    clear hown hB hbox
    obtain ⟨wx, hwx⟩ : ∃ wx, wx = wr := ⟨wr, rfl⟩
    subst hwx
    go_wp2
    go_loopw [3, 7, 27, 28, 29, 30, 31, 32, 33, 34, 35, 36, 37, 38, 39, 40, 41, 42] (fun s _ i _ _ _ _ _ _ _ _ _ _ _ _ _ _ _ wr => ∃ k m : Nat, k ≤ n.vols.length ∧ m ≤ n.kids.length + k ∧ i = .int .i64 k ∧ wr.ownsRow w.heap.size 40 34 s m ((n.kids.map jcx ++ ((n.vols.take k).filter (fun v => v.root != 0)).map jd2).flatMap kidE.enc) ∧ Below w.heap.size w wr) (fun _ _ i _ _ _ _ _ _ _ _ _ _ _ _ _ _ _ _ => n.vols.length - (intOf i).toNat)
    case atStart => exact ⟨0, n.kids.length, Nat.zero_le _, by omega, rfl, by simpa using HX.out.1, HX.out.2.1⟩
    case round =>
     obtain ⟨k, m, hk, hmk, rfl, hown, hB⟩ := hrel
     by_cases hlt : k < n.vols.length
     · obtain ⟨b, o, rfl, hat, hwf⟩ := HR.out.2.2 k hlt
       have hb : b < w.heap.size := hat.lt (by simp [volE])
       have hatr := hat.below hB (Nat.le_refl _)
       have hbr : b < wr.heap.size := Nat.lt_of_lt_of_le hb hB.size
       have htk : (n.kids.map jcx ++ ((n.vols.take (k + 1)).filter (fun v => v.root != 0)).map jd2).flatMap kidE.enc = (n.kids.map jcx ++ ((n.vols.take k).filter (fun v => v.root != 0)).map jd2).flatMap kidE.enc ++ (if n.vols[k].root = 0 then [] else kidE.enc (jd2 n.vols[k])) := by
        rw [List.take_succ_eq_append_getElem hlt, List.filter_append, List.map_append, List.flatMap_append, List.flatMap_append, List.flatMap_append, List.append_assoc]
        congr 2
        by_cases h0 : n.vols[k].root = 0 <;> simp [h0]
       have HG := Lib.hid (And.intro htk hB)
       have hbs := hB.size
       clear hB hat htk
       generalize n.vols[k] = kk at *
       have HK := jjm kk hwf
       have hl := volE.len kk hwf
       have h1' := volE.one kk hwf
       have n4 : (wr.alloc (.cells (volE.enc kk).toArray 155)).cell? ⟨wr.heap.size, 4, none⟩ = some (.int .u32 kk.root) := jay 4 _ rfl
       have n5 := vhash_at (new_at wr (volE.enc kk) 155)
       have HH := jfh hwf.2.2.2.2.2
       have hnl : (kidE.enc (jd2 kk)).length = 34 := kidE.len _ (jfu hwf)
       have hn1 := kidE.one _ (jfu hwf)
       have hbk : Tryz.prog.built 40 [(1, .int .u32 kk.root), (2, .agg (hashV kk.hash).toArray)] = some (kidE.enc (jd2 kk)).toArray := jgp _ _ hwf.2.2.2.2.2.1
       have HL := Lib.hid (And.intro hl (And.intro hnl hbk))
       clear hl hwf hnl hbk
       generalize volE.enc kk = vs at *
       generalize kidE.enc (jd2 kk) = us at *
       generalize hashV kk.hash = hs at *
       generalize kk.root = num at *
       obtain ⟨ha, hha⟩ : ∃ ha, hs.toArray = ha := ⟨_, rfl⟩
       obtain ⟨ua, hua⟩ : ∃ ua, us.toArray = ua := ⟨_, rfl⟩
       have HA := Lib.hid (And.intro hha hua)
       have hsz : ua.size = 34 := by rw [← hua]; simpa using HL.out.2.1
       have HSZ := Lib.hid hsz
       rw [hha, hua] at HL
       clear hha hua hsz
       generalize hzs : (n.kids.map jcx ++ ((n.vols.take k).filter (fun v => v.root != 0)).map jd2).flatMap kidE.enc = zs at *
       clear hzs
       by_cases h0 : num = 0
       · have h0b : (num != 0) = false := by simp [h0]
         have HZ := Lib.hid h0
         clear h0
         go_wp2_with (first
          | ((with_reducible refine jbv 155 ?_); refine jai rfl 155 (.tmp 29) rfl b (o + k * 37) rfl vs _ hatr Tryz.underlying155 rfl HK ?_)
          | ((with_reducible refine jam 155 ?_); refine jaa rfl 155 (.tmp 7) (.tmp 30) rfl 155 _ rfl vs rfl (by rw [HL.out.1]; rfl) h1' HK ?_))
         refine ⟨⟨k + 1, m, by omega, by omega, by go_num, ?_, HG.out.2.alloc hbs _⟩, by simp [intOf]; omega⟩
         rw [HG.out.1, if_pos HZ.out, List.append_nil]; exact hown.alloc _
       · have h0b : (num != 0) = true := by simp [h0]
         have HZ := Lib.hid h0
         clear h0
         go_wp2_with (first
          | ((with_reducible refine jbv 155 ?_); refine jai rfl 155 (.tmp 29) rfl b (o + k * 37) rfl vs _ hatr Tryz.underlying155 rfl HK ?_)
          | ((with_reducible refine jam 155 ?_); refine jaa rfl 155 (.tmp 7) (.tmp 30) rfl 155 _ rfl vs rfl (by rw [HL.out.1]; rfl) h1' HK ?_)
          | ((with_reducible refine jbv 34 ?_); refine jae rfl 34 (.tmp 37) rfl wr.heap.size 5 rfl hs _ n5 Tryz.underlying34 rfl HH ha HA.out.1 ?_)
          | ((with_reducible refine jar 40 ?_); go_loud (refine jah rfl 40 _ rfl [(1, .int .u32 num), (2, .agg ha)] rfl ua HL.out.2.2 ?_))
          | ((with_reducible refine jf8 56 1 ?_); refine jdn rfl 56 40 (.tmp 39) rfl ua rfl 34 Tryz.underlying56 ⟨i0, z0, hi, hz0, hz1, hzs⟩ HSZ.out (by decide) (by decide) (wr.heap.size + 1) (by simp) ?_)
          | (at_builtin; refine wpList_append_own _ rfl (.tmp 34) (.tmp 40) 56 rfl w.heap.size 40 i0 z0 34 56 Tryz.underlying56 hi hz0 hz1 hz2 hzs (by decide) _ _ _ rfl ((hown.alloc _).alloc _) ⟨wr.heap.size + 1, 0, none⟩ 1 1 us rfl HL.out.2.1 ?c1 ?c2 ?c3 ?c4 ?c5 ?_))
         case c1 => intro j u hj; rw [jcl, Nat.zero_add]; have := jay (w := wr.alloc (.cells vs.toArray 155)) (vs := us) (t := 40) j u hj; rw [HA.out.2] at this; simpa using this
         case c2 => exact hn1
         case c3 => unfold maxLen; omega
         case c4 => omega
         case c5 => simp; omega
         intro v' w2 hown' hgrow _
         go_wp2
         refine ⟨⟨k + 1, m + 1, by omega, by omega, by go_num, ?_, ?_⟩, by simp [intOf]; omega⟩
         · rw [HG.out.1, if_neg HZ.out]; exact hown'
         · exact ((HG.out.2.alloc hbs _).alloc (by simp; omega) _).grown hgrow (by simp; omega) (fun q hq => (hown.lt q hq).1)
     · obtain rfl : k = n.vols.length := by omega
       rw [List.take_length, ← jgx] at hown
       have HG := Lib.hid (And.intro hown hB)
       clear hown hB
       go_wp2
       go_ret
       refine ⟨_, rfl, ⟨?_, fun g hg => (HG.out.1.lt g hg).1⟩, HG.out.2⟩
       have hw : ∀ x ∈ jcn n, kidE.wf x := by
        intro x hx
        rw [jgx] at hx
        rcases List.mem_append.1 hx with hx | hx
        · obtain ⟨q, hq, rfl⟩ := List.mem_map.1 hx; exact jhb (HR.out.2.1.wf q hq)
        · obtain ⟨q, hq, rfl⟩ := List.mem_map.1 hx; exact jfu (HR.out.2.2.wf q (List.mem_filter.1 hq).1)
       have hlen := HG.out.1.1
       rw [jbb kidE _ hw] at hlen
       exact jct (E := kidE) HG.out.1 (by have := kidE.pos; exact (Nat.eq_of_mul_eq_mul_right (by decide) hlen).symm) hw
end Go.Proofs.YtpaohkkhejpgjaaGreatDoor
