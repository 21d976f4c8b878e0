/- Texts of the proof: Or Hd Nm. -/
import Derived.Test.YtpaohkkhejpgjaaGreatDoorM3
import Derived.Test.YtpaohkkhejpgjaaGreatDoorM10
import Derived.Test.YtpaohkkhejpgjaaGreatDoorM11
import Derived.Test.YtpaohkkhejpgjaaGreatDoorM7
set_option linter.all false
set_option maxRecDepth 100000
set_option maxHeartbeats 8000000
namespace Go.Proofs.YtpaohkkhejpgjaaGreatDoor
open Go Go.RowKit
structure Hp where
 size : Int
 cells : List Cel
def noKid : Kid := ⟨ByteArray.empty, 0, jbm⟩
def jcn (n : Node) : List Kid := n.kids.map (fun k => ⟨ByteArray.empty, k.num, k.hash⟩) ++ (n.vols.filter (fun v => v.root != 0)).map (fun v => ⟨ByteArray.empty, v.root, v.hash⟩)
def jc6 (cs : List CC) (t : Int) : Option CC := cs.find? (fun c => c.num == t)
def jdp (cs : List CC) : Int → List Kid → Int
 | why, [] => why
 | why, k :: r => match jc6 cs k.num with
  | none => 5
  | some c => jdp cs (if c.hash = k.hash then why else 9) r
def jdr (cs : List CC) (n : Node) : Int := jdp cs 0 (jcn n)
def ledUp (t : Int) (c : CC) : CC := if c.num = t then { c with led := c.led + 1 } else c
def bumps (ts : List Int) (cs : List CC) : List CC := ts.foldl (fun cs t => cs.map (ledUp t)) cs
def refUp (t : Int) (c : CC) : CC := if c.num = t then { c with refs := c.refs + 1, led := c.led + 1 } else c
def holds (ts : List Int) (cs : List CC) : List CC := ts.foldl (fun cs t => cs.map (refUp t)) cs
theorem jgb (x : Int) (r : List Int) (t : Int) : jbp (x :: r) t = (if x = t then 1 else 0) + jbp r t := by
 unfold jbp
 by_cases h : x = t <;> simp [h]; omega
theorem countL_app (a b : List Int) (t : Int) : jbp (a ++ b) t = jbp a t + jbp b t := by
 unfold jbp; simp
theorem jeh : ∀ (ts : List Int) (cs : List CC), bumps ts cs = cs.map (fun c => { c with led := c.led + jbp ts c.num })
 | [], cs => by simp [bumps, jbp]
 | t :: r, cs => by
  have e : bumps (t :: r) cs = bumps r (cs.map (ledUp t)) := rfl
  rw [e, jeh r, List.map_map]
  apply List.map_congr_left
  intro c _
  simp only [Function.comp, ledUp, jgb]
  by_cases h : c.num = t
  · simp [h]; omega
  · have h' : ¬ t = c.num := fun e => h e.symm
    simp [h, h']
theorem jgc (s : List UInt8) : jd7 (shaOf s) := by
 refine ⟨jgs s, fun x hx => ?_⟩
 obtain ⟨i, _, rfl⟩ := List.mem_map.1 hx
 omega
theorem hash_at {w : World} {b o : Nat} {k : Kid} (h : At w b o (kidE.enc k)) : At w b (o + 2) (hashV k.hash) := by
 have : kidE.enc k = [.string k.key, .int .u32 k.num] ++ hashV k.hash := rfl
 rw [this] at h
 exact h.right
theorem vhash_at {w : World} {b o : Nat} {k : Vol} (h : At w b o (volE.enc k)) : At w b (o + 5) (hashV k.hash) := by
 have : volE.enc k = [.string k.name, .int .u8 k.kind, .string k.src, .int .u64 k.born, .int .u32 k.root] ++ hashV k.hash := rfl
 rw [this] at h
 exact h.right
theorem new_at (w : World) (vs : List Value) (t : TypeId) : At (w.alloc (.cells vs.toArray t)) w.heap.size 0 vs := by
 intro i hi
 rw [Nat.zero_add]
 exact jay i _ (List.getElem?_eq_getElem hi)
def jcx (k : Kid) : Kid := ⟨ByteArray.empty, k.num, k.hash⟩
def jd2 (v : Vol) : Kid := ⟨ByteArray.empty, v.root, v.hash⟩
theorem jgx (n : Node) : jcn n = n.kids.map jcx ++ (n.vols.filter (fun v => v.root != 0)).map jd2 := rfl
theorem jhb {k : Kid} (h : kidE.wf k) : kidE.wf (jcx k) := ⟨by unfold strOk jcx; simp, h.2.1, h.2.2⟩
theorem jfu {k : Vol} (h : volE.wf k) : kidE.wf (jd2 k) := ⟨by unfold strOk jd2; simp, h.2.2.2.2.1, h.2.2.2.2.2⟩
theorem namedH_any (w : World) (v : Value) (n : Node) (hv : NodeV w v n) (hl : n.kids.length ≤ 100000 ∧ n.vols.length ≤ 100000) :
 Calls Tryz.prog 109 #[v] w fun e w' => ∃ r, e = .returned r ∧ Sl kidE w' r (jcn n) ∧ Below w.heap.size w w' := by
 obtain ⟨i0, z0, hi, hz0, hz1, hz2, hzs⟩ := jbw kid_info
 obtain ⟨va, vb, vc, rfl, ha, hb0, hc0, hk0, hk1⟩ := hv
 obtain ⟨A, ca, rfl, ha1, ha2, hra⟩ := ha
 obtain ⟨B, cb, rfl, hb1, hb2, hrb⟩ := hb0
 obtain ⟨C, cc, rfl, hc1, hc2, hrc⟩ := hc0
 have HR := Lib.hid (And.intro hra (And.intro hrb hrc))
 have HB := Lib.hid ((Below.refl w.heap.size w).alloc (Nat.le_refl _) (.cells #[.int .u8 n.kind, .slice A n.items.length ca, .slice B n.kids.length cb, .slice C n.vols.length cc] 59))
 obtain ⟨hl1, hl2⟩ := hl
 clear hra hrb hrc
 generalize n.kind = kd at *
 go_enter Tryz.func109, Tryz.ntmps109
 go_wp2
 go_loopw [3, 5, 11, 12, 13, 14, 15, 16, 17, 18, 19, 20, 21, 22, 23] (fun s _ i _ _ _ _ _ _ _ _ _ _ _ _ wr => ∃ k : Nat, k ≤ n.kids.length ∧ i = .int .i64 k ∧ wr.ownsRow w.heap.size 40 34 s k (((n.kids.take k).map jcx).flatMap kidE.enc) ∧ Below w.heap.size w wr ∧ wr.heap[w.heap.size]? = some (.cells #[.int .u8 kd, .slice A n.items.length ca, .slice B n.kids.length cb, .slice C n.vols.length cc] 59 (0, 0))) (fun _ _ i _ _ _ _ _ _ _ _ _ _ _ _ _ => n.kids.length - (intOf i).toNat)
 case atStart => exact ⟨0, Nat.zero_le _, rfl, ⟨rfl, Or.inl ⟨rfl, rfl⟩⟩, HB.out, heap_alloc_new _ _⟩
 case round =>
  obtain ⟨k, hk, rfl, hown, hB, hbox⟩ := hrel
  by_cases hlt : k < n.kids.length
  · obtain ⟨b, o, rfl, hat, hwf⟩ := HR.out.2.1 k hlt
    have hb : b < w.heap.size := hat.lt (by simp [kidE])
    have hatr := hat.below hB (Nat.le_refl _)
    have hbr : b < wr.heap.size := Nat.lt_of_lt_of_le hb hB.size
    have htk : ((n.kids.take (k + 1)).map jcx).flatMap kidE.enc = ((n.kids.take k).map jcx).flatMap kidE.enc ++ kidE.enc (jcx n.kids[k]) := by
     rw [List.take_succ_eq_append_getElem hlt, List.map_append, List.flatMap_append]; simp
    have HG := Lib.hid (And.intro htk (And.intro hB hbox))
    have hbs := hB.size
    have hbl := lt_of_block hbox
    clear hB hat htk hbox
    generalize n.kids[k] = kk at *
    have HK := jc7 kk hwf
    have hl := kidE.len kk hwf
    have h1' := kidE.one kk hwf
    have n1 : (wr.alloc (.cells (kidE.enc kk).toArray 40)).cell? ⟨wr.heap.size, 1, none⟩ = some (.int .u32 kk.num) := jay 1 _ rfl
    have n2 := hash_at (new_at wr (kidE.enc kk) 40)
    have HH := jfh hwf.2.2
    have hnl : (kidE.enc (jcx kk)).length = 34 := kidE.len _ (jhb hwf)
    have hn1 := kidE.one _ (jhb hwf)
    have hbk : Tryz.prog.built 40 [(1, .int .u32 kk.num), (2, .agg (hashV kk.hash).toArray)] = some (kidE.enc (jcx kk)).toArray := jgp _ _ hwf.2.2.1
    have HL := Lib.hid (And.intro hl (And.intro hnl hbk))
    clear hl hwf hnl hbk
    generalize kidE.enc kk = vs at *
    generalize kidE.enc (jcx kk) = us at *
    generalize hashV kk.hash = hs at *
    generalize kk.num = num at *
    obtain ⟨ha, hha⟩ : ∃ ha, hs.toArray = ha := ⟨_, rfl⟩
    obtain ⟨ua, hua⟩ : ∃ ua, us.toArray = ua := ⟨_, rfl⟩
    have HA := Lib.hid (And.intro hha hua)
    have hsz : ua.size = 34 := by rw [← hua]; simpa using HL.out.2.1
    have HSZ := Lib.hid hsz
    rw [hha, hua] at HL
    clear hha hua hsz
    generalize hzs : ((n.kids.take k).map jcx).flatMap kidE.enc = zs at *
    clear hzs
    go_wp2_with (first
     | ((with_reducible refine jbv 40 ?_); refine jai rfl 40 (.tmp 13) rfl b (o + k * 34) rfl vs _ hatr Tryz.underlying40 rfl HK ?_)
     | ((with_reducible refine jam 40 ?_); refine jaa rfl 40 (.tmp 5) (.tmp 14) rfl 40 _ rfl vs rfl (by rw [HL.out.1]; rfl) h1' HK ?_)
     | ((with_reducible refine jbv 34 ?_); refine jae rfl 34 (.tmp 18) rfl wr.heap.size 2 rfl hs _ n2 Tryz.underlying34 rfl HH ha HA.out.1 ?_)
     | ((with_reducible refine jar 40 ?_); go_loud (refine jah rfl 40 _ rfl [(1, .int .u32 num), (2, .agg ha)] rfl ua HL.out.2.2 ?_))
     | ((with_reducible refine jf8 56 1 ?_); refine jdn rfl 56 40 (.tmp 20) rfl ua rfl 34 Tryz.underlying56 ⟨i0, z0, hi, hz0, hz1, hzs⟩ HSZ.out (by decide) (by decide) (wr.heap.size + 1) (by simp) ?_)
     | (at_builtin; go_loud (refine wpList_append_own _ rfl (.tmp 15) (.tmp 21) 56 rfl w.heap.size 40 i0 z0 34 56 Tryz.underlying56 hi hz0 hz1 hz2 hzs (by decide) _ _ _ rfl ((hown.alloc _).alloc _) ⟨wr.heap.size + 1, 0, none⟩ 1 1 us rfl HL.out.2.1 ?c1 ?c2 ?c3 ?c4 ?c5 ?_)))
    case c1 => intro j u hj; rw [jcl, Nat.zero_add]; have := jay (w := wr.alloc (.cells vs.toArray 40)) (vs := us) (t := 40) j u hj; rw [HA.out.2] at this; simpa using this
    case c2 => exact hn1
    case c3 => unfold maxLen; omega
    case c4 => omega
    case c5 => simp; omega
    intro v' w2 hown' hgrow _
    go_wp2
    refine ⟨⟨k + 1, by omega, by go_num, ?_, ?_, ?_⟩, by simp [intOf]; omega⟩
    · rw [HG.out.1]; exact hown'
    · exact ((HG.out.2.1.alloc hbs _).alloc (by simp; omega) _).grown hgrow (by simp; omega) (fun q hq => (hown.lt q hq).1)
    · rw [hgrow.block _ (by simp; omega) (fun e => jb8 ((hown.alloc (.cells vs.toArray 40)).alloc (.cells ua 40)) ((Lib.alloc_old _ _ _ (by simp; omega)).trans ((Lib.alloc_old _ _ _ hbl).trans HG.out.2.2)) (by decide) e.symm), Lib.alloc_old _ _ _ (by simp; omega), Lib.alloc_old _ _ _ hbl]
      exact HG.out.2.2
  · obtain rfl : k = n.kids.length := by omega
    rw [List.take_length] at hown
    have c3 : wr.cell? ⟨w.heap.size, 3, none⟩ = some (.slice C n.vols.length cc) := by rw [cell_of_row _ _ _ _ _ _ hbox]; rfl
    have HX := Lib.hid (And.intro hown (And.intro hB hbox))
    have hbl0 := lt_of_block hbox
    clear hown hB hbox
    obtain ⟨wx, hwx⟩ : ∃ wx, wx = wr := ⟨wr, rfl⟩
    subst hwx
    go_wp2
    go_loopw [3, 7, 27, 28, 29, 30, 31, 32, 33, 34, 35, 36, 37, 38, 39, 40, 41, 42] (fun s _ i _ _ _ _ _ _ _ _ _ _ _ _ _ _ _ wr => ∃ k m : Nat, k ≤ n.vols.length ∧ m ≤ n.kids.length + k ∧ i = .int .i64 k ∧ wr.ownsRow w.heap.size 40 34 s m ((n.kids.map jcx ++ ((n.vols.take k).filter (fun v => v.root != 0)).map jd2).flatMap kidE.enc) ∧ Below w.heap.size w wr) (fun _ _ i _ _ _ _ _ _ _ _ _ _ _ _ _ _ _ _ => n.vols.length - (intOf i).toNat)
    case atStart => exact ⟨0, n.kids.length, Nat.zero_le _, by omega, rfl, by simpa using HX.out.1, HX.out.2.1⟩
    case round =>
     obtain ⟨k, m, hk, hmk, rfl, hown, hB⟩ := hrel
     by_cases hlt : k < n.vols.length
     · obtain ⟨b, o, rfl, hat, hwf⟩ := HR.out.2.2 k hlt
       have hb : b < w.heap.size := hat.lt (by simp [volE])
       have hatr := hat.below hB (Nat.le_refl _)
       have hbr : b < wr.heap.size := Nat.lt_of_lt_of_le hb hB.size
       have htk : (n.kids.map jcx ++ ((n.vols.take (k + 1)).filter (fun v => v.root != 0)).map jd2).flatMap kidE.enc = (n.kids.map jcx ++ ((n.vols.take k).filter (fun v => v.root != 0)).map jd2).flatMap kidE.enc ++ (if n.vols[k].root = 0 then [] else kidE.enc (jd2 n.vols[k])) := by
        rw [List.take_succ_eq_append_getElem hlt, List.filter_append, List.map_append, List.flatMap_append, List.flatMap_append, List.flatMap_append, List.append_assoc]
        congr 2
        by_cases h0 : n.vols[k].root = 0 <;> simp [h0]
       have HG := Lib.hid (And.intro htk hB)
       have hbs := hB.size
       clear hB hat htk
       generalize n.vols[k] = kk at *
       have HK := jjm kk hwf
       have hl := volE.len kk hwf
       have h1' := volE.one kk hwf
       have n4 : (wr.alloc (.cells (volE.enc kk).toArray 155)).cell? ⟨wr.heap.size, 4, none⟩ = some (.int .u32 kk.root) := jay 4 _ rfl
       have n5 := vhash_at (new_at wr (volE.enc kk) 155)
       have HH := jfh hwf.2.2.2.2.2
       have hnl : (kidE.enc (jd2 kk)).length = 34 := kidE.len _ (jfu hwf)
       have hn1 := kidE.one _ (jfu hwf)
       have hbk : Tryz.prog.built 40 [(1, .int .u32 kk.root), (2, .agg (hashV kk.hash).toArray)] = some (kidE.enc (jd2 kk)).toArray := jgp _ _ hwf.2.2.2.2.2.1
       have HL := Lib.hid (And.intro hl (And.intro hnl hbk))
       clear hl hwf hnl hbk
       generalize volE.enc kk = vs at *
       generalize kidE.enc (jd2 kk) = us at *
       generalize hashV kk.hash = hs at *
       generalize kk.root = num at *
       obtain ⟨ha, hha⟩ : ∃ ha, hs.toArray = ha := ⟨_, rfl⟩
       obtain ⟨ua, hua⟩ : ∃ ua, us.toArray = ua := ⟨_, rfl⟩
       have HA := Lib.hid (And.intro hha hua)
       have hsz : ua.size = 34 := by rw [← hua]; simpa using HL.out.2.1
       have HSZ := Lib.hid hsz
       rw [hha, hua] at HL
       clear hha hua hsz
       generalize hzs : (n.kids.map jcx ++ ((n.vols.take k).filter (fun v => v.root != 0)).map jd2).flatMap kidE.enc = zs at *
       clear hzs
       by_cases h0 : num = 0
       · have h0b : (num != 0) = false := by simp [h0]
         have HZ := Lib.hid h0
         clear h0
         go_wp2_with (first
          | ((with_reducible refine jbv 155 ?_); refine jai rfl 155 (.tmp 29) rfl b (o + k * 37) rfl vs _ hatr Tryz.underlying155 rfl HK ?_)
          | ((with_reducible refine jam 155 ?_); refine jaa rfl 155 (.tmp 7) (.tmp 30) rfl 155 _ rfl vs rfl (by rw [HL.out.1]; rfl) h1' HK ?_))
         refine ⟨⟨k + 1, m, by omega, by omega, by go_num, ?_, HG.out.2.alloc hbs _⟩, by simp [intOf]; omega⟩
         rw [HG.out.1, if_pos HZ.out, List.append_nil]; exact hown.alloc _
       · have h0b : (num != 0) = true := by simp [h0]
         have HZ := Lib.hid h0
         clear h0
         go_wp2_with (first
          | ((with_reducible refine jbv 155 ?_); refine jai rfl 155 (.tmp 29) rfl b (o + k * 37) rfl vs _ hatr Tryz.underlying155 rfl HK ?_)
          | ((with_reducible refine jam 155 ?_); refine jaa rfl 155 (.tmp 7) (.tmp 30) rfl 155 _ rfl vs rfl (by rw [HL.out.1]; rfl) h1' HK ?_)
          | ((with_reducible refine jbv 34 ?_); refine jae rfl 34 (.tmp 37) rfl wr.heap.size 5 rfl hs _ n5 Tryz.underlying34 rfl HH ha HA.out.1 ?_)
          | ((with_reducible refine jar 40 ?_); go_loud (refine jah rfl 40 _ rfl [(1, .int .u32 num), (2, .agg ha)] rfl ua HL.out.2.2 ?_))
          | ((with_reducible refine jf8 56 1 ?_); refine jdn rfl 56 40 (.tmp 39) rfl ua rfl 34 Tryz.underlying56 ⟨i0, z0, hi, hz0, hz1, hzs⟩ HSZ.out (by decide) (by decide) (wr.heap.size + 1) (by simp) ?_)
          | (at_builtin; refine wpList_append_own _ rfl (.tmp 34) (.tmp 40) 56 rfl w.heap.size 40 i0 z0 34 56 Tryz.underlying56 hi hz0 hz1 hz2 hzs (by decide) _ _ _ rfl ((hown.alloc _).alloc _) ⟨wr.heap.size + 1, 0, none⟩ 1 1 us rfl HL.out.2.1 ?c1 ?c2 ?c3 ?c4 ?c5 ?_))
         case c1 => intro j u hj; rw [jcl, Nat.zero_add]; have := jay (w := wr.alloc (.cells vs.toArray 155)) (vs := us) (t := 40) j u hj; rw [HA.out.2] at this; simpa using this
         case c2 => exact hn1
         case c3 => unfold maxLen; omega
         case c4 => omega
         case c5 => simp; omega
         intro v' w2 hown' hgrow _
         go_wp2
         refine ⟨⟨k + 1, m + 1, by omega, by omega, by go_num, ?_, ?_⟩, by simp [intOf]; omega⟩
         · rw [HG.out.1, if_neg HZ.out]; exact hown'
         · exact ((HG.out.2.alloc hbs _).alloc (by simp; omega) _).grown hgrow (by simp; omega) (fun q hq => (hown.lt q hq).1)
     · obtain rfl : k = n.vols.length := by omega
       rw [List.take_length, ← jgx] at hown
       have HG := Lib.hid (And.intro hown hB)
       clear hown hB
       go_wp2
       go_ret
       refine ⟨_, rfl, ?_, HG.out.2⟩
       have hw : ∀ x ∈ jcn n, kidE.wf x := by
        intro x hx
        rw [jgx] at hx
        rcases List.mem_append.1 hx with hx | hx
        · obtain ⟨q, hq, rfl⟩ := List.mem_map.1 hx; exact jhb (HR.out.2.1.wf q hq)
        · obtain ⟨q, hq, rfl⟩ := List.mem_map.1 hx; exact jfu (HR.out.2.2.wf q (List.mem_filter.1 hq).1)
       have hlen := HG.out.1.1
       rw [jbb kidE _ hw] at hlen
       exact jct (E := kidE) HG.out.1 (by have := kidE.pos; exact (Nat.eq_of_mul_eq_mul_right (by decide) hlen).symm) hw
end Go.Proofs.YtpaohkkhejpgjaaGreatDoor
