/- Texts of the proof: Nm Ld Sx Ol. -/
import Derived.Test.YthhmcjojnbaiiaaGreatDoorM14
import Derived.Test.YthhmcjojnbaiiaaGreatDoorM10
import Derived.Test.YthhmcjojnbaiiaaGreatDoorM16
import Derived.Test.YthhmcjojnbaiiaaGreatDoorM17
import Derived.Test.YthhmcjojnbaiiaaGreatDoorM18
import Derived.Test.YthhmcjojnbaiiaaGreatDoorM19
set_option linter.all false
/- Heap: Named. -/
namespace Go.Proofs.YthhmcjojnbaiiaaGreatDoor
open Go Go.RowKit
theorem hash_at {w : World} {b o : Nat} {k : Kid} (h : At w b o (kidE.enc k)) : At w b (o + 2) (hashV k.hash) := by
  have : kidE.enc k = [.string k.key, .int .u32 k.num] ++ hashV k.hash := rfl
  rw [this] at h
  exact h.right
theorem vhash_at {w : World} {b o : Nat} {k : Vol} (h : At w b o (volE.enc k)) : At w b (o + 5) (hashV k.hash) := by
  have : volE.enc k = [.string k.name, .int .u8 k.kind, .string k.src, .int .u64 k.born, .int .u32 k.root] ++ hashV k.hash := rfl
  rw [this] at h
  exact h.right
theorem new_at (w : World) (vs : List Value) (t : TypeId) : At (w.alloc (.cells vs.toArray t)) w.heap.size 0 vs := by
  intro i hi
  rw [Nat.zero_add]
  exact new_cell i _ (List.getElem?_eq_getElem hi)
def nakedK (k : Kid) : Kid := ⟨ByteArray.empty, k.num, k.hash⟩
def nakedV (v : Vol) : Kid := ⟨ByteArray.empty, v.root, v.hash⟩
theorem namedK_eq (n : Node) : namedK n = n.kids.map nakedK ++ (n.vols.filter (fun v => v.root != 0)).map nakedV := rfl
theorem naked_wf {k : Kid} (h : kidE.wf k) : kidE.wf (nakedK k) := ⟨by unfold strOk nakedK; simp, h.2.1, h.2.2⟩
theorem nakedV_wf {k : Vol} (h : volE.wf k) : kidE.wf (nakedV k) := ⟨by unfold strOk nakedV; simp, h.2.2.2.2.1, h.2.2.2.2.2⟩
set_option maxRecDepth 100000 in
set_option maxHeartbeats 2000000 in
theorem namedH_any (w : World) (v : Value) (n : Node) (hv : NodeV w v n) (hl : n.kids.length ≤ 100000 ∧ n.vols.length ≤ 100000) :
    Calls Tryz.prog 102 #[v] w fun e w' => ∃ r, e = .returned r ∧ Sl kidE w' r (namedK n) ∧ Below w.heap.size w w' := by
  obtain ⟨i0, z0, hi, hz0, hz1, hz2, hzs⟩ := info_open kid_info
  obtain ⟨va, vb, vc, rfl, ha, hb0, hc0, hk0, hk1⟩ := hv
  obtain ⟨A, ca, rfl, ha1, ha2, hra⟩ := ha
  obtain ⟨B, cb, rfl, hb1, hb2, hrb⟩ := hb0
  obtain ⟨C, cc, rfl, hc1, hc2, hrc⟩ := hc0
  have HR := Lib.hid (And.intro hra (And.intro hrb hrc))
  have HB := Lib.hid ((Below.refl w.heap.size w).alloc (Nat.le_refl _) (.cells #[.int .u8 n.kind, .slice A n.items.length ca, .slice B n.kids.length cb, .slice C n.vols.length cc] 44))
  obtain ⟨hl1, hl2⟩ := hl
  clear hra hrb hrc
  generalize n.kind = kd at *
  go_enter Tryz.func102, Tryz.ntmps102
  go_wp2
  go_loopw [3, 5, 11, 12, 13, 14, 15, 16, 17, 18, 19, 20, 21, 22, 23] (fun s _ i _ _ _ _ _ _ _ _ _ _ _ _ wr => ∃ k : Nat, k ≤ n.kids.length ∧ i = .int .i64 k ∧ wr.ownsRow w.heap.size 58 34 s k (((n.kids.take k).map nakedK).flatMap kidE.enc) ∧ Below w.heap.size w wr ∧ wr.heap[w.heap.size]? = some (.cells #[.int .u8 kd, .slice A n.items.length ca, .slice B n.kids.length cb, .slice C n.vols.length cc] 44 (0, 0))) (fun _ _ i _ _ _ _ _ _ _ _ _ _ _ _ _ => n.kids.length - (intOf i).toNat)
  case atStart => exact ⟨0, Nat.zero_le _, rfl, ⟨rfl, Or.inl ⟨rfl, rfl⟩⟩, HB.out, heap_alloc_new _ _⟩
  case round =>
    obtain ⟨k, hk, rfl, hown, hB, hbox⟩ := hrel
    by_cases hlt : k < n.kids.length
    · obtain ⟨b, o, rfl, hat, hwf⟩ := HR.out.2.1 k hlt
      have hb : b < w.heap.size := hat.lt (by simp [kidE])
      have hatr := hat.below hB (Nat.le_refl _)
      have hbr : b < wr.heap.size := Nat.lt_of_lt_of_le hb hB.size
      have htk : ((n.kids.take (k + 1)).map nakedK).flatMap kidE.enc = ((n.kids.take k).map nakedK).flatMap kidE.enc ++ kidE.enc (nakedK n.kids[k]) := by
        rw [List.take_succ_eq_append_getElem hlt, List.map_append, List.flatMap_append]; simp
      have HG := Lib.hid (And.intro htk (And.intro hB hbox))
      have hbs := hB.size
      have hbl := lt_of_block hbox
      clear hB hat htk hbox
      generalize n.kids[k] = kk at *
      have HK := kid_len kk hwf
      have hl := kidE.len kk hwf
      have h1' := kidE.one kk hwf
      have n1 : (wr.alloc (.cells (kidE.enc kk).toArray 58)).cell? ⟨wr.heap.size, 1, none⟩ = some (.int .u32 kk.num) := new_cell 1 _ rfl
      have n2 := hash_at (new_at wr (kidE.enc kk) 58)
      have HH := hash_len hwf.2.2
      have hnl : (kidE.enc (nakedK kk)).length = 34 := kidE.len _ (naked_wf hwf)
      have hn1 := kidE.one _ (naked_wf hwf)
      have hbk : Tryz.prog.built 58 [(1, .int .u32 kk.num), (2, .agg (hashV kk.hash).toArray)] = some (kidE.enc (nakedK kk)).toArray := built_kid _ _ hwf.2.2.1
      have HL := Lib.hid (And.intro hl (And.intro hnl hbk))
      clear hl hwf hnl hbk
      generalize kidE.enc kk = vs at *
      generalize kidE.enc (nakedK kk) = us at *
      generalize hashV kk.hash = hs at *
      generalize kk.num = num at *
      obtain ⟨ha, hha⟩ : ∃ ha, hs.toArray = ha := ⟨_, rfl⟩
      obtain ⟨ua, hua⟩ : ∃ ua, us.toArray = ua := ⟨_, rfl⟩
      have HA := Lib.hid (And.intro hha hua)
      have hsz : ua.size = 34 := by rw [← hua]; simpa using HL.out.2.1
      have HSZ := Lib.hid hsz
      rw [hha, hua] at HL
      clear hha hua hsz
      generalize hzs : ((n.kids.take k).map nakedK).flatMap kidE.enc = zs at *
      clear hzs
      go_wp2_with (first
        | ((with_reducible refine probe_loadT 58 ?_); refine wpList_load_at rfl 58 (.tmp 13) rfl b (o + k * 34) rfl vs _ hatr Tryz.underlying58 rfl HK ?_)
        | ((with_reducible refine probe_storeT 58 ?_); refine wpList_store_new rfl 58 (.tmp 5) (.tmp 14) rfl 58 _ rfl vs rfl (by rw [HL.out.1]; rfl) h1' HK ?_)
        | ((with_reducible refine probe_loadT 56 ?_); refine wpList_load_arr rfl 56 (.tmp 18) rfl wr.heap.size 2 rfl hs _ n2 Tryz.underlying56 rfl HH ha HA.out.1 ?_)
        | ((with_reducible refine probe_build 58 ?_); go_loud (refine wpList_build_cells rfl 58 _ rfl [(1, .int .u32 num), (2, .agg ha)] rfl ua HL.out.2.2 ?_))
        | ((with_reducible refine probe_slice 41 1 ?_); refine wpList_buildOneA rfl 41 58 (.tmp 20) rfl ua rfl 34 Tryz.underlying41 ⟨i0, z0, hi, hz0, hz1, hzs⟩ HSZ.out (by decide) (by decide) (wr.heap.size + 1) (by simp) ?_)
        | (at_builtin; go_loud (refine wpList_append_own _ rfl (.tmp 15) (.tmp 21) 41 rfl w.heap.size 58 i0 z0 34 56 Tryz.underlying41 hi hz0 hz1 hz2 hzs (by decide) _ _ _ rfl ((hown.alloc _).alloc _) ⟨wr.heap.size + 1, 0, none⟩ 1 1 us rfl HL.out.2.1 ?c1 ?c2 ?c3 ?c4 ?c5 ?_)))
      case c1 => intro j u hj; rw [add_at, Nat.zero_add]; have := new_cell (w := wr.alloc (.cells vs.toArray 58)) (vs := us) (t := 58) j u hj; rw [HA.out.2] at this; simpa using this
      case c2 => exact hn1
      case c3 => unfold maxLen; omega
      case c4 => omega
      case c5 => simp; omega
      intro v' w2 hown' hgrow _
      go_wp2
      refine ⟨⟨k + 1, by omega, by go_num, ?_, ?_, ?_⟩, by simp [intOf]; omega⟩
      · rw [HG.out.1]; exact hown'
      · exact ((HG.out.2.1.alloc hbs _).alloc (by simp; omega) _).grown hgrow (by simp; omega) (fun q hq => (hown.lt q hq).1)
      · rw [hgrow.block _ (by simp; omega) (fun e => own_ne ((hown.alloc (.cells vs.toArray 58)).alloc (.cells ua 58)) ((Lib.alloc_old _ _ _ (by simp; omega)).trans ((Lib.alloc_old _ _ _ hbl).trans HG.out.2.2)) (by decide) e.symm), Lib.alloc_old _ _ _ (by simp; omega), Lib.alloc_old _ _ _ hbl]
        exact HG.out.2.2
    · obtain rfl : k = n.kids.length := by omega
      rw [List.take_length] at hown
      have c3 : wr.cell? ⟨w.heap.size, 3, none⟩ = some (.slice C n.vols.length cc) := by rw [cell_of_row _ _ _ _ _ _ hbox]; rfl
      have HX := Lib.hid (And.intro hown (And.intro hB hbox))
      have hbl0 := lt_of_block hbox
      clear hown hB hbox
      obtain ⟨wx, hwx⟩ : ∃ wx, wx = wr := ⟨wr, rfl⟩
      subst hwx
      go_wp2
      go_loopw [3, 7, 27, 28, 29, 30, 31, 32, 33, 34, 35, 36, 37, 38, 39, 40, 41, 42] (fun s _ i _ _ _ _ _ _ _ _ _ _ _ _ _ _ _ wr => ∃ k m : Nat, k ≤ n.vols.length ∧ m ≤ n.kids.length + k ∧ i = .int .i64 k ∧ wr.ownsRow w.heap.size 58 34 s m ((n.kids.map nakedK ++ ((n.vols.take k).filter (fun v => v.root != 0)).map nakedV).flatMap kidE.enc) ∧ Below w.heap.size w wr) (fun _ _ i _ _ _ _ _ _ _ _ _ _ _ _ _ _ _ _ => n.vols.length - (intOf i).toNat)
      case atStart => exact ⟨0, n.kids.length, Nat.zero_le _, by omega, rfl, by simpa using HX.out.1, HX.out.2.1⟩
      case round =>
        obtain ⟨k, m, hk, hmk, rfl, hown, hB⟩ := hrel
        by_cases hlt : k < n.vols.length
        · obtain ⟨b, o, rfl, hat, hwf⟩ := HR.out.2.2 k hlt
          have hb : b < w.heap.size := hat.lt (by simp [volE])
          have hatr := hat.below hB (Nat.le_refl _)
          have hbr : b < wr.heap.size := Nat.lt_of_lt_of_le hb hB.size
          have htk : (n.kids.map nakedK ++ ((n.vols.take (k + 1)).filter (fun v => v.root != 0)).map nakedV).flatMap kidE.enc = (n.kids.map nakedK ++ ((n.vols.take k).filter (fun v => v.root != 0)).map nakedV).flatMap kidE.enc ++ (if n.vols[k].root = 0 then [] else kidE.enc (nakedV n.vols[k])) := by
            rw [List.take_succ_eq_append_getElem hlt, List.filter_append, List.map_append, List.flatMap_append, List.flatMap_append, List.flatMap_append, List.append_assoc]
            congr 2
            by_cases h0 : n.vols[k].root = 0 <;> simp [h0]
          have HG := Lib.hid (And.intro htk hB)
          have hbs := hB.size
          clear hB hat htk
          generalize n.vols[k] = kk at *
          have HK := vol_len kk hwf
          have hl := volE.len kk hwf
          have h1' := volE.one kk hwf
          have n4 : (wr.alloc (.cells (volE.enc kk).toArray 178)).cell? ⟨wr.heap.size, 4, none⟩ = some (.int .u32 kk.root) := new_cell 4 _ rfl
          have n5 := vhash_at (new_at wr (volE.enc kk) 178)
          have HH := hash_len hwf.2.2.2.2.2
          have hnl : (kidE.enc (nakedV kk)).length = 34 := kidE.len _ (nakedV_wf hwf)
          have hn1 := kidE.one _ (nakedV_wf hwf)
          have hbk : Tryz.prog.built 58 [(1, .int .u32 kk.root), (2, .agg (hashV kk.hash).toArray)] = some (kidE.enc (nakedV kk)).toArray := built_kid _ _ hwf.2.2.2.2.2.1
          have HL := Lib.hid (And.intro hl (And.intro hnl hbk))
          clear hl hwf hnl hbk
          generalize volE.enc kk = vs at *
          generalize kidE.enc (nakedV kk) = us at *
          generalize hashV kk.hash = hs at *
          generalize kk.root = num at *
          obtain ⟨ha, hha⟩ : ∃ ha, hs.toArray = ha := ⟨_, rfl⟩
          obtain ⟨ua, hua⟩ : ∃ ua, us.toArray = ua := ⟨_, rfl⟩
          have HA := Lib.hid (And.intro hha hua)
          have hsz : ua.size = 34 := by rw [← hua]; simpa using HL.out.2.1
          have HSZ := Lib.hid hsz
          rw [hha, hua] at HL
          clear hha hua hsz
          generalize hzs : (n.kids.map nakedK ++ ((n.vols.take k).filter (fun v => v.root != 0)).map nakedV).flatMap kidE.enc = zs at *
          clear hzs
          by_cases h0 : num = 0
          · have h0b : (num != 0) = false := by simp [h0]
            have HZ := Lib.hid h0
            clear h0
            go_wp2_with (first
              | ((with_reducible refine probe_loadT 178 ?_); refine wpList_load_at rfl 178 (.tmp 29) rfl b (o + k * 37) rfl vs _ hatr Tryz.underlying178 rfl HK ?_)
              | ((with_reducible refine probe_storeT 178 ?_); refine wpList_store_new rfl 178 (.tmp 7) (.tmp 30) rfl 178 _ rfl vs rfl (by rw [HL.out.1]; rfl) h1' HK ?_))
            refine ⟨⟨k + 1, m, by omega, by omega, by go_num, ?_, HG.out.2.alloc hbs _⟩, by simp [intOf]; omega⟩
            rw [HG.out.1, if_pos HZ.out, List.append_nil]; exact hown.alloc _
          · have h0b : (num != 0) = true := by simp [h0]
            have HZ := Lib.hid h0
            clear h0
            go_wp2_with (first
              | ((with_reducible refine probe_loadT 178 ?_); refine wpList_load_at rfl 178 (.tmp 29) rfl b (o + k * 37) rfl vs _ hatr Tryz.underlying178 rfl HK ?_)
              | ((with_reducible refine probe_storeT 178 ?_); refine wpList_store_new rfl 178 (.tmp 7) (.tmp 30) rfl 178 _ rfl vs rfl (by rw [HL.out.1]; rfl) h1' HK ?_)
              | ((with_reducible refine probe_loadT 56 ?_); refine wpList_load_arr rfl 56 (.tmp 37) rfl wr.heap.size 5 rfl hs _ n5 Tryz.underlying56 rfl HH ha HA.out.1 ?_)
              | ((with_reducible refine probe_build 58 ?_); go_loud (refine wpList_build_cells rfl 58 _ rfl [(1, .int .u32 num), (2, .agg ha)] rfl ua HL.out.2.2 ?_))
              | ((with_reducible refine probe_slice 41 1 ?_); refine wpList_buildOneA rfl 41 58 (.tmp 39) rfl ua rfl 34 Tryz.underlying41 ⟨i0, z0, hi, hz0, hz1, hzs⟩ HSZ.out (by decide) (by decide) (wr.heap.size + 1) (by simp) ?_)
              | (at_builtin; refine wpList_append_own _ rfl (.tmp 34) (.tmp 40) 41 rfl w.heap.size 58 i0 z0 34 56 Tryz.underlying41 hi hz0 hz1 hz2 hzs (by decide) _ _ _ rfl ((hown.alloc _).alloc _) ⟨wr.heap.size + 1, 0, none⟩ 1 1 us rfl HL.out.2.1 ?c1 ?c2 ?c3 ?c4 ?c5 ?_))
            case c1 => intro j u hj; rw [add_at, Nat.zero_add]; have := new_cell (w := wr.alloc (.cells vs.toArray 178)) (vs := us) (t := 58) j u hj; rw [HA.out.2] at this; simpa using this
            case c2 => exact hn1
            case c3 => unfold maxLen; omega
            case c4 => omega
            case c5 => simp; omega
            intro v' w2 hown' hgrow _
            go_wp2
            refine ⟨⟨k + 1, m + 1, by omega, by omega, by go_num, ?_, ?_⟩, by simp [intOf]; omega⟩
            · rw [HG.out.1, if_neg HZ.out]; exact hown'
            · exact ((HG.out.2.alloc hbs _).alloc (by simp; omega) _).grown hgrow (by simp; omega) (fun q hq => (hown.lt q hq).1)
        · obtain rfl : k = n.vols.length := by omega
          rw [List.take_length, ← namedK_eq] at hown
          have HG := Lib.hid (And.intro hown hB)
          clear hown hB
          go_wp2
          go_ret
          refine ⟨_, rfl, ?_, HG.out.2⟩
          have hw : ∀ x ∈ namedK n, kidE.wf x := by
            intro x hx
            rw [namedK_eq] at hx
            rcases List.mem_append.1 hx with hx | hx
            · obtain ⟨q, hq, rfl⟩ := List.mem_map.1 hx; exact naked_wf (HR.out.2.1.wf q hq)
            · obtain ⟨q, hq, rfl⟩ := List.mem_map.1 hx; exact nakedV_wf (HR.out.2.2.wf q (List.mem_filter.1 hq).1)
          have hlen := HG.out.1.1
          rw [flat_length kidE _ hw] at hlen
          exact own_sl (E := kidE) HG.out.1 (by have := kidE.pos; exact (Nat.eq_of_mul_eq_mul_right (by decide) hlen).symm) hw
end Go.Proofs.YthhmcjojnbaiiaaGreatDoor

/- Heap: what a node names must be there. -/
namespace Go.Proofs.YthhmcjojnbaiiaaGreatDoor
open Go Go.RowKit
theorem takeWhile_map_len {α β : Type} (f : α → β) (p : β → Bool) (l : List α) : ((l.map f).takeWhile p).length = (l.takeWhile (p ∘ f)).length := by rw [List.takeWhile_map, List.length_map]
theorem cellOf_mem {pcs : List (Nat × CC)} {t : Int} {x : Nat × CC} (h : cellOf pcs t = some x) : x ∈ pcs ∧ x.2.num = t := by
  unfold cellOf at h
  split at h
  · rename_i hh
    obtain ⟨hi, rfl⟩ := List.getElem?_eq_some_iff.1 h
    refine ⟨List.getElem_mem hi, ?_⟩
    unfold numHas hasAt at hh
    rw [List.getElem?_eq_getElem (by simpa [nums] using hi)] at hh
    simpa [nums] using hh
  · cases h
theorem find_none_of {pcs : List (Nat × CC)} (hso : Rising (nums pcs)) {t : Int} (h : numHas (nums pcs) t = false) : ∀ x ∈ pcs, x.2.num ≠ t := by
  intro x hx e
  obtain ⟨i, hi, rfl⟩ := List.getElem_of_mem hx
  have hin : i < (nums pcs).length := by simpa [nums] using hi
  have hie : (nums pcs)[i] = t := by simpa [nums] using e
  have hpos : numPos (nums pcs) t = i := takeWhile_len _ _ i (by omega) (fun k hk hki => by have := hso k i hk hin hki; simp; omega) (fun _ => by simp; omega)
  unfold numHas hasAt at h
  rw [hpos, List.getElem?_eq_getElem hin] at h
  simp at h; exact h hie
theorem cellOf_none {pcs : List (Nat × CC)} (hso : Rising (nums pcs)) {t : Int} (h : cellOf pcs t = none) : ccFind (pcs.map (·.2)) t = none := by
  unfold cellOf at h
  have hh : numHas (nums pcs) t = false := by
    cases hc : numHas (nums pcs) t with
    | false => rfl
    | true =>
      rw [hc, if_pos rfl] at h
      unfold numHas hasAt at hc
      rw [List.getElem?_eq_none (by have := List.getElem?_eq_none_iff.1 h; simpa [nums] using this)] at hc
      cases hc
  unfold ccFind
  rw [List.find?_eq_none]
  intro c hc
  obtain ⟨x, hx, rfl⟩ := List.mem_map.1 hc
  simpa using find_none_of hso hh x hx
theorem rising_uniq {pcs : List (Nat × CC)} (hso : Rising (nums pcs)) {x y : Nat × CC} (hx : x ∈ pcs) (hy : y ∈ pcs) (h : x.2.num = y.2.num) : x = y := by
  obtain ⟨i, hi, rfl⟩ := List.getElem_of_mem hx
  obtain ⟨j, hj, rfl⟩ := List.getElem_of_mem hy
  rcases Nat.lt_trichotomy i j with hl | hl | hl
  · have := hso i j (by simpa [nums] using hi) (by simpa [nums] using hj) hl; simp [nums] at this; omega
  · subst hl; rfl
  · have := hso j i (by simpa [nums] using hj) (by simpa [nums] using hi) hl; simp [nums] at this; omega
theorem cellOf_some {pcs : List (Nat × CC)} (hso : Rising (nums pcs)) {t : Int} {x : Nat × CC} (h : cellOf pcs t = some x) : ccFind (pcs.map (·.2)) t = some x.2 := by
  obtain ⟨hx, hn⟩ := cellOf_mem h
  cases hf : ccFind (pcs.map (·.2)) t with
  | none =>
    unfold ccFind at hf
    have := List.find?_eq_none.1 hf x.2 (List.mem_map.2 ⟨x, hx, rfl⟩)
    simp [hn] at this
  | some c =>
    unfold ccFind at hf
    have h1 := List.find?_some hf
    obtain ⟨y, hy, rfl⟩ := List.mem_map.1 (List.mem_of_find?_eq_some hf)
    have : y = x := rising_uniq hso hy hx (by simp at h1; omega)
    rw [this]
theorem CellAt.hash {w : World} {q : Nat} {c : CC} (h : CellAt w q c) : At w q 7 (hashV c.hash) := by
  obtain ⟨vi, vk, vv, h, _⟩ := h
  intro i hi
  rw [cell_of_row _ _ _ _ _ _ h]
  unfold ccRow
  rw [List.getElem?_toArray, List.append_assoc, List.getElem?_append_right (by simp), List.getElem?_append_left (by simp; simpa using hi)]
  simp
set_option maxRecDepth 100000 in
set_option maxHeartbeats 2000000 in
theorem leads_any (B : Nat) (w : World) (p : Nat) (sz : Int) (pcs : List (Nat × CC)) (v : Value) (n : Node) (h : St B w p sz pcs) (hBw : B ≤ w.heap.size) (hso : Rising (nums pcs)) (hmax : pcs.length ≤ 1073741824) (hv : NodeV w v n) (hl : n.kids.length ≤ 100000 ∧ n.vols.length ≤ 100000) :
    Calls Tryz.prog 67 #[.pointer (some ⟨p, 0, none⟩), v] w fun e w' => e = .returned (.int .i64 (leadsE (pcs.map (·.2)) n)) ∧ St B w' p sz pcs ∧ Below B w w' ∧ Fr w w' ∧ w'.cell? ⟨p, 1, none⟩ = w.cell? ⟨p, 1, none⟩ := by
  have HS := Lib.hid (And.intro h (And.intro hso hv))
  have hpw : p < w.heap.size := by
    obtain ⟨v', a, hp, ho⟩ := h.row
    exact lt_of_block hp
  have HPW := Lib.hid hpw
  clear hpw
  obtain ⟨va, vb, vc, rfl, ha, hb0, hc0, hk0, hk1⟩ := hv
  obtain ⟨A1, n1, c1, rfl⟩ := sl_slice ha
  obtain ⟨A2, n2, c2, rfl⟩ := sl_slice hb0
  obtain ⟨A3, n3, c3, rfl⟩ := sl_slice hc0
  clear ha hb0 hc0 h
  have hB1 := (Below.refl w.heap.size w).alloc (Nat.le_refl _) (.cells #[.int .u8 n.kind, .slice A1 n1 c1, .slice A2 n2 c2, .slice A3 n3 c3] 44)
  have HN := Lib.hid (And.intro (HS.out.2.2.below hB1 (Nat.le_refl _)) hB1)
  clear hB1
  have hlk : (namedK n).length ≤ 200000 := by
    rw [namedK_eq, List.length_append, List.length_map, List.length_map]
    have := (List.filter_sublist (p := fun v : Vol => v.root != 0) (l := n.vols)).length_le
    omega
  go_enter Tryz.func67, Tryz.ntmps67
  go_wp2_with (fail)
  go_at_call 102
  refine (namedH_any _ _ n HN.out.1 hl).mono ?_
  rintro e w1 ⟨r, rfl, hsl, hb1⟩
  have hB1 := Below.step HN.out.2 hb1
  have HSL := Lib.hid hsl
  have H1 := Lib.hid (And.intro (HS.out.1.below hB1) (And.intro (hB1.mono hBw) (And.intro (Fr.of_below hB1) (hB1.cell (p := ⟨p, 1, none⟩) HPW.out))))
  have hw1 := hB1.size
  obtain ⟨A, cp, rfl, hcp1, hcp2, hrow⟩ := hsl
  clear hB1 hrow hb1
  have hks : leadsE (pcs.map (·.2)) n = leadsGo (pcs.map (·.2)) 0 (namedK n) := rfl
  have HKS := Lib.hid hks
  clear hks
  generalize namedK n = ks at *
  go_wp2_with (fail)
  go_loopw [5, 7, 8, 12, 13, 14, 15, 16, 17, 18, 19, 20, 21, 22, 23, 24, 25, 26, 27, 28, 29] (fun s _ _ i _ _ _ _ _ _ _ _ _ _ _ _ _ _ _ _ _ wr => ∃ (k : Nat) (why : Int), k ≤ ks.length ∧ i = .int .i64 k ∧ s = .int .i64 why ∧ leadsE (pcs.map (·.2)) n = leadsGo (pcs.map (·.2)) why (ks.drop k) ∧ St B wr p sz pcs ∧ Below B w wr ∧ Fr w wr ∧ Fr w1 wr ∧ wr.cell? ⟨p, 1, none⟩ = w.cell? ⟨p, 1, none⟩) (fun _ _ _ i _ _ _ _ _ _ _ _ _ _ _ _ _ _ _ _ _ _ => ks.length - (intOf i).toNat)
  case atStart => exact ⟨0, 0, Nat.zero_le _, rfl, rfl, HKS.out, H1.out.1, H1.out.2.1, H1.out.2.2.1, Fr.refl _, H1.out.2.2.2⟩
  case round =>
    obtain ⟨k, why, hk, rfl, rfl, hgo, hst, hB, hF, hF1, hcp⟩ := hrel
    by_cases hlt : k < ks.length
    · have hslr := (HSL.out.soft kid_opens hF1.soft).len_eq
      obtain ⟨b, o, rfl, hatr, hwf⟩ := hslr.2.2.2 k hlt
      have hbr : b < wr.heap.size := hatr.lt (by simp [kidE])
      rw [List.drop_eq_getElem_cons hlt, leadsGo] at hgo
      have hrs : w.heap.size ≤ wr.heap.size := hB.size
      have HG := Lib.hid (And.intro hgo (And.intro hst (And.intro hB (And.intro hF hF1))))
      have HCP := Lib.hid (And.intro hcp (Nat.lt_of_lt_of_le HPW.out hrs))
      clear hcp
      clear hgo hst hB hF hF1 hslr
      generalize ks[k] = kk at *
      have HK := kid_len kk hwf
      have h1' := kidE.one kk hwf
      have n1 : (wr.alloc (.cells (kidE.enc kk).toArray 58)).cell? ⟨wr.heap.size, 1, none⟩ = some (.int .u32 kk.num) := new_cell 1 _ rfl
      have HN2 := Lib.hid (hash_at (new_at wr (kidE.enc kk) 58))
      have HL := Lib.hid (And.intro (kidE.len kk hwf) hwf)
      clear hwf
      have hba := (Below.refl wr.heap.size wr).alloc (Nat.le_refl _) (.cells (kidE.enc kk).toArray 58)
      have HA := Lib.hid (And.intro (HG.out.2.1.below hba) (And.intro (HG.out.2.2.1.alloc (Nat.le_trans hBw hrs) (.cells (kidE.enc kk).toArray 58)) (Fr.of_below hba)))
      have hal : (wr.alloc (.cells (kidE.enc kk).toArray 58)).heap[wr.heap.size]? = some (.cells (kidE.enc kk).toArray 58 (0, 0)) := heap_alloc_new _ _
      have HAL := Lib.hid hal
      clear hba hal
      generalize kidE.enc kk = vs at *
      go_wp2_with (first
        | ((with_reducible refine probe_loadT 58 ?_); refine wpList_load_at rfl 58 (.tmp 14) rfl b (o + k * 34) rfl vs _ hatr Tryz.underlying58 rfl HK ?_)
        | ((with_reducible refine probe_storeT 58 ?_); refine wpList_store_new rfl 58 (.tmp 7) (.tmp 15) rfl 58 _ rfl vs rfl (by rw [HL.out.1]; rfl) h1' HK ?_))
      go_at_call 42
      refine (at_any B _ p sz pcs kk.num HA.out.1 HS.out.2.1 hmax).mono ?_
      rintro e _ ⟨rfl, a, rfl⟩
      have hask := HA.out.1.asked a
      have hfa := Fr.asked HA.out.1 a
      have HZ := Lib.hid (And.intro hask.1 (And.intro (HA.out.2.1.trans hask.2.2) (And.intro ((HG.out.2.2.2.1.trans HA.out.2.2).trans hfa) ((HG.out.2.2.2.2.trans HA.out.2.2).trans hfa))))
      have HAL2 := Lib.hid (hfa.keep HAL.out (by unfold BadT; decide))
      have HCY := Lib.hid (show ((wr.alloc (.cells vs.toArray 58)).setCell ⟨p, 2, none⟩ (.int .i64 a)).cell? ⟨p, 1, none⟩ = w.cell? ⟨p, 1, none⟩ by
        rw [← HCP.out.1]
        have h1 : (wr.alloc (.cells vs.toArray 58)).cell? ⟨p, 1, none⟩ = wr.cell? ⟨p, 1, none⟩ := World.cell?_of_block (Lib.alloc_old wr _ _ HCP.out.2)
        rw [← h1]
        obtain ⟨v9, a9, hp9, _⟩ := HA.out.1.row
        rw [cell_of_row _ _ _ _ _ _ (blk_set hp9 2 _), cell_of_row _ _ _ _ _ _ hp9]; rfl)
      clear hask hfa
      generalize (wr.alloc (.cells vs.toArray 58)).setCell ⟨p, 2, none⟩ (.int .i64 a) = wy at *
      cases hc : cellOf pcs kk.num with
      | none =>
        have HE := Lib.hid (show leadsE (pcs.map (·.2)) n = 5 by rw [HG.out.1, cellOf_none HS.out.2.1 hc])
        clear hc
        go_wp2_with (fail)
        go_ret
        exact ⟨by rw [HE.out]; rfl, HZ.out.1, HZ.out.2.1, HZ.out.2.2.1, HCY.out⟩
      | some x =>
        obtain ⟨hxm, hxn⟩ := cellOf_mem hc
        have HE := Lib.hid (show leadsE (pcs.map (·.2)) n = leadsGo (pcs.map (·.2)) (if x.2.hash = kk.hash then why else 9) (ks.drop (k + 1)) by rw [HG.out.1, cellOf_some HS.out.2.1 hc])
        have hh := (HZ.out.1.cells x hxm).1.hash
        have hwx := HZ.out.1.wf x hxm
        have hn2 : At wy wr.heap.size 2 (hashV kk.hash) := HN2.out.heap (by rw [HAL2.out, HAL.out])
        have hl1 := hash_len hwx.hash
        have hl2 := hash_len HL.out.2.2.2
        have HLL := Lib.hid (And.intro hwx.hash.1 HL.out.2.2.2.1)
        have HMM := Lib.hid (And.intro hh (And.intro hn2 (And.intro hl1 hl2)))
        clear hc hxm hxn hh hn2 hl1 hl2 hwx
        obtain ⟨xa, hxa⟩ : ∃ xa, (hashV x.2.hash).toArray = xa := ⟨_, rfl⟩
        obtain ⟨ya, hya⟩ : ∃ ya, (hashV kk.hash).toArray = ya := ⟨_, rfl⟩
        have HXY := Lib.hid (And.intro hxa hya)
        clear hxa hya
        have hwy : wy.heap.size ≤ wy.heap.size := Nat.le_refl _
        cases hq : (x.2.hash == kk.hash) with
        | true =>
          have HE2 := Lib.hid (show leadsE (pcs.map (·.2)) n = leadsGo (pcs.map (·.2)) why (ks.drop (k + 1)) by rw [HE.out, if_pos (by simpa using hq)])
          go_wp2_with (fail)
          refine wp_region_quiet_lit (by kernel_rfl) (by kernel_rfl) ?_
          iterate 3 (go_big_quiet_step (fail))
          go_big_quiet_want
          refine quiet_arr 56 (.tmp 24) rfl x.1 7 rfl _ _ HMM.out.1 Tryz.underlying56 rfl HMM.out.2.2.1 xa HXY.out.1 ?_
          simp [go_sem]
          go_big_quiet_on
          go_big_quiet_step (fail)
          go_big_quiet_want
          refine quiet_arr 56 (.tmp 26) rfl wr.heap.size 2 rfl _ _ HMM.out.2.1 Tryz.underlying56 rfl HMM.out.2.2.2 ya HXY.out.2 ?_
          simp [go_sem]
          go_big_quiet_on
          go_big_quiet_want
          refine quiet_neqHash (.tmp 25) (.tmp 27) rfl _ _ HLL.out.1 HLL.out.2 xa ya HXY.out.1 HXY.out.2 rfl rfl ?_
          rw [hq]
          simp [go_sem]
          go_big_quiet_on
          refine wpQuiet_nil ?_
          rintro _ ⟨nq, rfl⟩
          have HZ2 := Lib.hid (And.intro (HZ.out.1.below (Below.drewN' (Below.refl _ wy) nq)) (And.intro (Below.drewN' HZ.out.2.1 nq) (And.intro (HZ.out.2.2.1.trans (Fr.of_below (Below.drewN' (Below.refl _ wy) nq))) (HZ.out.2.2.2.trans (Fr.of_below (Below.drewN' (Below.refl _ wy) nq))))))
          have HCZ := Lib.hid (show (wy.drewN nq).cell? ⟨p, 1, none⟩ = w.cell? ⟨p, 1, none⟩ from HCY.out)
          generalize wy.drewN nq = wz at *
          go_wp2_with (fail)
          exact ⟨⟨k + 1, why, by omega, by go_num, rfl, HE2.out, HZ2.out.1, HZ2.out.2.1, HZ2.out.2.2.1, HZ2.out.2.2.2, HCZ.out⟩, by simp [intOf]; omega⟩
        | false =>
          have HE2 := Lib.hid (show leadsE (pcs.map (·.2)) n = leadsGo (pcs.map (·.2)) 9 (ks.drop (k + 1)) by rw [HE.out, if_neg (by simpa using hq)])
          go_wp2_with (fail)
          refine wp_region_quiet_lit (by kernel_rfl) (by kernel_rfl) ?_
          iterate 3 (go_big_quiet_step (fail))
          go_big_quiet_want
          refine quiet_arr 56 (.tmp 24) rfl x.1 7 rfl _ _ HMM.out.1 Tryz.underlying56 rfl HMM.out.2.2.1 xa HXY.out.1 ?_
          simp [go_sem]
          go_big_quiet_on
          go_big_quiet_step (fail)
          go_big_quiet_want
          refine quiet_arr 56 (.tmp 26) rfl wr.heap.size 2 rfl _ _ HMM.out.2.1 Tryz.underlying56 rfl HMM.out.2.2.2 ya HXY.out.2 ?_
          simp [go_sem]
          go_big_quiet_on
          go_big_quiet_want
          refine quiet_neqHash (.tmp 25) (.tmp 27) rfl _ _ HLL.out.1 HLL.out.2 xa ya HXY.out.1 HXY.out.2 rfl rfl ?_
          rw [hq]
          simp [go_sem]
          go_big_quiet_on
          refine wpQuiet_nil ?_
          rintro _ ⟨nq, rfl⟩
          have HZ2 := Lib.hid (And.intro (HZ.out.1.below (Below.drewN' (Below.refl _ wy) nq)) (And.intro (Below.drewN' HZ.out.2.1 nq) (And.intro (HZ.out.2.2.1.trans (Fr.of_below (Below.drewN' (Below.refl _ wy) nq))) (HZ.out.2.2.2.trans (Fr.of_below (Below.drewN' (Below.refl _ wy) nq))))))
          have HCZ := Lib.hid (show (wy.drewN nq).cell? ⟨p, 1, none⟩ = w.cell? ⟨p, 1, none⟩ from HCY.out)
          generalize wy.drewN nq = wz at *
          go_wp2_with (fail)
          exact ⟨⟨k + 1, 9, by omega, by go_num, rfl, HE2.out, HZ2.out.1, HZ2.out.2.1, HZ2.out.2.2.1, HZ2.out.2.2.2, HCZ.out⟩, by simp [intOf]; omega⟩
    · obtain rfl : k = ks.length := by omega
      have HE2 := Lib.hid (show leadsE (pcs.map (·.2)) n = why by rw [hgo, List.drop_of_length_le (by omega)]; rfl)
      have HZ := Lib.hid (And.intro hst (And.intro hB (And.intro hF hcp)))
      clear hgo hst hB hF hF1 hcp
      go_wp2_with (fail)
      go_ret
      exact ⟨by rw [HE2.out]; rfl, HZ.out.1, HZ.out.2.1, HZ.out.2.2.1, HZ.out.2.2.2⟩
end Go.Proofs.YthhmcjojnbaiiaaGreatDoor

/- Heap: a cell's fields written. -/
namespace Go.Proofs.YthhmcjojnbaiiaaGreatDoor
open Go Go.RowKit
theorem ccRow_get (c : CC) (vi vk vv : Value) (h : c.hash.length = 32) : (ccRow c vi vk vv).length = 40 ∧ (ccRow c vi vk vv)[39]? = some (.int .i64 c.led) := by
  have hl : (hashV c.hash).length = 32 := by simp [hashV, h]
  unfold ccRow
  constructor
  · simp [hl]
  · rw [List.getElem?_append_right (by simp [hl])]; simp [hl]
theorem cut3 {α : Type} (a b d e : List α) (ha : a.length = 7) (hb : b.length = 32) : (a ++ b ++ d).take 7 ++ e ++ (a ++ b ++ d).drop 39 = a ++ e ++ d := by
  have h1 : (a ++ b ++ d).drop 39 = d := by
    have : (a ++ b).length = 39 := by simp [ha, hb]
    rw [← this]; exact List.drop_left
  have h2 : (a ++ b ++ d).take 7 = a := by
    rw [List.append_assoc, ← ha]; exact List.take_left
  rw [h1, h2]
theorem ccRow_hash (c : CC) (vi vk vv : Value) (l : List Int) (h : c.hash.length = 32) : (ccRow c vi vk vv).take 7 ++ hashV l ++ (ccRow c vi vk vv).drop 39 = ccRow { c with hash := l } vi vk vv :=
  cut3 _ _ _ _ rfl (by simp [hashV, h])
theorem ccRow_led (c : CC) (vi vk vv : Value) (l : Int) (h : c.hash.length = 32) : (ccRow c vi vk vv).toArray.setIfInBounds 39 (.int .i64 l) = (ccRow { c with led := l } vi vk vv).toArray := by
  have hl : (hashV c.hash).length = 32 := by simp [hashV, h]
  unfold ccRow
  rw [List.setIfInBounds_toArray, List.set_append_right _ _ (by simp [hl])]
  simp [hl]
theorem ccRow_refs (c : CC) (vi vk vv : Value) (r : Int) : (ccRow c vi vk vv).toArray.setIfInBounds 2 (.int .i64 r) = (ccRow { c with refs := r } vi vk vv).toArray := by
  unfold ccRow
  rw [List.setIfInBounds_toArray, List.append_assoc, List.append_assoc, List.set_append_left _ _ (by simp)]
  rfl
section
variable {B : Nat} {w : World} {p : Nat} {sz : Int} {pcs : List (Nat × CC)} {x : Nat × CC}
theorem St.led_cell (h : St B w p sz pcs) (hx : x ∈ pcs) : w.cell? ⟨x.1, 39, none⟩ = some (.int .i64 x.2.led) := by
  obtain ⟨vi, vk, vv, hb, _⟩ := (h.cells x hx).1
  rw [cell_of_row _ _ _ _ _ _ hb]
  have := (ccRow_get x.2 vi vk vv (h.wf x hx).hash.1).2
  simpa using this
theorem St.refs_cell (h : St B w p sz pcs) (hx : x ∈ pcs) : w.cell? ⟨x.1, 2, none⟩ = some (.int .i64 x.2.refs) := by
  obtain ⟨vi, vk, vv, hb, _⟩ := (h.cells x hx).1
  rw [cell_of_row _ _ _ _ _ _ hb]; rfl
theorem St.froz (h : St B w p sz pcs) (hx : x ∈ pcs) (i : Nat) : w.frozen? ⟨x.1, i, none⟩ = false := by
  obtain ⟨vi, vk, vv, hb, _⟩ := (h.cells x hx).1
  exact frozen_of_row _ _ _ _ _ hb
theorem St.blt (h : St B w p sz pcs) (hx : x ∈ pcs) : x.1 < w.heap.size := by
  obtain ⟨vi, vk, vv, hb, _⟩ := (h.cells x hx).1
  exact lt_of_block hb
theorem St.setHash (h : St B w p sz pcs) (hx : x ∈ pcs) (l : List Int) (hl : hashOk l) {cur : Array Value} (hc : w.heap[x.1]? = some (.cells cur 96 (0, 0))) :
    St B (w.setRow x.1 (cur.toList.take 7 ++ hashV l ++ cur.toList.drop (7 + (hashV l).length)).toArray) p sz (pcs.map fun y => if y.1 = x.1 then (y.1, { x.2 with hash := l }) else y) ∧
      Fr w (w.setRow x.1 (cur.toList.take 7 ++ hashV l ++ cur.toList.drop (7 + (hashV l).length)).toArray) ∧ Below B w (w.setRow x.1 (cur.toList.take 7 ++ hashV l ++ cur.toList.drop (7 + (hashV l).length)).toArray) := by
  obtain ⟨vi, vk, vv, hb, h1, h2, h3⟩ := (h.cells x hx).1
  rw [hc] at hb
  injection hb with hb
  injection hb with hb _ _
  have hw := h.wf x hx
  have hll : (hashV l).length = 32 := by simp [hashV, hl.1]
  rw [hb, hll, ccRow_hash _ _ _ _ _ hw.hash.1]
  refine St.set h hx rfl ⟨hl, hw.cel, hw.small, hw.kd⟩ h1 h2 h3 (by rw [← hb]; exact hc) ⟨rfl, rfl, rfl, by simp [World.setRow], fun k _ hk => heap_setRow_other _ _ _ _ (by simpa using hk)⟩ (heap_setRow_same _ _ _ _ _ hc)
theorem St.setLed (h : St B w p sz pcs) (hx : x ∈ pcs) (l : Int) :
    St B (w.setCell ⟨x.1, 39, none⟩ (.int .i64 l)) p sz (pcs.map fun y => if y.1 = x.1 then (y.1, { x.2 with led := l }) else y) ∧ Fr w (w.setCell ⟨x.1, 39, none⟩ (.int .i64 l)) ∧ Below B w (w.setCell ⟨x.1, 39, none⟩ (.int .i64 l)) := by
  obtain ⟨vi, vk, vv, hb, h1, h2, h3⟩ := (h.cells x hx).1
  have hw := h.wf x hx
  have hs := blk_set hb 39 (.int .i64 l)
  rw [ccRow_led _ _ _ _ _ hw.hash.1] at hs
  exact St.set h hx rfl ⟨hw.hash, hw.cel, hw.small, hw.kd⟩ h1 h2 h3 hb (grown_set (World.grownBy.refl w _) 39 _) hs
theorem St.setRefs (h : St B w p sz pcs) (hx : x ∈ pcs) (r : Int) (hr : -9223372036854775808 ≤ r ∧ r ≤ 9223372036854775807) :
    St B (w.setCell ⟨x.1, 2, none⟩ (.int .i64 r)) p sz (pcs.map fun y => if y.1 = x.1 then (y.1, { x.2 with refs := r }) else y) ∧ Fr w (w.setCell ⟨x.1, 2, none⟩ (.int .i64 r)) ∧ Below B w (w.setCell ⟨x.1, 2, none⟩ (.int .i64 r)) := by
  obtain ⟨vi, vk, vv, hb, h1, h2, h3⟩ := (h.cells x hx).1
  have hw := h.wf x hx
  have hs := blk_set hb 2 (.int .i64 r)
  rw [ccRow_refs] at hs
  exact St.set h hx rfl ⟨hw.hash, ⟨hw.cel.1, hw.cel.2.1, hr⟩, hw.small, hw.kd⟩ h1 h2 h3 hb (grown_set (World.grownBy.refl w _) 2 _) hs
/-- The row of the store is the one that its field tells. -/
theorem St.own (h : St B w p sz pcs) {v : Value} (hv : w.cell? ⟨p, 1, none⟩ = some v) : w.ownsRow B 91 1 v pcs.length (ptrsV pcs) := by
  obtain ⟨v', a, hp, ho⟩ := h.row
  rw [cell_of_row _ _ _ _ _ _ hp] at hv
  simp at hv
  subst hv
  exact ho
theorem St.field (h : St B w p sz pcs) : ∃ v, w.cell? ⟨p, 1, none⟩ = some v ∧ w.ownsRow B 91 1 v pcs.length (ptrsV pcs) := by
  obtain ⟨v', a, hp, ho⟩ := h.row
  exact ⟨v', by rw [cell_of_row _ _ _ _ _ _ hp]; rfl, ho⟩
/-- The node of a cell, as it lies there. -/
theorem St.node (h : St B w p sz pcs) (hx : x ∈ pcs) : ∃ A1 n1 c1 A2 n2 c2 A3 n3 c3, w.cell? ⟨x.1, 3, none⟩ = some (.int .u8 x.2.node.kind) ∧ w.cell? ⟨x.1, 4, none⟩ = some (.slice A1 n1 c1) ∧ w.cell? ⟨x.1, 5, none⟩ = some (.slice A2 n2 c2) ∧ w.cell? ⟨x.1, 6, none⟩ = some (.slice A3 n3 c3) ∧
    NodeV w (.agg #[.int .u8 x.2.node.kind, .slice A1 n1 c1, .slice A2 n2 c2, .slice A3 n3 c3]) x.2.node := by
  obtain ⟨vi, vk, vv, hb, h1, h2, h3⟩ := (h.cells x hx).1
  obtain ⟨A1, n1, c1, rfl⟩ := sl_slice h1
  obtain ⟨A2, n2, c2, rfl⟩ := sl_slice h2
  obtain ⟨A3, n3, c3, rfl⟩ := sl_slice h3
  refine ⟨A1, n1, c1, A2, n2, c2, A3, n3, c3, ?_, ?_, ?_, ?_, ⟨_, _, _, rfl, h1, h2, h3, (h.wf x hx).kd.1, (h.wf x hx).kd.2⟩⟩ <;> (rw [cell_of_row _ _ _ _ _ _ hb]; rfl)
theorem St.size_cell (h : St B w p sz pcs) : w.cell? ⟨p, 0, none⟩ = some (.int .u32 sz) := by
  obtain ⟨v', a, hp, ho⟩ := h.row
  rw [cell_of_row _ _ _ _ _ _ hp]; rfl
theorem St.plt (h : St B w p sz pcs) : p < w.heap.size := by
  obtain ⟨v', a, hp, ho⟩ := h.row
  exact lt_of_block hp
end
end Go.Proofs.YthhmcjojnbaiiaaGreatDoor

/- Plain: what heap.open's rounds come to. -/
namespace Go.Proofs.YthhmcjojnbaiiaaGreatDoor
open Go Go.RowKit
def hashCC (x : Nat × CC) : Nat × CC := (x.1, { x.2 with hash := shaOf x.2.data.data.toList })
def hashed (k : Nat) (pcs : List (Nat × CC)) : List (Nat × CC) := pcs.mapIdx fun j x => if j < k then hashCC x else x
theorem hashed_zero (pcs : List (Nat × CC)) : hashed 0 pcs = pcs := by
  unfold hashed; apply List.ext_getElem (by simp); intro i h1 h2; simp
theorem hashed_all (pcs : List (Nat × CC)) : hashed pcs.length pcs = pcs.map hashCC := by
  unfold hashed; apply List.ext_getElem (by simp); intro i h1 h2
  simp at h1
  simp [h1]
theorem hashed_len (k : Nat) (pcs : List (Nat × CC)) : (hashed k pcs).length = pcs.length := by simp [hashed]
theorem hashed_get {k : Nat} {pcs : List (Nat × CC)} (i : Nat) (h : i < (hashed k pcs).length) (h' : i < pcs.length) : (hashed k pcs)[i] = if i < k then hashCC pcs[i] else pcs[i] := by simp [hashed]
theorem hashed_ptr (k : Nat) (pcs : List (Nat × CC)) : (hashed k pcs).map (·.1) = pcs.map (·.1) := by
  apply List.ext_getElem (by simp [hashed]); intro i h1 h2
  simp only [List.getElem_map]
  rw [hashed_get i (by simpa using h1) (by simpa using h2)]
  split <;> rfl
theorem hashed_ptrs (k : Nat) (pcs : List (Nat × CC)) : ptrsV (hashed k pcs) = ptrsV pcs := by
  have h := hashed_ptr k pcs
  have e : ∀ l : List (Nat × CC), ptrsV l = (l.map (·.1)).map (fun q => Value.pointer (some ⟨q, 0, none⟩)) := by intro l; unfold ptrsV; rw [List.map_map]; rfl
  rw [e, e, h]
theorem nodup_ne {pcs : List (Nat × CC)} (hnd : (pcs.map (·.1)).Nodup) {i j : Nat} (hi : i < pcs.length) (hj : j < pcs.length) (h : pcs[i].1 = pcs[j].1) : i = j := by
  rcases Nat.lt_trichotomy i j with hl | hl | hl
  · exact absurd (by rw [List.getElem_map, List.getElem_map]; exact h) (List.pairwise_iff_getElem.1 hnd i j (by simpa using hi) (by simpa using hj) hl)
  · exact hl
  · exact absurd (by rw [List.getElem_map, List.getElem_map]; exact h.symm) (List.pairwise_iff_getElem.1 hnd j i (by simpa using hj) (by simpa using hi) hl)
theorem hashed_step {pcs : List (Nat × CC)} (hnd : (pcs.map (·.1)).Nodup) (k : Nat) (hk : k < pcs.length) :
    ((hashed k pcs).map fun y => if y.1 = pcs[k].1 then (y.1, { pcs[k].2 with hash := shaOf pcs[k].2.data.data.toList }) else y) = hashed (k + 1) pcs := by
  apply List.ext_getElem (by simp [hashed])
  intro i h1 h2
  have hi : i < pcs.length := by simpa [hashed] using h1
  rw [List.getElem_map, hashed_get i (by simpa [hashed] using h1) hi, hashed_get i h2 hi]
  by_cases e : i = k
  · subst e
    simp [hashCC]
  · have hne : ¬ pcs[i].1 = pcs[k].1 := fun h => e (nodup_ne hnd hi hk h)
    by_cases hlt : i < k
    · simp [hashCC, hlt, hne, Nat.lt_succ_of_lt hlt]
    · have h3 : ¬ i < k + 1 := by omega
      simp [hlt, hne, h3]
theorem hashed_mem {pcs : List (Nat × CC)} {k : Nat} (hk : k < pcs.length) : pcs[k] ∈ hashed k pcs := by
  have : (hashed k pcs)[k]'(by rw [hashed_len]; exact hk) = pcs[k] := by rw [hashed_get k _ hk, if_neg (by omega)]
  rw [← this]; exact List.getElem_mem _
theorem hashed_cc1 {pcs : List (Nat × CC)} {cs : List Cel} (h : pcs.map (·.2) = cs.map cc0) : (pcs.map hashCC).map (·.2) = cs.map cc1 := by
  have : (pcs.map hashCC).map (·.2) = (pcs.map (·.2)).map (fun c => { c with hash := shaOf c.data.data.toList }) := by rw [List.map_map, List.map_map]; rfl
  rw [this, h, List.map_map]; rfl
/-- What only tells numbers and hashes tells who is led to. -/
theorem ccFind_map {f : CC → CC} (h : ∀ c, (f c).num = c.num) (cs : List CC) (t : Int) : ccFind (cs.map f) t = (ccFind cs t).map f := by
  unfold ccFind
  rw [List.find?_map]
  congr 1
  congr 1
  funext c
  simp [Function.comp, h]
theorem leadsGo_map {f : CC → CC} (h : ∀ c, (f c).num = c.num ∧ (f c).hash = c.hash) (cs : List CC) : ∀ (ks : List Kid) (why : Int), leadsGo (cs.map f) why ks = leadsGo cs why ks
  | [], why => rfl
  | k :: r, why => by
    rw [leadsGo, leadsGo, ccFind_map (fun c => (h c).1)]
    cases ccFind cs k.num with
    | none => rfl
    | some c =>
      simp only [Option.map_some, (h c).2]
      exact leadsGo_map h cs r _
theorem leadsE_bumps (ts : List Int) (cs : List CC) (n : Node) : leadsE (bumps ts cs) n = leadsE cs n := by
  unfold leadsE; rw [bumps_map]; exact leadsGo_map (f := fun c => { c with led := c.led + countL ts c.num }) (fun c => ⟨rfl, rfl⟩) cs _ _
theorem bumps_app (a b : List Int) (cs : List CC) : bumps (a ++ b) cs = bumps b (bumps a cs) := by unfold bumps; rw [List.foldl_append]
theorem bumps_len (ts : List Int) (cs : List CC) : (bumps ts cs).length = cs.length := by rw [bumps_map, List.length_map]
theorem bumps_nums (ts : List Int) (cs : List CC) : ccNums (bumps ts cs) = ccNums cs := by rw [bumps_map, nums_map]; intro; rfl
theorem bumps_get (ts : List Int) (cs : List CC) (i : Nat) (h : i < (bumps ts cs).length) (h' : i < cs.length) : ((bumps ts cs)[i]).num = cs[i].num ∧ ((bumps ts cs)[i]).node = cs[i].node ∧ ((bumps ts cs)[i]).led = cs[i].led + countL ts cs[i].num ∧ ((bumps ts cs)[i]).refs = cs[i].refs := by
  have e := bumps_map ts cs
  have : (bumps ts cs)[i] = (cs.map (fun c => { c with led := c.led + countL ts c.num }))[i]'(by simpa using h') := by congr 1
  rw [this, List.getElem_map]
  exact ⟨rfl, rfl, rfl, rfl⟩
theorem nums_cc (pcs : List (Nat × CC)) : nums pcs = ccNums (pcs.map (·.2)) := by unfold nums ccNums; rw [List.map_map]; rfl
theorem rising_of_pair {l : List Int} (h : l.Pairwise (· < ·)) : Rising l := fun i j hi hj hij => List.pairwise_iff_getElem.1 h i j hi hj hij
theorem countL_le (ts : List Int) (t : Int) : countL ts t ≤ ts.length := List.length_filter_le _ _
theorem kidNums_len (n : Node) (h : n.kids.length ≤ 255 ∧ n.vols.length ≤ 255) : (kidNums n).length ≤ 255 := by
  unfold kidNums
  split
  · rw [List.length_map]; exact h.1
  · split
    · rw [List.length_map]; have := (List.filter_sublist (p := fun v : Vol => v.root != 0) (l := n.vols)).length_le; omega
    · simp
theorem allKids_len : ∀ cs : List CC, (∀ c ∈ cs, c.node.kids.length ≤ 255 ∧ c.node.vols.length ≤ 255) → (allKids cs).length ≤ 255 * cs.length
  | [], _ => by simp [allKids]
  | c :: cs, h => by
    have ih := allKids_len cs (fun d hd => h d (by simp [hd]))
    have hc := kidNums_len c.node (h c (by simp))
    unfold allKids at ih ⊢
    rw [List.flatMap_cons, List.length_append, List.length_cons]; omega
theorem ptrs_of {a b : List (Nat × CC)} (h : a.map (·.1) = b.map (·.1)) : ptrsV a = ptrsV b := by
  have e : ∀ l : List (Nat × CC), ptrsV l = (l.map (·.1)).map (fun q => Value.pointer (some ⟨q, 0, none⟩)) := by intro l; unfold ptrsV; rw [List.map_map]; rfl
  rw [e, e, h]
theorem bumps_mem {ts : List Int} {cs : List CC} {c : CC} (h : c ∈ bumps ts cs) : ∃ d ∈ cs, c = { d with led := d.led + countL ts d.num } := by
  rw [bumps_map] at h
  obtain ⟨d, hd, rfl⟩ := List.mem_map.1 h
  exact ⟨d, hd, rfl⟩
theorem bumps_one (ts : List Int) (t : Int) (cs : List CC) : (bumps ts cs).map (ledUp t) = bumps (ts ++ [t]) cs := by rw [bumps_app]; rfl
/-- One cell's led goes up. -/
theorem led_step {pcs : List (Nat × CC)} (hnd : (pcs.map (·.1)).Nodup) (hso : Rising (nums pcs)) {x : Nat × CC} (hx : x ∈ pcs) {t : Int} (ht : x.2.num = t) :
    (pcs.map fun y => if y.1 = x.1 then (y.1, { x.2 with led := x.2.led + 1 }) else y).map (·.2) = (pcs.map (·.2)).map (ledUp t) ∧ (pcs.map fun y => if y.1 = x.1 then (y.1, { x.2 with led := x.2.led + 1 }) else y).map (·.1) = pcs.map (·.1) := by
  rw [map_one hnd hx { x.2 with led := x.2.led + 1 } (fun y => (y.1, ledUp t y.2)) (by unfold ledUp; rw [if_pos ht]) (fun y hy hne => by
    have : ¬ y.2.num = t := fun e => hne (rising_uniq hso hy hx (by rw [e, ht]))
    unfold ledUp; rw [if_neg this])]
  rw [List.map_map, List.map_map, List.map_map]
  exact ⟨rfl, rfl⟩
end Go.Proofs.YthhmcjojnbaiiaaGreatDoor
