/- Texts of the proof: Ra. -/
import Derived.Test.YthhmcjojnbaiiaaGreatDoorM29
import Derived.WalkMore
set_option linter.all false
/- Grow: raise. -/
namespace Go.Proofs.YthhmcjojnbaiiaaGreatDoor
open Go Go.RowKit
set_option maxRecDepth 100000 in
set_option maxHeartbeats 2000000 in
theorem raise_any {σ : Type} {B N : Nat} {pre post : Array Value} {put : σ → Node → Kid × Int × σ} {Inv : World → Nat → σ → Prop} (hp : Puts B N pre post put Inv) (w : World) (b o n c M : Nat) (l : List Item) (s : σ)
    (hs : Sl itemE w (.slice (some ⟨b, o, none⟩) n c) l) (hne : l ≠ []) (hsz : ∀ x ∈ l, x.key.size ≤ 48 ∧ x.val.size ≤ 160) (hmax : l.length ≤ 4194304) (hI : Inv w M s) (hM : M ≤ w.heap.size) (hB : B ≤ w.heap.size) :
    Calls Tryz.prog 52 #[.slice (some ⟨b, o, none⟩) n c, .func (.func N) pre post] w fun e w' => RaisePost B Inv w (raiseS put s l) e w' := by
  obtain ⟨i0, z0, hi, hz0, hz1, hz2, hzs⟩ := info_open kid_info
  obtain ⟨kz, hkz⟩ : ∃ kz, kidA noKid = kz := ⟨_, rfl⟩
  have HKZ := Lib.hid hkz
  obtain ⟨W0, hW0⟩ : ∃ W0, W0 = w.alloc (.cells kz 58) := ⟨_, rfl⟩
  have hb0 : Below w.heap.size w W0 := by rw [hW0]; exact below_box w _
  have hres : W0.heap[w.heap.size]? = some (.cells kz 58 (0, 0)) := by rw [hW0]; exact heap_alloc_new _ _
  have hl0 := leaves_level l hne hsz
  have hI0 := hp.rise _ _ _ _ (hp.below _ _ _ _ hI hb0) (Nat.le_trans hM hb0.size)
  obtain ⟨R, hR⟩ : ∃ R, raiseS put s l = R := ⟨_, rfl⟩
  have hR2 : R = raiseGo put (l.length + 1) 1 s (leavesL l) := hR.symm
  rw [hR]
  have HP := Lib.hid hp
  have HS := Lib.hid (And.intro (hs.below hb0 (Nat.le_refl _)) (And.intro hsz (And.intro hI0 (And.intro hres (And.intro hl0 (And.intro hb0 (And.intro hB hR2)))))))
  have HW0 := Lib.hid hW0
  clear hp hs hsz hI hI0 hres hl0 hb0 hB hR hR2 hW0 hM
  rw [← hkz, kidA_zero] at HW0
  clear hkz
  have heg := HP.out.enter
  go_enter Tryz.func52, Tryz.ntmps52
  go_upto_region 1 with (fail)
  rw [← HW0.out]
  clear HW0
  go_wp2_with (fail)
  go_at_call 82
  refine (leaves_any W0 b o n c l HS.out.1 hne HS.out.2.1 hmax).mono ?_
  rintro e w1 ⟨v1, xs1, rfl, ho1, hn1, hb1⟩
  have h1 : Inv w1 w1.heap.size s := HP.out.rise _ _ _ _ (HP.out.below _ _ _ _ HS.out.2.2.1 hb1) hb1.size
  have hb2 : Below w.heap.size w w1 := HS.out.2.2.2.2.2.1.trans (hb1.mono HS.out.2.2.2.2.2.1.size)
  have H1 := Lib.hid (And.intro ho1 (And.intro (NodesAt.mono (fun v n h => h.below hb1 (Nat.le_refl _)) _ _ hn1) (And.intro h1 (And.intro hb2 ((hb1.block _ (lt_of_block HS.out.2.2.2.1)).trans HS.out.2.2.2.1)))))
  clear ho1 hn1 hb1 h1 hb2
  go_wp2_with (fail)
  go_loopw [5, 6, 7, 8, 10, 11, 12, 15, 16, 17, 18, 19, 20, 21, 22, 23, 24, 25, 26, 27, 28, 29, 30, 31, 32, 33, 34, 35, 36, 37, 38, 39, 40, 41, 42, 43, 44, 45, 46, 47, 48, 49, 50, 51, 52] (fun _ v vd _ _ _ _ _ _ _ _ _ _ _ _ _ _ _ _ _ _ _ _ _ _ _ _ _ _ _ _ _ _ _ _ _ _ _ _ _ _ _ _ _ _ wr => ∃ (f : Nat) (d : Int) (s' : σ) (ns : List Node) (xs : List Value), 0 ≤ d ∧ d ≤ 255 ∧ vd = .int .u8 d ∧ R = raiseGo put f d s' ns ∧ ns.length ≤ f ∧ ns ≠ [] ∧ ns.length ≤ 4194304 ∧ (∀ n ∈ ns, LevelOk n) ∧ wr.ownsRow W0.heap.size 44 4 v ns.length xs ∧ NodesAt wr xs ns ∧ Inv wr wr.heap.size s' ∧ Below B w wr ∧ Fr w wr ∧ wr.heap[w.heap.size]? = some (.cells kz 58 (0, 0))) (fun _ v _ _ _ _ _ _ _ _ _ _ _ _ _ _ _ _ _ _ _ _ _ _ _ _ _ _ _ _ _ _ _ _ _ _ _ _ _ _ _ _ _ _ _ _ => sliceLen v)
  case atStart =>
    have hl0 := HS.out.2.2.2.2.1
    exact ⟨l.length + 1, 1, s, leavesL l, xs1, by omega, by omega, rfl, HS.out.2.2.2.2.2.2.2, by omega, hl0.2.1, by omega, hl0.1, H1.out.1, H1.out.2.1, H1.out.2.2.1, H1.out.2.2.2.1.mono HS.out.2.2.2.2.2.2.1, Fr.of_below H1.out.2.2.2.1, H1.out.2.2.2.2⟩
  case round =>
    obtain ⟨f, d, s', ns, xs, hd0, hd1, rfl, hR2, hf, hnn, hnl, hlv, hown, hnds, hinv, hbl, hfr, hres⟩ := hrel
    have hpos := List.length_pos_iff.2 hnn
    obtain ⟨gn, cpn, rfl, hgn1, hgn2⟩ := hown.form hpos
    obtain ⟨wl, hwl⟩ : ∃ wl : World, wl = wr := ⟨_, rfl⟩
    subst hwl
    have hBl : B ≤ wl.heap.size := Nat.le_trans HS.out.2.2.2.2.2.2.1 hbl.size
    have HG := Lib.hid (And.intro hR2 (And.intro hlv (And.intro hown (And.intro hnds (And.intro hinv (And.intro hbl (And.intro hfr (And.intro hres hBl))))))))
    have hrl := lt_of_block hres
    have hcp := hown.2
    clear hR2 hlv hown hnds hinv hbl hfr hres hBl hcp hnn
    go_wp2_with (fail)
    obtain ⟨wo, hwo⟩ : ∃ wo : World, wo = wl := ⟨_, rfl⟩
    go_loopw [5, 8, 10, 11, 12, 19, 20, 21, 22, 23, 24, 25, 26, 27, 28, 29, 30, 31, 32, 33, 34, 35, 36, 37, 38, 39, 40] (fun _ vk _ _ _ vi _ _ _ _ _ _ _ _ _ _ _ _ _ _ _ _ _ _ _ _ _ wr => ∃ (j : Nat) (ks : List Kid) (sj : σ), j ≤ ns.length ∧ vi = .int .i64 j ∧ wr.ownsRow wl.heap.size 58 34 vk j (ks.flatMap kidE.enc) ∧ ks.length = j ∧ putAll put [] s' ns = putAll put ks sj (ns.drop j) ∧ (∀ k ∈ ks, kidE.wf k ∧ k.key.size ≤ 48) ∧ Rc B Inv wl wr sj) (fun _ _ _ _ _ vi _ _ _ _ _ _ _ _ _ _ _ _ _ _ _ _ _ _ _ _ _ _ => ns.length - (intOf vi).toNat)
    case atStart => exact ⟨0, [], s', Nat.zero_le _, rfl, World.ownsRow_nil _ _ _ _, rfl, by rw [List.drop_zero], fun k hk => by simp at hk, ⟨HG.out.2.2.2.2.1, Below.refl _ _, Fr.refl _⟩⟩
    case round =>
      obtain ⟨j, ks, sj, hj, rfl, hko, hkl, hka, hkw, hrc⟩ := hrel
      by_cases hlt : j < ns.length
      · have hnr := hrc.fr.own HG.out.2.2.1 (by unfold BadT; decide)
        obtain ⟨A1, n1, c1, A2, n2, c2, A3, n3, c3, hnv, hat⟩ := nodesAt_row HG.out.2.2.2.1 hnr j hlt
        have hlv := HG.out.2.1 ns[j] (List.getElem_mem hlt)
        have hdr : ns.drop j = ns[j] :: ns.drop (j + 1) := List.drop_eq_getElem_cons hlt
        rw [hdr] at hka
        have HQ := Lib.hid (And.intro hko (And.intro hkl (And.intro hka (And.intro hkw (And.intro hrc (And.intro hnv hlv))))))
        have hcp : ns.length ≤ cpn := by
          rcases hnr.2 with ⟨h0, _⟩ | ⟨g', cp', cur', h0, _, _, h4, h5, _⟩
          · cases h0
          · injection h0 with _ _ h0; subst h0; exact h4
        clear hko hkl hka hkw hrc hnv hlv hdr hnr
        generalize hnj : ns[j] = nj at *
        clear hnj
        generalize hkd : nj.kind = kd at *
        have HKD := Lib.hid hkd
        clear hkd
        go_wp2_with (first
          | ((with_reducible refine probe_loadT 44 ?_); refine wpList_load_at rfl 44 (.tmp 21) rfl gn (j * 4) rfl [.int .u8 kd, .slice A1 n1 c1, .slice A2 n2 c2, .slice A3 n3 c3] _ hat Tryz.underlying44 rfl node_size ?_))
        refine (HP.out.call wl _ wl.heap.size sj _ nj (HQ.out.2.2.2.2.1.pure HP.out HG.out.2.2.2.2.2.2.2.2 (below_box wr _)).inv (Nat.le_trans HG.out.2.2.2.2.2.2.2.2 (by have := HQ.out.2.2.2.2.1.fr.size; simp; omega)) (Nat.le_refl _) HQ.out.2.2.2.2.2.1 ((HQ.out.2.2.2.2.2.1.soft HQ.out.2.2.2.2.1.fr.soft).below (below_box wr _) (Nat.le_refl _)) HQ.out.2.2.2.2.2.2.2.1 HQ.out.2.2.2.2.2.2.2.2.1 HQ.out.2.2.2.2.2.2.2.2.2.1).mono ?_
        rintro e w2 ⟨rfl, hkwf, hi2, hb2, hf2⟩
        have hrc2 : Rc B Inv wl w2 (put sj nj).2.2 := (HQ.out.2.2.2.2.1.pure HP.out HG.out.2.2.2.2.2.2.2.2 (below_box wr _)).op hi2 hb2 hf2
        have hnb2 := hf2.keep (heap_alloc_new wr (.cells #[.int .u8 kd, .slice A1 n1 c1, .slice A2 n2 c2, .slice A3 n3 c3] 44)) nb_node
        have hpA := HQ.out.2.2.1
        rw [putAll_cons] at hpA
        have hko2 := ((hf2.trans (Fr.of_below (below_box w2 (.cells (kidA (put sj nj).1) 58)))).own (HQ.out.1.alloc (.cells #[.int .u8 kd, .slice A1 n1 c1, .slice A2 n2 c2, .slice A3 n3 c3] 44)) nb_kid)
        have hwr2 : wr.heap.size < w2.heap.size := lt_of_block hnb2
        generalize (put sj nj).1 = pk at *
        generalize (put sj nj).2.1 = per at *
        generalize (put sj nj).2.2 = s2 at *
        have hres2 := hrc2.fr.keep HG.out.2.2.2.2.2.2.2.1 nb_kid
        have hrl2 := lt_of_block hres2
        obtain ⟨kv, hkv⟩ : ∃ kv, kidE.enc pk = kv := ⟨_, rfl⟩
        obtain ⟨ka, hka⟩ : ∃ ka, kidA pk = ka := ⟨_, rfl⟩
        have hkk : kv.toArray = ka := by rw [← hkv, ← hka]; rfl
        have h1' := kidE.one pk hkwf
        have hkl := kid_len pk hkwf
        have hkn := kidE.len pk hkwf
        rw [hkv] at h1' hkl hkn
        rw [hka] at hko2 ⊢
        have HR2 := Lib.hid (And.intro hrc2 (And.intro hkwf (And.intro hpA (And.intro hnb2 (And.intro hko2 (And.intro hres2 (And.intro hkn (And.intro hkk (And.intro hkv hka)))))))))
        clear hrc2 hkwf hpA hnb2 hko2 hres2 hkn hkk hkv hka hi2 hb2 hf2
        by_cases her : per = 0
        · subst her
          have hat3 : At (w2.alloc (.cells ka 58)) wr.heap.size 0 [.int .u8 kd, .slice A1 n1 c1, .slice A2 n2 c2, .slice A3 n3 c3] := at_block ((Lib.alloc_old w2 (.cells ka 58) _ hwr2).trans HR2.out.2.2.2.1)
          have hrc3 := HR2.out.1.pure HP.out HG.out.2.2.2.2.2.2.2.2 (below_box w2 (.cells ka 58))
          have hnv3 := HQ.out.2.2.2.2.2.1.soft hrc3.fr.soft
          have H3 := Lib.hid (And.intro hrc3 hnv3)
          clear hrc3 hnv3
          go_wp2_with (first
            | ((with_reducible refine probe_storeT 58 ?_); refine wpList_store_new rfl 58 (.tmp 11) (.tmp 27) rfl 58 _ rfl kv (by rw [HR2.out.2.2.2.2.2.2.2.1]; rfl) (by rw [HR2.out.2.2.2.2.2.2.1]; rfl) h1' hkl ?_; rw [HR2.out.2.2.2.2.2.2.2.1])
            | ((with_reducible refine probe_loadT 44 ?_); refine wpList_load_at rfl 44 (.tmp 10) rfl wr.heap.size 0 rfl [.int .u8 kd, .slice A1 n1 c1, .slice A2 n2 c2, .slice A3 n3 c3] _ hat3 Tryz.underlying44 rfl node_size ?_))
          go_at_call 83
          refine (key_any _ nj _ H3.out.2 HQ.out.2.2.2.2.2.2.1).mono ?_
          rintro e w4 ⟨rfl, hb4⟩
          have hkb4 := (hb4.block w2.heap.size (by simp)).trans (heap_alloc_new w2 (.cells ka 58))
          have hc4 : w4.cell? ⟨w2.heap.size, 0, none⟩ = some (.string pk.key) := by rw [cell_of_row _ _ _ _ _ _ hkb4, ← HR2.out.2.2.2.2.2.2.2.2.2]; exact kidA_key0 pk
          have hf4 : w4.frozen? ⟨w2.heap.size, 0, none⟩ = false := frozen_of_row _ _ _ _ _ hkb4
          have hset := blk_set hkb4 0 (.string (keyOf nj))
          have hgs := grown_set (World.grownBy.refl w4 (some w2.heap.size)) 0 (.string (keyOf nj))
          have hrc4 := H3.out.1.pure HP.out HG.out.2.2.2.2.2.2.2.2 hb4
          have hrc5 := hrc4.set HP.out HG.out.2.2.2.2.2.2.2.2 HR2.out.1.fr.size hkb4 hgs
          have hwf2 : kidE.wf { pk with key := keyOf nj } := ⟨by have := HQ.out.2.2.2.2.2.2.2.2.2.2; unfold strOk; simp only; omega, HR2.out.2.1.2.1, HR2.out.2.1.2.2⟩
          obtain ⟨pk2, hpk2⟩ : ∃ pk2 : Kid, { pk with key := keyOf nj } = pk2 := ⟨_, rfl⟩
          have hpf := HR2.out.2.2.1
          rw [if_neg (by simp), hpk2] at hpf
          rw [← HR2.out.2.2.2.2.2.2.2.2.2, kidA_key, hpk2] at hset
          rw [hpk2] at hwf2
          have hks2 : pk2.key.size ≤ 48 := by rw [← hpk2]; exact HQ.out.2.2.2.2.2.2.2.2.2.2
          have hko5 := ((Fr.of_below hb4).own HR2.out.2.2.2.2.1 nb_kid)
          have hko6 := hko5.kept hgs (Or.inr fun e => by
            have h1 := (HQ.out.1.lt _ (by exact e)).2
            omega)
          have hat5 := at_block (vs := kidE.enc pk2) (by rw [show (kidE.enc pk2).toArray = kidA pk2 from rfl]; exact hset)
          have g1 := kidE.one pk2 hwf2
          have g2 := kid_len pk2 hwf2
          have g3 := kidE.len pk2 hwf2
          have hw45 : (w4.setCell ⟨w2.heap.size, 0, none⟩ (.string (keyOf nj))).heap.size = w4.heap.size := by simp
          have H5 := Lib.hid (And.intro hrc5 (And.intro hwf2 (And.intro hpf (And.intro hks2 (And.intro hko6 (And.intro g1 g3))))))
          clear hrc4 hrc5 hwf2 hpf hks2 hko5 hko6 g1 g3 hset hgs hkb4 hb4 hpk2
          obtain ⟨kw, hkw⟩ : ∃ kw, kidE.enc pk2 = kw := ⟨_, rfl⟩
          obtain ⟨kb, hkb⟩ : ∃ kb, kw.toArray = kb := ⟨_, rfl⟩
          rw [hkw] at hat5 g2
          have HB2 := Lib.hid (And.intro hkw hkb)
          have hkbs : kb.size = 34 := by rw [← hkb, ← hkw]; rw [List.size_toArray]; exact H5.out.2.2.2.2.2.2
          have HKS := Lib.hid hkbs
          clear hkw hkb hkbs
          have hjb : j ≤ 4194304 := by omega
          go_wp2_with (first
            | ((with_reducible refine probe_loadT 58 ?_); refine wpList_load_arr rfl 58 (.tmp 11) rfl w2.heap.size 0 rfl kw _ hat5 Tryz.underlying58 rfl g2 kb HB2.out.2 ?_)
            | ((with_reducible refine probe_slice 41 1 ?_); refine wpList_buildOneA rfl 41 58 (.tmp 37) rfl kb rfl 34 Tryz.underlying41 ⟨i0, z0, hi, hz0, hz1, hzs⟩ HKS.out (by decide) (by decide) w4.heap.size hw45 ?_)
            | (at_builtin; go_loud (refine wpList_append_own _ rfl (.tmp 36) (.tmp 38) 41 rfl wl.heap.size 58 i0 z0 34 56 Tryz.underlying41 hi hz0 hz1 hz2 hzs (by decide) _ j _ rfl (H5.out.2.2.2.2.1.alloc (.cells kb 58)) ⟨w4.heap.size, 0, none⟩ 1 1 kw rfl ?c1 ?c2 ?c3 ?c4 ?c5 ?c6 ?_)))
          case c1 => rw [← HB2.out.1]; exact H5.out.2.2.2.2.2.2
          case c2 => intro i u hu; rw [add_at, Nat.zero_add]; have h9 := new_cell (w := w4.setCell ⟨w2.heap.size, 0, none⟩ (.string (keyOf nj))) (vs := kw) (t := 58) i u hu; rw [HB2.out.2, hw45] at h9; exact h9
          case c3 => rw [← HB2.out.1]; exact H5.out.2.2.2.2.2.1
          case c4 => unfold maxLen; omega
          case c5 => omega
          case c6 => have := H5.out.1.fr.size; simp at this ⊢; omega
          intro v' w7 hown' hgrow _
          have hrc6 := H5.out.1.pure HP.out HG.out.2.2.2.2.2.2.2.2 (below_box _ (.cells kb 58))
          have hrc7 := hrc6.row HP.out HG.out.2.2.2.2.2.2.2.2 (H5.out.2.2.2.2.1.alloc (.cells kb 58)) hgrow
          have H7 := Lib.hid (And.intro hown' hrc7)
          clear hown' hrc6 hrc7 hgrow
          go_wp2_with (fail)
          refine ⟨⟨j + 1, ks ++ [pk2], s2, by omega, by go_num, ?_, by simp [HQ.out.2.1], H5.out.2.2.1, fun k hk => ?_, H7.out.2⟩, by simp [intOf]; omega⟩
          · rw [List.flatMap_append, List.flatMap_singleton, HB2.out.1]
            exact H7.out.1
          · rcases List.mem_append.1 hk with hk | hk
            · exact HQ.out.2.2.2.1 k hk
            · rw [List.mem_singleton.1 hk]; exact ⟨H5.out.2.1, H5.out.2.2.2.1⟩
        · have hen : (per != 0) = true := by simpa using her
          have hres3 := (Lib.alloc_old w2 (.cells ka 58) _ hrl2).trans HR2.out.2.2.2.2.2.1
          have HR3 := Lib.hid hres3
          clear hres3
          have HZ := Lib.hid (And.intro (kidE.one _ noKid_wf) (kid_len _ noKid_wf))
          go_wp2_with (first
            | ((with_reducible refine probe_storeT 58 ?_); refine wpList_store_new rfl 58 (.tmp 11) (.tmp 27) rfl 58 _ rfl kv (by rw [HR2.out.2.2.2.2.2.2.2.1]; rfl) (by rw [HR2.out.2.2.2.2.2.2.1]; rfl) h1' hkl ?_; rw [HR2.out.2.2.2.2.2.2.2.1])
            | ((with_reducible refine probe_build 58 ?_); refine wpList_build_cells rfl 58 _ rfl [] rfl kz (by rw [← HKZ.out]; exact built_kid0') ?_)
            | ((with_reducible refine probe_storeT 58 ?_); refine wpList_store_at rfl 58 (.tmp 4) _ rfl w.heap.size 0 rfl (kidE.enc noKid) (by rw [show (kidE.enc noKid).toArray = kz from HKZ.out]; rfl) 58 kz HR3.out (by rw [← HKZ.out, kidA_size noKid_wf, kidE.len _ noKid_wf]; decide) HZ.out.1 HZ.out.2 ?_))
          have hrc3 := HR2.out.1.pure HP.out HG.out.2.2.2.2.2.2.2.2 (below_box w2 (.cells ka 58))
          have hks := kid_store (HG.out.2.2.2.2.2.1.trans hrc3.bl) (kb := w.heap.size) HS.out.2.2.2.2.2.2.1 HR3.out (by rw [← HKZ.out]; exact kidA_size noKid_wf) (kidE.enc noKid) (kidE.len _ noKid_wf)
          have hiz := HP.out.zero _ _ _ _ w.heap.size (0, 0) hrc3.inv (by rw [HKZ.out]; exact HR3.out) hks.2.2
          have hpf := HR2.out.2.2.1
          rw [if_pos her] at hpf
          have hRe := HG.out.1.trans (raise_err put hpf her (by omega))
          simp only [List.take_zero, List.nil_append, Nat.zero_add] at hks hiz
          refine bodyPost_ret (results_kid rfl _ w.heap.size _ (0, 0) _ rfl hks.1 (kidA_size noKid_wf)) rfl ?_
          rw [hRe]
          exact ⟨rfl, noKid_wf, ⟨_, hiz⟩, hks.2.1, (HG.out.2.2.2.2.2.2.1.trans hrc3.fr).new hks.2.2 (Nat.le_refl _)⟩
      · obtain rfl : j = ns.length := by omega
        rw [List.drop_length] at hka
        have hka2 : putAll put [] s' ns = (ks, 0, sj) := hka
        obtain ⟨gk, cpk, rfl, hgk1, hgk2⟩ := hko.form hpos
        have hrr := hrc.fr.keep HG.out.2.2.2.2.2.2.2.1 nb_kid
        by_cases h1 : ns.length = 1
        · have hq : ((ns.length : Int) == 1) = true := by simp [h1]
          obtain ⟨k, rfl⟩ : ∃ k, ks = [k] := by
            match ks, hkl.trans h1 with
            | [k], _ => exact ⟨k, rfl⟩
          have hRe := HG.out.1.trans (raise_one put hka2 (by omega))
          have hkw1 := hkw k (by simp)
          rw [List.flatMap_singleton] at hko
          have hc0 : wr.cell? ⟨gk, 0, none⟩ = some (.string k.key) := by have := hko.cells (g := gk) rfl 0 (.string k.key) rfl; rw [add_at] at this; simpa using this
          have hf0 : wr.frozen? ⟨gk, 0, none⟩ = false := hko.frozenAt 0
          obtain ⟨hst, hgs⟩ := hko.stored 0 (.string ByteArray.empty)
          have hbw : kidE.wf (bare k) := ⟨by unfold strOk bare; simp, hkw1.1.2.1, hkw1.1.2.2⟩
          have hat : At (wr.setCell ⟨gk, 0, none⟩ (.string ByteArray.empty)) gk 0 (kidE.enc (bare k)) := fun i hi => by
            have := hst.cells (g := gk) rfl i (kidE.enc (bare k))[i] (by rw [show (kidE.enc k).set 0 (.string ByteArray.empty) = kidE.enc (bare k) from rfl]; exact List.getElem?_eq_getElem hi)
            rw [add_at] at this; exact this
          have hrc2 := hrc.row HP.out HG.out.2.2.2.2.2.2.2.2 hko (by exact hgs)
          have hrr2 := (hgs.block w.heap.size (lt_of_block hrr) (by simp; omega)).trans hrr
          have g1 := kidE.one _ hbw
          have g2 := kid_len _ hbw
          have g3 := kidE.len _ hbw
          have hks := kid_store (HG.out.2.2.2.2.2.1.trans hrc2.bl) (kb := w.heap.size) HS.out.2.2.2.2.2.2.1 hrr2 (by rw [← HKZ.out]; exact kidA_size noKid_wf) (kidE.enc (bare k)) g3
          have hiz := HP.out.zero _ _ _ _ w.heap.size (0, 0) hrc2.inv (by rw [HKZ.out]; exact hrr2) hks.2.2
          simp only [List.take_zero, List.nil_append, Nat.zero_add] at hks hiz
          have HF := Lib.hid (And.intro hRe (And.intro hbw (And.intro hrr2 (And.intro hks (And.intro hiz (And.intro hrc2 g3))))))
          clear hRe hbw hrr2 hks hiz hrc2 g3 hst hgs hka hka2 hko hkl hkw hkw1 hrc hrr
          obtain ⟨kw, hkw⟩ : ∃ kw, kidE.enc (bare k) = kw := ⟨_, rfl⟩
          obtain ⟨kb, hkb⟩ : ∃ kb, kw.toArray = kb := ⟨_, rfl⟩
          rw [hkw] at hat g1 g2 HF
          have HKW := Lib.hid (And.intro hkw hkb)
          clear hkw hkb
          go_wp2_with (first
            | ((with_reducible refine probe_loadT 58 ?_); refine wpList_load_arr rfl 58 (.tmp 48) rfl gk 0 rfl kw _ hat Tryz.underlying58 rfl g2 kb HKW.out.2 ?_)
            | ((with_reducible refine probe_storeT 58 ?_); refine wpList_store_at rfl 58 (.tmp 4) _ rfl w.heap.size 0 rfl kw (by rw [HKW.out.2]; rfl) 58 kz HF.out.2.2.1 (by rw [← HKZ.out, kidA_size noKid_wf, HF.out.2.2.2.2.2.2]; decide) g1 g2 ?_))
          refine bodyPost_ret (results_kid rfl _ w.heap.size _ (0, 0) _ rfl HF.out.2.2.2.1.1 (by rw [List.size_toArray]; exact HF.out.2.2.2.2.2.2)) rfl ?_
          rw [HF.out.1]
          refine ⟨?_, HF.out.2.1, ⟨_, HF.out.2.2.2.2.1⟩, HF.out.2.2.2.1.2.1, (HG.out.2.2.2.2.2.2.1.trans HF.out.2.2.2.2.2.1.fr).new HF.out.2.2.2.1.2.2 (Nat.le_refl _)⟩
          show _ = Ending.returned (Value.tuple #[Value.agg (kidE.enc (bare k)).toArray, _])
          rw [HKW.out.1]; rfl
        · have hq : ((ns.length : Int) == 1) = false := by simp; omega
          have hkne : ks ≠ [] := by intro e; rw [e] at hkl; simp at hkl; omega
          have hksz : ∀ x ∈ ks, x.key.size ≤ 48 := fun x hx => (hkw x hx).2
          have hRe := HG.out.1.trans (raise_more put hka2 (by omega) (by omega))
          have hsl := own_sl (E := kidE) hko hkl.symm (fun x hx => (hkw x hx).1)
          have hbr := branches_level d ks hkne hksz
          have HF := Lib.hid (And.intro hRe (And.intro hbr (And.intro hrc (And.intro hsl (And.intro hrr (And.intro hkne hksz))))))
          have hkl2 : ks.length ≤ 4194304 := by omega
          clear hRe hbr hsl hka hka2 hko hkw hrc hrr hkne hksz
          go_wp2_with (fail)
          go_at_call 84
          refine (branches_any wr gk 0 ns.length cpk ks d HF.out.2.2.2.1 ⟨hd0, hd1⟩ HF.out.2.2.2.2.2.1 HF.out.2.2.2.2.2.2 hkl2).mono ?_
          rintro e w2 ⟨v2, xs2, rfl, ho2, hn2, hb2⟩
          have H2 := Lib.hid (And.intro ho2 (And.intro hn2 hb2))
          clear ho2 hn2 hb2
          go_wp2_with (fail)
          have hb2 := H2.out.2.2
          have hrc2 := HF.out.2.2.1.pure HP.out HG.out.2.2.2.2.2.2.2.2 hb2
          have hl2 := HF.out.2.1.2.2
          have hform := H2.out.1.form (List.length_pos_iff.2 HF.out.2.1.2.1)
          refine ⟨⟨f - 1, (d + 1) % 256, sj, branchesL d ks, xs2, by omega, by omega, rfl, HF.out.1, by omega, HF.out.2.1.2.1, by omega, HF.out.2.1.1, own_low H2.out.1 (by have := HF.out.2.2.1.fr.size; omega), NodesAt.mono (fun v n h => h.below hb2 (Nat.le_refl _)) _ _ H2.out.2.1, HP.out.rise _ _ _ _ hrc2.inv hrc2.fr.size, HG.out.2.2.2.2.2.1.trans hrc2.bl, HG.out.2.2.2.2.2.2.1.trans hrc2.fr, (hb2.block _ (lt_of_block HF.out.2.2.2.2.1)).trans HF.out.2.2.2.2.1⟩, ?_⟩
          obtain ⟨g3, cp3, rfl, _⟩ := hform
          simp only [sliceLen]
          omega
end Go.Proofs.YthhmcjojnbaiiaaGreatDoor
