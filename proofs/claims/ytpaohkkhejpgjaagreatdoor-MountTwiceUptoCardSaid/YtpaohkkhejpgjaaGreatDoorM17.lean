/- Texts of the proof: Qt Ld Sx Ol Vq V1. -/
import Derived.Test.YtpaohkkhejpgjaaGreatDoorM10
import Derived.Test.YtpaohkkhejpgjaaGreatDoorM5
import Derived.Test.YtpaohkkhejpgjaaGreatDoorM12
import Derived.Test.YtpaohkkhejpgjaaGreatDoorM16
import Derived.Test.YtpaohkkhejpgjaaGreatDoorM1
import Derived.Deep.QuietTactic
import Derived.Test.YtpaohkkhejpgjaaGreatDoorM6
import Derived.Test.YtpaohkkhejpgjaaGreatDoorM3
import Derived.Test.YtpaohkkhejpgjaaGreatDoorM9
set_option linter.all false
set_option maxRecDepth 100000
set_option maxHeartbeats 8000000
namespace Go.Proofs.YtpaohkkhejpgjaaGreatDoor
open Go Go.RowKit
theorem noGuard:Tryz.prog.eqGuardType Tryz.prog.depth 34=false:=by kernel_rfl
theorem neq_run(x y:Operand)(l m:List Int)(w:World)(hl:l.length=32)(hm:m.length=32):(do eqGuard .neq 34 x y (.agg (hashV l).toArray) (.agg (hashV m).toArray);binOp .neq 34 (.agg (hashV l).toArray) (.agg (hashV m).toArray)).run Tryz.prog w= .ok (.bool (!(l==m))) w:=by
 have hq:=eqHash l m w hl hm;simp[eqGuard,binOp,Op.equal,Op.maxDepth,noGuard,hq]
theorem jio{K:Act→Prop}{o:Oper}{a:Act}{w:World}(x y:Operand)(ho:o.op= .binOp .neq 34 x y 34)(l m:List Int)(hl:l.length=32)(hm:m.length=32)(la ma:Array Value)
 (hla:(hashV l).toArray=la) (hma:(hashV m).toArray=ma) (hx:a.eval x= .agg la) (hy:a.eval y= .agg ma) (h:K (a.put o.dst (.bool (!(l==m))))):o.quiet Tryz.prog a (fun w'=>∃n,w'=w.drewN n) K:=by
 subst hla hma;refine⟨.bool (!(l==m)),?_,h⟩;rintro _ ⟨n,rfl⟩;have hr:=neq_run x y l m (w.drewN n) hl hm;unfold Oper.quietAt execOp;simp only[ho,hx,hy];simp only[Sem.run_bind]at hr ⊢;rw[hr];simp only[Result.andThen_ok,Sem.run_pure];exact⟨rfl,rfl⟩
theorem jjk{pcs:List (Nat×CC)}{t:Int}{x:Nat×CC}(h:je8 pcs t=some x):x∈pcs∧x.2.num=t:=by
 unfold je8 at h;split at h
 ·rename_i hh;obtain⟨hi,rfl⟩:=List.getElem?_eq_some_iff.1 h;refine⟨List.getElem_mem hi,?_⟩;unfold jba hasAt at hh;rw[List.getElem?_eq_getElem (by simpa[nums]using hi)]at hh;simpa[nums]using hh
 ·cases h
theorem find_none_of{pcs:List (Nat×CC)}(hso:jdk (nums pcs)){t:Int}(h:jba (nums pcs) t=false):∀x∈pcs,x.2.num≠t:=by
 intro x hx e;obtain⟨i,hi,rfl⟩:=List.getElem_of_mem hx;have hin:i < (nums pcs).length:=by simpa[nums]using hi
 have hie:(nums pcs)[i]=t:=by simpa[nums]using e
 have hpos:ja5 (nums pcs) t=i:=jd0 _ _ i (by omega) (fun k hk hki=>by have:=hso k i hk hin hki;simp;omega) (fun _=>by simp;omega);unfold jba hasAt at h;rw[hpos,List.getElem?_eq_getElem hin]at h;simp at h;exact h hie
theorem jht{pcs:List (Nat×CC)}(hso:jdk (nums pcs)){t:Int}(h:je8 pcs t=none):jc6 (pcs.map (·.2)) t=none:=by
 unfold je8 at h;have hh:jba (nums pcs) t=false:=by
  cases hc:jba (nums pcs) t with
  |false=>rfl
  |true=>
   rw[hc,if_pos rfl]at h;unfold jba hasAt at hc;rw[List.getElem?_eq_none (by have:=List.getElem?_eq_none_iff.1 h;simpa[nums]using this)]at hc;cases hc
 unfold jc6;rw[List.find?_eq_none];intro c hc;obtain⟨x,hx,rfl⟩:=List.mem_map.1 hc;simpa using find_none_of hso hh x hx
theorem jhu{pcs:List (Nat×CC)}(hso:jdk (nums pcs)){x y:Nat×CC}(hx:x∈pcs)(hy:y∈pcs)(h:x.2.num=y.2.num):x=y:=by
 obtain⟨i,hi,rfl⟩:=List.getElem_of_mem hx;obtain⟨j,hj,rfl⟩:=List.getElem_of_mem hy;rcases Nat.lt_trichotomy i j with hl|hl|hl
 ·have:=hso i j (by simpa[nums]using hi) (by simpa[nums]using hj) hl;simp[nums]at this;omega
 ·subst hl;rfl
 ·have:=hso j i (by simpa[nums]using hj) (by simpa[nums]using hi) hl;simp[nums]at this;omega
theorem jlh{pcs:List (Nat×CC)}(hso:jdk (nums pcs)){t:Int}{x:Nat×CC}(h:je8 pcs t=some x):jc6 (pcs.map (·.2)) t=some x.2:=by
 obtain⟨hx,hn⟩:=jjk h;cases hf:jc6 (pcs.map (·.2)) t with
 |none=>
  unfold jc6 at hf;have:=List.find?_eq_none.1 hf x.2 (List.mem_map.2 ⟨x,hx,rfl⟩);simp[hn]at this
 |some c=>
  unfold jc6 at hf;have h1:=List.find?_some hf;obtain⟨y,hy,rfl⟩:=List.mem_map.1 (List.mem_of_find?_eq_some hf);have:y=x:=jhu hso hy hx (by simp at h1;omega);rw[this]
theorem CellAt.hash{w:World}{q:Nat}{c:CC}(h:CellAt w q c):At w q 7 (hashV c.hash):=by
 obtain⟨vi,vk,vv,h,_⟩:=h;intro i hi;rw[cell_of_row _ _ _ _ _ _ h];unfold ccRow;rw[List.getElem?_toArray,List.append_assoc,List.getElem?_append_right (by simp),List.getElem?_append_left (by simp;simpa using hi)];simp
theorem leads_any(B:Nat)(w:World)(p:Nat)(sz:Int)(pcs:List (Nat×CC))(v:Value)(n:Node)(h:St B w p sz pcs)(hBw:B≤w.heap.size)(hso:jdk (nums pcs))(hmax:pcs.length≤1073741824)(hv:NodeV w v n)(hl:n.kids.length≤100000∧n.vols.length≤100000):
 Calls Tryz.prog 124 #[.pointer (some ⟨p,0,none⟩),v] w fun e w'=>e= .returned (.int .i64 (jdr (pcs.map (·.2)) n))∧St B w' p sz pcs∧Below B w w'∧Fr w w'∧w'.cell? ⟨p,1,none⟩=w.cell? ⟨p,1,none⟩:=by
 have HS:=Lib.hid (And.intro h (And.intro hso hv));have hpw:p < w.heap.size:=by
  obtain⟨v',a,hp,ho⟩:=h.row;exact lt_of_block hp
 have HPW:=Lib.hid hpw;clear hpw;obtain⟨va,vb,vc,rfl,ha,hb0,hc0,hk0,hk1⟩:=hv;obtain⟨A1,n1,c1,rfl⟩:=jax ha;obtain⟨A2,n2,c2,rfl⟩:=jax hb0;obtain⟨A3,n3,c3,rfl⟩:=jax hc0;clear ha hb0 hc0 h;have hB1:=(Below.refl w.heap.size w).alloc (Nat.le_refl _) (.cells #[.int .u8 n.kind, .slice A1 n1 c1, .slice A2 n2 c2, .slice A3 n3 c3] 59);have HN:=Lib.hid (And.intro (HS.out.2.2.below hB1 (Nat.le_refl _)) hB1);clear hB1;have hlk:(jcn n).length≤200000:=by
  rw[jgx,List.length_append,List.length_map,List.length_map];have:=(List.filter_sublist (p:=fun v:Vol=>v.root !=0) (l:=n.vols)).length_le;omega
 go_enter Tryz.func124,Tryz.ntmps124;go_wp2_with (fail);go_at_call 109;refine(namedH_any _ _ n HN.out.1 hl).mono ?_;rintro e w1 ⟨r,rfl,hsl,hb1⟩;have hB1:=Below.step HN.out.2 hb1;have HSL:=Lib.hid hsl;have H1:=Lib.hid (And.intro (HS.out.1.below hB1) (And.intro (hB1.mono hBw) (And.intro (Fr.of_below hB1) (hB1.cell (p:=⟨p,1,none⟩) HPW.out))));have hw1:=hB1.size;obtain⟨A,cp,rfl,hcp1,hcp2,hrow⟩:=hsl;clear hB1 hrow hb1;have hks:jdr (pcs.map (·.2)) n=jdp (pcs.map (·.2)) 0 (jcn n):=rfl;have HKS:=Lib.hid hks;clear hks;generalize jcn n=ks at *;go_wp2_with (fail);go_loopw [5,7,8,12,13,14,15,16,17,18,19,20,21,22,23,24,25,26,27,28,29] (fun s _ _ i _ _ _ _ _ _ _ _ _ _ _ _ _ _ _ _ _ wr=>∃(k:Nat) (why:Int),k≤ks.length∧i= .int .i64 k∧s= .int .i64 why∧jdr (pcs.map (·.2)) n=jdp (pcs.map (·.2)) why (ks.drop k)∧St B wr p sz pcs∧Below B w wr∧Fr w wr∧Fr w1 wr∧wr.cell? ⟨p,1,none⟩=w.cell? ⟨p,1,none⟩) (fun _ _ _ i _ _ _ _ _ _ _ _ _ _ _ _ _ _ _ _ _ _=>ks.length - (intOf i).toNat)
 case atStart=>exact⟨0,0,Nat.zero_le _,rfl,rfl,HKS.out,H1.out.1,H1.out.2.1,H1.out.2.2.1,Fr.refl _,H1.out.2.2.2⟩
 case round=>
  obtain⟨k,why,hk,rfl,rfl,hgo,hst,hB,hF,hF1,hcp⟩:=hrel;by_cases hlt:k < ks.length
  ·have hslr:=(HSL.out.soft jip hF1.soft).len_eq;obtain⟨b,o,rfl,hatr,hwf⟩:=hslr.2.2.2 k hlt;have hbr:b < wr.heap.size:=hatr.lt (by simp[kidE]);rw[List.drop_eq_getElem_cons hlt,jdp]at hgo;have hrs:w.heap.size≤wr.heap.size:=hB.size;have HG:=Lib.hid (And.intro hgo (And.intro hst (And.intro hB (And.intro hF hF1))));have HCP:=Lib.hid (And.intro hcp (Nat.lt_of_lt_of_le HPW.out hrs));clear hcp;clear hgo hst hB hF hF1 hslr;generalize ks[k]=kk at *;have HK:=jc7 kk hwf;have h1':=kidE.one kk hwf;have n1:(wr.alloc (.cells (kidE.enc kk).toArray 40)).cell? ⟨wr.heap.size,1,none⟩=some (.int .u32 kk.num):=jay 1 _ rfl;have HN2:=Lib.hid (hash_at (new_at wr (kidE.enc kk) 40));have HL:=Lib.hid (And.intro (kidE.len kk hwf) hwf);clear hwf;have hba:=(Below.refl wr.heap.size wr).alloc (Nat.le_refl _) (.cells (kidE.enc kk).toArray 40);have HA:=Lib.hid (And.intro (HG.out.2.1.below hba) (And.intro (HG.out.2.2.1.alloc (Nat.le_trans hBw hrs) (.cells (kidE.enc kk).toArray 40)) (Fr.of_below hba)));have hal:(wr.alloc (.cells (kidE.enc kk).toArray 40)).heap[wr.heap.size]? =some (.cells (kidE.enc kk).toArray 40 (0,0)):=heap_alloc_new _ _;have HAL:=Lib.hid hal;clear hba hal;generalize kidE.enc kk=vs at *;go_wp2_with (first
    |((with_reducible refine jbv 40 ?_);refine jai rfl 40 (.tmp 14) rfl b (o + k * 34) rfl vs _ hatr Tryz.underlying40 rfl HK ?_)
    |((with_reducible refine jam 40 ?_);refine jaa rfl 40 (.tmp 7) (.tmp 15) rfl 40 _ rfl vs rfl (by rw[HL.out.1];rfl) h1' HK ?_))
   go_at_call 69;refine(at_any B _ p sz pcs kk.num HA.out.1 HS.out.2.1 hmax).mono ?_;rintro e _ ⟨rfl,a,rfl⟩;have hask:=HA.out.1.asked a;have hfa:=Fr.asked HA.out.1 a;have HZ:=Lib.hid (And.intro hask.1 (And.intro (HA.out.2.1.trans hask.2.2) (And.intro ((HG.out.2.2.2.1.trans HA.out.2.2).trans hfa) ((HG.out.2.2.2.2.trans HA.out.2.2).trans hfa))));have HAL2:=Lib.hid (hfa.keep HAL.out (by unfold BadT;decide));have HCY:=Lib.hid (show((wr.alloc (.cells vs.toArray 40)).setCell ⟨p,2,none⟩ (.int .i64 a)).cell? ⟨p,1,none⟩=w.cell? ⟨p,1,none⟩ by
    rw[←HCP.out.1];have h1:(wr.alloc (.cells vs.toArray 40)).cell? ⟨p,1,none⟩=wr.cell? ⟨p,1,none⟩:=World.cell?_of_block (Lib.alloc_old wr _ _ HCP.out.2);rw[←h1];obtain⟨v9,a9,hp9,_⟩:=HA.out.1.row;rw[cell_of_row _ _ _ _ _ _ (ja2 hp9 2 _),cell_of_row _ _ _ _ _ _ hp9];rfl)
   clear hask hfa;generalize(wr.alloc (.cells vs.toArray 40)).setCell ⟨p,2,none⟩ (.int .i64 a)=wy at *;cases hc:je8 pcs kk.num with
   |none=>
    have HE:=Lib.hid (show jdr (pcs.map (·.2)) n=5 by rw[HG.out.1,jht HS.out.2.1 hc]);clear hc;go_wp2_with (fail);go_ret;exact⟨by rw[HE.out];rfl,HZ.out.1,HZ.out.2.1,HZ.out.2.2.1,HCY.out⟩
   |some x=>
    obtain⟨hxm,hxn⟩:=jjk hc;have HE:=Lib.hid (show jdr (pcs.map (·.2)) n=jdp (pcs.map (·.2)) (if x.2.hash=kk.hash then why else 9) (ks.drop (k + 1)) by rw[HG.out.1,jlh HS.out.2.1 hc]);have hh:=(HZ.out.1.cells x hxm).1.hash;have hwx:=HZ.out.1.wf x hxm;have hn2:At wy wr.heap.size 2 (hashV kk.hash):=HN2.out.heap (by rw[HAL2.out,HAL.out]);have hl1:=jfh hwx.hash;have hl2:=jfh HL.out.2.2.2;have HLL:=Lib.hid (And.intro hwx.hash.1 HL.out.2.2.2.1);have HMM:=Lib.hid (And.intro hh (And.intro hn2 (And.intro hl1 hl2)));clear hc hxm hxn hh hn2 hl1 hl2 hwx;obtain⟨xa,hxa⟩:∃xa,(hashV x.2.hash).toArray=xa:=⟨_,rfl⟩
    obtain⟨ya,hya⟩:∃ya,(hashV kk.hash).toArray=ya:=⟨_,rfl⟩
    have HXY:=Lib.hid (And.intro hxa hya);clear hxa hya;have hwy:wy.heap.size≤wy.heap.size:=Nat.le_refl _;cases hq:(x.2.hash==kk.hash)with
    |true=>
     have HE2:=Lib.hid (show jdr (pcs.map (·.2)) n=jdp (pcs.map (·.2)) why (ks.drop (k + 1)) by rw[HE.out,if_pos (by simpa using hq)]);go_wp2_with (fail);refine wp_region_quiet_lit (by kernel_rfl) (by kernel_rfl) ?_;iterate 3 (go_big_quiet_step (fail))
     go_big_quiet_want;refine jh9 34 (.tmp 24) rfl x.1 7 rfl _ _ HMM.out.1 Tryz.underlying34 rfl HMM.out.2.2.1 xa HXY.out.1 ?_;simp[go_sem];go_big_quiet_on;go_big_quiet_step (fail);go_big_quiet_want;refine jh9 34 (.tmp 26) rfl wr.heap.size 2 rfl _ _ HMM.out.2.1 Tryz.underlying34 rfl HMM.out.2.2.2 ya HXY.out.2 ?_;simp[go_sem];go_big_quiet_on;go_big_quiet_want;refine jio (.tmp 25) (.tmp 27) rfl _ _ HLL.out.1 HLL.out.2 xa ya HXY.out.1 HXY.out.2 rfl rfl ?_;rw[hq];simp[go_sem];go_big_quiet_on;refine wpQuiet_nil ?_;rintro _ ⟨nq,rfl⟩;have HZ2:=Lib.hid (And.intro (HZ.out.1.below (Below.drewN' (Below.refl _ wy) nq)) (And.intro (Below.drewN' HZ.out.2.1 nq) (And.intro (HZ.out.2.2.1.trans (Fr.of_below (Below.drewN' (Below.refl _ wy) nq))) (HZ.out.2.2.2.trans (Fr.of_below (Below.drewN' (Below.refl _ wy) nq))))));have HCZ:=Lib.hid (show(wy.drewN nq).cell? ⟨p,1,none⟩=w.cell? ⟨p,1,none⟩from HCY.out);generalize wy.drewN nq=wz at *;go_wp2_with (fail);exact⟨⟨k + 1,why,by omega,by go_num,rfl,HE2.out,HZ2.out.1,HZ2.out.2.1,HZ2.out.2.2.1,HZ2.out.2.2.2,HCZ.out⟩,by simp[intOf];omega⟩
    |false=>
     have HE2:=Lib.hid (show jdr (pcs.map (·.2)) n=jdp (pcs.map (·.2)) 9 (ks.drop (k + 1)) by rw[HE.out,if_neg (by simpa using hq)]);go_wp2_with (fail);refine wp_region_quiet_lit (by kernel_rfl) (by kernel_rfl) ?_;iterate 3 (go_big_quiet_step (fail))
     go_big_quiet_want;refine jh9 34 (.tmp 24) rfl x.1 7 rfl _ _ HMM.out.1 Tryz.underlying34 rfl HMM.out.2.2.1 xa HXY.out.1 ?_;simp[go_sem];go_big_quiet_on;go_big_quiet_step (fail);go_big_quiet_want;refine jh9 34 (.tmp 26) rfl wr.heap.size 2 rfl _ _ HMM.out.2.1 Tryz.underlying34 rfl HMM.out.2.2.2 ya HXY.out.2 ?_;simp[go_sem];go_big_quiet_on;go_big_quiet_want;refine jio (.tmp 25) (.tmp 27) rfl _ _ HLL.out.1 HLL.out.2 xa ya HXY.out.1 HXY.out.2 rfl rfl ?_;rw[hq];simp[go_sem];go_big_quiet_on;refine wpQuiet_nil ?_;rintro _ ⟨nq,rfl⟩;have HZ2:=Lib.hid (And.intro (HZ.out.1.below (Below.drewN' (Below.refl _ wy) nq)) (And.intro (Below.drewN' HZ.out.2.1 nq) (And.intro (HZ.out.2.2.1.trans (Fr.of_below (Below.drewN' (Below.refl _ wy) nq))) (HZ.out.2.2.2.trans (Fr.of_below (Below.drewN' (Below.refl _ wy) nq))))));have HCZ:=Lib.hid (show(wy.drewN nq).cell? ⟨p,1,none⟩=w.cell? ⟨p,1,none⟩from HCY.out);generalize wy.drewN nq=wz at *;go_wp2_with (fail);exact⟨⟨k + 1,9,by omega,by go_num,rfl,HE2.out,HZ2.out.1,HZ2.out.2.1,HZ2.out.2.2.1,HZ2.out.2.2.2,HCZ.out⟩,by simp[intOf];omega⟩
  ·obtain rfl:k=ks.length:=by omega
   have HE2:=Lib.hid (show jdr (pcs.map (·.2)) n=why by rw[hgo,List.drop_of_length_le (by omega)];rfl);have HZ:=Lib.hid (And.intro hst (And.intro hB (And.intro hF hcp)));clear hgo hst hB hF hF1 hcp;go_wp2_with (fail);go_ret;exact⟨by rw[HE2.out];rfl,HZ.out.1,HZ.out.2.1,HZ.out.2.2.1,HZ.out.2.2.2⟩
theorem ccRow_get(c:CC)(vi vk vv:Value)(h:c.hash.length=32):(ccRow c vi vk vv).length=40∧(ccRow c vi vk vv)[39]? =some (.int .i64 c.led):=by
 have hl:(hashV c.hash).length=32:=by simp[hashV,h]
 unfold ccRow;constructor
 ·simp[hl]
 ·rw[List.getElem?_append_right (by simp[hl])];simp[hl]
theorem cut3{α:Type}(a b d e:List α)(ha:a.length=7)(hb:b.length=32):(a ++ b ++ d).take 7 ++ e ++ (a ++ b ++ d).drop 39=a ++ e ++ d:=by
 have h1:(a ++ b ++ d).drop 39=d:=by
  have:(a ++ b).length=39:=by simp[ha,hb]
  rw[←this];exact List.drop_left
 have h2:(a ++ b ++ d).take 7=a:=by
  rw[List.append_assoc,←ha];exact List.take_left
 rw[h1,h2]
theorem ccRow_hash(c:CC)(vi vk vv:Value)(l:List Int)(h:c.hash.length=32):(ccRow c vi vk vv).take 7 ++ hashV l ++ (ccRow c vi vk vv).drop 39=ccRow {c with hash:=l} vi vk vv:=
 cut3 _ _ _ _ rfl (by simp[hashV,h])
theorem ccRow_led(c:CC)(vi vk vv:Value)(l:Int)(h:c.hash.length=32):(ccRow c vi vk vv).toArray.setIfInBounds 39 (.int .i64 l)=(ccRow {c with led:=l} vi vk vv).toArray:=by
 have hl:(hashV c.hash).length=32:=by simp[hashV,h]
 unfold ccRow;rw[List.setIfInBounds_toArray,List.set_append_right _ _ (by simp[hl])];simp[hl]
theorem ccRow_refs(c:CC)(vi vk vv:Value)(r:Int):(ccRow c vi vk vv).toArray.setIfInBounds 2 (.int .i64 r)=(ccRow {c with refs:=r} vi vk vv).toArray:=by
 unfold ccRow;rw[List.setIfInBounds_toArray,List.append_assoc,List.append_assoc,List.set_append_left _ _ (by simp)];rfl
section
variable {B:Nat} {w:World} {p:Nat} {sz:Int} {pcs:List (Nat×CC)} {x:Nat×CC}
theorem St.led_cell(h:St B w p sz pcs)(hx:x∈pcs):w.cell? ⟨x.1,39,none⟩=some (.int .i64 x.2.led):=by
 obtain⟨vi,vk,vv,hb,_⟩:=(h.cells x hx).1;rw[cell_of_row _ _ _ _ _ _ hb];have:=(ccRow_get x.2 vi vk vv (h.wf x hx).hash.1).2;simpa using this
theorem St.refs_cell(h:St B w p sz pcs)(hx:x∈pcs):w.cell? ⟨x.1,2,none⟩=some (.int .i64 x.2.refs):=by
 obtain⟨vi,vk,vv,hb,_⟩:=(h.cells x hx).1;rw[cell_of_row _ _ _ _ _ _ hb];rfl
theorem St.froz(h:St B w p sz pcs)(hx:x∈pcs)(i:Nat):w.frozen? ⟨x.1,i,none⟩=false:=by
 obtain⟨vi,vk,vv,hb,_⟩:=(h.cells x hx).1;exact frozen_of_row _ _ _ _ _ hb
theorem St.blt(h:St B w p sz pcs)(hx:x∈pcs):x.1 < w.heap.size:=by
 obtain⟨vi,vk,vv,hb,_⟩:=(h.cells x hx).1;exact lt_of_block hb
theorem St.setHash(h:St B w p sz pcs)(hx:x∈pcs)(l:List Int)(hl:jd7 l){cur:Array Value}(hc:w.heap[x.1]? =some (.cells cur 145 (0,0))):
 St B (w.setRow x.1 (cur.toList.take 7 ++ hashV l ++ cur.toList.drop (7 + (hashV l).length)).toArray) p sz (pcs.map fun y=>if y.1=x.1 then(y.1,{x.2 with hash:=l})else y)∧
  Fr w (w.setRow x.1 (cur.toList.take 7 ++ hashV l ++ cur.toList.drop (7 + (hashV l).length)).toArray)∧Below B w (w.setRow x.1 (cur.toList.take 7 ++ hashV l ++ cur.toList.drop (7 + (hashV l).length)).toArray):=by
 obtain⟨vi,vk,vv,hb,h1,h2,h3⟩:=(h.cells x hx).1;rw[hc]at hb;injection hb with hb;injection hb with hb _ _;have hw:=h.wf x hx;have hll:(hashV l).length=32:=by simp[hashV,hl.1]
 rw[hb,hll,ccRow_hash _ _ _ _ _ hw.hash.1];refine St.set h hx rfl ⟨hl,hw.cel,hw.small,hw.kd⟩ h1 h2 h3 (by rw[←hb];exact hc) ⟨rfl,rfl,rfl,by simp[World.setRow],fun k _ hk=>jac _ _ _ _ (by simpa using hk)⟩ (jad _ _ _ _ _ hc)
theorem St.setLed(h:St B w p sz pcs)(hx:x∈pcs)(l:Int):
 St B (w.setCell ⟨x.1,39,none⟩ (.int .i64 l)) p sz (pcs.map fun y=>if y.1=x.1 then(y.1,{x.2 with led:=l})else y)∧Fr w (w.setCell ⟨x.1,39,none⟩ (.int .i64 l))∧Below B w (w.setCell ⟨x.1,39,none⟩ (.int .i64 l)):=by
 obtain⟨vi,vk,vv,hb,h1,h2,h3⟩:=(h.cells x hx).1;have hw:=h.wf x hx;have hs:=ja2 hb 39 (.int .i64 l);rw[ccRow_led _ _ _ _ _ hw.hash.1]at hs;exact St.set h hx rfl ⟨hw.hash,hw.cel,hw.small,hw.kd⟩ h1 h2 h3 hb (jap (World.grownBy.refl w _) 39 _) hs
theorem St.setRefs(h:St B w p sz pcs)(hx:x∈pcs)(r:Int)(hr: -9223372036854775808≤r∧r≤9223372036854775807):
 St B (w.setCell ⟨x.1,2,none⟩ (.int .i64 r)) p sz (pcs.map fun y=>if y.1=x.1 then(y.1,{x.2 with refs:=r})else y)∧Fr w (w.setCell ⟨x.1,2,none⟩ (.int .i64 r))∧Below B w (w.setCell ⟨x.1,2,none⟩ (.int .i64 r)):=by
 obtain⟨vi,vk,vv,hb,h1,h2,h3⟩:=(h.cells x hx).1;have hw:=h.wf x hx;have hs:=ja2 hb 2 (.int .i64 r);rw[ccRow_refs]at hs;exact St.set h hx rfl ⟨hw.hash,⟨hw.cel.1,hw.cel.2.1,hr⟩,hw.small,hw.kd⟩ h1 h2 h3 hb (jap (World.grownBy.refl w _) 2 _) hs
theorem St.own(h:St B w p sz pcs){v:Value}(hv:w.cell? ⟨p,1,none⟩=some v):w.ownsRow B 142 1 v pcs.length (ptrsV pcs):=by
 obtain⟨v',a,hp,ho⟩:=h.row;rw[cell_of_row _ _ _ _ _ _ hp]at hv;simp at hv;subst hv;exact ho
theorem St.field(h:St B w p sz pcs):∃v,w.cell? ⟨p,1,none⟩=some v∧w.ownsRow B 142 1 v pcs.length (ptrsV pcs):=by
 obtain⟨v',a,hp,ho⟩:=h.row;exact⟨v',by rw[cell_of_row _ _ _ _ _ _ hp];rfl,ho⟩
theorem St.node(h:St B w p sz pcs)(hx:x∈pcs):∃A1 n1 c1 A2 n2 c2 A3 n3 c3,w.cell? ⟨x.1,3,none⟩=some (.int .u8 x.2.node.kind)∧w.cell? ⟨x.1,4,none⟩=some (.slice A1 n1 c1)∧w.cell? ⟨x.1,5,none⟩=some (.slice A2 n2 c2)∧w.cell? ⟨x.1,6,none⟩=some (.slice A3 n3 c3)∧
 NodeV w (.agg #[.int .u8 x.2.node.kind, .slice A1 n1 c1, .slice A2 n2 c2, .slice A3 n3 c3]) x.2.node:=by
 obtain⟨vi,vk,vv,hb,h1,h2,h3⟩:=(h.cells x hx).1;obtain⟨A1,n1,c1,rfl⟩:=jax h1;obtain⟨A2,n2,c2,rfl⟩:=jax h2;obtain⟨A3,n3,c3,rfl⟩:=jax h3;refine⟨A1,n1,c1,A2,n2,c2,A3,n3,c3,?_,?_,?_,?_,⟨_,_,_,rfl,h1,h2,h3,(h.wf x hx).kd.1,(h.wf x hx).kd.2⟩⟩ <;>(rw[cell_of_row _ _ _ _ _ _ hb];rfl)
theorem St.size_cell(h:St B w p sz pcs):w.cell? ⟨p,0,none⟩=some (.int .u32 sz):=by
 obtain⟨v',a,hp,ho⟩:=h.row;rw[cell_of_row _ _ _ _ _ _ hp];rfl
theorem St.plt(h:St B w p sz pcs):p < w.heap.size:=by
 obtain⟨v',a,hp,ho⟩:=h.row;exact lt_of_block hp
end
def jil(x:Nat×CC):Nat×CC:=(x.1,{x.2 with hash:=shaOf x.2.data.data.toList})
def jdt(k:Nat)(pcs:List (Nat×CC)):List (Nat×CC):=pcs.mapIdx fun j x=>if j < k then jil x else x
theorem hashed_zero(pcs:List (Nat×CC)):jdt 0 pcs=pcs:=by
 unfold jdt;apply List.ext_getElem (by simp);intro i h1 h2;simp
theorem hashed_all(pcs:List (Nat×CC)):jdt pcs.length pcs=pcs.map jil:=by
 unfold jdt;apply List.ext_getElem (by simp);intro i h1 h2;simp at h1;simp[h1]
theorem jjs(k:Nat)(pcs:List (Nat×CC)):(jdt k pcs).length=pcs.length:=by simp[jdt]
theorem jhc{k:Nat}{pcs:List (Nat×CC)}(i:Nat)(h:i < (jdt k pcs).length)(h':i < pcs.length):(jdt k pcs)[i]=if i < k then jil pcs[i]else pcs[i]:=by simp[jdt]
theorem hashed_ptr(k:Nat)(pcs:List (Nat×CC)):(jdt k pcs).map (·.1)=pcs.map (·.1):=by
 apply List.ext_getElem (by simp[jdt]);intro i h1 h2;simp only[List.getElem_map];rw[jhc i (by simpa using h1) (by simpa using h2)];split <;>rfl
theorem nodup_ne{pcs:List (Nat×CC)}(hnd:(pcs.map (·.1)).Nodup){i j:Nat}(hi:i < pcs.length)(hj:j < pcs.length)(h:pcs[i].1=pcs[j].1):i=j:=by
 rcases Nat.lt_trichotomy i j with hl|hl|hl
 ·exact absurd (by rw[List.getElem_map,List.getElem_map];exact h) (List.pairwise_iff_getElem.1 hnd i j (by simpa using hi) (by simpa using hj) hl)
 ·exact hl
 ·exact absurd (by rw[List.getElem_map,List.getElem_map];exact h.symm) (List.pairwise_iff_getElem.1 hnd j i (by simpa using hj) (by simpa using hi) hl)
theorem hashed_step{pcs:List (Nat×CC)}(hnd:(pcs.map (·.1)).Nodup)(k:Nat)(hk:k < pcs.length):
 ((jdt k pcs).map fun y=>if y.1=pcs[k].1 then(y.1,{pcs[k].2 with hash:=shaOf pcs[k].2.data.data.toList})else y)=jdt (k + 1) pcs:=by
 apply List.ext_getElem (by simp[jdt]);intro i h1 h2;have hi:i < pcs.length:=by simpa[jdt]using h1
 rw[List.getElem_map,jhc i (by simpa[jdt]using h1) hi,jhc i h2 hi];by_cases e:i=k
 ·subst e;simp[jil]
 ·have hne:¬pcs[i].1=pcs[k].1:=fun h=>e (nodup_ne hnd hi hk h)
  by_cases hlt:i < k
  ·simp[jil,hlt,hne,Nat.lt_succ_of_lt hlt]
  ·have h3:¬i < k + 1:=by omega
   simp[hlt,hne,h3]
theorem hashed_mem{pcs:List (Nat×CC)}{k:Nat}(hk:k < pcs.length):pcs[k]∈jdt k pcs:=by
 have:(jdt k pcs)[k]'(by rw[jjs];exact hk)=pcs[k]:=by rw[jhc k _ hk,if_neg (by omega)]
 rw[←this];exact List.getElem_mem _
theorem hashed_cc1{pcs:List (Nat×CC)}{cs:List Cel}(h:pcs.map (·.2)=cs.map cc0):(pcs.map jil).map (·.2)=cs.map cc1:=by
 have:(pcs.map jil).map (·.2)=(pcs.map (·.2)).map (fun c=>{c with hash:=shaOf c.data.data.toList}):=by rw[List.map_map,List.map_map];rfl
 rw[this,h,List.map_map];rfl
theorem ccFind_map{f:CC→CC}(h:∀c,(f c).num=c.num)(cs:List CC)(t:Int):jc6 (cs.map f) t=(jc6 cs t).map f:=by
 unfold jc6;rw[List.find?_map];congr 1
 congr 1
 funext c
 simp[Function.comp,h]
theorem jlo{f:CC→CC}(h:∀c,(f c).num=c.num∧(f c).hash=c.hash)(cs:List CC):∀(ks:List Kid) (why:Int),jdp (cs.map f) why ks=jdp cs why ks
 |[],why=>rfl
 |k::r,why=>by
  rw[jdp,jdp,ccFind_map (fun c=>(h c).1)];cases jc6 cs k.num with
  |none=>rfl
  |some c=>
   simp only[Option.map_some,(h c).2];exact jlo h cs r _
theorem leadsE_bumps(ts:List Int)(cs:List CC)(n:Node):jdr (bumps ts cs) n=jdr cs n:=by
 unfold jdr;rw[jeh];exact jlo (f:=fun c=>{c with led:=c.led + jbp ts c.num}) (fun c=>⟨rfl,rfl⟩) cs _ _
theorem bumps_app(a b:List Int)(cs:List CC):bumps (a ++ b) cs=bumps b (bumps a cs):=by unfold bumps;rw[List.foldl_append]
theorem bumps_len(ts:List Int)(cs:List CC):(bumps ts cs).length=cs.length:=by rw[jeh,List.length_map]
theorem bumps_nums(ts:List Int)(cs:List CC):jaj (bumps ts cs)=jaj cs:=by rw[jeh,jib];intro;rfl
theorem bumps_get(ts:List Int)(cs:List CC)(i:Nat)(h:i < (bumps ts cs).length)(h':i < cs.length):((bumps ts cs)[i]).num=cs[i].num∧((bumps ts cs)[i]).node=cs[i].node∧((bumps ts cs)[i]).led=cs[i].led + jbp ts cs[i].num∧((bumps ts cs)[i]).refs=cs[i].refs:=by
 have e:=jeh ts cs;have:(bumps ts cs)[i]=(cs.map (fun c=>{c with led:=c.led + jbp ts c.num}))[i]'(by simpa using h'):=by congr 1
 rw[this,List.getElem_map];exact⟨rfl,rfl,rfl,rfl⟩
theorem nums_cc(pcs:List (Nat×CC)):nums pcs=jaj (pcs.map (·.2)):=by unfold nums jaj;rw[List.map_map];rfl
theorem jc3{l:List Int}(h:l.Pairwise (· < ·)):jdk l:=fun i j hi hj hij=>List.pairwise_iff_getElem.1 h i j hi hj hij
theorem countL_le(ts:List Int)(t:Int):jbp ts t≤ts.length:=List.length_filter_le _ _
theorem jlp(n:Node)(h:n.kids.length≤255∧n.vols.length≤255):(jbk n).length≤255:=by
 unfold jbk;split
 ·rw[List.length_map];exact h.1
 ·split
  ·rw[List.length_map];have:=(List.filter_sublist (p:=fun v:Vol=>v.root !=0) (l:=n.vols)).length_le;omega
  ·simp
theorem jlq:∀cs:List CC,(∀c∈cs,c.node.kids.length≤255∧c.node.vols.length≤255)→(jaz cs).length≤255 * cs.length
 |[],_=>by simp[jaz]
 |c::cs,h=>by
  have ih:=jlq cs (fun d hd=>h d (by simp[hd]));have hc:=jlp c.node (h c (by simp));unfold jaz at ih ⊢;rw[List.flatMap_cons,List.length_append,List.length_cons];omega
theorem bumps_mem{ts:List Int}{cs:List CC}{c:CC}(h:c∈bumps ts cs):∃d∈cs,c={d with led:=d.led + jbp ts d.num}:=by
 rw[jeh]at h;obtain⟨d,hd,rfl⟩:=List.mem_map.1 h;exact⟨d,hd,rfl⟩
theorem bumps_one(ts:List Int)(t:Int)(cs:List CC):(bumps ts cs).map (ledUp t)=bumps (ts ++ [t]) cs:=by rw[bumps_app];rfl
theorem led_step{pcs:List (Nat×CC)}(hnd:(pcs.map (·.1)).Nodup)(hso:jdk (nums pcs)){x:Nat×CC}(hx:x∈pcs){t:Int}(ht:x.2.num=t):
 (pcs.map fun y=>if y.1=x.1 then(y.1,{x.2 with led:=x.2.led + 1})else y).map (·.2)=(pcs.map (·.2)).map (ledUp t)∧(pcs.map fun y=>if y.1=x.1 then(y.1,{x.2 with led:=x.2.led + 1})else y).map (·.1)=pcs.map (·.1):=by
 rw[map_one hnd hx {x.2 with led:=x.2.led + 1} (fun y=>(y.1,ledUp t y.2)) (by unfold ledUp;rw[if_pos ht]) (fun y hy hne=>by
  have:¬y.2.num=t:=fun e=>hne (jhu hso hy hx (by rw[e,ht]))
  unfold ledUp;rw[if_neg this])]
 rw[List.map_map,List.map_map,List.map_map];exact⟨rfl,rfl⟩
theorem jy1{α:Type}(l:List α)(i:Nat)(a:α):l.toArray.setIfInBounds i a=(l.set i a).toArray:=List.setIfInBounds_toArray ..
theorem jy2{α:Type}(a b:α)(l:List α):(a::l).set 0 b=b::l:=rfl
theorem jy3{α:Type}(a b:α)(l:List α)(n:Nat):(a::l).set (n + 1) b=a::l.set n b:=rfl
structure Grown(w:World) where
 val:World
 prop:Below w.heap.size w val
instance(w:World):Nonempty (Grown w):=⟨⟨w,Below.refl _ w⟩⟩
theorem Grown.fact{w:World}{a:Addr}{v:Value}(h:w.cell? a=some v)(g:Grown w):g.val.cell? a=some v:=(g.prop.cell (p:=a) (block_lt_of_cell h)).trans h
theorem jak{P:Program}{id:Nat}{Q:Exit→Act→World→Prop}{a:Act}{w:World}{l:List Oper}(hm:P.follows .mixedOrders=true)(hB:Region.lexB .any l.toArray=true)
 (h:wpQuiet P l.toArray (fun w'=>∃g:Grown w,w'=g.val) (fun a'=>∀w',(∃g:Grown w,w'=g.val)→Q .normal a' w') l a):(Code.region id l.toArray true).wp P Q a w:=
 wp_region_quiet (C:=fun w'=>∃g:Grown w,w'=g.val) hm hB ⟨⟨_,(Below.refl _ w).drew⟩,rfl⟩ (by simpa using h)
theorem jiw:(Tryz.prog.info? 160).map (fun i=>(i.zero.map (fun z=>z.cells.size),i.size,i.bytes))=some (some 2,2,24):=by kernel_rfl
theorem jbz:(Tryz.prog.info? 25).map (·.size)=some 5:=by kernel_rfl
theorem jb2(w:World)(cs:Array Value)(t:TypeId):Below w.heap.size w (w.alloc (.cells cs t)):=(Below.refl w.heap.size w).alloc (Nat.le_refl _) _
theorem jf1(s:ByteArray)(w:World)(hs:s.size≤9223372036854775807):Calls Tryz.prog 76 #[.string s] w fun e w'=>e= .returned (.string (cutB s))∧w'=w:=by
 go_enter Tryz.func76,Tryz.ntmps76;go_wp2_with (fail);go_at_call 137;refine(jim s _ hs).mono ?_;rintro e _ ⟨rfl,rfl⟩;go_wp2_with (fail);go_ret;exact⟨rfl,rfl⟩
theorem jel(w:World)(b:Blk)(size:Int)(hs:b.data.size≤9223372036854775807):
 Calls Tryz.prog 78 #[.agg #[.int .u32 b.num, .string b.data], .int .u32 size] w fun e w'=>e= .returned (.bool (ja3 b size))∧Below w.heap.size w w':=by
 obtain⟨num,data⟩:=b;simp only at hs;have hb:=heap_alloc_new w (.cells #[.int .u32 num, .string data] 160);have HB:=Lib.hid (jb2 w #[.int .u32 num, .string data] 160);go_enter Tryz.func78,Tryz.ntmps78;go_upto_region 1 with(fail);generalize w.alloc (.cells #[.int .u32 num, .string data] 160)=wa at *;have a0:wa.cell? ⟨w.heap.size,0,none⟩=some (.int .u32 num):=by rw[cell_of_row _ _ _ _ _ _ hb];rfl
 have a1:wa.cell? ⟨w.heap.size,1,none⟩=some (.string data):=by rw[cell_of_row _ _ _ _ _ _ hb];rfl
 by_cases h1:num < size
 ·have q1:decide (num < size)=true:=decide_eq_true h1;by_cases h2:data.size≤512
  ·have q2:decide ((data.size:Int)≤512)=true:=decide_eq_true (by omega);cases h3:beqB (cutB data) data with
   |true=>
    have q3:((cutB data).toList==data.toList)=true:=h3;have HR:=Lib.hid (show ja3 ⟨num,data⟩ size=true by simp[ja3,h1,h2,h3]);clear h1 h2 h3;go_wp2_with (fail);go_quiet ((go_at_call 76;exact Calls.quiet_of_same (jf1 _ _ hs)));go_wp2_with (fail);go_ret;exact⟨by rw[HR.out];rfl,Below.drewN' HB.out _⟩
   |false=>
    have q3:((cutB data).toList==data.toList)=false:=h3;have HR:=Lib.hid (show ja3 ⟨num,data⟩ size=false by simp[ja3,h3]);clear h1 h2 h3;go_wp2_with (fail);go_quiet ((go_at_call 76;exact Calls.quiet_of_same (jf1 _ _ hs)));go_wp2_with (fail);go_ret;exact⟨by rw[HR.out];rfl,Below.drewN' HB.out _⟩
  ·have q2:decide ((data.size:Int)≤512)=false:=decide_eq_false (by omega);have HR:=Lib.hid (show ja3 ⟨num,data⟩ size=false by simp[ja3,h2]);clear h1 h2;go_wp2_with (fail);go_quiet ((go_at_call 76;exact Calls.quiet_of_same (jf1 _ _ hs)));go_wp2_with (fail);go_ret;exact⟨by rw[HR.out];rfl,Below.drewN' HB.out _⟩
 ·have q1:decide (num < size)=false:=decide_eq_false h1;have HR:=Lib.hid (show ja3 ⟨num,data⟩ size=false by simp[ja3,h1]);clear h1;go_wp2_with (fail);go_quiet ((go_at_call 76;exact Calls.quiet_of_same (jf1 _ _ hs)));go_wp2_with (fail);go_ret;exact⟨by rw[HR.out];rfl,Below.drewN' HB.out _⟩
theorem devCheck1_any(w:World)(b:Blk)(db:Nat)(size:Int)(hs:b.data.size≤9223372036854775807)(hc:w.cell? ⟨db,0,none⟩=some (.int .u32 size)):
 Calls Tryz.prog 80 #[.agg #[.int .u32 b.num, .string b.data], .pointer (some ⟨db,0,none⟩)] w fun e w'=>e= .returned (.bool (!ja3 b size))∧Below w.heap.size w w':=by
 have hdb:=block_lt_of_cell hc;have hb:=heap_alloc_new w (.cells #[.int .u32 b.num, .string b.data] 160);have hbb:=jb2 w #[.int .u32 b.num, .string b.data] 160;have hc2:=(hbb.cell (p:=⟨db,0,none⟩) hdb).trans hc;have HB:=Lib.hid hbb;clear hbb;go_enter Tryz.func80,Tryz.ntmps80;go_upto_region 1 with(fail);generalize w.alloc (.cells #[.int .u32 b.num, .string b.data] 160)=wa at *;have a0:wa.cell? ⟨w.heap.size,0,none⟩=some (.int .u32 b.num):=by rw[cell_of_row _ _ _ _ _ _ hb];rfl
 have a1:wa.cell? ⟨w.heap.size,1,none⟩=some (.string b.data):=by rw[cell_of_row _ _ _ _ _ _ hb];rfl
 clear hb;go_wp2_with (fail);go_at_call 78;refine(jel wa b size hs).mono ?_;rintro e w1 ⟨rfl,hb1⟩;have HB1:=Lib.hid (HB.out.trans (hb1.mono HB.out.size));clear hb1;obtain⟨rb,hrb⟩:∃rb,ja3 b size=rb:=⟨_,rfl⟩
 rw[hrb];have HR:=Lib.hid hrb;clear hrb;go_wp2_with (fail);go_ret;exact⟨by rw[HR.out];rfl,HB1.out⟩
end Go.Proofs.YtpaohkkhejpgjaaGreatDoor
