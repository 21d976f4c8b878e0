/- Texts of the proof: N9 N11 P1. -/
import Derived.Test.YtpaohkkhejpgjaaGreatDoorM5
import Derived.Test.YtpaohkkhejpgjaaGreatDoorM14
set_option linter.all false
set_option maxRecDepth 100000
set_option maxHeartbeats 8000000
namespace Go.Proofs.YtpaohkkhejpgjaaGreatDoor
open Go Go.RowKit
theorem jey{w:World}{g:Nat}{a b c d:Value}{t:TypeId}(h:w.heap[g]? =some (.cells #[a,b,c,d] t (0,0))):
 w.cell? ⟨g,0,none⟩=some a∧w.cell? ⟨g,1,none⟩=some b∧w.cell? ⟨g,2,none⟩=some c∧w.cell? ⟨g,3,none⟩=some d:=by
 refine⟨?_,?_,?_,?_⟩ <;>(rw[cell_of_row _ _ _ _ _ _ h];rfl)
theorem mk_fresh(B:Nat)(w:World)(hB:B≤w.heap.size):MkL B w.heap.size [] (w.alloc (.cells #[.pointer none, .slice none 0 0] 177)):=
 Or.inl ⟨hB,_,heap_alloc_new _ _,⟨rfl,Or.inl ⟨rfl,rfl⟩⟩,by simp[Value.ownBlock]⟩
theorem write_len(B b g o c:Nat)(bs:List Value)(l:List Value)(n:Nat)(hn:l.length=n)(hl1:∀u∈l,u.oneCell'=true)(w:World)(h:Mk B b bs w)(hlen:bs.length + n≤140737488355328)(hBw:B≤w.heap.size)(hat:At w g o l)(hgb:g≠b):
 Calls Tryz.prog 84 #[.pointer (some ⟨b,0,none⟩), .slice (some ⟨g,o,none⟩) n c] w fun e w'=>e= .returned (.tuple #[.int .i64 n, .nilIface])∧(Mk B b (bs ++ l) w'∧Below B w w'∧MkFrame b w w'):=by
 subst hn;exact write_any B b g o c bs l hl1 w h hlen hBw hat hgb
theorem mk_join{B b:Nat}{l u:List UInt8}{cs:List Value}{w:World}(h:Mk B b (Lib.byteCells l ++ cs) w)(hu:Lib.byteCells u=cs):MkL B b (l ++ u) w:=by
 unfold MkL;rw[Lib.byteCells_append,hu];exact h
theorem jlm{w:World}{g:Nat}{vs:List Value}{t:TypeId}(h:w.heap[g]? =some (.cells vs.toArray t (0,0)))(k:Nat)(us:List Value)(hv:vs=vs.take k ++ us)(hk:k≤vs.length):At w g k us:=by
 intro i hi;rw[cell_of_row _ _ _ _ _ _ h,List.getElem?_toArray,hv,List.getElem?_append_right (by simp;omega)];simp[Nat.min_eq_left hk,hi]
theorem encode_any(w:World)(v:Value)(n:Node)(hv:NodeV w v n)(hs:smallN n):
 Calls Tryz.prog 31 #[v] w fun e w'=>e= .returned (.tuple (if jcd n=0 then #[.string ⟨(jcw (encL n)).toArray⟩, .int .i64 0]else #[.string ByteArray.empty, .int .i64 (jcd n)]))∧Below w.heap.size w w':=by
 have HV:=Lib.hid hv;have HN:=Lib.hid hs;obtain⟨va,vb,vc,rfl,ha,hb0,hc0,hk0,hk1⟩:=hv;have HB:=Lib.hid ((Below.refl w.heap.size w).alloc (Nat.le_refl _) (.cells #[.int .u8 n.kind,va,vb,vc] 59));obtain⟨A,ca,rfl,ha1,ha2,hra⟩:=ha;obtain⟨B,cb,rfl,hb1,hb2,hrb⟩:=hb0;obtain⟨C,cc,rfl,hc1,hc2,hrc⟩:=hc0;have HR:=Lib.hid (And.intro hra (And.intro hrb hrc));clear hra hrb hrc hs;by_cases hne:jcd n=0
 ·have hsh:jbu n=true:=by
   unfold jcd at hne;cases h:jbu n with
   |true=>rfl
   |false=>rw[h]at hne;simp at hne
  have hsz:sizeF n≤508:=by
   unfold jcd at hne;rw[hsh]at hne;simp only[if_true]at hne;split at hne
   ·omega
   ·omega
  have HBD:=Lib.hid (jik n hsh);have HEL:=Lib.hid (show(encL n).length≤508 by rw[jll n hsh HR.out.2.1.wf HR.out.2.2.wf];exact hsz);rw[if_pos hne];clear hsz hsh;have HNE:=Lib.hid hne;clear hne;have hcnt:=HBD.out.c0;have hnb:(w.alloc (.cells #[.int .u8 n.kind, .slice A n.items.length ca, .slice B n.kids.length cb, .slice C n.vols.length cc] 59)).heap[w.heap.size]? =some (.cells #[.int .u8 n.kind, .slice A n.items.length ca, .slice B n.kids.length cb, .slice C n.vols.length cc] 59 (0,0)):=heap_alloc_new _ _;go_enter Tryz.func31,Tryz.ntmps31;go_wp2_with (fail);go_at_call 81;refine(jih _ _ n (HV.out.below HB.out (Nat.le_refl _)) HN.out).mono ?_;rintro e w1 ⟨rfl,hb1⟩;rw[HNE.out];have HB1:=Lib.hid (Below.step HB.out hb1);have hn1:=(hb1.block w.heap.size (by simp)).trans hnb;have hn2:=(Lib.alloc_old w1 (.cells #[.pointer none, .slice none 0 0] 177) _ (lt_of_block hn1)).trans hn1;obtain⟨m0,m1,m2,m3⟩:=jey hn2;have HN2:=Lib.hid hn2;have hlt1:=lt_of_block hn1;clear hb1 hnb hn1 hn2;go_wp2_with (fail);have HBm:=Lib.hid (HB1.out.alloc HB1.out.size (.cells #[.pointer none, .slice none 0 0] 177));go_at_call 82;refine(jc8 w.heap.size w1.heap.size [] n.kind 1 _ (mk_fresh _ _ HB1.out.size) (by simp) HBm.out.size hk0 (by omega) (by omega) (by omega) (jjn (by omega))).mono ?_;rintro e w2 ⟨rfl,hm2,hb2,hf2⟩;have hnw2:=hf2.2 _ _ _ _ (by omega) HN2.out (by decide);obtain⟨p0,p1,p2,p3⟩:=jey hnw2;have HW2:=Lib.hid (And.intro hm2 (And.intro (HBm.out.trans hb2) hnw2));clear hm2 hb2 hf2 hnw2 m0 m1 m2 m3
  go_wp2_with (fail);go_at_call 82;refine(jc8 w.heap.size w1.heap.size _ ((n.items.length:Int) + n.kids.length + n.vols.length) 1 w2 HW2.out.1 (by simp[jaw]) HW2.out.2.1.size (by omega) (by omega) (by omega) (by omega) (jjn (by omega))).mono ?_;rintro e w3 ⟨rfl,hm3,hb3,hf3⟩;have hnw3:=hf3.2 _ _ _ _ (by omega) HW2.out.2.2 (by decide);obtain⟨q0,q1,q2,q3⟩:=jey hnw3;have HST:=Lib.hid (And.intro (show MkL w.heap.size w1.heap.size (headU n) w3 from hm3) (And.intro (HW2.out.2.1.trans hb3) hnw3));have HNB:=Lib.hid (Eq.refl w.heap.size);have hhd:(headU n).length=2:=by simp[headU,jaw]
  clear hm3 hb3 hf3 hnw3 p0 p1 p2 p3 HW2 HB1 HN2 HBm HB;revert HNB;generalize hnbv:w.heap.size=nb at *;intro HNB0;have HNB:=Lib.hid hnbv.symm;generalize w1.heap.size=mb at *;clear HNB0 hnbv;go_wp2_with (fail);go_loopw [7,41,42,43,44,45,46,47,48,49,50,51,52,53] (fun _ i _ _ _ _ _ _ _ _ _ _ _ _ wr=>∃k:Nat,k≤n.items.length∧i= .int .i64 k∧MkL nb mb (headU n ++ (n.items.take k).flatMap itemU) wr∧Below nb w wr∧wr.heap[nb]? =some (.cells #[.int .u8 n.kind, .slice A n.items.length ca, .slice B n.kids.length cb, .slice C n.vols.length cc] 59 (0,0))) (fun _ i _ _ _ _ _ _ _ _ _ _ _ _ _=>n.items.length - (intOf i).toNat)
  case atStart=>exact⟨0,Nat.zero_le _,rfl,by rw[List.take_zero,List.flatMap_nil,List.append_nil];exact HST.out.1,HST.out.2.1,HST.out.2.2⟩
  case round=>
   obtain⟨k,hk,rfl,hM,hB,hN⟩:=hrel;by_cases hlt:k < n.items.length
   ·obtain⟨b,o,rfl,hat,hwf⟩:=HR.out.1 k hlt;have hb:b < nb:=by rw[HNB.out];exact hat.lt (by simp[itemE])
    have hatr:=hat.below hB (by rw[HNB.out];exact Nat.le_refl _);have hbr:b < wr.heap.size:=Nat.lt_of_lt_of_le (by rw[←HNB.out];exact hb) hB.size;have hst:=jij itemU n.items k hlt;have hLb:=jlk itemU 210 n.items (fun x hx=>by have:=HBD.out.i1 x hx;rw[jgw];unfold jej;omega) k;have hkb:k≤255:=by have:=HBD.out.i0;omega
    have hsz:=HBD.out.i1 n.items[k] (List.getElem_mem hlt);obtain⟨L,hL⟩:∃L,L=headU n ++ (n.items.take k).flatMap itemU:=⟨_,rfl⟩
    have hLl:L.length≤500000:=by rw[hL];rw[List.length_append,hhd];omega
    rw[←hL]at hM;have HST2:=Lib.hid (And.intro hL hst);clear hat hst hLb hL;generalize n.items[k]=kk at *;have HK:=item_len kk hwf;have hl:=itemE.len kk hwf;have h1':=itemE.one kk hwf;have hwf':=hwf;have v0:(itemE.enc kk)[0]? =some (.string kk.key):=rfl;have v1:(itemE.enc kk)[1]? =some (.string kk.val):=rfl;have HL:=Lib.hid hl;have HW:=Lib.hid hwf;clear hl;generalize itemE.enc kk=vs at *;have n0:(wr.alloc (.cells vs.toArray 165)).cell? ⟨wr.heap.size,0,none⟩=some (.string kk.key):=jay 0 _ v0;have hmlt:=hM.lt;have HM:=Lib.hid (Mk.below hM ((Below.refl wr.heap.size wr).alloc (Nat.le_refl _) (.cells vs.toArray 165)));have HB:=Lib.hid (hB.alloc (by rw[HNB.out];exact hB.size) (.cells vs.toArray 165));have HK0:=Lib.hid (heap_alloc_new wr (.cells vs.toArray 165));have HN:=Lib.hid ((Lib.alloc_old wr (.cells vs.toArray 165) nb (lt_of_block hN)).trans hN);have hnlt:=lt_of_block hN;clear hM hB hN;go_wp2_with (first|((with_reducible refine jao ?_);refine jai rfl 165 (.tmp 43) rfl b (o + k * 2) rfl vs _ hatr Tryz.underlying165 rfl HK ?_)|((with_reducible refine jab ?_);refine jaa rfl 165 (.tmp 7) (.tmp 44) rfl 165 _ rfl vs rfl (by rw[HL.out];rfl) h1' HK ?_));go_at_call 83;refine(jft nb mb _ kk.key _ HM.out (by(try simp only[List.length_append,jbc,jaw]);omega) (by rw[HNB.out];exact HB.out.size) (by omega)).mono ?_;rintro e x0 ⟨rfl,hm0,hb0,hf0⟩;have HM0:=Lib.hid hm0;have HB0:=Lib.hid (HB.out.trans hb0);have hk0:=hf0.2 _ _ _ _ (by omega) HK0.out (by decide);have HK0':=Lib.hid hk0
    have HN0:=Lib.hid (hf0.2 _ _ _ _ (by omega) HN.out (by decide));have r0:x0.cell? ⟨wr.heap.size,1,none⟩=some (.string kk.val):=by rw[cell_of_row _ _ _ _ _ _ hk0];simpa using v1
    clear hm0 hb0 hf0 hk0;go_wp2_with (fail);go_at_call 83;refine(jft nb mb _ kk.val _ HM0.out (by(try simp only[List.length_append,jbc,jaw]);omega) (by rw[HNB.out];exact HB0.out.size) (by omega)).mono ?_;rintro e x1 ⟨rfl,hm1,hb1,hf1⟩;have HM1:=Lib.hid hm1;have HB1:=Lib.hid (HB0.out.trans hb1);have hk1:=hf1.2 _ _ _ _ (by omega) HK0'.out (by decide);have HK1':=Lib.hid hk1;have HN1:=Lib.hid (hf1.2 _ _ _ _ (by omega) HN0.out (by decide));clear hm1 hb1 hf1 hk1;go_wp2;refine⟨⟨k + 1,by omega,by go_num,?_,HB1.out,HN1.out⟩,by simp[intOf];omega⟩;rw[HST2.out.2,←List.append_assoc,←HST2.out.1];have:=HM1.out;simpa only[itemU,List.append_assoc]using this
   ·obtain rfl:k=n.items.length:=by omega
    rw[List.take_length]at hM;have HST:=Lib.hid (And.intro hM (And.intro hB hN));obtain⟨q0,q1,q2,q3⟩:=jey hN;clear hM hB hN;have hLi:=jlk itemU 210 n.items (fun x hx=>by have:=HBD.out.i1 x hx;rw[jgw];unfold jej;omega) n.items.length;rw[List.take_length]at hLi;have hi0:=HBD.out.i0;go_wp2;go_loopw [9,57,58,59,60,61,62,63,64,65,66,67,68,69,70,71,72,73,74,75,76] (fun _ i _ _ _ _ _ _ _ _ _ _ _ _ _ _ _ _ _ _ _ wr=>∃k:Nat,k≤n.kids.length∧i= .int .i64 k∧MkL nb mb (headU n ++ n.items.flatMap itemU ++ (n.kids.take k).flatMap kidU) wr∧Below nb w wr∧wr.heap[nb]? =some (.cells #[.int .u8 n.kind, .slice A n.items.length ca, .slice B n.kids.length cb, .slice C n.vols.length cc] 59 (0,0))) (fun _ i _ _ _ _ _ _ _ _ _ _ _ _ _ _ _ _ _ _ _ _=>n.kids.length - (intOf i).toNat)
    case atStart=>exact⟨0,Nat.zero_le _,rfl,by rw[List.take_zero,List.flatMap_nil,List.append_nil];exact HST.out.1,HST.out.2.1,HST.out.2.2⟩
    case round=>
     obtain⟨k,hk,rfl,hM,hB,hN⟩:=hrel;by_cases hlt:k < n.kids.length
     ·obtain⟨b,o,rfl,hat,hwf⟩:=HR.out.2.1 k hlt;have hb:b < nb:=by rw[HNB.out];exact hat.lt (by simp[kidE])
      have hatr:=hat.below hB (by rw[HNB.out];exact Nat.le_refl _);have hbr:b < wr.heap.size:=Nat.lt_of_lt_of_le (by rw[←HNB.out];exact hb) hB.size;have hst:=jij kidU n.kids k hlt;have hLb:=jlk kidU 85 n.kids (fun x hx=>by have:=HBD.out.k1 x hx;rw[jhx x (HR.out.2.1.wf x hx).2.2];unfold kidSz;omega) k;have hkb:k≤255:=by have:=HBD.out.k0;omega
      have hsz:=HBD.out.k1 n.kids[k] (List.getElem_mem hlt);obtain⟨L,hL⟩:∃L,L=headU n ++ n.items.flatMap itemU ++ (n.kids.take k).flatMap kidU:=⟨_,rfl⟩
      have hLl:L.length≤500000:=by rw[hL];rw[List.length_append,List.length_append,hhd];omega
      rw[←hL]at hM;have HST2:=Lib.hid (And.intro hL hst);clear hat hst hLb hL;generalize n.kids[k]=kk at *;have HK:=jc7 kk hwf;have hl:=kidE.len kk hwf;have h1':=kidE.one kk hwf;have hwf':=hwf;have v0:(kidE.enc kk)[0]? =some (.string kk.key):=rfl;have v1:(kidE.enc kk)[1]? =some (.int .u32 kk.num):=rfl;have vh:kidE.enc kk=(kidE.enc kk).take 2 ++ hashV kk.hash:=rfl;have vhl:(hashV kk.hash).length=32:=by simp[hashV,hwf.2.2.1]
      have vhc:=jhw hwf.2.2;have hlo1:0≤kk.num:=by have:=hwf;have:=this.2.1;unfold u32Ok at this;omega
      have hhi1:kk.num≤4294967295:=by have:=hwf;have:=this.2.1;unfold u32Ok at this;omega
      have HL:=Lib.hid hl;have HW:=Lib.hid hwf;clear hl;generalize kidE.enc kk=vs at *;have VH:=Lib.hid (And.intro vh (And.intro vhl vhc));clear vh vhl vhc;have n0:(wr.alloc (.cells vs.toArray 40)).cell? ⟨wr.heap.size,0,none⟩=some (.string kk.key):=jay 0 _ v0;have hmlt:=hM.lt;have HM:=Lib.hid (Mk.below hM ((Below.refl wr.heap.size wr).alloc (Nat.le_refl _) (.cells vs.toArray 40)));have HB:=Lib.hid (hB.alloc (by rw[HNB.out];exact hB.size) (.cells vs.toArray 40));have HK0:=Lib.hid (heap_alloc_new wr (.cells vs.toArray 40));have HN:=Lib.hid ((Lib.alloc_old wr (.cells vs.toArray 40) nb (lt_of_block hN)).trans hN);have hnlt:=lt_of_block hN;clear hM hB hN;go_wp2_with (first|((with_reducible refine jao ?_);refine jai rfl 40 (.tmp 59) rfl b (o + k * 34) rfl vs _ hatr Tryz.underlying40 rfl HK ?_)|((with_reducible refine jab ?_);refine jaa rfl 40 (.tmp 9) (.tmp 60) rfl 40 _ rfl vs rfl (by rw[HL.out];rfl) h1' HK ?_));go_at_call 83;refine(jft nb mb _ kk.key _ HM.out (by(try simp only[List.length_append,jbc,jaw]);omega) (by rw[HNB.out];exact HB.out.size) (by omega)).mono ?_;rintro e x0 ⟨rfl,hm0,hb0,hf0⟩;have HM0:=Lib.hid hm0;have HB0:=Lib.hid (HB.out.trans hb0);have hk0:=hf0.2 _ _ _ _ (by omega) HK0.out (by decide);have HK0':=Lib.hid hk0;have HN0:=Lib.hid (hf0.2 _ _ _ _ (by omega) HN.out (by decide));have r0:x0.cell? ⟨wr.heap.size,1,none⟩=some (.int .u32 kk.num):=by rw[cell_of_row _ _ _ _ _ _ hk0];simpa using v1
      clear hm0 hb0 hf0 hk0;go_wp2_with (fail);have hr1:0≤kk.num∧kk.num≤18446744073709551615:=by have:=HW.out;omega
      have hfit1:Lib.bitLen (kk.num).toNat≤8 * 4:=jdf 32 (by omega) (by have:=HW.out;omega);go_at_call 82;refine(jc8 nb mb _ kk.num 4 _ HM0.out (by(try simp only[List.length_append,jbc,jaw]);omega) (by rw[HNB.out];exact HB0.out.size) hr1.1 hr1.2 (by omega) (by omega) hfit1).mono ?_;rintro e x1 ⟨rfl,hm1,hb1,hf1⟩;have HM1:=Lib.hid hm1;have HB1:=Lib.hid (HB0.out.trans hb1);have hk1:=hf1.2 _ _ _ _ (by omega) HK0'.out (by decide);have HK1':=Lib.hid hk1;have HN1:=Lib.hid (hf1.2 _ _ _ _ (by omega) HN0.out (by decide));clear hm1 hb1 hf1 hk1;go_wp2_with (fail);refine wp_region_still_tail 5 (by kernel_rfl) (by kernel_rfl) ?_;simp only[List.take_succ_cons,List.take_zero,List.drop_succ_cons,List.drop_zero];change wpStill _ _ (World.drew _) _ _ _
      repeat still_step
      refine wpStill_nil ?_;change wpList _ _ _ _ _ (World.drew _);go_wp2_with (fail);go_at_call 84;refine(write_len nb mb wr.heap.size 2 32 _ (hashV kk.hash) 32 VH.out.2.1 (je2 _) x1.drew HM1.out (by rw[Lib.byteCells_length];(try simp only[List.length_append,jbc,jaw]);omega) (by rw[HNB.out];exact HB1.out.size) (jlm HK1'.out 2 _ VH.out.1 (by rw[HL.out];decide)) (by omega)).mono ?_;rintro e x2 ⟨rfl,hm2,hb2,hf2⟩;have HM2:=Lib.hid (mk_join hm2 VH.out.2.2);have HB2:=Lib.hid ((HB1.out.drew).trans hb2);have HN2:=Lib.hid (hf2.2 _ _ _ _ (by omega) HN1.out (by decide));clear hm2 hb2 hf2;go_wp2;refine⟨⟨k + 1,by omega,by go_num,?_,HB2.out,HN2.out⟩,by simp[intOf];omega⟩;rw[HST2.out.2,←List.append_assoc,←HST2.out.1];have:=HM2.out;simpa only[kidU,List.append_assoc]using this
     ·obtain rfl:k=n.kids.length:=by omega
      rw[List.take_length]at hM;have HST:=Lib.hid (And.intro hM (And.intro hB hN));obtain⟨q0,q1,q2,q3⟩:=jey hN;clear hM hB hN;have hLk:=jlk kidU 85 n.kids (fun x hx=>by have:=HBD.out.k1 x hx;rw[jhx x (HR.out.2.1.wf x hx).2.2];unfold kidSz;omega) n.kids.length;rw[List.take_length]at hLk;have hk0':=HBD.out.k0;go_wp2;go_loopw [11,80,81,82,83,84,85,86,87,88,89,90,91,92,93,94,95,96,97,98,99,100,101,102,103,104,105,106,107,108,109,110,111,112] (fun _ i _ _ _ _ _ _ _ _ _ _ _ _ _ _ _ _ _ _ _ _ _ _ _ _ _ _ _ _ _ _ _ _ wr=>∃k:Nat,k≤n.vols.length∧i= .int .i64 k∧MkL nb mb (headU n ++ n.items.flatMap itemU ++ n.kids.flatMap kidU ++ (n.vols.take k).flatMap volU) wr∧Below nb w wr∧wr.heap[nb]? =some (.cells #[.int .u8 n.kind, .slice A n.items.length ca, .slice B n.kids.length cb, .slice C n.vols.length cc] 59 (0,0))) (fun _ i _ _ _ _ _ _ _ _ _ _ _ _ _ _ _ _ _ _ _ _ _ _ _ _ _ _ _ _ _ _ _ _ _=>n.vols.length - (intOf i).toNat)
      case atStart=>exact⟨0,Nat.zero_le _,rfl,by rw[List.take_zero,List.flatMap_nil,List.append_nil];exact HST.out.1,HST.out.2.1,HST.out.2.2⟩
      case round=>
       obtain⟨k,hk,rfl,hM,hB,hN⟩:=hrel;by_cases hlt:k < n.vols.length
       ·obtain⟨b,o,rfl,hat,hwf⟩:=HR.out.2.2 k hlt;have hb:b < nb:=by rw[HNB.out];exact hat.lt (by simp[volE])
        have hatr:=hat.below hB (by rw[HNB.out];exact Nat.le_refl _);have hbr:b < wr.heap.size:=Nat.lt_of_lt_of_le (by rw[←HNB.out];exact hb) hB.size;have hst:=jij volU n.vols k hlt;have hLb:=jlk volU 79 n.vols (fun x hx=>by have:=HBD.out.v1 x hx;rw[jlj x (HR.out.2.2.wf x hx).2.2.2.2.2];unfold volSz;omega) k;have hkb:k≤255:=by have:=HBD.out.v0;omega
        have hsz:=HBD.out.v1 n.vols[k] (List.getElem_mem hlt);obtain⟨L,hL⟩:∃L,L=headU n ++ n.items.flatMap itemU ++ n.kids.flatMap kidU ++ (n.vols.take k).flatMap volU:=⟨_,rfl⟩
        have hLl:L.length≤500000:=by rw[hL];rw[List.length_append,List.length_append,List.length_append,hhd];omega
        rw[←hL]at hM;have HST2:=Lib.hid (And.intro hL hst);clear hat hst hLb hL;generalize n.vols[k]=kk at *;have HK:=jjm kk hwf;have hl:=volE.len kk hwf;have h1':=volE.one kk hwf;have hwf':=hwf;have v0:(volE.enc kk)[0]? =some (.string kk.name):=rfl;have v1:(volE.enc kk)[1]? =some (.int .u8 kk.kind):=rfl;have v2:(volE.enc kk)[2]? =some (.string kk.src):=rfl;have v3:(volE.enc kk)[3]? =some (.int .u64 kk.born):=rfl;have v4:(volE.enc kk)[4]? =some (.int .u32 kk.root):=rfl;have vh:volE.enc kk=(volE.enc kk).take 5 ++ hashV kk.hash:=rfl;have vhl:(hashV kk.hash).length=32:=by simp[hashV,hwf.2.2.2.2.2.1]
        have vhc:=jhw hwf.2.2.2.2.2;have hlo1:0≤kk.kind:=by have:=hwf;have:=this.2.1;omega
        have hhi1:kk.kind≤255:=by have:=hwf;have:=this.2.1;omega
        have hlo3:0≤kk.born:=by have:=hwf;have:=this.2.2.2.1;omega
        have hhi3:kk.born≤18446744073709551615:=by have:=hwf;have:=this.2.2.2.1;omega
        have hlo4:0≤kk.root:=by have:=hwf;have:=this.2.2.2.2.1;unfold u32Ok at this;omega
        have hhi4:kk.root≤4294967295:=by have:=hwf;have:=this.2.2.2.2.1;unfold u32Ok at this;omega
        have HL:=Lib.hid hl;have HW:=Lib.hid hwf;clear hl;generalize volE.enc kk=vs at *;have VH:=Lib.hid (And.intro vh (And.intro vhl vhc));clear vh vhl vhc;have n0:(wr.alloc (.cells vs.toArray 155)).cell? ⟨wr.heap.size,0,none⟩=some (.string kk.name):=jay 0 _ v0;have hmlt:=hM.lt;have HM:=Lib.hid (Mk.below hM ((Below.refl wr.heap.size wr).alloc (Nat.le_refl _) (.cells vs.toArray 155)));have HB:=Lib.hid (hB.alloc (by rw[HNB.out];exact hB.size) (.cells vs.toArray 155));have HK0:=Lib.hid (heap_alloc_new wr (.cells vs.toArray 155));have HN:=Lib.hid ((Lib.alloc_old wr (.cells vs.toArray 155) nb (lt_of_block hN)).trans hN);have hnlt:=lt_of_block hN;clear hM hB hN;go_wp2_with (first|((with_reducible refine jao ?_);refine jai rfl 155 (.tmp 82) rfl b (o + k * 37) rfl vs _ hatr Tryz.underlying155 rfl HK ?_)|((with_reducible refine jab ?_);refine jaa rfl 155 (.tmp 11) (.tmp 83) rfl 155 _ rfl vs rfl (by rw[HL.out];rfl) h1' HK ?_));go_at_call 83;refine(jft nb mb _ kk.name _ HM.out (by(try simp only[List.length_append,jbc,jaw]);omega) (by rw[HNB.out];exact HB.out.size) (by omega)).mono ?_;rintro e x0 ⟨rfl,hm0,hb0,hf0⟩;have HM0:=Lib.hid hm0;have HB0:=Lib.hid (HB.out.trans hb0);have hk0:=hf0.2 _ _ _ _ (by omega) HK0.out (by decide);have HK0':=Lib.hid hk0;have HN0:=Lib.hid (hf0.2 _ _ _ _ (by omega) HN.out (by decide));have r0:x0.cell? ⟨wr.heap.size,2,none⟩=some (.string kk.src):=by rw[cell_of_row _ _ _ _ _ _ hk0];simpa using v2
        clear hm0 hb0 hf0 hk0;go_wp2_with (fail);go_at_call 83;refine(jft nb mb _ kk.src _ HM0.out (by(try simp only[List.length_append,jbc,jaw]);omega) (by rw[HNB.out];exact HB0.out.size) (by omega)).mono ?_;rintro e x1 ⟨rfl,hm1,hb1,hf1⟩;have HM1:=Lib.hid hm1;have HB1:=Lib.hid (HB0.out.trans hb1);have hk1:=hf1.2 _ _ _ _ (by omega) HK0'.out (by decide);have HK1':=Lib.hid hk1;have HN1:=Lib.hid (hf1.2 _ _ _ _ (by omega) HN0.out (by decide));have r1:x1.cell? ⟨wr.heap.size,1,none⟩=some (.int .u8 kk.kind):=by rw[cell_of_row _ _ _ _ _ _ hk1];simpa using v1
        clear hm1 hb1 hf1 hk1;go_wp2_with (fail);have hr2:0≤kk.kind∧kk.kind≤18446744073709551615:=by have:=HW.out;omega
        have hfit2:Lib.bitLen (kk.kind).toNat≤8 * 1:=jdf 8 (by omega) (by have:=HW.out;omega);go_at_call 82;refine(jc8 nb mb _ kk.kind 1 _ HM1.out (by(try simp only[List.length_append,jbc,jaw]);omega) (by rw[HNB.out];exact HB1.out.size) hr2.1 hr2.2 (by omega) (by omega) hfit2).mono ?_;rintro e x2 ⟨rfl,hm2,hb2,hf2⟩;have HM2:=Lib.hid hm2;have HB2:=Lib.hid (HB1.out.trans hb2);have hk2:=hf2.2 _ _ _ _ (by omega) HK1'.out (by decide);have HK2':=Lib.hid hk2;have HN2:=Lib.hid (hf2.2 _ _ _ _ (by omega) HN1.out (by decide));have r2:x2.cell? ⟨wr.heap.size,3,none⟩=some (.int .u64 kk.born):=by rw[cell_of_row _ _ _ _ _ _ hk2];simpa using v3
        clear hm2 hb2 hf2 hk2;go_wp2_with (fail);have hr3:0≤kk.born∧kk.born≤18446744073709551615:=by have:=HW.out;omega
        have hfit3:Lib.bitLen (kk.born).toNat≤8 * 8:=jdf 64 (by omega) (by have:=HW.out;omega);go_at_call 82;refine(jc8 nb mb _ kk.born 8 _ HM2.out (by(try simp only[List.length_append,jbc,jaw]);omega) (by rw[HNB.out];exact HB2.out.size) hr3.1 hr3.2 (by omega) (by omega) hfit3).mono ?_;rintro e x3 ⟨rfl,hm3,hb3,hf3⟩;have HM3:=Lib.hid hm3;have HB3:=Lib.hid (HB2.out.trans hb3);have hk3:=hf3.2 _ _ _ _ (by omega) HK2'.out (by decide);have HK3':=Lib.hid hk3;have HN3:=Lib.hid (hf3.2 _ _ _ _ (by omega) HN2.out (by decide));have r3:x3.cell? ⟨wr.heap.size,4,none⟩=some (.int .u32 kk.root):=by rw[cell_of_row _ _ _ _ _ _ hk3];simpa using v4
        clear hm3 hb3 hf3 hk3;go_wp2_with (fail);have hr4:0≤kk.root∧kk.root≤18446744073709551615:=by have:=HW.out;omega
        have hfit4:Lib.bitLen (kk.root).toNat≤8 * 4:=jdf 32 (by omega) (by have:=HW.out;omega);go_at_call 82;refine(jc8 nb mb _ kk.root 4 _ HM3.out (by(try simp only[List.length_append,jbc,jaw]);omega) (by rw[HNB.out];exact HB3.out.size) hr4.1 hr4.2 (by omega) (by omega) hfit4).mono ?_;rintro e x4 ⟨rfl,hm4,hb4,hf4⟩;have HM4:=Lib.hid hm4;have HB4:=Lib.hid (HB3.out.trans hb4);have hk4:=hf4.2 _ _ _ _ (by omega) HK3'.out (by decide);have HK4':=Lib.hid hk4;have HN4:=Lib.hid (hf4.2 _ _ _ _ (by omega) HN3.out (by decide));clear hm4 hb4 hf4 hk4;go_wp2_with (fail);refine wp_region_still_tail 5 (by kernel_rfl) (by kernel_rfl) ?_;simp only[List.take_succ_cons,List.take_zero,List.drop_succ_cons,List.drop_zero];change wpStill _ _ (World.drew _) _ _ _
        repeat still_step
        refine wpStill_nil ?_;change wpList _ _ _ _ _ (World.drew _);go_wp2_with (fail);go_at_call 84;refine(write_len nb mb wr.heap.size 5 32 _ (hashV kk.hash) 32 VH.out.2.1 (je2 _) x4.drew HM4.out (by rw[Lib.byteCells_length];(try simp only[List.length_append,jbc,jaw]);omega) (by rw[HNB.out];exact HB4.out.size) (jlm HK4'.out 5 _ VH.out.1 (by rw[HL.out];decide)) (by omega)).mono ?_;rintro e x5 ⟨rfl,hm5,hb5,hf5⟩;have HM5:=Lib.hid (mk_join hm5 VH.out.2.2);have HB5:=Lib.hid ((HB4.out.drew).trans hb5);have HN5:=Lib.hid (hf5.2 _ _ _ _ (by omega) HN4.out (by decide));clear hm5 hb5 hf5;go_wp2;refine⟨⟨k + 1,by omega,by go_num,?_,HB5.out,HN5.out⟩,by simp[intOf];omega⟩;rw[HST2.out.2,←List.append_assoc,←HST2.out.1];have:=HM5.out;simpa only[volU,List.append_assoc]using this
       ·obtain rfl:k=n.vols.length:=by omega
        rw[List.take_length]at hM;have HST:=Lib.hid (And.intro hM (And.intro hB hN));obtain⟨q0,q1,q2,q3⟩:=jey hN;clear hM hB hN;go_wp2_with (fail);go_at_call 86;refine(mkString_any nb mb (encL n) wr HST.out.1 (by intro e;have:=congrArg List.length e;unfold encL at this;simp[hhd]at this)).mono ?_;rintro e y0 ⟨rfl,hy0⟩;go_wp2_with (fail);go_at_call 85;refine(whole_any y0 ⟨(encL n).toArray⟩ (by show(encL n).toArray.size≤508;simpa using HEL.out)).mono ?_;rintro e y1 ⟨rfl,hy1⟩;go_wp2;go_ret2;refine⟨rfl,?_⟩;rw[←HNB.out];exact(HST.out.2.1.trans hy0).trans (hy1.mono (by rw[HNB.out];exact Nat.le_trans HST.out.2.1.size hy0.size))
 ·have HNE:=Lib.hid (show decide (jcd n=0)=false from decide_eq_false hne);rw[if_neg hne];have hne2:(jcd n !=0)=true:=by simpa using hne
  clear hne;go_enter Tryz.func31,Tryz.ntmps31;go_wp2_with (go_at_call 81;refine(jih _ _ n (HV.out.below HB.out (Nat.le_refl _)) HN.out).mono ?_;rintro e w1 ⟨rfl,hb1⟩);go_ret2;exact⟨rfl,Below.step HB.out hb1⟩
def fillB(s:ByteArray):ByteArray:=⟨(padTo 512 s.data.toList).toArray⟩
theorem fillB_size(s:ByteArray)(h:s.size≤512):(fillB s).size=512:=by
 show(padTo 512 s.data.toList).toArray.size=512
 unfold padTo;simp;omega
theorem filled_any(w:World)(s:ByteArray)(hs:s.size≤512):
 Calls Tryz.prog 163 #[.string s] w fun e w'=>e= .returned (.string (fillB s))∧Below w.heap.size w w':=by
 have hi:IntKind.i64.wrap (512 - (s.size:Int))=((512 - s.size:Nat):Int):=by rw[IntKind.wrap_i64];omega
 have hi2:(512 - (s.size:Int))=((512 - s.size:Nat):Int):=by omega
 have hmx:max 0 ((512 - s.size:Nat):Int)=((512 - s.size:Nat):Int):=by omega
 have HP:=Lib.hid (show s ++ ⟨(Lib.repeatL (⟨#[0]⟩:ByteArray).data.toList (512 - s.size)).toArray⟩=fillB s by
  unfold fillB padTo;rw[←je7];apply jgq;simp)
 have hrl:(Lib.repeatL [0] (512 - s.size)).length=512 - s.size:=by rw[je7,List.length_replicate]
 go_enter Tryz.func163,Tryz.ntmps163;go_wp2_with (go_at_call 145;refine(Tryz.strings_Repeat ⟨#[0]⟩ (512 - s.size) _ (by omega) (by rw[show(⟨#[0]⟩:ByteArray).size=1 from rfl];omega)).mono ?_;rintro e w1 ⟨rfl,hb1⟩);go_ret;exact⟨by rw[←HP.out];rfl,hb1⟩
theorem stepT_small(n:Node)(t:Tk):(stepT n t).1.items.length≤n.items.length + 1∧(stepT n t).1.kids.length≤n.kids.length + 1∧(stepT n t).1.vols.length≤n.vols.length + 1:=by
 unfold stepT;split
 ·simp
 ·split
  ·simp
  ·split <;>simp
theorem jhm:∀(c:Nat) (n:Node) (t:Tk),(jb9 c n t).1.items.length≤n.items.length + c∧(jb9 c n t).1.kids.length≤n.kids.length + c∧(jb9 c n t).1.vols.length≤n.vols.length + c
 |0,n,t=>by simp[jb9]
 |c + 1,n,t=>by
  have h:=stepT_small n t;unfold jb9;split
  ·omega
  ·have:=jhm c (stepT n t).1 (stepT n t).2;omega
theorem jhv(t:Tk):(takeT t).1.items.length≤255∧(takeT t).1.kids.length≤255∧(takeT t).1.vols.length≤255:=by
 unfold takeT;have h:=jhm (numT (numT t 1).2 1).1.toNat ⟨(numT t 1).1,[],[],[]⟩ (numT (numT t 1).2 1).2;have:=jkv (numT t 1).2;simp at h;omega
def decTk(s:ByteArray):Tk:=⟨(fillB s).extract 4 512,false⟩
def jdh:Node:=⟨0,[],[],[]⟩
def decB(s:ByteArray):Bool:=
 decide (s.size≤512) && (!(takeT (decTk s)).2.bad && (jcd (takeT (decTk s)).1==0 && decide (jcw (encL (takeT (decTk s)).1)=s.data.toList)))
def decE(s:ByteArray):Int:=if decB s then 0 else 9
def decN(s:ByteArray):Node:=if decB s then(takeT (decTk s)).1 else jdh
theorem jds{fn:Func}{t u:Tmp}(h:fn.results= #[.cell t 59, .tmp u])(tmps:Array Value)(g:Nat)(cs:Array Value)(fr:Nat×Nat)(w:World)(ht:tmps.getD t undef= .pointer (some ⟨g,0,none⟩))
 (hg:w.heap[g]? =some (.cells cs 59 fr)) (hsz:cs.size=4):
 (results fn tmps).run Tryz.prog w= .ok (.tuple #[.agg cs,tmps.getD u undef]) w:=by
 have hp':tmps[t]?.getD undef= .pointer (some ⟨g,0,none⟩):=by simpa using ht
 have hl:=run_loadVar_row (P:=Tryz.prog) w g 59 59 cs fr _ hg Tryz.underlying59 rfl (by rw[ja0,hsz]);simp[results,h,hp',asAddr,hl]
theorem nil_node(w:World):NodeV w (.agg #[.int .u8 0, .slice none 0 0, .slice none 0 0, .slice none 0 0]) jdh:=
 ⟨_,_,_,rfl,Sl.nil _,Sl.nil _,Sl.nil _,by decide,by decide⟩
theorem jci{w W:World}(h:Below w.heap.size w W)(cs z:Array Value)(t:TypeId)(hrb:W.heap[w.heap.size]? =some (.cells z t (0,0))):
 (W.setRow w.heap.size cs).heap[w.heap.size]? =some (.cells cs t (0,0))∧Below w.heap.size w (W.setRow w.heap.size cs):=
 ⟨jad _ _ _ _ _ hrb,⟨h.os,h.tape,h.output,by simpa[World.setRow]using h.size,fun k hk=>(jac _ _ _ _ (by omega)).trans (h.block k hk)⟩⟩
theorem row_keep{α:Type}{E:Enc α}(hf:∀x,∃q,(E.enc x)[0]? =some (.string q)){w w':World}{A:Option Addr}{xs:List α}{rb:Nat}{t:TypeId}{fr:Nat×Nat}(h:Row E w A xs)
 (hrb:w.heap[rb]? =some (.cells #[.int .u8 0, .slice none 0 0, .slice none 0 0, .slice none 0 0] t fr)) (hw:∀k,k≠rb→w'.heap[k]? =w.heap[k]?):Row E w' A xs:=by
 intro k hk;obtain⟨b,o,e,hat,hwf⟩:=h k hk;refine⟨b,o,e,?_,hwf⟩;by_cases hb:b=rb
 ·exfalso;subst hb;obtain⟨q,hq⟩:=hf xs[k];have:=hat.cell 0 _ hq;rw[cell_of_row _ _ _ _ _ _ hrb]at this;generalize o + k * E.sz + 0=i at this
  match i with
  |0=>simp at this
  |1=>simp at this
  |2=>simp at this
  |3=>simp at this
  |i + 4=>simp at this
 ·exact hat.heap (hw b hb)
theorem sl_keep{α:Type}{E:Enc α}(hf:∀x,∃q,(E.enc x)[0]? =some (.string q)){w w':World}{v:Value}{xs:List α}{rb:Nat}{t:TypeId}{fr:Nat×Nat}(h:Sl E w v xs)
 (hrb:w.heap[rb]? =some (.cells #[.int .u8 0, .slice none 0 0, .slice none 0 0, .slice none 0 0] t fr)) (hw:∀k,k≠rb→w'.heap[k]? =w.heap[k]?):Sl E w' v xs:=by
 obtain⟨A,c,e,h1,h2,h3⟩:=h;exact⟨A,c,e,h1,h2,row_keep hf h3 hrb hw⟩
theorem nodeV_keep{w:World}{v:Value}{n:Node}{rb:Nat}{t:TypeId}{fr:Nat×Nat}(cs:Array Value)(h:NodeV w v n)(hrb:w.heap[rb]? =some (.cells #[.int .u8 0, .slice none 0 0, .slice none 0 0, .slice none 0 0] t fr)):NodeV (w.setRow rb cs) v n:=by
 obtain⟨a,b,c,h0,h1,h2,h3,h4⟩:=h;have hw:∀k,k≠rb→(w.setRow rb cs).heap[k]? =w.heap[k]? :=fun k hk=>jac _ _ _ _ hk
 exact⟨a,b,c,h0,sl_keep (fun x=>⟨x.key,rfl⟩) h1 hrb hw,sl_keep (fun x=>⟨x.key,rfl⟩) h2 hrb hw,sl_keep (fun x=>⟨x.name,rfl⟩) h3 hrb hw,h4⟩
theorem fresh_le{B B':Nat}{v:Value}(h:Fresh B v)(hB:B'≤B):Fresh B' v:=fun k a b c e=>
 ⟨fun g hg=>Nat.le_trans hB ((h k a b c e).1 g hg),fun g hg=>Nat.le_trans hB ((h k a b c e).2.1 g hg),fun g hg=>Nat.le_trans hB ((h k a b c e).2.2 g hg)⟩
theorem jgv(B:Nat)(w:World):NodeF B w (.agg #[.int .u8 0, .slice none 0 0, .slice none 0 0, .slice none 0 0]) jdh:=
 ⟨nil_node w,fresh_mk (fun _ h=>by cases h) (fun _ h=>by cases h) (fun _ h=>by cases h)⟩
theorem jfl(w:World)(s:ByteArray)(hs:s.size≤140737488355328):
 Calls Tryz.prog 106 #[.string s] w fun e w'=>∃v,e= .returned (.tuple #[v, .int .i64 (decE s)])∧NodeF w.heap.size w' v (decN s)∧jfn (decN s)∧Below w.heap.size w w':=by
 have hrb0:(w.alloc (.cells #[.int .u8 0, .slice none 0 0, .slice none 0 0, .slice none 0 0] 59)).heap[w.heap.size]? =some (.cells #[.int .u8 0, .slice none 0 0, .slice none 0 0, .slice none 0 0] 59 (0,0)):=heap_alloc_new _ _;have hB0:=(Below.refl w.heap.size w).alloc (Nat.le_refl _) (.cells #[.int .u8 0, .slice none 0 0, .slice none 0 0, .slice none 0 0] 59);have H0:=Lib.hid (And.intro hrb0 hB0);clear hrb0 hB0;by_cases hlen:s.size≤512
 ·have hd:decide (512 < (s.size:Int))=false:=decide_eq_false (by omega);have hfs:=fillB_size s hlen;go_enter Tryz.func106,Tryz.ntmps106;go_wp2_with (go_at_call 163;refine(filled_any _ s hlen).mono ?_;rintro e w1 ⟨rfl,hb1⟩);have hB1:=Below.step H0.out.2 hb1;have hrb1:=(hb1.block w.heap.size (by simp)).trans H0.out.1;have htk0:TkAt (w1.alloc (.cells #[.string ((fillB s).extract 4 512), .bool false] 262)) w1.heap.size (decTk s):=heap_alloc_new _ _;have hB1':=hB1.alloc hB1.size (.cells #[.string ((fillB s).extract 4 512), .bool false] 262);have hrb1':=(Lib.alloc_old w1 (.cells #[.string ((fillB s).extract 4 512), .bool false] 262) _ (lt_of_block hrb1)).trans hrb1;have hl1:=lt_of_block hrb1;go_at_call 164;refine(take_any _ w1.heap.size (decTk s) htk0 (by unfold decTk;simp;omega)).mono ?_;rintro e w2 ⟨v,rfl,⟨hnv,hfv⟩,hwf,hgr,htk⟩;have HFV:=Lib.hid (fresh_le hfv hB1'.size);clear hfv;have hsm:=jhv (decTk s);have hrb2:=(hgr.block _ (lt_of_block hrb1') (by simp;omega)).trans hrb1';have hB2:Below w.heap.size w w2:=hB1'.grown hgr hB1'.size (fun k hk=>by injection hk with hk;omega);obtain⟨tk,htke⟩:∃tk,(takeT (decTk s)).2=tk:=⟨_,rfl⟩
  obtain⟨n,hne⟩:∃n,(takeT (decTk s)).1=n:=⟨_,rfl⟩
  rw[htke]at htk;rw[hne]at hnv hwf hsm;have HD:=Lib.hid (show decB s=(!tk.bad && (jcd n==0 && decide (jcw (encL n)=s.data.toList))) by unfold decB;rw[decide_eq_true hlen,htke,hne];rfl);have HDN:=Lib.hid (show decN s=if decB s then n else jdh by unfold decN;rw[hne]);have HNV:=Lib.hid hnv;obtain⟨vi,vk,vv,rfl,hsi,hsk,hsv,hk0,hk1⟩:=hnv;have H2:=Lib.hid (And.intro hB2 (And.intro hrb2 (And.intro htk (And.intro hwf hsm))));have hone:vi.oneCell'=true∧vk.oneCell'=true∧vv.oneCell'=true:=by
   obtain⟨_,_,e1,_⟩:=hsi;obtain⟨_,_,e2,_⟩:=hsk;obtain⟨_,_,e3,_⟩:=hsv;rw[e1,e2,e3];exact⟨rfl,rfl,rfl⟩
  have HONE:=Lib.hid hone;have hnb:(w2.alloc (.cells #[.int .u8 n.kind,vi,vk,vv] 59)).heap[w2.heap.size]? =some (.cells #[.int .u8 n.kind,vi,vk,vv] 59 (0,0)):=heap_alloc_new _ _;have HNB:=Lib.hid hnb;clear htke hne htk hwf hsm hB1 hrb1 htk0 hB1' hrb1' hgr hB2 hrb2 hsi hsk hsv hone hnb hb1;generalize w1.heap.size=tb at *;go_wp2_with ((with_reducible refine jab ?_);refine jaa rfl 59 (.tmp 5) (.tmp 18) rfl 59 _ rfl [_,_,_,_] rfl rfl (by intro v hv;simp at hv;rcases hv with rfl|rfl|rfl|rfl <;>first|rfl|exact HONE.out.1|exact HONE.out.2.1|exact HONE.out.2.2) ja0 ?_);go_at_call 31;refine(encode_any _ _ n (HNV.out.below ((Below.refl _ _).alloc (Nat.le_refl _) _) (Nat.le_refl _)) ⟨by have:=H2.out.2.2.2.2.1;omega,by have:=H2.out.2.2.2.2.2.1;omega,by have:=H2.out.2.2.2.2.2.2;omega⟩).mono ?_;rintro e w3 ⟨rfl,hb3⟩;have hB3:Below w.heap.size w w3:=(H2.out.1.alloc H2.out.1.size _).trans (hb3.mono (by have:=H2.out.1.size;simp;omega));have hrb3:w3.heap[w.heap.size]? =some (.cells #[.int .u8 0, .slice none 0 0, .slice none 0 0, .slice none 0 0] 59 (0,0)):=
   (hb3.block _ (by have:=lt_of_block H2.out.2.1;simp;omega)).trans ((Lib.alloc_old w2 _ _ (lt_of_block H2.out.2.1)).trans H2.out.2.1)
  have htk3:TkAt w3 tb tk:=(hb3.block _ (by have:=lt_of_block H2.out.2.2.1;simp;omega)).trans ((Lib.alloc_old w2 _ _ (lt_of_block H2.out.2.2.1)).trans H2.out.2.2.1);have hnb3:w3.heap[w2.heap.size]? =some (.cells #[.int .u8 n.kind,vi,vk,vv] 59 (0,0)):=(hb3.block _ (by simp)).trans (heap_alloc_new _ _);have hnv3:NodeV w3 (.agg #[.int .u8 n.kind,vi,vk,vv]) n:=HNV.out.below (((Below.refl _ _).alloc (Nat.le_refl _) _).trans (hb3.mono (by simp))) (Nat.le_refl _);have cbad:w3.cell? ⟨tb,1,none⟩=some (.bool tk.bad):=by rw[cell_of_row _ _ _ _ _ _ htk3];rfl
  have H3:=Lib.hid (And.intro hB3 (And.intro hrb3 (And.intro hnb3 hnv3)));clear hB3 hrb3 htk3 hnb3 hnv3 hb3;have BAD:∀(_:decB s=false),decE s=9∧decN s=jdh:=fun h=>⟨by unfold decE;rw[h];rfl,by unfold decN;rw[h];rfl⟩
  have HBAD:=Lib.hid BAD;clear BAD;cases hbad:tk.bad with
  |true=>
   have hdf:=HBAD.out (by rw[HD.out,hbad];rfl);have HDF:=Lib.hid hdf;clear hdf;rw[hbad]at cbad;by_cases hne:jcd n=0
   ·rw[if_pos hne];clear hne;go_wp2_with (first|(refine wpList_load_row rfl 59 _ rfl w2.heap.size rfl 59 _ (0,0) _ H3.out.2.2.1 Tryz.underlying59 rfl ja0 ?_)|(refine jaf rfl 59 _ _ rfl w.heap.size 0 rfl [_,_,_,_] rfl 59 _ H3.out.2.1 (by simp) (by intro v hv;simp at hv;rcases hv with rfl|rfl|rfl|rfl <;>rfl) ja0 ?_));refine bodyPost_ret (jds rfl _ w.heap.size _ (0,0) _ rfl (jci H3.out.1 #[.int .u8 0, .slice none 0 0, .slice none 0 0, .slice none 0 0] _ _ H3.out.2.1).1 rfl) rfl ⟨.agg #[.int .u8 0, .slice none 0 0, .slice none 0 0, .slice none 0 0],?_,?_,?_,(jci H3.out.1 #[.int .u8 0, .slice none 0 0, .slice none 0 0, .slice none 0 0] _ _ H3.out.2.1).2⟩
    ·rw[HDF.out.1];rfl
    ·rw[HDF.out.2];exact jgv _ _
    ·rw[HDF.out.2];exact⟨by simp[jdh],by simp[jdh],by simp[jdh]⟩
   ·rw[if_neg hne];clear hne;go_wp2_with (first|(refine wpList_load_row rfl 59 _ rfl w2.heap.size rfl 59 _ (0,0) _ H3.out.2.2.1 Tryz.underlying59 rfl ja0 ?_)|(refine jaf rfl 59 _ _ rfl w.heap.size 0 rfl [_,_,_,_] rfl 59 _ H3.out.2.1 (by simp) (by intro v hv;simp at hv;rcases hv with rfl|rfl|rfl|rfl <;>rfl) ja0 ?_));refine bodyPost_ret (jds rfl _ w.heap.size _ (0,0) _ rfl (jci H3.out.1 #[.int .u8 0, .slice none 0 0, .slice none 0 0, .slice none 0 0] _ _ H3.out.2.1).1 rfl) rfl ⟨.agg #[.int .u8 0, .slice none 0 0, .slice none 0 0, .slice none 0 0],?_,?_,?_,(jci H3.out.1 #[.int .u8 0, .slice none 0 0, .slice none 0 0, .slice none 0 0] _ _ H3.out.2.1).2⟩
    ·rw[HDF.out.1];rfl
    ·rw[HDF.out.2];exact jgv _ _
    ·rw[HDF.out.2];exact⟨by simp[jdh],by simp[jdh],by simp[jdh]⟩
  |false=>
   rw[hbad]at cbad;by_cases hne:jcd n=0
   ·rw[if_pos hne];by_cases heq:jcw (encL n)=s.data.toList
    ·have hdt:decB s=true:=by rw[HD.out,hbad,hne,decide_eq_true heq];rfl
     have HDT:=Lib.hid hdt;have hse:(⟨(jcw (encL n)).toArray⟩:ByteArray)=s:=by rw[heq]
     rw[hse];have hbq:(s.toList==s.toList)=true:=by simp
     clear hne heq hse hdt;go_wp2_with (first|(refine wpList_load_row rfl 59 _ rfl w2.heap.size rfl 59 _ (0,0) _ H3.out.2.2.1 Tryz.underlying59 rfl ja0 ?_)|(refine jaf rfl 59 _ _ rfl w.heap.size 0 rfl [_,_,_,_] rfl 59 _ H3.out.2.1 (by simp) (by intro v hv;simp at hv;rcases hv with rfl|rfl|rfl|rfl <;>first|rfl|exact HONE.out.1|exact HONE.out.2.1|exact HONE.out.2.2) ja0 ?_));have hfd:=jci H3.out.1 #[.int .u8 n.kind,vi,vk,vv] _ _ H3.out.2.1;refine bodyPost_ret (jds rfl _ w.heap.size _ (0,0) _ rfl hfd.1 rfl) rfl ⟨.agg #[.int .u8 n.kind,vi,vk,vv],?_,?_,?_,hfd.2⟩
     ·have:decE s=0:=by unfold decE;rw[HDT.out];rfl
      rw[this];rfl
     ·have:decN s=n:=by rw[HDN.out,HDT.out];rfl
      rw[this];exact⟨nodeV_keep _ H3.out.2.2.2 H3.out.2.1,HFV.out⟩
     ·have:decN s=n:=by rw[HDN.out,HDT.out];rfl
      rw[this];exact H2.out.2.2.2.1
    ·have hdf:=HBAD.out (by rw[HD.out,decide_eq_false heq];simp);have HDF:=Lib.hid hdf;have hbq:((⟨(jcw (encL n)).toArray⟩:ByteArray).toList==s.toList)=false:=by
      rw[←Bool.not_eq_true];intro hh;exact heq (by have:=(jga _ _).1 hh;rw[←this])
     have hbq2:(jcw (encL n)==s.toList)=false:=by
      rw[←Bool.not_eq_true,beq_iff_eq,ByteArray.toList_eq];exact heq
     clear hne heq hdf;go_wp2_with (first|(refine wpList_load_row rfl 59 _ rfl w2.heap.size rfl 59 _ (0,0) _ H3.out.2.2.1 Tryz.underlying59 rfl ja0 ?_)|(refine jaf rfl 59 _ _ rfl w.heap.size 0 rfl [_,_,_,_] rfl 59 _ H3.out.2.1 (by simp) (by intro v hv;simp at hv;rcases hv with rfl|rfl|rfl|rfl <;>rfl) ja0 ?_));refine bodyPost_ret (jds rfl _ w.heap.size _ (0,0) _ rfl (jci H3.out.1 #[.int .u8 0, .slice none 0 0, .slice none 0 0, .slice none 0 0] _ _ H3.out.2.1).1 rfl) rfl ⟨.agg #[.int .u8 0, .slice none 0 0, .slice none 0 0, .slice none 0 0],?_,?_,?_,(jci H3.out.1 #[.int .u8 0, .slice none 0 0, .slice none 0 0, .slice none 0 0] _ _ H3.out.2.1).2⟩
     ·rw[HDF.out.1];rfl
     ·rw[HDF.out.2];exact jgv _ _
     ·rw[HDF.out.2];exact⟨by simp[jdh],by simp[jdh],by simp[jdh]⟩
   ·have hdf:=HBAD.out (by rw[HD.out,beq_eq_false_iff_ne.2 hne];simp);have HDF:=Lib.hid hdf;have hne2:(jcd n==0)=false:=beq_eq_false_iff_ne.2 hne;have hne3:(jcd n !=0)=true:=bne_iff_ne.2 hne;rw[if_neg hne];clear hne hdf;go_wp2_with (first|(refine wpList_load_row rfl 59 _ rfl w2.heap.size rfl 59 _ (0,0) _ H3.out.2.2.1 Tryz.underlying59 rfl ja0 ?_)|(refine jaf rfl 59 _ _ rfl w.heap.size 0 rfl [_,_,_,_] rfl 59 _ H3.out.2.1 (by simp) (by intro v hv;simp at hv;rcases hv with rfl|rfl|rfl|rfl <;>rfl) ja0 ?_));refine bodyPost_ret (jds rfl _ w.heap.size _ (0,0) _ rfl (jci H3.out.1 #[.int .u8 0, .slice none 0 0, .slice none 0 0, .slice none 0 0] _ _ H3.out.2.1).1 rfl) rfl ⟨.agg #[.int .u8 0, .slice none 0 0, .slice none 0 0, .slice none 0 0],?_,?_,?_,(jci H3.out.1 #[.int .u8 0, .slice none 0 0, .slice none 0 0, .slice none 0 0] _ _ H3.out.2.1).2⟩
    ·rw[HDF.out.1];rfl
    ·rw[HDF.out.2];exact jgv _ _
    ·rw[HDF.out.2];exact⟨by simp[jdh],by simp[jdh],by simp[jdh]⟩
 ·have hd:decide (512 < (s.size:Int))=true:=decide_eq_true (by omega);have HD:=Lib.hid (show decB s=false by unfold decB;rw[decide_eq_false hlen];rfl);have HE:=Lib.hid (show decE s=9 by unfold decE;rw[HD.out];rfl);have HDN:=Lib.hid (show decN s=jdh by unfold decN;rw[HD.out];rfl);go_enter Tryz.func106,Tryz.ntmps106;go_wp2;refine bodyPost_ret (jds rfl _ w.heap.size _ (0,0) _ rfl H0.out.1 rfl) rfl ⟨.agg #[.int .u8 0, .slice none 0 0, .slice none 0 0, .slice none 0 0],?_,?_,?_,H0.out.2⟩
  ·rw[HE.out];rfl
  ·rw[HDN.out];exact jgv _ _
  ·rw[HDN.out];exact⟨by simp[jdh],by simp[jdh],by simp[jdh]⟩
theorem decode_any(w:World)(s:ByteArray)(hs:s.size≤140737488355328):
 Calls Tryz.prog 106 #[.string s] w fun e w'=>∃v,e= .returned (.tuple #[v, .int .i64 (decE s)])∧NodeV w' v (decN s)∧jfn (decN s)∧Below w.heap.size w w':=
 (jfl w s hs).mono fun _ _ ⟨v,h1,h2,h3⟩=>⟨v,h1,h2.1,h3⟩
def tkL(l:List UInt8):Tk:=⟨⟨l.toArray⟩,false⟩
theorem jlr(a r:List UInt8)(k:Nat)(hk:a.length=k):someF (tkL (a ++ r)) k=(⟨a.toArray⟩,tkL r):=by
 unfold someF tkL;have h1:(⟨(a ++ r).toArray⟩:ByteArray).size=a.length + r.length:=by show(a ++ r).toArray.size=_;simp
 rw[h1];have h2:(false||decide (a.length + r.length < k))=false:=by simp;omega
 rw[h2];simp only[Bool.false_eq_true,if_false];refine Prod.ext ?_ ?_
 ·apply jgq;rw[Lib.extract_data];show List.take (k - 0) (List.drop 0 (a ++ r))=a
  simp[←hk]
 ·show Tk.mk _ _=Tk.mk _ _
  congr 1
  apply jgq;rw[Lib.extract_data];show List.take (a.length + r.length - k) (List.drop k (a ++ r))=r
  rw[←hk,List.drop_left,List.take_of_length_le (by omega)]
theorem numL_succ(n:Int)(k:Nat)(h0:0≤n):numL n (k + 1)=numL (n / 256) k ++ [n % 256]:=by
 unfold numL;rw[List.range_succ,List.map_append];congr 1
 ·apply List.map_congr_left;intro i hi;rw[List.mem_range]at hi;have e:8 * (k + 1 - 1 - i)=8 + 8 * (k - 1 - i):=by omega
  rw[e,Int.pow_add,Int.ediv_ediv_of_nonneg (by decide)];rfl
 ·simp
theorem jls:∀(k:Nat) (n:Int),0≤n→n < 256 ^ k→k≤8→jeq (numU n k)=n
 |0,n,h0,h1,_=>by
  have:n=0:=by simp at h1;omega
  subst this;rfl
 |k + 1,n,h0,h1,hk=>by
  have hd:n / 256 < 256 ^ k:=by
   have:(256:Int) ^ (k + 1)=256 ^ k * 256:=Int.pow_succ ..;omega
  have ih:=jls k (n / 256) (by omega) hd (by omega);have e:numU n (k + 1)=numU (n / 256) k ++ [UInt8.ofNat (n % 256).toNat]:=by
   unfold numU numB;rw[strOfNums_data,numL_succ n k h0,List.map_append,←strOfNums_data];rfl
  rw[e,takeOf_num k _ _ (by rw[jaw];omega),ih];have:(UInt8.ofNat (n % 256).toNat).toNat=(n % 256).toNat:=by simp;omega
  rw[this];omega
theorem jd3(n:Int)(k:Nat)(r:List UInt8)(h0:0≤n)(h1:n < 256 ^ k)(hk:k≤8):numT (tkL (numU n k ++ r)) k=(n,tkL r):=by
 have hs:=jlr (numU n k) r k (jaw n k);unfold numT;rw[hs];have hz:(⟨(numU n k).toArray⟩:ByteArray).size=k:=by show(numU n k).toArray.size=k;simp[jaw]
 rw[hz,if_neg (by omega)];refine Prod.ext ?_ rfl;show jeq (List.take k (numU n k))=n
 rw[List.take_of_length_le (by rw[jaw];omega),jls k n h0 h1 hk]
theorem jgz(s:ByteArray)(r:List UInt8)(hs:s.size≤255):textT (tkL (textU s ++ r))=(s,tkL r):=by
 unfold textT textU;rw[List.append_assoc,jd3 _ 1 _ (by omega) (by omega) (by omega)];have:=jlr s.data.toList r s.size (by simp);simpa using this
theorem jlt(h:List Int)(r:List UInt8)(hh:jd7 h):hashT (tkL (hashU h ++ r))=(h,tkL r):=by
 have hl:(hashU h).length=32:=by simp[hashU,hh.1]
 have hs:=jlr (hashU h) r 32 hl;unfold hashT;rw[hs];have hz:(⟨(hashU h).toArray⟩:ByteArray).size=32:=by show(hashU h).toArray.size=32;simp[hl]
 rw[hz,if_pos rfl];refine Prod.ext ?_ rfl;show jfx ⟨(hashU h).toArray⟩=h
 unfold jfx hashU;show List.map _ (List.map _ h)=h
 rw[List.map_map]
 conv=>rhs;rw[←List.map_id h]
 apply List.map_congr_left;intro x hx;obtain⟨a,b⟩:=hh.2 x hx;simp only[Function.comp,id];rw[show(x.toNat.toUInt8).toNat=x.toNat by simp[Nat.toUInt8];omega];omega
theorem itemT_app(x:Item)(r:List UInt8)(h:x.key.size≤255∧x.val.size≤255):itemT (tkL (itemU x ++ r))=(x,tkL r):=by
 unfold itemT itemU;rw[List.append_assoc,jgz _ _ h.1,jgz _ _ h.2]
theorem kidT_app(x:Kid)(r:List UInt8)(h:x.key.size≤255)(hw:kidE.wf x):kidT (tkL (kidU x ++ r))=(x,tkL r):=by
 have hn:=hw.2.1;unfold u32Ok at hn;unfold kidT kidU;simp only[List.append_assoc];rw[jgz _ _ h,jd3 _ 4 _ hn.1 (by omega) (by omega),jlt _ _ hw.2.2]
theorem volT_app(x:Vol)(r:List UInt8)(h:x.name.size≤255∧x.src.size≤255)(hw:volE.wf x):volT (tkL (volU x ++ r))=(x,tkL r):=by
 obtain⟨_,hk,_,hb,hr,hh⟩:=hw;unfold u32Ok at hr;unfold volT volU;simp only[List.append_assoc];rw[jgz _ _ h.1,jgz _ _ h.2,jd3 _ 1 _ hk.1 (by omega) (by omega),jd3 _ 8 _ hb.1 (by omega) (by omega),jd3 _ 4 _ hr.1 (by omega) (by omega),jlt _ _ hh]
theorem loop_items:∀(xs acc:List Item) (r:List UInt8),(∀x∈xs,x.key.size≤255∧x.val.size≤255)→jb9 xs.length ⟨1,acc,[],[]⟩ (tkL (xs.flatMap itemU ++ r))=(⟨1,acc ++ xs,[],[]⟩,tkL r)
 |[],acc,r,_=>by simp[jb9]
 |x::xs,acc,r,h=>by
  have e:=itemT_app x (xs.flatMap itemU ++ r) (h x (by simp));have st:stepT ⟨1,acc,[],[]⟩ (tkL (itemU x ++ (xs.flatMap itemU ++ r)))=(⟨1,acc ++ [x],[],[]⟩,tkL (xs.flatMap itemU ++ r)):=by
   unfold stepT;rw[if_pos rfl,e]
  rw[List.flatMap_cons,List.append_assoc,List.length_cons,jee _ _ _ (by rw[st];rfl),st];have:=loop_items xs (acc ++ [x]) r (fun y hy=>h y (by simp[hy]));simpa[List.append_assoc]using this
theorem loop_kids:∀(xs acc:List Kid) (r:List UInt8),(∀x∈xs,x.key.size≤255∧kidE.wf x)→jb9 xs.length ⟨2,[],acc,[]⟩ (tkL (xs.flatMap kidU ++ r))=(⟨2,[],acc ++ xs,[]⟩,tkL r)
 |[],acc,r,_=>by simp[jb9]
 |x::xs,acc,r,h=>by
  have e:=kidT_app x (xs.flatMap kidU ++ r) (h x (by simp)).1 (h x (by simp)).2;have st:stepT ⟨2,[],acc,[]⟩ (tkL (kidU x ++ (xs.flatMap kidU ++ r)))=(⟨2,[],acc ++ [x],[]⟩,tkL (xs.flatMap kidU ++ r)):=by
   unfold stepT;rw[if_neg (show ¬(2:Int)=1 by decide),if_pos rfl,e]
  rw[List.flatMap_cons,List.append_assoc,List.length_cons,jee _ _ _ (by rw[st];rfl),st];have:=loop_kids xs (acc ++ [x]) r (fun y hy=>h y (by simp[hy]));simpa[List.append_assoc]using this
theorem loop_vols:∀(xs acc:List Vol) (r:List UInt8),(∀x∈xs,(x.name.size≤255∧x.src.size≤255)∧volE.wf x)→jb9 xs.length ⟨3,[],[],acc⟩ (tkL (xs.flatMap volU ++ r))=(⟨3,[],[],acc ++ xs⟩,tkL r)
 |[],acc,r,_=>by simp[jb9]
 |x::xs,acc,r,h=>by
  have e:=volT_app x (xs.flatMap volU ++ r) (h x (by simp)).1 (h x (by simp)).2;have st:stepT ⟨3,[],[],acc⟩ (tkL (volU x ++ (xs.flatMap volU ++ r)))=(⟨3,[],[],acc ++ [x]⟩,tkL (xs.flatMap volU ++ r)):=by
   unfold stepT;rw[if_neg (show ¬(3:Int)=1 by decide),if_neg (show ¬(3:Int)=2 by decide),if_pos rfl,e]
  rw[List.flatMap_cons,List.append_assoc,List.length_cons,jee _ _ _ (by rw[st];rfl),st];have:=loop_vols xs (acc ++ [x]) r (fun y hy=>h y (by simp[hy]));simpa[List.append_assoc]using this
theorem takeT_enc(n:Node)(r:List UInt8)(h:jbu n=true)(hw:jfn n):takeT (tkL (encL n ++ r))=(n,tkL r):=by
 have hb:=jik n h;obtain⟨kd,items,kids,vols⟩:=n;have hc:=hb.c0;simp only at hc;have hkd:kd=1∨kd=2∨kd=3:=by
  unfold jbu at h;simp only at h;by_cases h1:kd=1
  ·exact Or.inl h1
  ·by_cases h2:kd=2
   ·exact Or.inr (Or.inl h2)
   ·by_cases h3:kd=3
    ·exact Or.inr (Or.inr h3)
    ·rw[if_neg h1,if_neg h2,if_neg h3]at h;cases h
 unfold takeT encL headU;simp only[List.append_assoc];rw[jd3 kd 1 _ (by omega) (by omega) (by omega)];simp only;rw[jd3 _ 1 _ (by omega) (by omega) (by omega)];simp only;rcases hkd with rfl|rfl|rfl
 ·unfold jbu at h;simp only[if_true,Bool.and_eq_true,decide_eq_true_eq,beq_iff_eq]at h;have hk:kids=[]:=List.length_eq_zero_iff.1 (by omega);have hv:vols=[]:=List.length_eq_zero_iff.1 (by omega);subst hk hv;have:=loop_items items [] r (fun x hx=>by have:=hb.i1 x hx;omega);simpa using this
 ·unfold jbu at h;simp only[show ¬(2:Int)=1 by decide,if_false,if_true,Bool.and_eq_true,beq_iff_eq]at h;have hk:items=[]:=List.length_eq_zero_iff.1 (by omega);have hv:vols=[]:=List.length_eq_zero_iff.1 (by omega);subst hk hv;have:=loop_kids kids [] r (fun x hx=>⟨by have:=hb.k1 x hx;omega,hw.2.1 x hx⟩);simpa using this
 ·unfold jbu at h;simp only[show ¬(3:Int)=1 by decide,show ¬(3:Int)=2 by decide,if_false,if_true,Bool.and_eq_true,beq_iff_eq]at h;have hk:items=[]:=List.length_eq_zero_iff.1 (by omega);have hv:kids=[]:=List.length_eq_zero_iff.1 (by omega);subst hk hv;have:=loop_vols vols [] r (fun x hx=>⟨by have:=hb.v1 x hx;omega,hw.2.2 x hx⟩);simpa using this
theorem trim_pad(x:List UInt8)(m:Nat)(hm:x.length=m):padTo m (Lib.trimRightB x 0)=x:=by
 subst hm;have h1:x.reverse.takeWhile (· ==0)=List.replicate (x.reverse.takeWhile (· ==0)).length 0:=by
  apply List.eq_replicate_of_mem;intro b hb;have:=List.all_eq_true.1 (List.all_takeWhile (p:=(· ==(0:UInt8))) (l:=x.reverse)) b hb;simpa using this
 have h2:(x.reverse.dropWhile (· ==0)).reverse ++ (x.reverse.takeWhile (· ==0)).reverse=x:=by
  rw[←List.reverse_append,List.takeWhile_append_dropWhile,List.reverse_reverse]
 have hl:(x.reverse.takeWhile (· ==0)).length=x.length - (x.reverse.dropWhile (· ==0)).length:=by
  have:=congrArg List.length h2;simp at this;omega
 unfold padTo Lib.trimRightB;rw[List.length_reverse,←hl]
 conv=>rhs;rw[←h2]
 congr 1
 conv=>rhs;rw[h1]
 rw[List.reverse_replicate]
theorem tk_ext{a b:ByteArray}(h:a=b):Tk.mk a false=Tk.mk b false:=by rw[h]
theorem dec_enc(n:Node)(hn:jcd n=0)(hw:jfn n):decB ⟨(jcw (encL n)).toArray⟩=true∧decN ⟨(jcw (encL n)).toArray⟩=n:=by
 have hsh:jbu n=true:=by
  unfold jcd at hn;cases h:jbu n with
  |true=>rfl
  |false=>rw[h]at hn;simp at hn
 have hsz:(encL n).length≤508:=by
  rw[jll n hsh hw.2.1 hw.2.2];unfold jcd at hn;rw[hsh]at hn;simp only[if_true]at hn;split at hn
  ·omega
  ·omega
 have hpl:(padTo 508 (encL n)).length=508:=by unfold padTo;simp;omega
 have hn4:(numB (crcOf (padTo 508 (encL n))) 4).data.toList.length=4:=jaw _ 4;have hfl:fillB ⟨(jcw (encL n)).toArray⟩=⟨((numB (crcOf (padTo 508 (encL n))) 4).data.toList ++ padTo 508 (encL n)).toArray⟩:=by
  unfold fillB jcw;apply jgq;show padTo 512 (Lib.trimRightB _ 0)=_
  rw[trim_pad _ 512 (by rw[List.length_append,hn4,hpl])]
 have htk:decTk ⟨(jcw (encL n)).toArray⟩=tkL (encL n ++ List.replicate (508 - (encL n).length) 0):=by
  unfold decTk tkL;rw[hfl];refine tk_ext (jgq ?_);rw[Lib.extract_data];show List.take (512 - 4) (List.drop 4 ((numB (crcOf (padTo 508 (encL n))) 4).data.toList ++ padTo 508 (encL n)))=_
  have:List.drop 4 ((numB (crcOf (padTo 508 (encL n))) 4).data.toList ++ padTo 508 (encL n))=padTo 508 (encL n):=by
   conv=>lhs;rw[←hn4]
   exact List.drop_left
  rw[this,List.take_of_length_le (by omega)];unfold padTo;simp
 have ht:=takeT_enc n (List.replicate (508 - (encL n).length) 0) hsh hw;have hws:(⟨(jcw (encL n)).toArray⟩:ByteArray).size≤512:=by
  show(jcw (encL n)).toArray.size≤512
  unfold jcw Lib.trimRightB;have:=(List.dropWhile_sublist (fun b:UInt8=>b==0) (l:=((numB (crcOf (padTo 508 (encL n))) 4).data.toList ++ padTo 508 (encL n)).reverse)).length_le;simp only[List.length_reverse,List.length_append,hn4,hpl]at this;simpa using this
 have hd:decB ⟨(jcw (encL n)).toArray⟩=true:=by
  unfold decB;rw[htk,ht];simp only[decide_eq_true hws,hn];rfl
 refine⟨hd,?_⟩;unfold decN;rw[hd,htk,ht];rfl
end Go.Proofs.YtpaohkkhejpgjaaGreatDoor
