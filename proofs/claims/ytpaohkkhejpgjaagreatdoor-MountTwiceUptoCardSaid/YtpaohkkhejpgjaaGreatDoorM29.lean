/- Texts of the proof: V2 Vs. -/
import Derived.Test.YtpaohkkhejpgjaaGreatDoorM17
import Derived.Test.YtpaohkkhejpgjaaGreatDoorM12
import Derived.Deep.LoopGhost
import Derived.Test.YtpaohkkhejpgjaaGreatDoorM21
set_option linter.all false
set_option maxRecDepth 100000
set_option maxHeartbeats 8000000
namespace Go.Proofs.YtpaohkkhejpgjaaGreatDoor
open Go Go.RowKit
theorem idxBlk_any(w:World)(v:Value)(bs:List Blk)(db:Nat)(size:Int)(hv:Sl blkE w v bs)(hl:bs.length≤1073741824)(hc:w.cell? ⟨db,0,none⟩=some (.int .u32 size)):
 Calls Tryz.prog 139 #[v, .func (.func 80) #[] #[.pointer (some ⟨db,0,none⟩)]] w fun e w'=>(∃n:Int,e= .returned (.int .i64 n)∧decide (0≤n)= !(bs.all fun b=>ja3 b size))∧Below w.heap.size w w':=by
 have hdb:=block_lt_of_cell hc;obtain⟨A,c,rfl,hc1,hc2,hra⟩:=hv;have HR:=Lib.hid hra;clear hra;go_enter Tryz.func139,Tryz.ntmps139;go_wp2_with (fail);go_loopg [5,8] bs.length (fun k _ vi wr=>∃j:Nat,j + k=bs.length∧vi= .int .i64 j∧(∀i (hi:i < bs.length),i < j→ja3 bs[i] size=true)∧Below w.heap.size w wr)
 case atStart=>exact⟨0,by omega,rfl,fun i _ h=>by omega,Below.refl _ _⟩
 case round=>
  obtain⟨j,hj,rfl,hall,hbl⟩:=hrel;have HA:=Lib.hid (And.intro hall hbl);have hcr:=(hbl.cell (p:=⟨db,0,none⟩) hdb).trans hc;by_cases hlt:j < bs.length
  ·obtain⟨b1,o1,rfl,hat1,hwf⟩:=HR.out j hlt;obtain⟨d0,d1⟩:=(hat1.below hbl (Nat.le_refl _)).pair;simp only[blkE]at d0 d1;have hsz:(bs[j]).data.size≤9223372036854775807:=by have:=hwf.2;unfold strOk at this;omega
   have HX:=Lib.hid (show bs[j]=bs[j]from rfl);clear hat1 hwf hall hbl;obtain⟨x,hx⟩:∃x,bs[j]=x:=⟨_,rfl⟩
   rw[hx]at d0 d1 hsz;have HXX:=Lib.hid hx;clear hx HX;go_wp2_with (fail);go_at_call 80;refine(devCheck1_any _ x db size hsz hcr).mono ?_;rintro e w1 ⟨rfl,hb1⟩;have HB1:=Lib.hid (HA.out.2.trans (hb1.mono HA.out.2.size));clear hb1;cases hr:ja3 x size with
   |true=>
    have HRR:=Lib.hid hr;clear hr;go_wp2_with (fail);go_roundg (bs.length - (j + 1))
    case measure=>omega
    case rel=>
     refine⟨j + 1,by omega,by go_num,fun i hi h=>?_,HB1.out⟩;by_cases e:i=j
     ·subst e;rw[HXX.out];exact HRR.out
     ·exact HA.out.1 i hi (by omega)
   |false=>
    have HRR:=Lib.hid hr;clear hr;go_wp2_with (fail);go_ret;refine⟨⟨(j:Int),rfl,?_⟩,HB1.out⟩;have:bs.all (fun b=>ja3 b size)=false:=by
     rw[List.all_eq_false];exact⟨bs[j],List.getElem_mem hlt,by rw[HXX.out,HRR.out];simp⟩
    rw[this];simp
  ·go_wp2_with (fail);go_ret;refine⟨⟨-1,rfl,?_⟩,HA.out.2⟩;have:bs.all (fun b=>ja3 b size)=true:=by
    rw[List.all_eq_true];intro b hb;obtain⟨i,hi,rfl⟩:=List.getElem_of_mem hb;exact HA.out.1 i hi (by omega)
   rw[this];rfl
theorem conBlk_any(w:World)(v:Value)(bs:List Blk)(db:Nat)(size:Int)(hv:Sl blkE w v bs)(hl:bs.length≤1073741824)(hc:w.cell? ⟨db,0,none⟩=some (.int .u32 size)):
 Calls Tryz.prog 79 #[v, .func (.func 80) #[] #[.pointer (some ⟨db,0,none⟩)]] w fun e w'=>e= .returned (.bool (!(bs.all fun b=>ja3 b size)))∧Below w.heap.size w w':=by
 have HV:=Lib.hid hv;obtain⟨A,n,c,rfl⟩:=jax hv;clear hv;go_enter Tryz.func79,Tryz.ntmps79;go_wp2_with (fail);go_at_call 139;refine(idxBlk_any w _ bs db size HV.out hl hc).mono ?_;rintro e w1 ⟨⟨n,rfl,hn⟩,hb1⟩;have HB:=Lib.hid hb1;have HN:=Lib.hid hn;clear hb1 hn;go_wp2_with (fail);go_ret;exact⟨by rw[←HN.out];rfl,HB.out⟩
def okPre(d:Dv)(j:Nat):Bool:=(decide (16≤d.size) && (decide (d.size≤65536) && decide (d.waits.length≤16384))) && ((d.blocks.take j).all (fun b=>ja3 b d.size && !b.data.toList.isEmpty) && jdj (d.blocks.take j))
theorem jkf:∀(bs:List Blk) (x:Blk),jdj (bs ++ [x])=(jdj bs && (match bs.getLast? with|none=>true|some y=>decide (y.num < x.num)))
 |[],x=>rfl
 |[a],x=>by simp[jdj]
 |a::b::r,x=>by
  have ih:=jkf (b::r) x;simp only[List.cons_append]at ih ⊢;rw[jdj,jdj,ih,Bool.and_assoc];simp
theorem okPre_step(d:Dv)(j:Nat)(hj:j < d.blocks.length):okPre d (j + 1)=(okPre d j && (ja3 d.blocks[j] d.size && (!d.blocks[j].data.toList.isEmpty && (decide (j=0)||(match d.blocks[j - 1]? with|none=>true|some y=>decide (y.num < d.blocks[j].num)))))):=by
 unfold okPre;have ht:d.blocks.take (j + 1)=d.blocks.take j ++ [d.blocks[j]]:=by rw[List.take_succ,List.getElem?_eq_getElem hj];rfl
 have hlast:(d.blocks.take j).getLast? =if j=0 then none else d.blocks[j - 1]? :=by
  by_cases h0:j=0
  ·subst h0;simp
  ·rw[if_neg h0,List.getLast?_eq_getElem?,List.length_take,Nat.min_eq_left (by omega),List.getElem?_take,if_pos (by omega)]
 rw[ht,List.all_append,jkf,hlast];simp only[List.all_cons,List.all_nil,Bool.and_true];generalize ja3 d.blocks[j] d.size=p1;by_cases h0:j=0
 ·subst h0;simp[jdj]
 ·rw[if_neg h0,decide_eq_false h0];generalize(d.blocks.take j).all (fun b=>ja3 b d.size && !b.data.toList.isEmpty)=p2;generalize jdj (d.blocks.take j)=p3;generalize(!d.blocks[j].data.toList.isEmpty)=p4;generalize(match d.blocks[j - 1]? with|none=>true|some y=>decide (y.num < d.blocks[j].num))=p5;generalize(decide (16≤d.size) && (decide (d.size≤65536) && decide (d.waits.length≤16384)))=p6;cases p1 <;>cases p2 <;>cases p3 <;>cases p4 <;>cases p5 <;>cases p6 <;>rfl
theorem okPre_all(d:Dv):devB d=(okPre d d.blocks.length && d.waits.all (fun b=>ja3 b d.size)):=by
 unfold devB okPre;rw[List.take_length];generalize d.blocks.all (fun b=>ja3 b d.size && !b.data.toList.isEmpty)=p2;generalize jdj d.blocks=p3;generalize d.waits.all (fun b=>ja3 b d.size)=p4;generalize(decide (16≤d.size) && (decide (d.size≤65536) && decide (d.waits.length≤16384)))=p6;cases p2 <;>cases p3 <;>cases p4 <;>cases p6 <;>rfl
theorem okPre_zero(d:Dv):okPre d 0=(decide (16≤d.size) && (decide (d.size≤65536) && decide (d.waits.length≤16384))):=by
 unfold okPre;simp[jdj]
def jb0(d:Dv):Int:=if devB d=true then 0 else 7
theorem jdu(w:World)(v:Value)(d:Dv)(hv:DevV w v d)(hl:d.blocks.length≤1073741824)(hl2:d.waits.length≤1073741824):
 Calls Tryz.prog 30 #[v] w fun e w'=>e= .returned (.int .i64 (jb0 d))∧Below w.heap.size w w':=by
 obtain⟨bv,wv,rfl,hbs,hws,hsz,hfu⟩:=hv;have HW:=Lib.hid hws;obtain⟨A,c,rfl,hc1,hc2,hra⟩:=hbs;obtain⟨A2,n2,c2,rfl⟩:=jax hws;have hn2:=(hws.len_eq).1;subst hn2;have HR:=Lib.hid hra;have hb:=heap_alloc_new w (.cells #[.int .u32 d.size, .slice A d.blocks.length c, .slice A2 d.waits.length c2, .bool d.down, .int .i64 d.fuse] 25);have HB:=Lib.hid (jb2 w #[.int .u32 d.size, .slice A d.blocks.length c, .slice A2 d.waits.length c2, .bool d.down, .int .i64 d.fuse] 25);have hd1:=Lib.hid (okPre_zero d);clear hra hws;go_enter Tryz.func30,Tryz.ntmps30;go_upto_region 1 with(fail);generalize w.alloc (.cells #[.int .u32 d.size, .slice A d.blocks.length c, .slice A2 d.waits.length c2, .bool d.down, .int .i64 d.fuse] 25)=wa at *;have a0:wa.cell? ⟨w.heap.size,0,none⟩=some (.int .u32 d.size):=by rw[cell_of_row _ _ _ _ _ _ hb];rfl
 have a1:wa.cell? ⟨w.heap.size,1,none⟩=some (.slice A d.blocks.length c):=by rw[cell_of_row _ _ _ _ _ _ hb];rfl
 have a2:wa.cell? ⟨w.heap.size,2,none⟩=some (.slice A2 d.waits.length c2):=by rw[cell_of_row _ _ _ _ _ _ hb];rfl
 have hla:=lt_of_block hb;clear hb;go_cut [3] (fun c wx=>c= .bool (okPre d 0)∧wx=wa)
 case first=>
  by_cases h16:16≤d.size
  ·have h16b:decide (d.size≥16)=true:=decide_eq_true h16;by_cases h65:d.size≤65536
   ·have h65b:decide (d.size≤65536)=true:=decide_eq_true h65;have HD:=Lib.hid (show okPre d 0=decide ((d.waits.length:Int)≤16384) by rw[hd1.out,decide_eq_true h16,decide_eq_true h65];simp;omega);clear h16 h65;go_wp2_with (fail);go_meet;exact⟨by rw[HD.out],rfl⟩
   ·have h65b:decide (d.size≤65536)=false:=decide_eq_false h65;have HD:=Lib.hid (show okPre d 0=false by rw[hd1.out,decide_eq_false h65];simp);clear h16 h65;go_wp2_with (fail);go_meet;exact⟨by rw[HD.out],rfl⟩
  ·have h16b:decide (d.size≥16)=false:=decide_eq_false h16;have HD:=Lib.hid (show okPre d 0=false by rw[hd1.out,decide_eq_false h16];rfl);clear h16;go_wp2_with (fail);go_meet;exact⟨by rw[HD.out],rfl⟩
 case rest=>
  obtain⟨rfl,rfl⟩:=hcut;obtain⟨ok0,hok0⟩:∃b,okPre d 0=b:=⟨_,rfl⟩
  rw[hok0];have HOK0:=Lib.hid hok0;clear hok0;go_wp2_with (fail);go_loopg [3,4,5,23] d.blocks.length (fun k vo _ _ vi wr=>∃j:Nat,j + k=d.blocks.length∧vi= .int .i64 j∧vo= .bool (okPre d j)∧Below wc.heap.size wc wr)
  case atStart=>exact⟨0,by omega,rfl,by rw[HOK0.out],Below.refl _ _⟩
  case round=>
   obtain⟨j,hj,rfl,rfl,hbl⟩:=hrel;have HBL:=Lib.hid hbl;have hww:=HB.out.trans (hbl.mono HB.out.size);have HWW:=Lib.hid hww;have b0:=(hbl.cell (p:=⟨w.heap.size,0,none⟩) hla).trans a0;have b1:=(hbl.cell (p:=⟨w.heap.size,1,none⟩) hla).trans a1;have b2:=(hbl.cell (p:=⟨w.heap.size,2,none⟩) hla).trans a2;have hlb:w.heap.size < wr.heap.size:=Nat.lt_of_lt_of_le hla hbl.size;by_cases hlt:j < d.blocks.length
   ·obtain⟨bb,oo,rfl,hat1,hwf⟩:=HR.out j hlt;have hst:=okPre_step d j hlt;have hat2:=hat1.below hww (Nat.le_refl _);have hbbr:bb < wr.heap.size:=hat2.lt (by simp[blkE]);obtain⟨d0,d1⟩:=hat2.pair;simp only[blkE]at d0 d1;have hsz:(d.blocks[j]).data.size≤9223372036854775807:=by have:=hwf.2;unfold strOk at this;omega
    have hprev:∀hp:0 < j,wr.cell? ⟨bb,oo + (j - 1) * 2,none⟩=some (.int .u32 (d.blocks[j - 1]'(by omega)).num):=by
     intro hp;obtain⟨b3,o3,e3,hat3,_⟩:=HR.out (j - 1) (by omega);simp only[Option.some.injEq,Addr.mk.injEq]at e3;obtain⟨rfl,rfl,_⟩:=e3;exact((hat3.below hww (Nat.le_refl _)).pair).1
    have HP:=Lib.hid hprev;obtain⟨X,hX⟩:∃X,d.blocks[j]=X:=⟨_,rfl⟩
    rw[hX]at hst d0 d1 hsz;obtain⟨num,data⟩:=X;simp only at hst d0 d1 hsz;have HST:=Lib.hid hst;have hjb:IntKind.i64.wrap ((j:Int) - 1)=(j:Int) - 1:=by rw[IntKind.wrap_i64];omega
    clear hat1 hat2 hwf hprev hst hX hww hbl;obtain⟨okb,hokb⟩:∃b,okPre d j=b:=⟨_,rfl⟩
    rw[hokb]at HST ⊢;clear hokb;go_upto_region 5 with(fail);have hbx:=heap_alloc_new wr (.cells #[.int .u32 num, .string data] 160);have hbb:=jb2 wr #[.int .u32 num, .string data] 160;generalize wr.alloc (.cells #[.int .u32 num, .string data] 160)=w5 at *;have e0:w5.cell? ⟨wr.heap.size,0,none⟩=some (.int .u32 num):=by rw[cell_of_row _ _ _ _ _ _ hbx];rfl
    have e1:w5.cell? ⟨wr.heap.size,1,none⟩=some (.string data):=by rw[cell_of_row _ _ _ _ _ _ hbx];rfl
    have c0:=(hbb.cell (p:=⟨w.heap.size,0,none⟩) hlb).trans b0;have c1:=(hbb.cell (p:=⟨w.heap.size,1,none⟩) hlb).trans b1;have l1:=lt_of_block hbx;have l2:w.heap.size < w5.heap.size:=Nat.lt_of_lt_of_le hlb hbb.size;have l3:bb < w5.heap.size:=Nat.lt_of_lt_of_le hbbr hbb.size;have HB5:=Lib.hid (HBL.out.trans (hbb.mono HBL.out.size));have HQ5:=Lib.hid (fun hp:0 < j=>(hbb.cell (p:=⟨bb,oo + (j - 1) * 2,none⟩) hbbr).trans (HP.out hp));clear hbx hbb b0 b1 b2 d0 d1;cases okb with
    |false=>
     have HD:=Lib.hid (show okPre d (j + 1)=false by rw[HST.out];rfl);go_quiet (fail);all_goals(
      go_wp2_with (fail);go_roundg (d.blocks.length - (j + 1))
      case measure=>omega
      case rel=>exact⟨j + 1,by omega,by go_num,by rw[HD.out],Below.drewN' HB5.out _⟩)
    |true=>
     have HD0:=Lib.hid (show okPre d (j + 1)=(ja3 ⟨num,data⟩ d.size && (!data.toList.isEmpty && (decide (j=0)||(match d.blocks[j - 1]? with|none=>true|some y=>decide (y.num < num))))) by rw[HST.out];rfl);cases hrb:ja3 ⟨num,data⟩ d.size with
     |false=>
      have HD:=Lib.hid (show okPre d (j + 1)=false by rw[HD0.out,hrb];rfl);have f0:=fun g:Grown w5=>g.fact e0
      have f1:=fun g:Grown w5=>g.fact e1
      have f2:=fun g:Grown w5=>g.fact c0
      refine jak (by kernel_rfl) (by kernel_rfl) ?_;iterate 5 (
       with_reducible refine wpQuiet_step (fun K hK=>?_)
       go_simp;generalize hZ:(Act.mk _ _:Act)=zz;refine hK _ ?_;subst hZ;clear hK K)
      with_reducible refine wpQuiet_step (fun K hK=>?_)
      go_simp;apply Exists.intro;refine⟨fun g=>?_,hK _ ?_⟩
      ·(go_at_call 78;refine(jel g.val ⟨num,data⟩ d.size hsz).mono ?_;rintro e wk ⟨rfl,hbk⟩;rw[hrb];exact⟨rfl,⟨wk,g.prop.trans (hbk.mono g.prop.size)⟩,rfl⟩)
      clear hK K;iterate 23 (
       with_reducible refine wpQuiet_step (fun K hK=>?_)
       go_simp;generalize hZ:(Act.mk _ _:Act)=zz;refine hK _ ?_;subst hZ;clear hK K)
      refine wpQuiet_nil ?_;intro _ hwq;obtain⟨wq,hwq⟩:=hwq;subst hwq;have HBK:=Lib.hid wq.prop;all_goals(
       go_wp2_with (fail);go_roundg (d.blocks.length - (j + 1))
       case measure=>omega
       case rel=>exact⟨j + 1,by omega,by go_num,by rw[HD.out],(HB5.out.trans (HBK.out.mono HB5.out.size))⟩)
     |true=>
      cases hem:data.toList.isEmpty with
      |true=>
       have HD:=Lib.hid (show okPre d (j + 1)=false by rw[HD0.out,hrb,hem];rfl);have hne:(data.toList !=[])=false:=by rw[List.isEmpty_iff]at hem;rw[hem];rfl
       have f0:=fun g:Grown w5=>g.fact e0
       have f1:=fun g:Grown w5=>g.fact e1
       have f2:=fun g:Grown w5=>g.fact c0
       refine jak (by kernel_rfl) (by kernel_rfl) ?_;iterate 5 (
        with_reducible refine wpQuiet_step (fun K hK=>?_)
        go_simp;generalize hZ:(Act.mk _ _:Act)=zz;refine hK _ ?_;subst hZ;clear hK K)
       with_reducible refine wpQuiet_step (fun K hK=>?_)
       go_simp;apply Exists.intro;refine⟨fun g=>?_,hK _ ?_⟩
       ·(go_at_call 78;refine(jel g.val ⟨num,data⟩ d.size hsz).mono ?_;rintro e wk ⟨rfl,hbk⟩;rw[hrb];exact⟨rfl,⟨wk,g.prop.trans (hbk.mono g.prop.size)⟩,rfl⟩)
       clear hK K;iterate 23 (
        with_reducible refine wpQuiet_step (fun K hK=>?_)
        go_simp;generalize hZ:(Act.mk _ _:Act)=zz;refine hK _ ?_;subst hZ;clear hK K)
       refine wpQuiet_nil ?_;intro _ hwq;obtain⟨wq,hwq⟩:=hwq;subst hwq;have HBK:=Lib.hid wq.prop;all_goals(
        go_wp2_with (fail);go_roundg (d.blocks.length - (j + 1))
        case measure=>omega
        case rel=>exact⟨j + 1,by omega,by go_num,by rw[HD.out],(HB5.out.trans (HBK.out.mono HB5.out.size))⟩)
      |false=>
       have hne:(data.toList !=[])=true:=by
        cases hdl:data.toList with
        |nil=>rw[hdl]at hem;cases hem
        |cons a r=>rfl
       by_cases hj0:j=0
       ·have hjq:((j:Int)==0)=true:=by simp[hj0]
        have HD:=Lib.hid (show okPre d (j + 1)=true by rw[HD0.out,hrb,hem,decide_eq_true hj0];rfl);have f0:=fun g:Grown w5=>g.fact e0
        have f1:=fun g:Grown w5=>g.fact e1
        have f2:=fun g:Grown w5=>g.fact c0
        refine jak (by kernel_rfl) (by kernel_rfl) ?_;iterate 5 (
         with_reducible refine wpQuiet_step (fun K hK=>?_)
         go_simp;generalize hZ:(Act.mk _ _:Act)=zz;refine hK _ ?_;subst hZ;clear hK K)
        with_reducible refine wpQuiet_step (fun K hK=>?_)
        go_simp;apply Exists.intro;refine⟨fun g=>?_,hK _ ?_⟩
        ·(go_at_call 78;refine(jel g.val ⟨num,data⟩ d.size hsz).mono ?_;rintro e wk ⟨rfl,hbk⟩;rw[hrb];exact⟨rfl,⟨wk,g.prop.trans (hbk.mono g.prop.size)⟩,rfl⟩)
        clear hK K;iterate 23 (
         with_reducible refine wpQuiet_step (fun K hK=>?_)
         go_simp;generalize hZ:(Act.mk _ _:Act)=zz;refine hK _ ?_;subst hZ;clear hK K)
        refine wpQuiet_nil ?_;intro _ hwq;obtain⟨wq,hwq⟩:=hwq;subst hwq;have HBK:=Lib.hid wq.prop;all_goals(
         go_wp2_with (fail);go_roundg (d.blocks.length - (j + 1))
         case measure=>omega
         case rel=>exact⟨j + 1,by omega,by go_num,by rw[HD.out],(HB5.out.trans (HBK.out.mono HB5.out.size))⟩)
       ·have hjq:((j:Int)==0)=false:=by simp[hj0]
        have hjp:0 < j:=by omega
        have hpv:=HQ5.out hjp;have HD1:=Lib.hid (show okPre d (j + 1)=decide ((d.blocks[j - 1]'(by omega)).num < num) by rw[HD0.out,hrb,hem,decide_eq_false hj0,List.getElem?_eq_getElem (by omega)];rfl);obtain⟨pn,hpn⟩:∃pn,(d.blocks[j - 1]'(by omega)).num=pn:=⟨_,rfl⟩
        rw[hpn]at hpv;have HD:=Lib.hid (show okPre d (j + 1)=decide (pn < num) by rw[HD1.out,hpn]);have hjn:(0:Int)≤(j:Int) - 1:=by omega
        have hj1:(1:Int)≤(j:Int):=by omega
        have hjk:(j:Int)≤(d.blocks.length:Int):=by omega
        have hj1n:1≤j:=by omega
        have hjq2:j - 1 < d.blocks.length:=by omega
        have hjt:((j:Int) - 1).toNat=j - 1:=by omega
        have hjl:(j:Int) - 1 < (d.blocks.length:Int):=by omega
        clear hpn;have f0:=fun g:Grown w5=>g.fact e0
        have f1:=fun g:Grown w5=>g.fact e1
        have f2:=fun g:Grown w5=>g.fact c0
        have f3:=fun g:Grown w5=>g.fact c1
        have f4:=fun g:Grown w5=>g.fact hpv
        refine jak (by kernel_rfl) (by kernel_rfl) ?_;iterate 5 (
         with_reducible refine wpQuiet_step (fun K hK=>?_)
         go_simp;generalize hZ:(Act.mk _ _:Act)=zz;refine hK _ ?_;subst hZ;clear hK K)
        with_reducible refine wpQuiet_step (fun K hK=>?_)
        go_simp;apply Exists.intro;refine⟨fun g=>?_,hK _ ?_⟩
        ·(go_at_call 78;refine(jel g.val ⟨num,data⟩ d.size hsz).mono ?_;rintro e wk ⟨rfl,hbk⟩;rw[hrb];exact⟨rfl,⟨wk,g.prop.trans (hbk.mono g.prop.size)⟩,rfl⟩)
        clear hK K;iterate 23 (
         with_reducible refine wpQuiet_step (fun K hK=>?_)
         go_simp;generalize hZ:(Act.mk _ _:Act)=zz;refine hK _ ?_;subst hZ;clear hK K)
        refine wpQuiet_nil ?_;intro _ hwq;obtain⟨wq,hwq⟩:=hwq;subst hwq;have HBK:=Lib.hid wq.prop;all_goals(
         go_wp2_with (fail);go_roundg (d.blocks.length - (j + 1))
         case measure=>omega
         case rel=>exact⟨j + 1,by omega,by go_num,by rw[HD.out],(HB5.out.trans (HBK.out.mono HB5.out.size))⟩)
   ·obtain rfl:j=d.blocks.length:=by omega
    cases hok:okPre d d.blocks.length with
    |false=>
     have HD:=Lib.hid (show jb0 d=7 by unfold jb0;rw[okPre_all,hok];rfl);clear hok;go_wp2_with (fail);go_ret;exact⟨by rw[HD.out];rfl,HWW.out⟩
    |true=>
     have HD:=Lib.hid (show devB d=d.waits.all (fun b=>ja3 b d.size) by rw[okPre_all,hok];rfl);clear hok;go_wp2_with (fail);go_at_call 79;refine(conBlk_any wr _ d.waits w.heap.size d.size (HW.out.below HWW.out (Nat.le_refl _)) hl2 b0).mono ?_;rintro e w9 ⟨rfl,hb9⟩;have HB9:=Lib.hid (HWW.out.trans (hb9.mono HWW.out.size));clear hb9;cases hwl:d.waits.all (fun b=>ja3 b d.size)with
     |true=>
      have HD2:=Lib.hid (show jb0 d=0 by unfold jb0;rw[HD.out,hwl];rfl);clear hwl;go_wp2_with (fail);go_ret;exact⟨by rw[HD2.out];rfl,HB9.out⟩
     |false=>
      have HD2:=Lib.hid (show jb0 d=7 by unfold jb0;rw[HD.out,hwl];rfl);clear hwl;go_wp2_with (fail);go_ret;exact⟨by rw[HD2.out];rfl,HB9.out⟩
theorem jef(w:World)(v:Value)(d:Dv)(num:Int)(hv:DevV w v d)(hl:d.blocks.length≤1073741824)(hl2:d.waits.length≤1073741824):
 Calls Tryz.prog 18 #[v, .int .u32 num] w fun e w'=>e= .returned (.tuple #[.string (readD d num).1, .int .i64 (readD d num).2])∧Below w.heap.size w w':=by
 have HV:=Lib.hid hv;obtain⟨bv,wv,rfl,hbs,hws,hsz,hfu⟩:=hv;obtain⟨A,n,c,rfl⟩:=jax hbs;obtain⟨A2,n2,c2,rfl⟩:=jax hws;have HS:=Lib.hid (And.intro hbs hws);clear hbs hws;have hbb:=jb2 w #[.int .u32 d.size, .slice A n c, .slice A2 n2 c2, .bool d.down, .int .i64 d.fuse] 25;have hb1:=heap_alloc_new w (.cells #[.int .u32 d.size, .slice A n c, .slice A2 n2 c2, .bool d.down, .int .i64 d.fuse] 25);go_enter Tryz.func18,Tryz.ntmps18;go_upto_region 1 with(fail);generalize w.alloc (.cells #[.int .u32 d.size, .slice A n c, .slice A2 n2 c2, .bool d.down, .int .i64 d.fuse] 25)=wa at *;have a0:wa.cell? ⟨w.heap.size,0,none⟩=some (.int .u32 d.size):=by rw[cell_of_row _ _ _ _ _ _ hb1];rfl
 have a1:wa.cell? ⟨w.heap.size,1,none⟩=some (.slice A n c):=by rw[cell_of_row _ _ _ _ _ _ hb1];rfl
 have a2:wa.cell? ⟨w.heap.size,2,none⟩=some (.slice A2 n2 c2):=by rw[cell_of_row _ _ _ _ _ _ hb1];rfl
 have a3:wa.cell? ⟨w.heap.size,3,none⟩=some (.bool d.down):=by rw[cell_of_row _ _ _ _ _ _ hb1];rfl
 have a4:wa.cell? ⟨w.heap.size,4,none⟩=some (.int .i64 d.fuse):=by rw[cell_of_row _ _ _ _ _ _ hb1];rfl
 have l1:=lt_of_block hb1;have H0:=Lib.hid (And.intro hbb hb1);clear hbb hb1;go_wp2_with (fail);go_at_call 30;refine(jdu wa _ d (HV.out.below H0.out.1 (Nat.le_refl _)) hl hl2).mono ?_;rintro e w1 ⟨rfl,hbk1⟩;have hr1:=(hbk1.block _ l1).trans H0.out.2;have hb1:=H0.out.1.trans (hbk1.mono H0.out.1.size);clear a0 a1 a2 a3 a4 hbk1 H0;have a0:w1.cell? ⟨w.heap.size,0,none⟩=some (.int .u32 d.size):=by rw[cell_of_row _ _ _ _ _ _ hr1];rfl
 have a1:w1.cell? ⟨w.heap.size,1,none⟩=some (.slice A n c):=by rw[cell_of_row _ _ _ _ _ _ hr1];rfl
 have a2:w1.cell? ⟨w.heap.size,2,none⟩=some (.slice A2 n2 c2):=by rw[cell_of_row _ _ _ _ _ _ hr1];rfl
 have a3:w1.cell? ⟨w.heap.size,3,none⟩=some (.bool d.down):=by rw[cell_of_row _ _ _ _ _ _ hr1];rfl
 have a4:w1.cell? ⟨w.heap.size,4,none⟩=some (.int .i64 d.fuse):=by rw[cell_of_row _ _ _ _ _ _ hr1];rfl
 have HB:=Lib.hid hb1;clear hr1 hb1;cases hdv:devB d with
 |false=>
  have HE:=Lib.hid (show readD d num=(ByteArray.empty,7) by unfold readD;rw[if_pos hdv]);have he:jb0 d=7:=by unfold jb0;rw[hdv];rfl
  rw[he];clear hdv he;go_wp2_with (fail);go_ret2;exact⟨by rw[HE.out];rfl,HB.out⟩
 |true=>
  have HDV:=Lib.hid hdv;have he:jb0 d=0:=by unfold jb0;rw[hdv];rfl
  rw[he];clear hdv he;cases hdn:d.down with
  |true=>
   have HE:=Lib.hid (show readD d num=(ByteArray.empty,17) by unfold readD;rw[HDV.out,hdn];rfl);rw[hdn]at a3;go_wp2_with (fail);go_ret2;exact⟨by rw[HE.out];rfl,HB.out⟩
  |false=>
   rw[hdn]at a3;by_cases hn:d.size≤num
   ·have HE:=Lib.hid (show readD d num=(ByteArray.empty,1) by unfold readD;rw[HDV.out,hdn,if_neg (by simp),if_neg (by simp),if_pos hn]);have q1:decide (num≥d.size)=true:=decide_eq_true hn;have q2:decide (d.size≤num)=true:=decide_eq_true hn;go_wp2_with (fail);go_ret2;exact⟨by rw[HE.out];rfl,HB.out⟩
   ·have HE:=Lib.hid (show readD d num=(readB d num,0) by unfold readD;rw[HDV.out,hdn,if_neg (by simp),if_neg (by simp),if_neg hn]);have q1:decide (num≥d.size)=false:=decide_eq_false hn;have q2:decide (d.size≤num)=false:=decide_eq_false hn;go_wp2_with (first
     |((with_reducible refine jar 114 ?_);refine jah rfl 114 _ rfl [(0, .agg #[.int .u32 d.size, .slice A n c, .slice A2 n2 c2, .bool false, .int .i64 d.fuse])] rfl _ (jmc _ _ _ _ _) ?_))
    have hrw:=heap_alloc_new w1 (.cells #[.int .u32 d.size, .slice A n c, .slice A2 n2 c2, .bool false, .int .i64 d.fuse, .int .u64 0] 114);go_at_call 57;refine(jmb w _ w1.heap.size num 0 d (.slice A n c) (.slice A2 n2 c2) (HB.out.alloc HB.out.size _) HB.out.size (by rw[hdn];exact hrw) HS.out.1 HS.out.2 ((jcq d).1 HDV.out).ris hl hl2).mono ?_;rintro e w2 ⟨rfl,hb2⟩;go_wp2_with (fail);go_ret2;exact⟨by rw[HE.out];rfl,hb2⟩
#print axioms jef
end Go.Proofs.YtpaohkkhejpgjaaGreatDoor
