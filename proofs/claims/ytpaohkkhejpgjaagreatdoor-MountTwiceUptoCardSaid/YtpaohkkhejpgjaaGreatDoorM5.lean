/- Texts of the proof: Eq N2 N4 N5 N7. -/
import Derived.Test.YtpaohkkhejpgjaaGreatDoorM3
import Derived.DeepKeys
set_option linter.all false
set_option maxRecDepth 100000
set_option maxHeartbeats 8000000
namespace Go.Proofs.YtpaohkkhejpgjaaGreatDoor
open Go Go.RowKit
theorem jje:(Tryz.prog.info? 34).map (·.size)=some 32:=by kernel_rfl
theorem jfh{h:List Int}(hh:jd7 h):(Tryz.prog.info? 34).map (·.size)=some (hashV h).length:=by
 have:(hashV h).length=32:=by simp[hashV,hh.1]
 rw[this];exact jje
theorem hashV_get{a:List Int}{j:Nat}(h:j < a.length):(hashV a).toArray[j]? =some (.int .u8 (a.getD j 0)):=by
 simp[hashV,List.getD_eq_getElem?_getD,h]
theorem jjf(d:Nat)(a b:List Int)(w:World):∀(js:List Nat),(∀j∈js,j < a.length∧j < b.length)→
 (Op.eqItems (d + 1) 5 1 (hashV a).toArray (hashV b).toArray js).run Tryz.prog w= .ok (js.all fun j=>a.getD j 0==b.getD j 0) w
 |[],_=>by simp[Op.eqItems]
 |j::js,h=>by
  obtain⟨h1,h2⟩:=h j (by simp);have hp:Tryz.prog.plainKey 5=true:=by kernel_rfl
  have e1:=run_part_plain w hp (off:=j * 1) (by rw[Nat.mul_one];exact hashV_get h1);have e2:=run_part_plain w hp (off:=j * 1) (by rw[Nat.mul_one];exact hashV_get h2);have e3:=run_equalIn_int (w:=w) d 5 .u8 .u8 (a.getD j 0) (b.getD j 0) Tryz.underlying5;simp only[Op.eqItems,Sem.run_bind,e1,e2,e3,Result.andThen_ok,List.all_cons];cases hq:(a.getD j 0==b.getD j 0)with
  |false=>simp
  |true=>simpa using jjf d a b w js (fun k hk=>h k (by simp[hk]))
theorem cells_u8:Tryz.prog.cellsOf 5=1:=by kernel_rfl
theorem u8_infos:(Tryz.prog.info? 5).isSome=true:=by kernel_rfl
theorem eqHash(a b:List Int)(w:World)(ha:a.length=32)(hb:b.length=32):
 (Op.equalIn 10000 34 (.agg (hashV a).toArray) (.agg (hashV b).toArray)).run Tryz.prog w= .ok (a==b) w:=by
 obtain⟨i,hi⟩:=Option.isSome_iff_exists.1 u8_infos;have key:((List.range 32).all fun j=>a.getD j 0==b.getD j 0)=(a==b):=by
  rw[Bool.eq_iff_iff,List.all_eq_true,beq_iff_eq];constructor
  ·intro h;apply List.ext_getElem (by omega);intro k h1 h2;have:=h k (by rw[List.mem_range];omega);simpa[List.getD_eq_getElem?_getD,h1,h2]using this
  ·rintro rfl k _;simp
 rw[←key,←jjf 9998 a b w (List.range 32) (fun j hj=>by rw[List.mem_range]at hj;omega)];have h:=run_equalIn_array (P:=Tryz.prog) w 9999 (hashV a).toArray (hashV b).toArray Tryz.underlying34 hi;rw[cells_u8]at h;exact h
theorem jau{P:Program}{ops:Array Oper}{rest:List Oper}{o:Oper}{a:Act}{w:World}{Q:Exit→Act→World→Prop}(hgd:Region.wanted o (yielded ops a.tmps)=true)(ty:TypeId)(x:Operand)(ho:o.op= .load ty x)
 (b i:Nat) (hx:a.eval x= .pointer (some ⟨b,i,none⟩)) (vs:List Value) (d:TypeDesc) (hat:At w b i vs)
 (hu:P.underlying ty=some d) (hd:(match d with| .struct _| .array _ _=>true|_=>false)=true) (hi:(P.info? ty).map (·.size)=some vs.length)
 (h:wpList P ops Q rest (a.put o.dst (.agg vs.toArray)) w):wpList P ops Q (o::rest) a w:=
 wpList_step fun K hK=>by
  rw[if_pos hgd];unfold Oper.wp execOp;simp only[ho,hx,Instr.loadAt,Instr.sureAddr,Sem.run_bind,Sem.run_pure,Result.andThen_ok,jas w b i ty vs d hat hu hd hi];exact hK _ _ h
theorem volumes_any(w:World)(v:Value)(xs:List Vol)(hv:Sl volE w v xs):
 Calls Tryz.prog 205 #[v] w fun e w'=>e= .returned (.bool (jei xs))∧Below w.heap.size w w':=by
 obtain⟨A,c,rfl,hc,hc2,hrow⟩:=hv;have HR:=Lib.hid hrow;clear hrow;go_enter Tryz.func205,Tryz.ntmps205;go_wp2;go_loopw [3,5,6,9,11,12,13,14,15,16,17,18,19,20,21,22,23,24,25,26,27,28,29,30,31,32,33,34,35,36,37,38,39,40,41,42,43,44,45,46,47,48,49,50,51,52,53,54] (fun vb _ _ i _ _ _ _ _ _ _ _ _ _ _ _ _ _ _ _ _ _ _ _ _ _ _ _ _ _ _ _ _ _ _ _ _ _ _ _ _ _ _ _ _ _ _ _ wr=>∃(k:Nat) (b:ByteArray),k≤xs.length∧i= .int .i64 k∧vb= .string b∧jj7 ByteArray.empty xs=jj7 b (xs.drop k)∧Below w.heap.size w wr) (fun _ _ _ i _ _ _ _ _ _ _ _ _ _ _ _ _ _ _ _ _ _ _ _ _ _ _ _ _ _ _ _ _ _ _ _ _ _ _ _ _ _ _ _ _ _ _ _ _=>xs.length - (intOf i).toNat)
 case atStart=>exact⟨0,_,Nat.zero_le _,rfl,rfl,rfl,Below.refl _ _⟩
 case round=>
  obtain⟨k,bf,hk,rfl,rfl,hgo,hB⟩:=hrel;by_cases hlt:k < xs.length
  ·obtain⟨b,o,rfl,hat,hwf⟩:=HR.out k hlt;have hb:b < w.heap.size:=hat.lt (by simp[volE]);have hatr:=hat.below hB (Nat.le_refl _);have hbr:b < wr.heap.size:=Nat.lt_of_lt_of_le hb hB.size;rw[List.drop_eq_getElem_cons hlt,jj7,volRight,ledB]at hgo;have HG:=Lib.hid (And.intro hgo hB);clear hgo hB hat;generalize xs[k]=kk at *;have HK:=jjm kk hwf;have hl:=volE.len kk hwf;have h1:=volE.one kk hwf;have hh32:=jfh hwf.2.2.2.2.2;have hl32:=hwf.2.2.2.2.2.1;have n0:(wr.alloc (.cells (volE.enc kk).toArray 155)).cell? ⟨wr.heap.size,0,none⟩=some (.string kk.name):=jay 0 _ rfl;have n1:(wr.alloc (.cells (volE.enc kk).toArray 155)).cell? ⟨wr.heap.size,1,none⟩=some (.int .u8 kk.kind):=jay 1 _ rfl;have n2:(wr.alloc (.cells (volE.enc kk).toArray 155)).cell? ⟨wr.heap.size,2,none⟩=some (.string kk.src):=jay 2 _ rfl;have n4:(wr.alloc (.cells (volE.enc kk).toArray 155)).cell? ⟨wr.heap.size,4,none⟩=some (.int .u32 kk.root):=jay 4 _ rfl;have nh:At (wr.alloc (.cells (volE.enc kk).toArray 155)) wr.heap.size 5 (hashV kk.hash):=fun i hi=>jay (5 + i) _ (by
    show([Value.string kk.name, .int .u8 kk.kind, .string kk.src, .int .u64 kk.born, .int .u32 kk.root] ++ hashV kk.hash)[5 + i]? =some _
    rw[List.getElem?_append_right (by simp)];simp[hi])
   have HL:=Lib.hid hl;have HW:=Lib.hid hwf;clear hl hwf;generalize volE.enc kk=vs at *;generalize kk.name=key at *;generalize kk.kind=kind at *;generalize kk.src=src at *;generalize kk.root=root at *;generalize kk.hash=hh at *;cases hbk:jd1 root with
   |true=>
    cases hnm:jfk bf key 16 with
    |false=>
     go_wp2_with (first|((with_reducible refine jao ?_);refine jai rfl 155 (.tmp 11) rfl b (o + k * 37) rfl vs _ hatr Tryz.underlying155 rfl HK ?_)|((with_reducible refine jab ?_);refine jaa rfl 155 (.tmp 5) (.tmp 12) rfl 155 _ rfl vs rfl (by rw[HL.out];rfl) h1 HK ?_)|(go_at_call 246;refine(jcv _ _ _ 16).mono ?_;rintro e _ ⟨rfl,rfl⟩;rw[hnm])|(go_at_call 107;refine(ja7 _ _).mono ?_;rintro e _ ⟨rfl,rfl⟩;rw[hbk])|((with_reducible refine jao ?_);refine jau rfl 34 (.tmp 21) rfl wr.heap.size 5 rfl (hashV hh) _ nh Tryz.underlying34 rfl hh32 ?_));go_ret;exact⟨by rw[jei,HG.out.1,hnm];simp,HG.out.2.alloc HG.out.2.size _⟩
    |true=>
     by_cases hs:src.size≤16
     ·have hs1:decide (16 < src.size)=false:=decide_eq_false (by omega);have hs2:decide (16 < (src.size:Int))=false:=decide_eq_false (by omega);by_cases hk0:0 < kind
      ·have hk1:decide (kind≤0)=false:=decide_eq_false (by omega);by_cases hk3:kind < 3
       ·have hk4:decide (3≤kind)=false:=decide_eq_false (by omega);go_wp2_with (first|((with_reducible refine jao ?_);refine jai rfl 155 (.tmp 11) rfl b (o + k * 37) rfl vs _ hatr Tryz.underlying155 rfl HK ?_)|((with_reducible refine jab ?_);refine jaa rfl 155 (.tmp 5) (.tmp 12) rfl 155 _ rfl vs rfl (by rw[HL.out];rfl) h1 HK ?_)|(go_at_call 246;refine(jcv _ _ _ 16).mono ?_;rintro e _ ⟨rfl,rfl⟩;rw[hnm])|(go_at_call 107;refine(ja7 _ _).mono ?_;rintro e _ ⟨rfl,rfl⟩;rw[hbk])|((with_reducible refine jao ?_);refine jau rfl 34 (.tmp 21) rfl wr.heap.size 5 rfl (hashV hh) _ nh Tryz.underlying34 rfl hh32 ?_));go_roundw
        case rel=>
         refine⟨k + 1,key,by omega,by go_num,rfl,?_,HG.out.2.alloc HG.out.2.size _⟩;rw[HG.out.1,hnm];simp[hbk,hs,hk0,hk3]
        case measure=>simp[intOf];omega
       ·have hk4:decide (3≤kind)=true:=decide_eq_true (by omega);have hk5:=Lib.hid (show decide (kind < 3)=false from decide_eq_false hk3);go_wp2_with (first|((with_reducible refine jao ?_);refine jai rfl 155 (.tmp 11) rfl b (o + k * 37) rfl vs _ hatr Tryz.underlying155 rfl HK ?_)|((with_reducible refine jab ?_);refine jaa rfl 155 (.tmp 5) (.tmp 12) rfl 155 _ rfl vs rfl (by rw[HL.out];rfl) h1 HK ?_)|(go_at_call 246;refine(jcv _ _ _ 16).mono ?_;rintro e _ ⟨rfl,rfl⟩;rw[hnm])|(go_at_call 107;refine(ja7 _ _).mono ?_;rintro e _ ⟨rfl,rfl⟩;rw[hbk])|((with_reducible refine jao ?_);refine jau rfl 34 (.tmp 21) rfl wr.heap.size 5 rfl (hashV hh) _ nh Tryz.underlying34 rfl hh32 ?_));go_ret;exact⟨by rw[jei,HG.out.1,hk5.out];simp,HG.out.2.alloc HG.out.2.size _⟩
      ·have hk1:decide (kind≤0)=true:=decide_eq_true (by omega);have hk5:=Lib.hid (show decide (0 < kind)=false from decide_eq_false hk0);go_wp2_with (first|((with_reducible refine jao ?_);refine jai rfl 155 (.tmp 11) rfl b (o + k * 37) rfl vs _ hatr Tryz.underlying155 rfl HK ?_)|((with_reducible refine jab ?_);refine jaa rfl 155 (.tmp 5) (.tmp 12) rfl 155 _ rfl vs rfl (by rw[HL.out];rfl) h1 HK ?_)|(go_at_call 246;refine(jcv _ _ _ 16).mono ?_;rintro e _ ⟨rfl,rfl⟩;rw[hnm])|(go_at_call 107;refine(ja7 _ _).mono ?_;rintro e _ ⟨rfl,rfl⟩;rw[hbk])|((with_reducible refine jao ?_);refine jau rfl 34 (.tmp 21) rfl wr.heap.size 5 rfl (hashV hh) _ nh Tryz.underlying34 rfl hh32 ?_));go_ret;exact⟨by rw[jei,HG.out.1,hk5.out];simp,HG.out.2.alloc HG.out.2.size _⟩
     ·have hs1:decide (16 < src.size)=true:=decide_eq_true (by omega);have hs2:decide (16 < (src.size:Int))=true:=decide_eq_true (by omega);have hk5:=Lib.hid (show decide (src.size≤16)=false from decide_eq_false hs);go_wp2_with (first|((with_reducible refine jao ?_);refine jai rfl 155 (.tmp 11) rfl b (o + k * 37) rfl vs _ hatr Tryz.underlying155 rfl HK ?_)|((with_reducible refine jab ?_);refine jaa rfl 155 (.tmp 5) (.tmp 12) rfl 155 _ rfl vs rfl (by rw[HL.out];rfl) h1 HK ?_)|(go_at_call 246;refine(jcv _ _ _ 16).mono ?_;rintro e _ ⟨rfl,rfl⟩;rw[hnm])|(go_at_call 107;refine(ja7 _ _).mono ?_;rintro e _ ⟨rfl,rfl⟩;rw[hbk])|((with_reducible refine jao ?_);refine jau rfl 34 (.tmp 21) rfl wr.heap.size 5 rfl (hashV hh) _ nh Tryz.underlying34 rfl hh32 ?_));go_ret;exact⟨by rw[jei,HG.out.1,hk5.out];simp,HG.out.2.alloc HG.out.2.size _⟩
   |false=>
    by_cases hr0:root=0
    ·subst hr0;have hq:=eqHash hh jbm (wr.alloc (.cells vs.toArray 155)) hl32 (by decide);have hzv:(hashV jbm).toArray= #[.int .u8 0, .int .u8 0, .int .u8 0, .int .u8 0, .int .u8 0, .int .u8 0, .int .u8 0, .int .u8 0, .int .u8 0, .int .u8 0, .int .u8 0, .int .u8 0, .int .u8 0, .int .u8 0, .int .u8 0, .int .u8 0, .int .u8 0, .int .u8 0, .int .u8 0, .int .u8 0, .int .u8 0, .int .u8 0, .int .u8 0, .int .u8 0, .int .u8 0, .int .u8 0, .int .u8 0, .int .u8 0, .int .u8 0, .int .u8 0, .int .u8 0, .int .u8 0]:=rfl;rw[hzv]at hq;cases hz:(hh==jbm)with
     |false=>
      rw[hz]at hq;go_wp2_with (first|((with_reducible refine jao ?_);refine jai rfl 155 (.tmp 11) rfl b (o + k * 37) rfl vs _ hatr Tryz.underlying155 rfl HK ?_)|((with_reducible refine jab ?_);refine jaa rfl 155 (.tmp 5) (.tmp 12) rfl 155 _ rfl vs rfl (by rw[HL.out];rfl) h1 HK ?_)|(go_at_call 107;refine(ja7 _ _).mono ?_;rintro e _ ⟨rfl,rfl⟩;rw[hbk])|((with_reducible refine jao ?_);refine jau rfl 34 (.tmp 21) rfl wr.heap.size 5 rfl (hashV hh) _ nh Tryz.underlying34 rfl hh32 ?_));go_ret;exact⟨by rw[jei,HG.out.1,hbk,hz];simp,HG.out.2.alloc HG.out.2.size _⟩
     |true=>
      rw[hz]at hq;cases hnm:jfk bf key 16 with
      |false=>
       go_wp2_with (first|((with_reducible refine jao ?_);refine jai rfl 155 (.tmp 11) rfl b (o + k * 37) rfl vs _ hatr Tryz.underlying155 rfl HK ?_)|((with_reducible refine jab ?_);refine jaa rfl 155 (.tmp 5) (.tmp 12) rfl 155 _ rfl vs rfl (by rw[HL.out];rfl) h1 HK ?_)|(go_at_call 246;refine(jcv _ _ _ 16).mono ?_;rintro e _ ⟨rfl,rfl⟩;rw[hnm])|(go_at_call 107;refine(ja7 _ _).mono ?_;rintro e _ ⟨rfl,rfl⟩;rw[hbk])|((with_reducible refine jao ?_);refine jau rfl 34 (.tmp 21) rfl wr.heap.size 5 rfl (hashV hh) _ nh Tryz.underlying34 rfl hh32 ?_));go_ret;exact⟨by rw[jei,HG.out.1,hnm];simp,HG.out.2.alloc HG.out.2.size _⟩
      |true=>
       by_cases hs:src.size≤16
       ·have hs1:decide (16 < src.size)=false:=decide_eq_false (by omega);have hs2:decide (16 < (src.size:Int))=false:=decide_eq_false (by omega);by_cases hk0:0 < kind
        ·have hk1:decide (kind≤0)=false:=decide_eq_false (by omega);by_cases hk3:kind < 3
         ·have hk4:decide (3≤kind)=false:=decide_eq_false (by omega);go_wp2_with (first|((with_reducible refine jao ?_);refine jai rfl 155 (.tmp 11) rfl b (o + k * 37) rfl vs _ hatr Tryz.underlying155 rfl HK ?_)|((with_reducible refine jab ?_);refine jaa rfl 155 (.tmp 5) (.tmp 12) rfl 155 _ rfl vs rfl (by rw[HL.out];rfl) h1 HK ?_)|(go_at_call 246;refine(jcv _ _ _ 16).mono ?_;rintro e _ ⟨rfl,rfl⟩;rw[hnm])|(go_at_call 107;refine(ja7 _ _).mono ?_;rintro e _ ⟨rfl,rfl⟩;rw[hbk])|((with_reducible refine jao ?_);refine jau rfl 34 (.tmp 21) rfl wr.heap.size 5 rfl (hashV hh) _ nh Tryz.underlying34 rfl hh32 ?_));go_roundw
          case rel=>
           refine⟨k + 1,key,by omega,by go_num,rfl,?_,HG.out.2.alloc HG.out.2.size _⟩;rw[HG.out.1,hnm];simp[hz,hs,hk0,hk3]
          case measure=>simp[intOf];omega
         ·have hk4:decide (3≤kind)=true:=decide_eq_true (by omega);have hk5:=Lib.hid (show decide (kind < 3)=false from decide_eq_false hk3);go_wp2_with (first|((with_reducible refine jao ?_);refine jai rfl 155 (.tmp 11) rfl b (o + k * 37) rfl vs _ hatr Tryz.underlying155 rfl HK ?_)|((with_reducible refine jab ?_);refine jaa rfl 155 (.tmp 5) (.tmp 12) rfl 155 _ rfl vs rfl (by rw[HL.out];rfl) h1 HK ?_)|(go_at_call 246;refine(jcv _ _ _ 16).mono ?_;rintro e _ ⟨rfl,rfl⟩;rw[hnm])|(go_at_call 107;refine(ja7 _ _).mono ?_;rintro e _ ⟨rfl,rfl⟩;rw[hbk])|((with_reducible refine jao ?_);refine jau rfl 34 (.tmp 21) rfl wr.heap.size 5 rfl (hashV hh) _ nh Tryz.underlying34 rfl hh32 ?_));go_ret;exact⟨by rw[jei,HG.out.1,hk5.out];simp,HG.out.2.alloc HG.out.2.size _⟩
        ·have hk1:decide (kind≤0)=true:=decide_eq_true (by omega);have hk5:=Lib.hid (show decide (0 < kind)=false from decide_eq_false hk0);go_wp2_with (first|((with_reducible refine jao ?_);refine jai rfl 155 (.tmp 11) rfl b (o + k * 37) rfl vs _ hatr Tryz.underlying155 rfl HK ?_)|((with_reducible refine jab ?_);refine jaa rfl 155 (.tmp 5) (.tmp 12) rfl 155 _ rfl vs rfl (by rw[HL.out];rfl) h1 HK ?_)|(go_at_call 246;refine(jcv _ _ _ 16).mono ?_;rintro e _ ⟨rfl,rfl⟩;rw[hnm])|(go_at_call 107;refine(ja7 _ _).mono ?_;rintro e _ ⟨rfl,rfl⟩;rw[hbk])|((with_reducible refine jao ?_);refine jau rfl 34 (.tmp 21) rfl wr.heap.size 5 rfl (hashV hh) _ nh Tryz.underlying34 rfl hh32 ?_));go_ret;exact⟨by rw[jei,HG.out.1,hk5.out];simp,HG.out.2.alloc HG.out.2.size _⟩
       ·have hs1:decide (16 < src.size)=true:=decide_eq_true (by omega);have hs2:decide (16 < (src.size:Int))=true:=decide_eq_true (by omega);have hk5:=Lib.hid (show decide (src.size≤16)=false from decide_eq_false hs);go_wp2_with (first|((with_reducible refine jao ?_);refine jai rfl 155 (.tmp 11) rfl b (o + k * 37) rfl vs _ hatr Tryz.underlying155 rfl HK ?_)|((with_reducible refine jab ?_);refine jaa rfl 155 (.tmp 5) (.tmp 12) rfl 155 _ rfl vs rfl (by rw[HL.out];rfl) h1 HK ?_)|(go_at_call 246;refine(jcv _ _ _ 16).mono ?_;rintro e _ ⟨rfl,rfl⟩;rw[hnm])|(go_at_call 107;refine(ja7 _ _).mono ?_;rintro e _ ⟨rfl,rfl⟩;rw[hbk])|((with_reducible refine jao ?_);refine jau rfl 34 (.tmp 21) rfl wr.heap.size 5 rfl (hashV hh) _ nh Tryz.underlying34 rfl hh32 ?_));go_ret;exact⟨by rw[jei,HG.out.1,hk5.out];simp,HG.out.2.alloc HG.out.2.size _⟩
    ·have hr1:(root==0)=false:=by simpa using hr0
     go_wp2_with (first|((with_reducible refine jao ?_);refine jai rfl 155 (.tmp 11) rfl b (o + k * 37) rfl vs _ hatr Tryz.underlying155 rfl HK ?_)|((with_reducible refine jab ?_);refine jaa rfl 155 (.tmp 5) (.tmp 12) rfl 155 _ rfl vs rfl (by rw[HL.out];rfl) h1 HK ?_)|(go_at_call 107;refine(ja7 _ _).mono ?_;rintro e _ ⟨rfl,rfl⟩;rw[hbk])|((with_reducible refine jao ?_);refine jau rfl 34 (.tmp 21) rfl wr.heap.size 5 rfl (hashV hh) _ nh Tryz.underlying34 rfl hh32 ?_));go_ret;exact⟨by rw[jei,HG.out.1,hbk,hr1];simp,HG.out.2.alloc HG.out.2.size _⟩
  ·rw[List.drop_of_length_le (by omega),jj7]at hgo;have hf:jei xs=decide (xs.length≤6):=by rw[jei,hgo];rfl
   have HG:=Lib.hid (And.intro hf hB);clear hf hgo hB;go_wp2;go_ret;refine⟨by rw[HG.out.1];simp;omega,HG.out.2⟩
def NodeV(w:World)(v:Value)(n:Node):Prop:=
 ∃a b c,v= .agg #[.int .u8 n.kind,a,b,c]∧Sl itemE w a n.items∧Sl kidE w b n.kids∧Sl volE w c n.vols∧0≤n.kind∧n.kind≤255
theorem NodeV.below{B:Nat}{w w':World}{v:Value}{n:Node}(h:NodeV w v n)(hb:Below B w w')(hB:w.heap.size≤B):NodeV w' v n:=by
 obtain⟨a,b,c,h0,h1,h2,h3,h4⟩:=h;exact⟨a,b,c,h0,h1.below hb hB,h2.below hb hB,h3.below hb hB,h4⟩
def sumBy{α:Type}(f:α→Nat)(xs:List α):Nat:=(xs.map f).sum
theorem jjo{α:Type}(f:α→Nat)(xs:List α)(k:Nat)(h:k < xs.length):sumBy f (xs.take (k + 1))=sumBy f (xs.take k) + f xs[k]:=by
 unfold sumBy;rw[List.take_succ_eq_append_getElem h,List.map_append,List.sum_append];simp
theorem sumBy_le{α:Type}(f:α→Nat)(xs:List α)(k:Nat):sumBy f (xs.take k)≤sumBy f xs:=by
 conv=>rhs;rw[←List.take_append_drop k xs]
 unfold sumBy;rw[List.map_append,List.sum_append];omega
def jej(x:Item):Nat:=2 + x.key.size + x.val.size
def kidSz(x:Kid):Nat:=37 + x.key.size
def volSz(x:Vol):Nat:=47 + x.name.size + x.src.size
def sizeF(n:Node):Nat:=
 if n.kind=1 then 2 + sumBy jej n.items else if n.kind=2 then 2 + sumBy kidSz n.kids else if n.kind=3 then 2 + sumBy volSz n.vols else 2
theorem item_len(k:Item)(h:itemE.wf k):(Tryz.prog.info? 165).map (·.size)=some (itemE.enc k).length:=by
 rw[itemE.len k h];kernel_rfl
theorem size_any(w:World)(v:Value)(n:Node)(hv:NodeV w v n)(hs:sizeF n≤1152921504606846976):
 Calls Tryz.prog 141 #[v] w fun e w'=>e= .returned (.int .i64 (sizeF n))∧Below w.heap.size w w':=by
 obtain⟨va,vb,vc,rfl,ha,hb0,hc0,hk0,hk1⟩:=hv;obtain⟨A,ca,rfl,ha1,ha2,hra⟩:=ha;obtain⟨B,cb,rfl,hb1,hb2,hrb⟩:=hb0;obtain⟨C,cc,rfl,hc1,hc2,hrc⟩:=hc0;have HR:=Lib.hid (And.intro hra (And.intro hrb hrc));have HB:=Lib.hid ((Below.refl w.heap.size w).alloc (Nat.le_refl _) (.cells #[.int .u8 n.kind, .slice A n.items.length ca, .slice B n.kids.length cb, .slice C n.vols.length cc] 59));clear hra hrb hrc;by_cases h1:n.kind=1
 ·have hsz:sizeF n=2 + sumBy jej n.items:=by simp[sizeF,h1]
  have HS:=Lib.hid hsz;rw[hsz]at hs;have HT:=Lib.hid hs;clear hs hsz;have hd1:(n.kind==1)=true:=by simp[h1]
  generalize n.kind=kd at *;subst h1;go_enter Tryz.func141,Tryz.ntmps141;go_wp2;go_loopw [3,5,17,18,19,20,21,22,23,24,25,26,27,28,29,30,31] (fun s _ i _ _ _ _ _ _ _ _ _ _ _ _ _ _ wr=>∃k:Nat,k≤n.items.length∧i= .int .i64 k∧s= .int .i64 (2 + sumBy jej (n.items.take k):Nat)∧Below w.heap.size w wr) (fun _ _ i _ _ _ _ _ _ _ _ _ _ _ _ _ _ _=>n.items.length - (intOf i).toNat)
  case atStart=>exact⟨0,Nat.zero_le _,rfl,rfl,HB.out⟩
  case round=>
   obtain⟨k,hk,rfl,rfl,hB⟩:=hrel;by_cases hlt:k < n.items.length
   ·obtain⟨b,o,rfl,hat,hwf⟩:=HR.out.1 k hlt;have hb:b < w.heap.size:=hat.lt (by simp[itemE]);have hatr:=hat.below hB (Nat.le_refl _);have hbr:b < wr.heap.size:=Nat.lt_of_lt_of_le hb hB.size;have hst:sumBy jej (n.items.take (k + 1))=sumBy jej (n.items.take k) + (2 + n.items[k].key.size + n.items[k].val.size):=jjo jej n.items k hlt;have hsl:=sumBy_le jej n.items (k + 1);rw[hst]at hsl;have hbd:sumBy jej (n.items.take k) + (2 + n.items[k].key.size + n.items[k].val.size)≤1152921504606846976:=by have:=HT.out;omega
    have HG:=Lib.hid (And.intro hst hB);clear hst hsl hB hat;generalize sumBy jej (n.items.take k)=S at *;generalize n.items[k]=kk at *;have HK:=item_len kk hwf;have hl:=itemE.len kk hwf;have h1':=itemE.one kk hwf;have n0:(wr.alloc (.cells (itemE.enc kk).toArray 165)).cell? ⟨wr.heap.size,0,none⟩=some (.string kk.key):=jay 0 _ rfl;have n1:(wr.alloc (.cells (itemE.enc kk).toArray 165)).cell? ⟨wr.heap.size,1,none⟩=some (.string kk.val):=jay 1 _ rfl;have HL:=Lib.hid hl;have HW:=Lib.hid hwf;clear hl hwf;generalize itemE.enc kk=vs at *;generalize kk.key=x0 at *;generalize kk.val=x1 at *;go_wp2_with (first|((with_reducible refine jao ?_);refine jai rfl 165 (.tmp 19) rfl b (o + k * 2) rfl vs _ hatr Tryz.underlying165 rfl HK ?_)|((with_reducible refine jab ?_);refine jaa rfl 165 (.tmp 5) (.tmp 20) rfl 165 _ rfl vs rfl (by rw[HL.out];rfl) h1' HK ?_));refine⟨⟨k + 1,by omega,by go_num,?_,HG.out.2.alloc HG.out.2.size _⟩,by simp[intOf];omega⟩;rw[HG.out.1];congr 1;push_cast;omega
   ·obtain rfl:k=n.items.length:=by omega
    rw[List.take_length]at *;have HG:=Lib.hid hB;clear hB;generalize sumBy jej n.items=S at *;go_wp2;go_ret;exact⟨by rw[HS.out];rfl,HG.out⟩
 ·by_cases h2:n.kind=2
  ·have hsz:sizeF n=2 + sumBy kidSz n.kids:=by simp[sizeF,h1,h2]
   have HS:=Lib.hid hsz;rw[hsz]at hs;have HT:=Lib.hid hs;clear hs hsz;have hd1:(n.kind==1)=false:=by simp[h1]
   have hd2:(n.kind==2)=true:=by simp[h2]
   generalize n.kind=kd at *;subst h2;go_enter Tryz.func141,Tryz.ntmps141;go_wp2;go_loopw [3,7,37,38,39,40,41,42,43,44,45,46,47,48,49] (fun s _ i _ _ _ _ _ _ _ _ _ _ _ _ wr=>∃k:Nat,k≤n.kids.length∧i= .int .i64 k∧s= .int .i64 (2 + sumBy kidSz (n.kids.take k):Nat)∧Below w.heap.size w wr) (fun _ _ i _ _ _ _ _ _ _ _ _ _ _ _ _=>n.kids.length - (intOf i).toNat)
   case atStart=>exact⟨0,Nat.zero_le _,rfl,rfl,HB.out⟩
   case round=>
    obtain⟨k,hk,rfl,rfl,hB⟩:=hrel;by_cases hlt:k < n.kids.length
    ·obtain⟨b,o,rfl,hat,hwf⟩:=HR.out.2.1 k hlt;have hb:b < w.heap.size:=hat.lt (by simp[kidE]);have hatr:=hat.below hB (Nat.le_refl _);have hbr:b < wr.heap.size:=Nat.lt_of_lt_of_le hb hB.size;have hst:sumBy kidSz (n.kids.take (k + 1))=sumBy kidSz (n.kids.take k) + (37 + n.kids[k].key.size):=jjo kidSz n.kids k hlt;have hsl:=sumBy_le kidSz n.kids (k + 1);rw[hst]at hsl;have hbd:sumBy kidSz (n.kids.take k) + (37 + n.kids[k].key.size)≤1152921504606846976:=by have:=HT.out;omega
     have HG:=Lib.hid (And.intro hst hB);clear hst hsl hB hat;generalize sumBy kidSz (n.kids.take k)=S at *;generalize n.kids[k]=kk at *;have HK:=jc7 kk hwf;have hl:=kidE.len kk hwf;have h1':=kidE.one kk hwf;have n0:(wr.alloc (.cells (kidE.enc kk).toArray 40)).cell? ⟨wr.heap.size,0,none⟩=some (.string kk.key):=jay 0 _ rfl;have HL:=Lib.hid hl;have HW:=Lib.hid hwf;clear hl hwf;generalize kidE.enc kk=vs at *;generalize kk.key=x0 at *;go_wp2_with (first|((with_reducible refine jao ?_);refine jai rfl 40 (.tmp 39) rfl b (o + k * 34) rfl vs _ hatr Tryz.underlying40 rfl HK ?_)|((with_reducible refine jab ?_);refine jaa rfl 40 (.tmp 7) (.tmp 40) rfl 40 _ rfl vs rfl (by rw[HL.out];rfl) h1' HK ?_));refine⟨⟨k + 1,by omega,by go_num,?_,HG.out.2.alloc HG.out.2.size _⟩,by simp[intOf];omega⟩;rw[HG.out.1];congr 1;push_cast;omega
    ·obtain rfl:k=n.kids.length:=by omega
     rw[List.take_length]at *;have HG:=Lib.hid hB;clear hB;generalize sumBy kidSz n.kids=S at *;go_wp2;go_ret;exact⟨by rw[HS.out];rfl,HG.out⟩
  ·by_cases h3:n.kind=3
   ·have hsz:sizeF n=2 + sumBy volSz n.vols:=by simp[sizeF,h1,h2,h3]
    have HS:=Lib.hid hsz;rw[hsz]at hs;have HT:=Lib.hid hs;clear hs hsz;have hd1:(n.kind==1)=false:=by simp[h1]
    have hd2:(n.kind==2)=false:=by simp[h2]
    have hd3:(n.kind==3)=true:=by simp[h3]
    generalize n.kind=kd at *;subst h3;go_enter Tryz.func141,Tryz.ntmps141;go_wp2;go_loopw [3,9,55,56,57,58,59,60,61,62,63,64,65,66,67,68,69,70,71,72,73] (fun s _ i _ _ _ _ _ _ _ _ _ _ _ _ _ _ _ _ _ _ wr=>∃k:Nat,k≤n.vols.length∧i= .int .i64 k∧s= .int .i64 (2 + sumBy volSz (n.vols.take k):Nat)∧Below w.heap.size w wr) (fun _ _ i _ _ _ _ _ _ _ _ _ _ _ _ _ _ _ _ _ _ _=>n.vols.length - (intOf i).toNat)
    case atStart=>exact⟨0,Nat.zero_le _,rfl,rfl,HB.out⟩
    case round=>
     obtain⟨k,hk,rfl,rfl,hB⟩:=hrel;by_cases hlt:k < n.vols.length
     ·obtain⟨b,o,rfl,hat,hwf⟩:=HR.out.2.2 k hlt;have hb:b < w.heap.size:=hat.lt (by simp[volE]);have hatr:=hat.below hB (Nat.le_refl _);have hbr:b < wr.heap.size:=Nat.lt_of_lt_of_le hb hB.size;have hst:sumBy volSz (n.vols.take (k + 1))=sumBy volSz (n.vols.take k) + (47 + n.vols[k].name.size + n.vols[k].src.size):=jjo volSz n.vols k hlt;have hsl:=sumBy_le volSz n.vols (k + 1);rw[hst]at hsl;have hbd:sumBy volSz (n.vols.take k) + (47 + n.vols[k].name.size + n.vols[k].src.size)≤1152921504606846976:=by have:=HT.out;omega
      have HG:=Lib.hid (And.intro hst hB);clear hst hsl hB hat;generalize sumBy volSz (n.vols.take k)=S at *;generalize n.vols[k]=kk at *;have HK:=jjm kk hwf;have hl:=volE.len kk hwf;have h1':=volE.one kk hwf;have n0:(wr.alloc (.cells (volE.enc kk).toArray 155)).cell? ⟨wr.heap.size,0,none⟩=some (.string kk.name):=jay 0 _ rfl;have n2:(wr.alloc (.cells (volE.enc kk).toArray 155)).cell? ⟨wr.heap.size,2,none⟩=some (.string kk.src):=jay 2 _ rfl;have HL:=Lib.hid hl;have HW:=Lib.hid hwf;clear hl hwf;generalize volE.enc kk=vs at *;generalize kk.name=x0 at *;generalize kk.src=x2 at *;go_wp2_with (first|((with_reducible refine jao ?_);refine jai rfl 155 (.tmp 57) rfl b (o + k * 37) rfl vs _ hatr Tryz.underlying155 rfl HK ?_)|((with_reducible refine jab ?_);refine jaa rfl 155 (.tmp 9) (.tmp 58) rfl 155 _ rfl vs rfl (by rw[HL.out];rfl) h1' HK ?_));refine⟨⟨k + 1,by omega,by go_num,?_,HG.out.2.alloc HG.out.2.size _⟩,by simp[intOf];omega⟩;rw[HG.out.1];congr 1;push_cast;omega
     ·obtain rfl:k=n.vols.length:=by omega
      rw[List.take_length]at *;have HG:=Lib.hid hB;clear hB;generalize sumBy volSz n.vols=S at *;go_wp2;go_ret;exact⟨by rw[HS.out];rfl,HG.out⟩
   ·have hsz:sizeF n=2:=by simp[sizeF,h1,h2,h3]
    have HS:=Lib.hid hsz;clear hsz;have hd1:(n.kind==1)=false:=by simp[h1]
    have hd2:(n.kind==2)=false:=by simp[h2]
    have hd3:(n.kind==3)=false:=by simp[h3]
    generalize n.kind=kd at *
    skip
    go_enter Tryz.func141,Tryz.ntmps141;go_wp2;go_ret;exact⟨by rw[HS.out];rfl,HB.out⟩
def jbu(n:Node):Bool:=
 if n.kind=1 then(n.kids.length + n.vols.length==0 && decide (0 < n.items.length) && decide (n.items.length≤255)) && jfr n.items
 else if n.kind=2 then(n.items.length + n.vols.length==0) && jif n.kids
 else if n.kind=3 then(n.items.length + n.kids.length==0) && jei n.vols
 else false
def smallN(n:Node):Prop:=n.items.length≤1073741824∧n.kids.length≤1073741824∧n.vols.length≤1073741824
def jcd(n:Node):Int:=if jbu n then(if 508 < sizeF n then 2 else 0)else 4
theorem jjp(w:World)(v:Value)(n:Node)(hv:NodeV w v n)(hs:smallN n):
 Calls Tryz.prog 140 #[v] w fun e w'=>e= .returned (.bool (jbu n))∧Below w.heap.size w w':=by
 obtain⟨va,vb,vc,rfl,ha,hb0,hc0,hk0,hk1⟩:=hv;obtain⟨hs1,hs2,hs3⟩:=hs;have HV:=Lib.hid (And.intro ha (And.intro hb0 hc0));obtain⟨A,ca,rfl,ha1,ha2,hra⟩:=ha;obtain⟨B,cb,rfl,hb1,hb2,hrb⟩:=hb0;obtain⟨C,cc,rfl,hc1,hc2,hrc⟩:=hc0;have HB:=Lib.hid ((Below.refl w.heap.size w).alloc (Nat.le_refl _) (.cells #[.int .u8 n.kind, .slice A n.items.length ca, .slice B n.kids.length cb, .slice C n.vols.length cc] 59));clear hra hrb hrc;by_cases h1:n.kind=1
 ·have hsz:jbu n=((n.kids.length + n.vols.length==0 && decide (0 < n.items.length) && decide (n.items.length≤255)) && jfr n.items):=by simp[jbu,h1]
  have HS:=Lib.hid hsz;clear hsz;generalize n.kind=kd at *;subst h1;by_cases hz:n.kids.length + n.vols.length=0
  ·have hzt:((n.kids.length:Int) + n.vols.length==0)=true:=by rw[beq_iff_eq];omega
   have HZ:=Lib.hid (show(n.kids.length + n.vols.length==0)=true by rw[beq_iff_eq];exact hz);clear hz;by_cases hi0:0 < n.items.length
   ·have hg0:decide (0 < (n.items.length:Int))=true:=decide_eq_true (by omega);have hg0':=Lib.hid hi0;by_cases hi1:n.items.length≤255
    ·have hg1:decide ((n.items.length:Int)≤255)=true:=decide_eq_true (by omega);have hg1':=Lib.hid hi1;cases hok:jfr n.items with
     |true=>
      have hq:=Lib.hid (show errIf (jfr n.items) 4=0 by rw[hok];rfl);go_enter Tryz.func140,Tryz.ntmps140;go_wp2;go_quiet (fail);go_wp2_with (go_at_call 128;refine(jgf _ _ n.items (HV.out.1.below (Below.drewN' HB.out _) (Nat.le_refl _))).mono ?_;rintro e w1 ⟨rfl,hb1⟩;rw[hq.out]);go_ret;exact⟨by rw[HS.out,HZ.out];simp[hg0'.out,hg1'.out,hok],Below.step (Below.drewN' HB.out _) hb1⟩
     |false=>
      have hq:=Lib.hid (show errIf (jfr n.items) 4=4 by rw[hok];rfl);go_enter Tryz.func140,Tryz.ntmps140;go_wp2;go_quiet (fail);go_wp2_with (go_at_call 128;refine(jgf _ _ n.items (HV.out.1.below (Below.drewN' HB.out _) (Nat.le_refl _))).mono ?_;rintro e w1 ⟨rfl,hb1⟩;rw[hq.out]);go_ret;exact⟨by rw[HS.out,HZ.out];simp[hg0'.out,hg1'.out,hok],Below.step (Below.drewN' HB.out _) hb1⟩
    ·have hg1:decide ((n.items.length:Int)≤255)=false:=decide_eq_false (by omega);have hg1':=Lib.hid (show decide (n.items.length≤255)=false from decide_eq_false hi1);go_enter Tryz.func140,Tryz.ntmps140;go_wp2;go_quiet (fail);go_wp2;go_ret;exact⟨by rw[HS.out,hg1'.out];simp,Below.drewN' HB.out _⟩
   ·have hg0:decide (0 < (n.items.length:Int))=false:=decide_eq_false (by omega);have hg1':=Lib.hid (show decide (0 < n.items.length)=false from decide_eq_false hi0);go_enter Tryz.func140,Tryz.ntmps140;go_wp2;go_quiet (fail);go_wp2;go_ret;exact⟨by rw[HS.out,hg1'.out];simp,Below.drewN' HB.out _⟩
  ·have hz1:((n.kids.length:Int) + n.vols.length==0)=false:=by rw[beq_eq_false_iff_ne];omega
   have hz2:=Lib.hid (show(n.kids.length + n.vols.length==0)=false by rw[beq_eq_false_iff_ne];exact hz);go_enter Tryz.func140,Tryz.ntmps140;go_wp2;go_quiet (fail);go_wp2;go_ret;exact⟨by rw[HS.out,hz2.out];simp,Below.drewN' HB.out _⟩
 ·by_cases h2:n.kind=2
  ·have hsz:jbu n=((n.items.length + n.vols.length==0) && jif n.kids):=by simp[jbu,h2]
   have HS:=Lib.hid hsz;clear hsz;have hd1:(n.kind==1)=false:=by simp[h2]
   generalize n.kind=kd at *;subst h2;by_cases hz:n.items.length + n.vols.length=0
   ·have hzt:((n.items.length:Int) + n.vols.length==0)=true:=by rw[beq_iff_eq];omega
    have HZ:=Lib.hid (show(n.items.length + n.vols.length==0)=true by rw[beq_iff_eq];exact hz);clear hz;go_enter Tryz.func140,Tryz.ntmps140;go_wp2;go_quiet (fail);go_wp2_with (go_at_call 204;refine(kids_any _ _ n.kids (HV.out.2.1.below (Below.drewN' HB.out _) (Nat.le_refl _))).mono ?_;rintro e w1 ⟨rfl,hb1⟩);go_ret;exact⟨by rw[HS.out,HZ.out];simp,Below.step (Below.drewN' HB.out _) hb1⟩
   ·have hz1:((n.items.length:Int) + n.vols.length==0)=false:=by rw[beq_eq_false_iff_ne];omega
    have hz2:=Lib.hid (show(n.items.length + n.vols.length==0)=false by rw[beq_eq_false_iff_ne];exact hz);go_enter Tryz.func140,Tryz.ntmps140;go_wp2;go_quiet (fail);go_wp2;go_ret;exact⟨by rw[HS.out,hz2.out];simp,Below.drewN' HB.out _⟩
  ·by_cases h3:n.kind=3
   ·have hsz:jbu n=((n.items.length + n.kids.length==0) && jei n.vols):=by simp[jbu,h3]
    have HS:=Lib.hid hsz;clear hsz;have hd1:(n.kind==1)=false:=by simp[h3]
    have hd2:(n.kind==2)=false:=by simp[h3]
    generalize n.kind=kd at *;subst h3;by_cases hz:n.items.length + n.kids.length=0
    ·have hzt:((n.items.length:Int) + n.kids.length==0)=true:=by rw[beq_iff_eq];omega
     have HZ:=Lib.hid (show(n.items.length + n.kids.length==0)=true by rw[beq_iff_eq];exact hz);clear hz;go_enter Tryz.func140,Tryz.ntmps140;go_wp2;go_quiet (fail);go_wp2_with (go_at_call 205;refine(volumes_any _ _ n.vols (HV.out.2.2.below (Below.drewN' HB.out _) (Nat.le_refl _))).mono ?_;rintro e w1 ⟨rfl,hb1⟩);go_ret;exact⟨by rw[HS.out,HZ.out];simp,Below.step (Below.drewN' HB.out _) hb1⟩
    ·have hz1:((n.items.length:Int) + n.kids.length==0)=false:=by rw[beq_eq_false_iff_ne];omega
     have hz2:=Lib.hid (show(n.items.length + n.kids.length==0)=false by rw[beq_eq_false_iff_ne];exact hz);go_enter Tryz.func140,Tryz.ntmps140;go_wp2;go_quiet (fail);go_wp2;go_ret;exact⟨by rw[HS.out,hz2.out];simp,Below.drewN' HB.out _⟩
   ·have hsz:jbu n=false:=by simp[jbu,h1,h2,h3]
    have HS:=Lib.hid hsz;clear hsz;have hd1:(n.kind==1)=false:=by simp[h1]
    have hd2:(n.kind==2)=false:=by simp[h2]
    have hd3:(n.kind==3)=false:=by simp[h3]
    generalize n.kind=kd at *;go_enter Tryz.func140,Tryz.ntmps140;go_wp2;go_quiet (fail);go_wp2;go_ret;exact⟨by rw[HS.out];rfl,Below.drewN' HB.out _⟩
theorem jig{α:Type}(f:α→Nat)(m:Nat):∀(xs:List α),(∀x∈xs,f x≤m)→sumBy f xs≤xs.length * m
 |[],_=>by simp[sumBy]
 |x::xs,h=>by
  have h1:=h x (by simp);have h2:=jig f m xs (fun y hy=>h y (by simp[hy]));unfold sumBy at *;simp only[List.map_cons,List.sum_cons,List.length_cons,Nat.succ_mul];omega
theorem jjq:∀(ks:List Kid) (b:ByteArray),jj6 b ks=true→∀k∈ks,k.key.size≤48
 |[],_,_,k,hk=>by simp at hk
 |a::r,b,h,k,hk=>by
  simp only[jj6,Bool.and_eq_true,jfk,decide_eq_true_eq]at h;rcases List.mem_cons.1 hk with rfl|hk
  ·exact h.1.1.1
  ·exact jjq r _ h.2 k hk
theorem jjr:∀(ks:List Vol) (b:ByteArray),jj7 b ks=true→∀k∈ks,k.name.size≤16∧k.src.size≤16
 |[],_,_,k,hk=>by simp at hk
 |a::r,b,h,k,hk=>by
  simp only[jj7,volRight,Bool.and_eq_true,jfk,decide_eq_true_eq]at h;rcases List.mem_cons.1 hk with rfl|hk
  ·exact⟨h.1.1.1.1.2.1,h.1.1.1.2⟩
  ·exact jjr r _ h.2 k hk
theorem shaped_size(n:Node)(h:jbu n=true):sizeF n≤100000:=by
 unfold jbu at h;unfold sizeF;split at h
 ·rename_i hk;rw[if_pos hk];simp only[Bool.and_eq_true,decide_eq_true_eq]at h;obtain⟨⟨_,hl⟩,hi⟩:=h;have:=jig jej 210 n.items (fun x hx=>by
   have:=List.all_eq_true.1 (Bool.and_eq_true _ _ ▸ hi:_∧_).1 x hx;simp only[jdx,Bool.and_eq_true,decide_eq_true_eq]at this;unfold jej;omega)
  omega
 ·split at h
  ·rename_i hk1 hk;rw[if_neg hk1,if_pos hk];simp only[Bool.and_eq_true,jif,decide_eq_true_eq]at h;have:=jig kidSz 85 n.kids (fun x hx=>by have:=jjq _ _ h.2.1 x hx;unfold kidSz;omega);omega
  ·split at h
   ·rename_i hk1 hk2 hk;rw[if_neg hk1,if_neg hk2,if_pos hk];simp only[Bool.and_eq_true,jei,decide_eq_true_eq]at h;have:=jig volSz 79 n.vols (fun x hx=>by have:=jjr _ _ h.2.1 x hx;unfold volSz;omega);omega
   ·cases h
theorem jih(w:World)(v:Value)(n:Node)(hv:NodeV w v n)(hs:smallN n):
 Calls Tryz.prog 81 #[v] w fun e w'=>e= .returned (.int .i64 (jcd n))∧Below w.heap.size w w':=by
 have HV:=Lib.hid hv;have HN:=Lib.hid hs;obtain⟨va,vb,vc,rfl,ha,hb0,hc0,hk0,hk1⟩:=hv;have HB:=Lib.hid ((Below.refl w.heap.size w).alloc (Nat.le_refl _) (.cells #[.int .u8 n.kind,va,vb,vc] 59));obtain⟨A,ca,rfl,ha1,ha2,hra⟩:=ha;obtain⟨B,cb,rfl,hb1,hb2,hrb⟩:=hb0;obtain⟨C,cc,rfl,hc1,hc2,hrc⟩:=hc0;clear hra hrb hrc;cases hsh:jbu n with
 |false=>
  have HE:=Lib.hid (show jcd n=4 by simp[jcd,hsh]);go_enter Tryz.func81,Tryz.ntmps81;go_wp2_with (go_at_call 140;refine(jjp _ _ n (HV.out.below HB.out (Nat.le_refl _)) HN.out).mono ?_;rintro e w1 ⟨rfl,hb1⟩;rw[hsh]);go_ret;exact⟨by rw[HE.out];rfl,Below.step HB.out hb1⟩
 |true=>
  have HZ:=Lib.hid (shaped_size n hsh);by_cases hbig:508 < sizeF n
  ·have HE:=Lib.hid (show jcd n=2 by simp[jcd,hsh,hbig]);have hd:decide (508 < (sizeF n:Int))=true:=decide_eq_true (by omega);clear hbig;go_enter Tryz.func81,Tryz.ntmps81;go_wp2_with (first|(go_at_call 140;refine(jjp _ _ n (HV.out.below HB.out (Nat.le_refl _)) HN.out).mono ?_;rintro e w1 ⟨rfl,hb1⟩;rw[hsh];have HB1:=Lib.hid (Below.step HB.out hb1);obtain⟨c1,_⟩:=bcell hb1;clear hb1)|(go_at_call 141;refine(size_any _ _ n (HV.out.below HB1.out (Nat.le_refl _)) (by have:=HZ.out;omega)).mono ?_;rintro e w2 ⟨rfl,hb2⟩));go_ret;exact⟨by rw[HE.out];rfl,Below.step HB1.out hb2⟩
  ·have HE:=Lib.hid (show jcd n=0 by simp[jcd,hsh,hbig]);have hd:decide (508 < (sizeF n:Int))=false:=decide_eq_false (by omega);clear hbig;go_enter Tryz.func81,Tryz.ntmps81;go_wp2_with (first|(go_at_call 140;refine(jjp _ _ n (HV.out.below HB.out (Nat.le_refl _)) HN.out).mono ?_;rintro e w1 ⟨rfl,hb1⟩;rw[hsh];have HB1:=Lib.hid (Below.step HB.out hb1);obtain⟨c1,_⟩:=bcell hb1;clear hb1)|(go_at_call 141;refine(size_any _ _ n (HV.out.below HB1.out (Nat.le_refl _)) (by have:=HZ.out;omega)).mono ?_;rintro e w2 ⟨rfl,hb2⟩));go_ret;exact⟨by rw[HE.out];rfl,Below.step HB1.out hb2⟩
def hashU(h:List Int):List UInt8:=h.map fun x=>x.toNat.toUInt8
def itemU(x:Item):List UInt8:=textU x.key ++ textU x.val
def kidU(x:Kid):List UInt8:=textU x.key ++ numU x.num 4 ++ hashU x.hash
def volU(x:Vol):List UInt8:=textU x.name ++ textU x.src ++ numU x.kind 1 ++ numU x.born 8 ++ numU x.root 4 ++ hashU x.hash
def headU(n:Node):List UInt8:=numU n.kind 1 ++ numU ((n.items.length:Int) + n.kids.length + n.vols.length) 1
def encL(n:Node):List UInt8:=headU n ++ n.items.flatMap itemU ++ n.kids.flatMap kidU ++ n.vols.flatMap volU
theorem jhw{h:List Int}(hh:jd7 h):Lib.byteCells (hashU h)=hashV h:=by
 unfold Lib.byteCells hashU hashV;rw[List.map_map];apply List.map_congr_left;intro x hx;obtain⟨h0,h1⟩:=hh.2 x hx;have:x.toNat < 256:=by omega
 simp only[Function.comp];congr 1
 rw[show(x.toNat.toUInt8).toNat=x.toNat by simp[Nat.toUInt8];omega];omega
theorem jaw(n:Int)(k:Nat):(numU n k).length=k:=by
 unfold numU numB;have:=strOfNums_size (numL n k);rw[jc0]at this;simpa using this
theorem jbc(s:ByteArray):(textU s).length=1 + s.size:=by
 unfold textU;rw[List.length_append,jaw];simp
theorem jgw(x:Item):(itemU x).length=jej x:=by
 unfold itemU jej;rw[List.length_append,jbc,jbc];omega
theorem jhx(x:Kid)(h:jd7 x.hash):(kidU x).length=kidSz x:=by
 unfold kidU kidSz hashU;simp[jbc,jaw,h.1];omega
theorem jlj(x:Vol)(h:jd7 x.hash):(volU x).length=volSz x:=by
 unfold volU volSz hashU;simp[jbc,jaw,h.1];omega
theorem jkt{α:Type}(f:α→List UInt8)(g:α→Nat):∀(xs:List α),(∀x∈xs,(f x).length=g x)→(xs.flatMap f).length=sumBy g xs
 |[],_=>by simp[sumBy]
 |x::xs,h=>by
  have:=jkt f g xs (fun y hy=>h y (by simp[hy]));unfold sumBy at *;simp[h x (by simp),this]
theorem jij{α:Type}(f:α→List UInt8)(xs:List α)(k:Nat)(h:k < xs.length):(xs.take (k + 1)).flatMap f=(xs.take k).flatMap f ++ f xs[k]:=by
 rw[List.take_succ_eq_append_getElem h,List.flatMap_append];simp
theorem jlk{α:Type}(f:α→List UInt8)(m:Nat)(xs:List α)(h:∀x∈xs,(f x).length≤m)(k:Nat):((xs.take k).flatMap f).length≤k * m:=by
 induction k with
 |zero=>simp
 |succ k ih=>
  by_cases hk:k < xs.length
  ·rw[jij f xs k hk,List.length_append,Nat.succ_mul];have:=h _ (List.getElem_mem hk);omega
  ·rw[List.take_of_length_le (by omega),←List.take_of_length_le (l:=xs) (i:=k) (by omega),Nat.succ_mul];omega
structure Bounds(n:Node):Prop where
 i0:n.items.length≤255
 k0:n.kids.length≤255
 v0:n.vols.length≤6
 c0:n.items.length + n.kids.length + n.vols.length≤255
 i1:∀x∈n.items,x.key.size≤48∧x.val.size≤160
 k1:∀x∈n.kids,x.key.size≤48
 v1:∀x∈n.vols,x.name.size≤16∧x.src.size≤16
theorem jik(n:Node)(h:jbu n=true):Bounds n:=by
 unfold jbu at h;split at h
 ·simp only[Bool.and_eq_true,decide_eq_true_eq,beq_iff_eq]at h;obtain⟨⟨⟨hz,_⟩,hl⟩,hi⟩:=h;have hk:n.kids=[]:=List.length_eq_zero_iff.1 (by omega);have hv:n.vols=[]:=List.length_eq_zero_iff.1 (by omega);refine⟨hl,by simp[hk],by simp[hv],by simp[hk,hv];exact hl,fun x hx=>?_,by simp[hk],by simp[hv]⟩;have:=List.all_eq_true.1 (Bool.and_eq_true _ _ ▸ hi:_∧_).1 x hx;simp only[jdx,Bool.and_eq_true,decide_eq_true_eq]at this;exact this.2
 ·split at h
  ·simp only[Bool.and_eq_true,jif,decide_eq_true_eq,beq_iff_eq]at h;obtain⟨hz,hg,_,hl⟩:=h;have hk:n.items=[]:=List.length_eq_zero_iff.1 (by omega);have hv:n.vols=[]:=List.length_eq_zero_iff.1 (by omega);exact⟨by simp[hk],hl,by simp[hv],by simp[hk,hv];exact hl,by simp[hk],jjq _ _ hg,by simp[hv]⟩
  ·split at h
   ·simp only[Bool.and_eq_true,jei,decide_eq_true_eq,beq_iff_eq]at h;obtain⟨hz,hg,hl⟩:=h;have hk:n.items=[]:=List.length_eq_zero_iff.1 (by omega);have hv:n.kids=[]:=List.length_eq_zero_iff.1 (by omega);exact⟨by simp[hk],by simp[hv],hl,by simp[hk,hv];omega,by simp[hk],by simp[hv],jjr _ _ hg⟩
   ·cases h
theorem jll(n:Node)(h:jbu n=true)(hk:∀x∈n.kids,kidE.wf x)(hv:∀x∈n.vols,volE.wf x):(encL n).length=sizeF n:=by
 have e1:=jkt itemU jej n.items (fun x _=>jgw x);have e2:=jkt kidU kidSz n.kids (fun x hx=>jhx x (hk x hx).2.2);have e3:=jkt volU volSz n.vols (fun x hx=>jlj x (hv x hx).2.2.2.2.2);unfold encL headU;simp only[List.length_append,jaw,e1,e2,e3];unfold jbu at h;unfold sizeF;split at h
 ·rename_i hk1;simp only[Bool.and_eq_true,decide_eq_true_eq,beq_iff_eq]at h;have hk:n.kids=[]:=List.length_eq_zero_iff.1 (by omega);have hv:n.vols=[]:=List.length_eq_zero_iff.1 (by omega);rw[if_pos hk1,hk,hv];simp[sumBy]
 ·split at h
  ·rename_i hk1 hk2;simp only[Bool.and_eq_true,beq_iff_eq]at h;have hk:n.items=[]:=List.length_eq_zero_iff.1 (by omega);have hv:n.vols=[]:=List.length_eq_zero_iff.1 (by omega);rw[if_neg hk1,if_pos hk2,hk,hv];simp[sumBy]
  ·split at h
   ·rename_i hk1 hk2 hk3;simp only[Bool.and_eq_true,beq_iff_eq]at h;have hk:n.items=[]:=List.length_eq_zero_iff.1 (by omega);have hv:n.kids=[]:=List.length_eq_zero_iff.1 (by omega);rw[if_neg hk1,if_neg hk2,if_pos hk3,hk,hv];simp[sumBy]
   ·cases h
end Go.Proofs.YtpaohkkhejpgjaaGreatDoor
