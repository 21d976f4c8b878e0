/- Texts of the proof: Pk3 It Ip N1 Mk N3 N6. -/
import Derived.Test.YtpaohkkhejpgjaaGreatDoorM1
import Derived.Lib.Strings
import Derived.Lib.Slices
import Derived.Lib.Walk
import Derived.Lib.Builder
import Derived.Lib.AppendStr
import Derived.Lib.UnsafeStr
import Derived.Laws.Externs
import Derived.Shelf.RegionOpenPlain
import Derived.Lib.Repeat
set_option linter.all false
set_option maxRecDepth 100000
set_option maxHeartbeats 8000000
namespace Go.Proofs.YtpaohkkhejpgjaaGreatDoor
open Go Go.RowKit
def jku(n b:Int):Int:=bits BinOp.or IntKind.u64 (IntKind.u64.wrap (n * 256)) (IntKind.u64.wrap b)
def jeq(l:List UInt8):Int:=l.foldl (fun n b=>jku n b.toNat) 0
theorem jhy(l:List UInt8)(b:UInt8):jeq (l ++ [b])=jku (jeq l) b.toNat:=by simp[jeq]
theorem jkp(w:World)(s:ByteArray)(k:Nat)(hk:1≤k)(hk8:k≤8)(hlt:s.size < k):
 Calls Tryz.prog 251 #[.string s, .int .i64 k] w fun e w'=>e= .returned (.tuple #[.int .u64 0, .string ByteArray.empty, .int .i64 3])∧w=w':=by
 go_enter Tryz.func251,Tryz.ntmps251;go_wp2;go_ret3;exact⟨rfl,rfl⟩
theorem jhn(w:World)(s:ByteArray)(k:Nat)(hs:s.size≤9223372036854775807)(hk:1≤k)(hk8:k≤8)(hle:k≤s.size):
 Calls Tryz.prog 251 #[.string s, .int .i64 k] w fun e w'=>e= .returned (.tuple #[.int .u64 (jeq (s.data.toList.take k)), .string (s.extract k s.size), .int .i64 0])∧∃n,w'=w.drewN n:=by
 have hd:decide (s.size < k)=false:=by simp;omega
 go_enter Tryz.func251,Tryz.ntmps251;go_wp2;go_loop [7,8,22] (fun n _ i=>∃j:Nat,j≤k∧i= .int .i64 j∧n= .int .u64 (jeq (s.data.toList.take j))) (fun _ _ i=>k - (intOf i).toNat)
 case atStart=>exact⟨0,Nat.zero_le _,rfl,rfl⟩
 case round=>
  obtain⟨j,hj,rfl,rfl⟩:=hrel;by_cases hlt:j < k
  ·have hsn:=jhy (s.data.toList.take j) (s[j]'(by omega));rw[←take_snoc s j (by omega)]at hsn;have HS:=Lib.hid hsn;clear hsn;generalize jeq (s.data.toList.take j)=n at *;go_wp2;go_round
   case rel=>exact⟨j + 1,by omega,by go_num,by rw[HS.out];rfl⟩
   case measure=>simp[intOf];omega
  ·obtain rfl:j=k:=by omega
   go_wp2;go_quiet (fail);go_wp2;go_ret3;exact⟨rfl,_,rfl⟩
#print axioms jhn
theorem jid(w:World)(k v:ByteArray):
 Calls Tryz.prog 183 #[.string k, .string v] w fun e w'=>e= .returned (.bool (jdx k v))∧w'=w:=by
 cases h1:k.toList.isEmpty with
 |true=>
  have hr:jdx k v=false:=by simp[jdx,h1]
  have HR:=Lib.hid hr;clear hr;go_enter Tryz.func183,Tryz.ntmps183;go_wp2;go_ret;exact⟨by rw[HR.out];rfl,rfl⟩
 |false=>
  by_cases h2:k.size≤48
  ·by_cases h3:v.size≤160
   ·have hr:jdx k v=true:=by simp[jdx,h1,h2,h3]
    have HR:=Lib.hid hr;clear hr;go_enter Tryz.func183,Tryz.ntmps183;go_wp2;go_ret;exact⟨by rw[HR.out];simp;omega,rfl⟩
   ·have hr:jdx k v=false:=by simp[jdx,h3]
    have HR:=Lib.hid hr;clear hr;go_enter Tryz.func183,Tryz.ntmps183;go_wp2;go_ret;exact⟨by rw[HR.out];simp;omega,rfl⟩
  ·have hr:jdx k v=false:=by simp[jdx,h2]
   have HR:=Lib.hid hr;clear hr;go_enter Tryz.func183,Tryz.ntmps183;go_wp2;go_ret;exact⟨by rw[HR.out];simp,rfl⟩
theorem jhs(w:World)(k v:ByteArray)(h:jdx k v=true):Calls Tryz.prog 183 #[.string k, .string v] w fun e w'=>e= .returned (.bool true)∧w'=w:=by
 rw[←h];exact jid w k v
theorem jlg(w:World)(k v:ByteArray)(h:jdx k v=false):Calls Tryz.prog 183 #[.string k, .string v] w fun e w'=>e= .returned (.bool false)∧w'=w:=by
 rw[←h];exact jid w k v
theorem At.pair{w:World}{b o:Nat}{x y:Value}(h:At w b o [x,y]):w.cell? ⟨b,o,none⟩=some x∧w.cell? ⟨b,o + 1,none⟩=some y:=
 ⟨h.cell 0 x rfl,h.cell 1 y rfl⟩
def errIf(b:Bool)(n:Int):Int:=if b then 0 else n
theorem jgf(w:World)(v:Value)(xs:List Item)(hv:Sl itemE w v xs):
 Calls Tryz.prog 128 #[v] w fun e w'=>e= .returned (.int .i64 (errIf (jfr xs) 4))∧Below w.heap.size w w':=by
 obtain⟨A,c,rfl,hc,hc2,hrow⟩:=hv;have HR:=Lib.hid hrow;clear hrow;go_enter Tryz.func128,Tryz.ntmps128;go_wp2;go_loopw [3,4,7,8,9,10,11,12,13,14,15,16,17,18,19,20,21,22,23,24,25,26,27,28,29,30,31,32] (fun _ _ i _ _ _ _ _ _ _ _ _ _ _ _ _ _ _ _ _ _ _ _ _ _ _ _ _ wr=>∃k:Nat,k≤xs.length∧i= .int .i64 k∧(∀j,j < k→okAt xs j)∧Below w.heap.size w wr) (fun _ _ i _ _ _ _ _ _ _ _ _ _ _ _ _ _ _ _ _ _ _ _ _ _ _ _ _ _=>xs.length - (intOf i).toNat)
 case atStart=>exact⟨0,Nat.zero_le _,rfl,fun j hj=>by omega,Below.refl _ _⟩
 case round=>
  obtain⟨k,hk,rfl,hok,hB⟩:=hrel;have HO:=Lib.hid hok;have HB:=Lib.hid hB;by_cases hlt:k < xs.length
  ·obtain⟨b,o,rfl,hat,hwf⟩:=HR.out k hlt;have hb:b < w.heap.size:=hat.lt (by simp[itemE]);obtain⟨d0,d1⟩:=(hat.below hB (Nat.le_refl _)).pair;have hbr:b < wr.heap.size:=Nat.lt_of_lt_of_le hb hB.size;by_cases hk0:k=0
   ·clear hok hB hat hwf;have hokk:okAt xs k ↔ jdx xs[k].key xs[k].val=true:=⟨fun h=>(h hlt).1,fun h _=>⟨h,fun h0=>by omega⟩⟩
    have HK:=Lib.hid hokk;clear hokk;generalize xs[k].key=kk at *;generalize xs[k].val=kv at *;have hg0:decide (0 < (k:Int))=false:=by simp;omega
    have hg1:decide (0 < k)=false:=by simp;omega
    have HK0:=Lib.hid hk0;clear hk0;simp only[itemE]at d0 d1;cases hr:jdx kk kv with
    |false=>
     go_wp2;go_quiet ((go_at_call 183;exact Calls.quiet_of_same (jlg _ _ _ hr)));go_wp2;go_ret;refine⟨?_,Below.drewN' (HB.out.alloc HB.out.size _) _⟩;rw[jjd hlt (by rw[HK.out,hr];simp)];rfl
    |true=>
     go_wp2;go_quiet ((go_at_call 183;exact Calls.quiet_of_same (jhs _ _ _ hr)));go_wp2;go_roundw
     case rel=>
      refine⟨k + 1,by omega,by go_num,fun j hj=>?_,Below.drewN' (HB.out.alloc HB.out.size _) _⟩;rcases Nat.lt_succ_iff_lt_or_eq.1 hj with h|h
      ·exact HO.out j h
      ·rw[h,HK.out];exact hr
     case measure=>simp[intOf];omega
   ·obtain⟨_,_,e,hatp,hwfp⟩:=HR.out (k - 1) (by omega);injection e with e;injection e with e1 e2 _;subst e1 e2;obtain⟨p0,_⟩:=(hatp.below hB (Nat.le_refl _)).pair;clear hok hB hat hatp hwf hwfp;have hokk:okAt xs k ↔ (jdx xs[k].key xs[k].val=true∧bl xs[k - 1].key xs[k].key=true):=⟨fun h=>⟨(h hlt).1,(h hlt).2 (by omega) (by omega)⟩,fun h _=>⟨h.1,fun _ _=>h.2⟩⟩
    have HK:=Lib.hid hokk;clear hokk;generalize xs[k - 1].key=pk at *;generalize xs[k].key=kk at *;generalize xs[k].val=kv at *;have hg0:decide (0 < (k:Int))=true:=by simp;omega
    have hg1:decide (0 < k)=true:=by simp;omega
    have hk1:0≤(k:Int) - 1:=by omega
    simp only[itemE]at d0 d1 p0;cases hr:jdx kk kv with
    |false=>
     go_wp2;go_quiet ((go_at_call 183;exact Calls.quiet_of_same (jlg _ _ _ hr)));go_wp2;go_ret;refine⟨?_,Below.drewN' (HB.out.alloc HB.out.size _) _⟩;rw[jjd hlt (by rw[HK.out,hr];simp)];rfl
    |true=>
     cases hbl:bl pk kk with
     |false=>
      have hbl2:Op.bytesLess pk.toList kk.toList=false:=hbl;go_wp2;go_quiet ((go_at_call 183;exact Calls.quiet_of_same (jhs _ _ _ hr)));go_wp2;go_ret;refine⟨?_,Below.drewN' (HB.out.alloc HB.out.size _) _⟩;rw[jjd hlt (by rw[HK.out,hbl];simp)];rfl
     |true=>
      have hbl2:Op.bytesLess pk.toList kk.toList=true:=hbl;go_wp2;go_quiet ((go_at_call 183;exact Calls.quiet_of_same (jhs _ _ _ hr)));go_wp2;go_roundw
      case rel=>
       refine⟨k + 1,by omega,by go_num,fun j hj=>?_,Below.drewN' (HB.out.alloc HB.out.size _) _⟩;rcases Nat.lt_succ_iff_lt_or_eq.1 hj with h|h
       ·exact HO.out j h
       ·rw[h,HK.out];exact⟨hr,hbl⟩
      case measure=>simp[intOf];omega
  ·have hall:jfr xs=true:=(jk9 xs).2 fun j hj=>hok j (by omega)
   have HA:=Lib.hid hall;clear hall hok hB;go_wp2;go_ret;exact⟨by rw[HA.out];rfl,HB.out⟩
#print axioms jgf
theorem jd0{α:Type}(p:α→Bool):∀(xs:List α) (i:Nat),i≤xs.length→(∀k (h:k < xs.length),k < i→p xs[k]=true)→(∀h:i < xs.length,p xs[i]=false)→(xs.takeWhile p).length=i
 |[],i,h,_,_=>by simp at h ⊢;omega
 |x::xs,0,_,_,h2=>by have:=h2 (by simp);simp at this;simp[List.takeWhile_cons,this]
 |x::xs,i + 1,h,h1,h2=>by
  have h0:=h1 0 (by simp) (by omega);simp only[List.getElem_cons_zero]at h0;rw[List.takeWhile_cons,if_pos h0,List.length_cons,jd0 p xs i (by simpa using h) (fun k hk hi=>by have:=h1 (k + 1) (by simpa using hk) (by omega);simpa using this) (fun hi=>by have:=h2 (by simpa using hi);simpa using this)]
def posOf{α:Type}(lt:α→Bool)(xs:List α):Nat:=(xs.takeWhile lt).length
theorem posOf_le{α:Type}(lt:α→Bool)(xs:List α):posOf lt xs≤xs.length:=(List.takeWhile_prefix _).length_le
def hasAt{α:Type}(eq:α→Bool)(xs:List α)(i:Nat):Bool:=match xs[i]? with
 |some x=>eq x
 |none=>false
def jd1(n:Int):Bool:=decide (2≤n) && decide (n < 65536)
def jfk(before name:ByteArray)(most:Nat):Bool:=decide (name.size≤most) && bl before name
def jj6:ByteArray→List Kid→Bool
 |_,[]=>true
 |before,k::r=>(jfk before k.key 48 && jd1 k.num) && jj6 k.key r
def jif(ks:List Kid):Bool:=jj6 ByteArray.empty ks && (decide (0 < ks.length) && decide (ks.length≤255))
def jbm:List Int:=List.replicate 32 0
def ledB(v:Vol):Bool:=jd1 v.root||(v.root==0 && v.hash==jbm)
def volRight(before:ByteArray)(v:Vol):Bool:=ledB v && jfk before v.name 16 && decide (v.src.size≤16) && decide (0 < v.kind) && decide (v.kind < 3)
def jj7:ByteArray→List Vol→Bool
 |_,[]=>true
 |before,v::r=>volRight before v && jj7 v.name r
def jei(vs:List Vol):Bool:=jj7 ByteArray.empty vs && decide (vs.length≤6)
theorem jaa{P:Program}{ops:Array Oper}{rest:List Oper}{o:Oper}{a:Act}{w:World}{Q:Exit→Act→World→Prop}(hgd:o.guard=none)(ty:TypeId)(x v:Operand)(ho:o.op= .store ty x v)
 (t:TypeId) (z:Array Value) (hx:a.eval x= .pointer (some ⟨w.heap.size,0,none⟩)) (vs:List Value) (hv:a.eval v= .agg vs.toArray) (hz:z.size=vs.length) (h1:∀v∈vs,v.oneCell'=true)
 (hi:(P.info? ty).map (·.size)=some vs.length) (h:wpList P ops Q rest (a.put o.dst undef) (w.alloc (.cells vs.toArray t))):wpList P ops Q (o::rest) a (w.alloc (.cells z t)):=by
 refine jaf hgd ty x v ho w.heap.size 0 hx vs hv t z (heap_alloc_new _ _) (by omega) h1 hi ?_;have:(z.toList.take 0 ++ vs ++ z.toList.drop (0 + vs.length)).toArray=vs.toArray:=by
  rw[List.drop_of_length_le (by simp;omega)];simp
 rw[this,setRow_alloc];exact h
theorem jay{w:World}{vs:List Value}{t:TypeId}(i:Nat)(v:Value)(h:vs[i]? =some v):(w.alloc (.cells vs.toArray t)).cell? ⟨w.heap.size,i,none⟩=some v:=by
 rw[cell_of_row _ _ i vs.toArray t (0,0) (heap_alloc_new _ _)];simpa using h
/-! Looks at the goal alone: is it a load, or a store, of such a type? -/
theorem jao{P:Program}{ops:Array Oper}{rest:List Oper}{d:Option Tmp}{x:Operand}{t:TypeId}{p:String}{af:Array Edge}{g:Option (Nat×Bool)}{a:Act}{w:World}{Q:Exit→Act→World→Prop}{ty:TypeId}
 (h:wpList P ops Q (⟨d, .load ty x,t,p,af,g⟩::rest) a w):wpList P ops Q (⟨d, .load ty x,t,p,af,g⟩::rest) a w:=h
theorem jab{P:Program}{ops:Array Oper}{rest:List Oper}{d:Option Tmp}{x v:Operand}{t:TypeId}{p:String}{af:Array Edge}{g:Option (Nat×Bool)}{a:Act}{w:World}{Q:Exit→Act→World→Prop}{ty:TypeId}
 (h:wpList P ops Q (⟨d, .store ty x v,t,p,af,g⟩::rest) a w):wpList P ops Q (⟨d, .store ty x v,t,p,af,g⟩::rest) a w:=h
theorem ja7(w:World)(n:Int):Calls Tryz.prog 107 #[.int .u32 n] w fun e w'=>e= .returned (.bool (jd1 n))∧w'=w:=by
 by_cases h:2≤n
 ·have hb:jd1 n=decide (n < 65536):=by simp[jd1,h]
  have HB:=Lib.hid hb;have h2:decide (n≥2)=true:=by simpa using h
  clear hb;go_enter Tryz.func107,Tryz.ntmps107;go_wp2;go_ret;exact⟨by rw[HB.out];rfl,rfl⟩
 ·have hb:jd1 n=false:=by simp[jd1,h]
  have HB:=Lib.hid hb;have h2:decide (n≥2)=false:=by simpa using h
  clear hb;go_enter Tryz.func107,Tryz.ntmps107;go_wp2;go_ret;exact⟨by rw[HB.out];rfl,rfl⟩
theorem jcv(w:World)(b s:ByteArray)(m:Nat):Calls Tryz.prog 246 #[.string b, .string s, .int .i64 m] w fun e w'=>e= .returned (.bool (jfk b s m))∧w'=w:=by
 by_cases h:s.size≤m
 ·have h2:decide (s.size≤m)=true:=by simpa using h
  have h3:decide ((s.size:Int)≤(m:Int))=true:=by simp;omega
  cases hl:bl b s with
  |true=>
   have HB:=Lib.hid (show jfk b s m=true by simp[jfk,h,hl]);have hl1:Op.bytesLess b.toList s.toList=true:=hl;have hl2:Op.bytesLess s.toList b.toList=false:=bl_asymm hl;have hl3:(s.toList==b.toList)=false:=by
    rw[←Bool.not_eq_true];intro hh;have:=(jga s b).1 hh;subst this;rw[bl_irrefl]at hl;cases hl
   clear hl;go_enter Tryz.func246,Tryz.ntmps246;go_wp2;go_ret;exact⟨by rw[HB.out];rfl,rfl⟩
  |false=>
   have HB:=Lib.hid (show jfk b s m=false by simp[jfk,hl]);have hl0:(!Op.bytesLess s.toList b.toList && !s.toList==b.toList)=false:=by
    cases h1:Op.bytesLess s.toList b.toList with
    |true=>rfl
    |false=>
     have:=(jga s b).2 (bl_total h1 hl);unfold beqB at this;rw[this];rfl
   have HL0:=Lib.hid hl0;clear hl hl0;go_enter Tryz.func246,Tryz.ntmps246;go_wp2;go_ret;exact⟨by rw[HB.out,←HL0.out];rfl,rfl⟩
 ·have hb:jfk b s m=false:=by simp[jfk,h]
  have HB:=Lib.hid hb;have h2:decide (s.size≤m)=false:=by simpa using h
  have h3:decide ((s.size:Int)≤(m:Int))=false:=by simp;omega
  clear hb;go_enter Tryz.func246,Tryz.ntmps246;go_wp2;go_ret;exact⟨by rw[HB.out];rfl,rfl⟩
theorem jc7(k:Kid)(h:kidE.wf k):(Tryz.prog.info? 40).map (·.size)=some (kidE.enc k).length:=by
 rw[kidE.len k h];kernel_rfl
theorem jjm(k:Vol)(h:volE.wf k):(Tryz.prog.info? 155).map (·.size)=some (volE.enc k).length:=by
 rw[volE.len k h];kernel_rfl
theorem kids_any(w:World)(v:Value)(xs:List Kid)(hv:Sl kidE w v xs):
 Calls Tryz.prog 204 #[v] w fun e w'=>e= .returned (.bool (jif xs))∧Below w.heap.size w w':=by
 obtain⟨A,c,rfl,hc,hc2,hrow⟩:=hv;have HR:=Lib.hid hrow;clear hrow;go_enter Tryz.func204,Tryz.ntmps204;go_wp2;go_loopw [3,5,8,10,11,12,13,14,15,16,17,18,19,20,21,22,23,24,25] (fun vb _ i _ _ _ _ _ _ _ _ _ _ _ _ _ _ _ _ wr=>∃(k:Nat) (b:ByteArray),k≤xs.length∧i= .int .i64 k∧vb= .string b∧jj6 ByteArray.empty xs=jj6 b (xs.drop k)∧Below w.heap.size w wr) (fun _ _ i _ _ _ _ _ _ _ _ _ _ _ _ _ _ _ _ _=>xs.length - (intOf i).toNat)
 case atStart=>exact⟨0,_,Nat.zero_le _,rfl,rfl,rfl,Below.refl _ _⟩
 case round=>
  obtain⟨k,bf,hk,rfl,rfl,hgo,hB⟩:=hrel;by_cases hlt:k < xs.length
  ·obtain⟨b,o,rfl,hat,hwf⟩:=HR.out k hlt;have hb:b < w.heap.size:=hat.lt (by simp[kidE]);have hatr:=hat.below hB (Nat.le_refl _);have hbr:b < wr.heap.size:=Nat.lt_of_lt_of_le hb hB.size;rw[List.drop_eq_getElem_cons hlt,jj6]at hgo;have HG:=Lib.hid (And.intro hgo hB);clear hgo hB hat;generalize xs[k]=kk at *;have HK:=jc7 kk hwf;have hl:=kidE.len kk hwf;have h1:=kidE.one kk hwf;have n0:(wr.alloc (.cells (kidE.enc kk).toArray 40)).cell? ⟨wr.heap.size,0,none⟩=some (.string kk.key):=jay 0 _ rfl;have n1:(wr.alloc (.cells (kidE.enc kk).toArray 40)).cell? ⟨wr.heap.size,1,none⟩=some (.int .u32 kk.num):=jay 1 _ rfl;have HL:=Lib.hid hl;have HW:=Lib.hid hwf;clear hl hwf;generalize kidE.enc kk=vs at *;generalize kk.key=key at *;generalize kk.num=num at *;cases hnm:jfk bf key 48 with
   |false=>
    go_wp2_with (first|((with_reducible refine jao ?_);refine jai rfl 40 (.tmp 10) rfl b (o + k * 34) rfl vs _ hatr Tryz.underlying40 rfl HK ?_)|((with_reducible refine jab ?_);refine jaa rfl 40 (.tmp 5) (.tmp 11) rfl 40 _ rfl vs rfl (by rw[HL.out];rfl) h1 HK ?_)|(go_at_call 246;refine(jcv _ _ _ 48).mono ?_;rintro e _ ⟨rfl,rfl⟩;rw[hnm])|(go_at_call 107;refine(ja7 _ _).mono ?_;rintro e _ ⟨rfl,rfl⟩;rw[hbk]));go_ret;refine⟨by rw[jif,HG.out.1,hnm];rfl,HG.out.2.alloc HG.out.2.size _⟩
   |true=>
    cases hbk:jd1 num with
    |false=>
     go_wp2_with (first|((with_reducible refine jao ?_);refine jai rfl 40 (.tmp 10) rfl b (o + k * 34) rfl vs _ hatr Tryz.underlying40 rfl HK ?_)|((with_reducible refine jab ?_);refine jaa rfl 40 (.tmp 5) (.tmp 11) rfl 40 _ rfl vs rfl (by rw[HL.out];rfl) h1 HK ?_)|(go_at_call 246;refine(jcv _ _ _ 48).mono ?_;rintro e _ ⟨rfl,rfl⟩;rw[hnm])|(go_at_call 107;refine(ja7 _ _).mono ?_;rintro e _ ⟨rfl,rfl⟩;rw[hbk]));go_ret;refine⟨by rw[jif,HG.out.1,hnm,hbk];rfl,HG.out.2.alloc HG.out.2.size _⟩
    |true=>
     go_wp2_with (first|((with_reducible refine jao ?_);refine jai rfl 40 (.tmp 10) rfl b (o + k * 34) rfl vs _ hatr Tryz.underlying40 rfl HK ?_)|((with_reducible refine jab ?_);refine jaa rfl 40 (.tmp 5) (.tmp 11) rfl 40 _ rfl vs rfl (by rw[HL.out];rfl) h1 HK ?_)|(go_at_call 246;refine(jcv _ _ _ 48).mono ?_;rintro e _ ⟨rfl,rfl⟩;rw[hnm])|(go_at_call 107;refine(ja7 _ _).mono ?_;rintro e _ ⟨rfl,rfl⟩;rw[hbk]));go_roundw
     case rel=>
      refine⟨k + 1,key,by omega,by go_num,rfl,?_,HG.out.2.alloc HG.out.2.size _⟩;rw[HG.out.1,hnm,hbk];rfl
     case measure=>simp[intOf];omega
  ·rw[List.drop_of_length_le (by omega),jj6]at hgo;have hf:jif xs=(decide (0 < xs.length) && decide (xs.length≤255)):=by rw[jif,hgo];rfl
   have HG:=Lib.hid (And.intro hf hB);clear hf hgo hB;by_cases h0:0 < xs.length
   ·have hd:decide (0 < xs.length)=true:=by simpa using h0
    have hd2:decide ((xs.length:Int)>0)=true:=by simp;omega
    have hd3:decide (0 < (xs.length:Int))=true:=by simp;omega
    go_wp2;go_ret;refine⟨by rw[HG.out.1,hd];simp;omega,HG.out.2⟩
   ·have hd:decide (0 < xs.length)=false:=by simpa using h0
    have hd2:decide ((xs.length:Int)>0)=false:=decide_eq_false (by omega);have hd3:decide (0 < (xs.length:Int))=false:=decide_eq_false (by omega);go_wp2;go_ret;refine⟨by rw[HG.out.1,hd];simp,HG.out.2⟩
def Mk(B b:Nat)(bs:List Value)(w:World):Prop:=Lib.IsBuilder 177 5 B b bs w
def MkFrame(b:Nat)(w w':World):Prop:=
 w.heap.size≤w'.heap.size∧∀(g:Nat) (cs:Array Value) (t:TypeId) (fr:Nat×Nat),g≠b→w.heap[g]? =some (.cells cs t fr)→t≠5→w'.heap[g]? =some (.cells cs t fr)
theorem MkFrame.trans{b:Nat}{w w1 w2:World}(h:MkFrame b w w1)(k:MkFrame b w1 w2):MkFrame b w w2:=
 ⟨Nat.le_trans h.1 k.1,fun g cs t fr h1 h2 h3=>k.2 g cs t fr h1 (h.2 g cs t fr h1 h2 h3) h3⟩
theorem MkFrame.of_below{b:Nat}{w w':World}(h:Below w.heap.size w w'):MkFrame b w w':=
 ⟨h.size,fun g _ _ _ _ h2 _=>by rw[h.block g (lt_of_block h2)];exact h2⟩
theorem mk_size:(Tryz.prog.info? 175).map (·.size)=some 2:=by kernel_rfl
theorem mk_lies:liesAt Tryz.prog Tryz.prog.depth 177 (2 / Tryz.prog.cellsOf 177) 0 175 1=true:=by kernel_rfl
theorem mk_cells:Tryz.prog.cellsOf 5=1:=by kernel_rfl
theorem copyCheck_used(b:Nat)(w:World)(h0:w.cell? ⟨b,0,none⟩=some (.pointer (some ⟨b,0,none⟩))):
 Calls Tryz.prog 144 #[.pointer (some ⟨b,0,none⟩)] w fun e w'=>e= .returned (.tuple #[])∧w'=w:=by
 obtain⟨j,hj,_⟩:=Option.map_eq_some_iff.1 mk_size;go_enter Tryz.func144,Tryz.ntmps144;go_wp2;rw[Lib.run_neq_ptr_same w _ Tryz.underlying173 hj];go_wp2;go_end0;exact⟨rfl,rfl⟩
theorem jli(b:Nat)(w:World)(h0:w.cell? ⟨b,0,none⟩=some (.pointer none))(hsh:w.shape? b=some (177,2))(hfz:w.frozen? ⟨b,0,none⟩=false):
 Calls Tryz.prog 144 #[.pointer (some ⟨b,0,none⟩)] w fun e w'=>e= .returned (.tuple #[])∧w'=w.setCell ⟨b,0,none⟩ (.pointer (some ⟨b,0,none⟩)):=by
 obtain⟨j,hj,hjs⟩:=Option.map_eq_some_iff.1 mk_size;go_enter Tryz.func144,Tryz.ntmps144;go_wp2;rw[Lib.run_to_unsafe w ⟨b,0,none⟩ Tryz.underlying173 Tryz.underlying307 hj (by rw[hjs];decide) hsh (Nat.zero_lt_succ 1)];simp only[Result.andThen];rw[Oper.upon_value];go_wp2;rw[run_callFunc_extern Tryz.func207 (by kernel_rfl) (by kernel_rfl) (by kernel_rfl) (e:=Extern.AbiNoEscape.same) (by kernel_rfl)];rw[Lib.run_noEscape];simp only[Result.andThen];rw[Oper.upon_value];go_wp2;rw[Lib.run_from_unsafe w ⟨b,0,none⟩ Tryz.underlying307 Tryz.underlying173 hj hsh mk_lies];simp only[Result.andThen];rw[Oper.upon_value];go_wp2;go_end0;exact⟨rfl,rfl⟩
theorem jie(B b:Nat)(bs:List Value)(w:World)(h:Mk B b bs w):
 Calls Tryz.prog 144 #[.pointer (some ⟨b,0,none⟩)] w fun e w'=>e= .returned (.tuple #[])∧(Lib.BuilderAt 177 5 B b (.pointer (some ⟨b,0,none⟩)) bs w'∧Below B w w'∧∀g,g≠b→w'.heap[g]? =w.heap[g]?):=by
 rcases h with h|h
 ·refine(jli b w h.cell0 h.shape h.frozen0).mono ?_;rintro e w' ⟨rfl,rfl⟩;exact⟨rfl,h.used _,(Below.refl B w).setCell (p:=⟨b,0,none⟩) h.1 _,fun g hg=>heap_setCell_other _ _ _ _ (by simpa using hg)⟩
 ·refine(copyCheck_used b w h.cell0).mono ?_;rintro e w' ⟨rfl,rfl⟩;exact⟨rfl,h,Below.refl B _,fun g hg=>rfl⟩
theorem At.heap{w w':World}{g o:Nat}{vs:List Value}(h:At w g o vs)(hg:w'.heap[g]? =w.heap[g]?):At w' g o vs:=by
 intro i hi;have:=h i hi;rw[←this];unfold World.cell?;simp only[hg]
theorem jgu(B b:Nat)(bs:List Value)(s:ByteArray)(w:World)(h:Mk B b bs w)(hlen:bs.length + s.size≤140737488355328)(hBw:B≤w.heap.size):
 Calls Tryz.prog 143 #[.pointer (some ⟨b,0,none⟩), .string s] w fun e w'=>e= .returned (.tuple #[.int .i64 s.size, .nilIface])∧(Mk B b (bs ++ Lib.strCells s) w'∧Below B w w'∧MkFrame b w w'):=by
 obtain⟨i0,hi,hz0,hz1,hz2⟩:=info_parts u8_info;go_enter Tryz.func143,Tryz.ntmps143;go_wp2_with (go_at_call 144;refine(jie B b bs _ h).mono ?_);rintro e w1 ⟨rfl,h1,hb1,hoth⟩;obtain⟨hB,v,hbk,hown,hne⟩:=h1;have c0:w1.cell? ⟨b,0,none⟩=some (.pointer (some ⟨b,0,none⟩)):=by rw[Lib.cell_of_heap hbk];rfl
 have c1:w1.cell? ⟨b,1,none⟩=some v:=by rw[Lib.cell_of_heap hbk];rfl
 go_wp2_with (at_builtin;refine Lib.wpList_append_own_string _ rfl _ _ 167 9 rfl B 5 i0 Tryz.underlying167 Tryz.underlying9 hi hz0 hz1 hz2 _ _ _ rfl hown s rfl ?c3 ?c4 ?c5 ?_)
 case c3=>unfold maxLen;omega
 case c4=>omega
 case c5=>have:=hb1.size;omega
 intro v' w2 hown' hgrow _;have hlt:b < w1.heap.size:=by
  rcases Nat.lt_or_ge b w1.heap.size with h'|h'
  ·exact h'
  ·simp[Array.getElem?_eq_none h']at hbk
 have hb2:w2.heap[b]? =some (.cells #[.pointer (some ⟨b,0,none⟩),v] 177 (0,0)):=by
  rw[hgrow.block b hlt (fun e=>hne e.symm)];exact hbk
 have d0:w2.cell? ⟨b,0,none⟩=some (.pointer (some ⟨b,0,none⟩)):=by rw[Lib.cell_of_heap hb2];rfl
 have d1:w2.cell? ⟨b,1,none⟩=some v:=by rw[Lib.cell_of_heap hb2];rfl
 have f1:w2.frozen? ⟨b,1,none⟩=false:=Lib.frozen_of_heap hb2 1;obtain⟨ao,n',cap,rfl⟩:∃ao n' cap,v'= .slice ao n' cap:=by
  rcases hown'.2 with⟨hv,_⟩|⟨g,cap,cur,hv,_⟩
  ·exact⟨_,_,_,hv⟩
  ·exact⟨_,_,_,hv⟩
 go_wp2;go_ret2;refine⟨rfl,?_,?_,?_⟩
 ·exact Or.inr (Lib.BuilderAt.put (T:=177) (e:=5) hB hb2 (bs':=bs ++ Lib.strCells s) (by simpa[Lib.strCells_length]using hown') (by decide))
 ·exact(hb1.grown hgrow (by have:=hb1.size;omega) (fun k hk=>(hown.lt k hk).1)).setCell (p:=⟨b,1,none⟩) hB _
 ·refine⟨Nat.le_trans hb1.size (by simpa[World.setCell]using hgrow.size),fun g' cs t fr hg' hh ht=>?_⟩;have hh1:w1.heap[g']? =some (.cells cs t fr):=by rw[hoth g' hg'];exact hh
  rw[heap_setCell_other _ _ _ _ (by simpa using hg'),hgrow.block g' (lt_of_block hh1) (fun e=>Lib.ownBlock_ne hown hh1 ht e.symm)];exact hh1
theorem write_any(B b g o c:Nat)(bs:List Value)(l:List Value)(hl1:∀u∈l,u.oneCell'=true)(w:World)(h:Mk B b bs w)(hlen:bs.length + l.length≤140737488355328)(hBw:B≤w.heap.size)(hat:At w g o l)(hgb:g≠b):
 Calls Tryz.prog 84 #[.pointer (some ⟨b,0,none⟩), .slice (some ⟨g,o,none⟩) l.length c] w fun e w'=>e= .returned (.tuple #[.int .i64 l.length, .nilIface])∧(Mk B b (bs ++ l) w'∧Below B w w'∧MkFrame b w w'):=by
 obtain⟨i0,hi,hz0,hz1,hz2⟩:=info_parts u8_info;go_enter Tryz.func84,Tryz.ntmps84;go_wp2_with (go_at_call 144;refine(jie B b bs _ h).mono ?_);rintro e w1 ⟨rfl,h1,hb1,hoth⟩;obtain⟨hB,v,hbk,hown,hne⟩:=h1;have hat1:=hat.heap (hoth g hgb);have c0:w1.cell? ⟨b,0,none⟩=some (.pointer (some ⟨b,0,none⟩)):=by rw[Lib.cell_of_heap hbk];rfl
 have c1:w1.cell? ⟨b,1,none⟩=some v:=by rw[Lib.cell_of_heap hbk];rfl
 go_wp2_with (at_builtin;refine wpList_append_own _ rfl _ _ 167 rfl B 5 i0 (.int .u8 0) 1 1 Tryz.underlying167 hi hz0 hz1 hz2 rfl (by decide) _ _ _ rfl hown ⟨g,o,none⟩ l.length c l rfl (by omega) ?c1 ?c2 ?c3 ?c4 ?c5 ?_)
 case c1=>
  intro j u hj;obtain⟨hj',rfl⟩:=List.getElem?_eq_some_iff.1 hj;rw[jcl];exact hat1 j hj'
 case c2=>exact hl1
 case c3=>unfold maxLen;omega
 case c4=>omega
 case c5=>have:=hb1.size;omega
 intro v' w2 hown' hgrow _;have hlt:b < w1.heap.size:=by
  rcases Nat.lt_or_ge b w1.heap.size with h'|h'
  ·exact h'
  ·simp[Array.getElem?_eq_none h']at hbk
 have hb2:w2.heap[b]? =some (.cells #[.pointer (some ⟨b,0,none⟩),v] 177 (0,0)):=by
  rw[hgrow.block b hlt (fun e=>hne e.symm)];exact hbk
 have d0:w2.cell? ⟨b,0,none⟩=some (.pointer (some ⟨b,0,none⟩)):=by rw[Lib.cell_of_heap hb2];rfl
 have d1:w2.cell? ⟨b,1,none⟩=some v:=by rw[Lib.cell_of_heap hb2];rfl
 have f1:w2.frozen? ⟨b,1,none⟩=false:=Lib.frozen_of_heap hb2 1;obtain⟨ao,n',cap,rfl⟩:∃ao n' cap,v'= .slice ao n' cap:=by
  rcases hown'.2 with⟨hv,_⟩|⟨g,cap,cur,hv,_⟩
  ·exact⟨_,_,_,hv⟩
  ·exact⟨_,_,_,hv⟩
 go_wp2;go_ret2;refine⟨rfl,?_,?_,?_⟩
 ·exact Or.inr (Lib.BuilderAt.put (T:=177) (e:=5) hB hb2 (bs':=bs ++ l) (by simpa using hown') (by decide))
 ·exact(hb1.grown hgrow (by have:=hb1.size;omega) (fun k hk=>(hown.lt k hk).1)).setCell (p:=⟨b,1,none⟩) hB _
 ·refine⟨Nat.le_trans hb1.size (by simpa[World.setCell]using hgrow.size),fun g' cs t fr hg' hh ht=>?_⟩;have hh1:w1.heap[g']? =some (.cells cs t fr):=by rw[hoth g' hg'];exact hh
  rw[heap_setCell_other _ _ _ _ (by simpa using hg'),hgrow.block g' (lt_of_block hh1) (fun e=>Lib.ownBlock_ne hown hh1 ht e.symm)];exact hh1
theorem mkString_any(B b:Nat)(l:List UInt8)(w:World)(h:Mk B b (Lib.byteCells l) w)(h0:l≠[]):
 Calls Tryz.prog 86 #[.pointer (some ⟨b,0,none⟩)] w fun e w'=>e= .returned (.string ⟨l.toArray⟩)∧Below B w w':=by
 obtain⟨p,hB,v,hbk,hown,hne⟩:∃p,Lib.BuilderAt 177 5 B b p (Lib.byteCells l) w:=by
  rcases h with h|h
  ·exact⟨_,h⟩
  ·exact⟨_,h⟩
 have hl0:l.length≠0:=by simpa using h0
 rw[Lib.byteCells_length]at hown;obtain⟨g,cap,cur,rfl,hbg,hg,hnc,hcm,hcs,htake⟩:∃g cap cur,v= .slice (some ⟨g,0,none⟩) l.length cap∧B≤g∧w.heap[g]? =some (.cells cur 5 (0,0))∧l.length≤cap∧cap≤maxLen∧cur.size=cap * 1∧cur.toList.take (l.length * 1)=Lib.byteCells l:=by
  rcases hown.2 with⟨_,hz⟩|⟨g,cap,cur,hv,r⟩
  ·exact absurd hz hl0
  ·exact⟨g,cap,cur,hv,r⟩
 have c1:w.drew.cell? ⟨b,1,none⟩=some (.slice (some ⟨g,0,none⟩) l.length cap):=by
  have:w.drew.heap[b]? =some (.cells #[p, .slice (some ⟨g,0,none⟩) l.length cap] 177 (0,0)):=hbk;rw[Lib.cell_of_heap this];rfl
 have hSD:(Builtin.unsafeSliceData_ #[167] 249 #[.slice (some ⟨g,0,none⟩) l.length cap]).run Tryz.prog w.drew= .ok (.pointer (some ⟨g,0,none⟩)) w.drew:=
  Lib.run_unsafeSliceData_row _ _ _ _ _ _ (by omega)
 have hUS:(Builtin.unsafeString_ #[249,3] 9 #[.pointer (some ⟨g,0,none⟩), .int .i64 l.length]).run Tryz.prog w.drew= .ok (.string ⟨l.toArray⟩) (w.drew.freeze ⟨g,0,none⟩ l.length):=by
  refine Lib.run_unsafeString_row w.drew 249 3 9 5 Tryz.underlying249 mk_cells g cur.size (by have hg':w.drew.heap[g]? =some (.cells cur 5 (0,0)):=hg;simp[World.shape?,hg']) l h0 (by omega) (by unfold maxLen at hcm;omega) ?_;intro j x hx;have:=hown.cells (g:=g) rfl j (.int .u8 x.toNat) (by simp[Lib.byteCells,hx]);exact this
 have mixed:Tryz.prog.follows Departure.mixedOrders=true:=by kernel_rfl
 go_enter Tryz.func86,Tryz.ntmps86;go_wp2;go_region_o;all_goals(go_wp2;go_ret;exact⟨rfl,Lib.below_freeze (Below.drew (Below.refl B w)) (p:=⟨g,0,none⟩) hbg _⟩)
def MkL(B b:Nat)(l:List UInt8)(w:World):Prop:=Mk B b (Lib.byteCells l) w
theorem grown_of_below{w w':World}(hb:Below w.heap.size w w'):w.grownBy w' none:=
 ⟨hb.os,hb.tape,hb.output,hb.size,fun k hk _=>hb.block k hk⟩
theorem Mk.below{B b:Nat}{bs:List Value}{w w':World}(h:Mk B b bs w)(hb:Below w.heap.size w w'):Mk B b bs w':=by
 have key:∀p,Lib.BuilderAt 177 5 B b p bs w→Lib.BuilderAt 177 5 B b p bs w':=by
  rintro p ⟨hB,v,h1,h2,h3⟩;refine⟨hB,v,?_,h2.kept (grown_of_below hb) ?_,h3⟩
  ·rw[hb.block b (lt_of_block h1)];exact h1
  ·cases hv:v.ownBlock with
   |none=>exact Or.inl rfl
   |some k=>exact Or.inr (by simp)
 rcases h with h|h
 ·exact Or.inl (key _ h)
 ·exact Or.inr (key _ h)
theorem Mk.lt{B b:Nat}{bs:List Value}{w:World}(h:Mk B b bs w):b < w.heap.size∧B≤b:=by
 rcases h with h|h <;>exact⟨h.lt,h.1⟩
def numU(n:Int)(k:Nat):List UInt8:=(numB n k).data.toList
theorem jc8(B b:Nat)(l:List UInt8)(n:Int)(k:Nat)(w:World)(h:MkL B b l w)(hlen:l.length≤1048576)(hBw:B≤w.heap.size)(h0:0≤n)(h1:n≤18446744073709551615)(hk:1≤k)(hk8:k≤8)(hfit:Lib.bitLen n.toNat≤8 * k):
 Calls Tryz.prog 82 #[.pointer (some ⟨b,0,none⟩), .int .u64 n, .int .i64 k] w fun e w'=>e= .returned (.tuple #[])∧MkL B b (l ++ numU n k) w'∧Below B w w'∧MkFrame b w w':=by
 have hsz:(numB n k).size=k:=by unfold numB;rw[strOfNums_size,jc0]
 have HSZ:=Lib.hid hsz;have HM:=Lib.hid h;clear hsz h;go_enter Tryz.func82,Tryz.ntmps82;go_wp2_with (go_at_call 142;refine(jhd _ n k h0 h1 hk hk8 hfit).mono ?_;rintro e w1 ⟨rfl,hb1⟩;have HB1:=Lib.hid hb1;clear hb1);go_at_call 143;refine(jgu B b (Lib.byteCells l) (numB n k) w1 (Mk.below HM.out HB1.out) (by rw[Lib.byteCells_length,HSZ.out];omega) (Nat.le_trans hBw HB1.out.size)).mono ?_;rintro e w2 ⟨rfl,hm,hb2,hf2⟩;go_wp2;go_end0;refine⟨rfl,?_,(HB1.out.mono hBw).trans hb2,(MkFrame.of_below HB1.out).trans hf2⟩;unfold MkL numU;rw[Lib.byteCells_append,←Lib.strCells_eq];exact hm
def textU(s:ByteArray):List UInt8:=numU s.size 1 ++ s.data.toList
theorem jj9:∀f x,Lib.bitLenAux f x≤f
 |0,_=>by simp[Lib.bitLenAux]
 |f + 1,x=>by
  unfold Lib.bitLenAux;have:=jj9 f (x / 2);split <;>omega
theorem jdf{n:Nat}(k:Nat)(hk:k≤64)(h:n < 2 ^ k):Lib.bitLen n≤k:=by
 unfold Lib.bitLen;rw[Lib.bitLenAux_fuel k n h 64 hk];exact jj9 k n
theorem jjn{n:Nat}(h:n≤255):Lib.bitLen n≤8 * 1:=jdf 8 (by omega) (by omega)
theorem jft(B b:Nat)(l:List UInt8)(s:ByteArray)(w:World)(h:MkL B b l w)(hlen:l.length≤1000000)(hBw:B≤w.heap.size)(hs:s.size≤255):
 Calls Tryz.prog 83 #[.pointer (some ⟨b,0,none⟩), .string s] w fun e w'=>e= .returned (.tuple #[])∧MkL B b (l ++ textU s) w'∧Below B w w'∧MkFrame b w w':=by
 have HM:=Lib.hid h;clear h;go_enter Tryz.func83,Tryz.ntmps83;go_wp2_with (go_at_call 82;refine(jc8 B b l s.size 1 w HM.out (by omega) hBw (by omega) (by omega) (by omega) (by omega) (by simpa using jjn hs)).mono ?_;rintro e w1 ⟨rfl,hm1,hb1,hf1⟩;have HB1:=Lib.hid hb1;have HM1:=Lib.hid hm1;have HF1:=Lib.hid hf1;clear hb1 hm1 hf1);go_at_call 143;refine(jgu B b (Lib.byteCells (l ++ numU s.size 1)) s w1 HM1.out (by rw[Lib.byteCells_length];unfold numU numB;simp[strOfNums_size,jc0,List.length_append];omega) (Nat.le_trans hBw HB1.out.size)).mono ?_;rintro e w2 ⟨rfl,hm,hb2,hf2⟩;go_wp2;go_end0;refine⟨rfl,?_,HB1.out.trans hb2,HF1.out.trans hf2⟩;unfold MkL textU;rw[←List.append_assoc,Lib.byteCells_append,←Lib.strCells_eq];exact hm
def padTo(k:Nat)(l:List UInt8):List UInt8:=l ++ List.replicate (k - l.length) 0
def jcw(l:List UInt8):List UInt8:=Lib.trimRightB ((numB (crcOf (padTo 508 l)) 4).data.toList ++ padTo 508 l) 0
theorem wrap_u32_range(x:Int):0≤IntKind.u32.wrap x∧IntKind.u32.wrap x≤4294967295:=by
 rw[IntKind.wrap_u32];omega
theorem jii(x:Int):0≤jlu x∧jlu x≤4294967295:=by
 unfold jlu bits;exact wrap_u32_range _
theorem crcOf_range(l:List UInt8):0≤crcOf l∧crcOf l≤4294967295:=by
 have h:∀k s,(0≤s∧s≤4294967295)→0≤jcp k s∧jcp k s≤4294967295:=by
  intro k;induction k with
  |zero=>intro s hs;exact hs
  |succ k ih=>intro s _;exact ih _ (jii s)
 have h8:∀s,0≤jcp 8 s∧jcp 8 s≤4294967295:=by
  intro s;rw[jcp];exact h 7 _ (jii s)
 rcases List.eq_nil_or_concat l with rfl|⟨r,b,rfl⟩
 ·exact⟨by decide,by decide⟩
 ·rw[List.concat_eq_append,crcOf_snoc];exact h8 _
theorem je7:∀k:Nat,Lib.repeatL [0] k=List.replicate k (0:UInt8)
 |0=>rfl
 |k + 1=>by rw[Lib.repeatL,je7 k,List.replicate_succ];rfl
theorem whole_any(w:World)(s:ByteArray)(hs:s.size≤508):
 Calls Tryz.prog 85 #[.string s] w fun e w'=>e= .returned (.string ⟨(jcw s.data.toList).toArray⟩)∧Below w.heap.size w w':=by
 have hi:IntKind.i64.wrap (508 - (s.size:Int))=((508 - s.size:Nat):Int):=by rw[IntKind.wrap_i64];omega
 have hi2:(508 - (s.size:Int))=((508 - s.size:Nat):Int):=by omega
 obtain⟨p,hp⟩:∃p:ByteArray,p=s ++ ⟨(Lib.repeatL (⟨#[0]⟩:ByteArray).data.toList (508 - s.size)).toArray⟩:=⟨_,rfl⟩
 have hpd:p.data.toList=padTo 508 s.data.toList:=by
  rw[hp];unfold padTo;rw[←je7];simp
 have hps:p.size=508:=by
  have:=congrArg List.length hpd;unfold padTo at this;simp at this;omega
 have HP:=Lib.hid (And.intro hp (And.intro hpd hps));clear hp hpd;have hrl:(Lib.repeatL [0] (508 - s.size)).length=508 - s.size:=by rw[je7,List.length_replicate]
 have hc:=crcOf_range p.data.toList;generalize hcc:crcOf p.data.toList=cc at *;have HC:=Lib.hid hcc;clear hcc;obtain⟨hc0,hc1⟩:=hc;have hfit:Lib.bitLen cc.toNat≤8 * 4:=jdf 32 (by omega) (by omega);have HF:=Lib.hid hfit;clear hfit;have hn4:(numB cc 4).size=4:=by unfold numB;rw[strOfNums_size,jc0]
 go_enter Tryz.func85,Tryz.ntmps85;go_wp2_with (first|(go_at_call 145;refine(Tryz.strings_Repeat ⟨#[0]⟩ (508 - s.size) _ (by omega) (by rw[show(⟨#[0]⟩:ByteArray).size=1 from rfl];omega)).mono ?_;rintro e w1 ⟨rfl,hb1⟩)|(go_at_call 146;refine(sum_any _ _ (by rw[←HP.out.1,HP.out.2.2];omega)).mono ?_;rintro e w2 ⟨rfl,hb2⟩;rw[←HP.out.1,HC.out])|(go_at_call 142;refine(jhd _ cc 4 hc0 (by omega) (by omega) (by omega) HF.out).mono ?_;rintro e w3 ⟨rfl,hb3⟩)|(go_at_call 137;refine(jim _ _ (by simp[hn4,hps])).mono ?_;rintro e _ ⟨rfl,rfl⟩));go_ret;refine⟨?_,Below.step hb1 (Below.step hb2 hb3)⟩;unfold jcw;rw[←HP.out.2.1,HC.out];simp
end Go.Proofs.YtpaohkkhejpgjaaGreatDoor
