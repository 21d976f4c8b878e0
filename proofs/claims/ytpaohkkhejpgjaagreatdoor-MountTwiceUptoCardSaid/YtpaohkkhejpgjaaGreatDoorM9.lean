/- Texts of the proof: N10 Hp So Hb St Sf Si Fr. -/
import Derived.Test.YtpaohkkhejpgjaaGreatDoorM5
import Derived.Test.YtpaohkkhejpgjaaGreatDoorM6
set_option linter.all false
set_option maxRecDepth 100000
set_option maxHeartbeats 8000000
namespace Go.Proofs.YtpaohkkhejpgjaaGreatDoor
open Go Go.RowKit
def jbk(n:Node):List Int:=
 if n.kind=2 then n.kids.map (·.num)else if n.kind=3 then(n.vols.filter (fun v=>v.root !=0)).map (·.root)else[]
theorem u32_info:(Tryz.prog.info? 22).map (fun i=>(i.zero,i.size,i.bytes))=some (some (.int .u32 0),1,4):=by kernel_rfl
theorem u32_flat(l:List Int):l.flatMap u32E.enc=l.map (Value.int .u32):=by
 induction l with
 |nil=>rfl
 |cons x l ih=>simp[u32E,List.flatMap_cons]at ih ⊢;exact ih
theorem u32_sl{base n:Nat}{w:World}{v:Value}{l:List Int}(h:w.ownsRow base 22 1 v n (l.map (Value.int .u32)))(hn:n=l.length)(hw:∀x∈l,u32Ok x):Sl u32E w v l:=
 jct (E:=u32E) (by rw[u32_flat];exact h) hn hw
theorem jj8(w:World)(v:Value)(n:Node)(hv:NodeV w v n)(hl:n.kids.length≤100000∧n.vols.length≤100000):
 Calls Tryz.prog 125 #[v] w fun e w'=>∃r,e= .returned r∧(Sl u32E w' r (jbk n)∧w'.ownsRow w.heap.size 22 1 r (jbk n).length ((jbk n).map (Value.int .u32)))∧Below w.heap.size w w':=by
 obtain⟨i0,hi,hz0,hz1,hz2⟩:=info_parts u32_info;obtain⟨va,vb,vc,rfl,ha,hb0,hc0,hk0,hk1⟩:=hv;obtain⟨A,ca,rfl,ha1,ha2,hra⟩:=ha;obtain⟨B,cb,rfl,hb1,hb2,hrb⟩:=hb0;obtain⟨C,cc,rfl,hc1,hc2,hrc⟩:=hc0;have HR:=Lib.hid (And.intro hra (And.intro hrb hrc));have HB:=Lib.hid ((Below.refl w.heap.size w).alloc (Nat.le_refl _) (.cells #[.int .u8 n.kind, .slice A n.items.length ca, .slice B n.kids.length cb, .slice C n.vols.length cc] 59));obtain⟨hl1,hl2⟩:=hl;clear hra hrb hrc;by_cases h2:n.kind=2
 ·have HS:=Lib.hid (show jbk n=n.kids.map (·.num) by simp[jbk,h2]);have hd2:(n.kind==2)=true:=by simp[h2]
  generalize n.kind=kd at *;subst h2;go_enter Tryz.func125,Tryz.ntmps125;go_wp2;go_loopw [3,5,15,16,17,18,19,20,21,22,23,24] (fun s _ i _ _ _ _ _ _ _ _ _ wr=>∃k:Nat,k≤n.kids.length∧i= .int .i64 k∧wr.ownsRow w.heap.size 22 1 s k ((n.kids.take k).map fun x=>Value.int .u32 x.num)∧Below w.heap.size w wr) (fun _ _ i _ _ _ _ _ _ _ _ _ _=>n.kids.length - (intOf i).toNat)
  case atStart=>exact⟨0,Nat.zero_le _,rfl,⟨rfl,Or.inl ⟨rfl,rfl⟩⟩,HB.out⟩
  case round=>
   obtain⟨k,hk,rfl,hown,hB⟩:=hrel;by_cases hlt:k < n.kids.length
   ·obtain⟨b,o,rfl,hat,hwf⟩:=HR.out.2.1 k hlt;have hb:b < w.heap.size:=hat.lt (by simp[kidE]);have hatr:=hat.below hB (Nat.le_refl _);have hbr:b < wr.heap.size:=Nat.lt_of_lt_of_le hb hB.size;have htk:(n.kids.take (k + 1)).map (fun x=>Value.int .u32 x.num)=(n.kids.take k).map (fun x=>Value.int .u32 x.num) ++ [.int .u32 n.kids[k].num]:=by
     rw[List.take_succ_eq_append_getElem hlt,List.map_append];rfl
    have HG:=Lib.hid (And.intro htk hB);have hbs:=hB.size;clear hB hat htk;generalize n.kids[k]=kk at *;have HK:=jc7 kk hwf;have hl:=kidE.len kk hwf;have h1':=kidE.one kk hwf;have n1:(wr.alloc (.cells (kidE.enc kk).toArray 40)).cell? ⟨wr.heap.size,1,none⟩=some (.int .u32 kk.num):=jay 1 _ rfl;have HL:=Lib.hid hl;have HW:=Lib.hid hwf;clear hl hwf;generalize kidE.enc kk=vs at *;generalize kk.num=num at *;generalize hzs:(n.kids.take k).map (fun x=>Value.int .u32 x.num)=zs at *;clear hzs;go_wp2_with (first|((with_reducible refine jao ?_);refine jai rfl 40 (.tmp 17) rfl b (o + k * 34) rfl vs _ hatr Tryz.underlying40 rfl HK ?_)|((with_reducible refine jab ?_);refine jaa rfl 40 (.tmp 5) (.tmp 18) rfl 40 _ rfl vs rfl (by rw[HL.out];rfl) h1' HK ?_)|(at_builtin;refine wpList_append_own _ rfl (.tmp 19) (.tmp 22) 224 rfl w.heap.size 22 i0 (.int .u32 0) 1 4 Tryz.underlying224 hi hz0 hz1 hz2 rfl (by decide) _ _ _ rfl ((hown.alloc _).alloc _) ⟨wr.heap.size + 1,0,none⟩ 1 1 [.int .u32 num] rfl rfl ?c1 ?c2 ?c3 ?c4 ?c5 ?_))
    case c1=>intro j u hj;rw[jcl,Nat.zero_add];have:=jay (w:=wr.alloc (.cells vs.toArray 40)) (vs:=[.int .u32 num]) (t:=22) j u hj;simpa using this
    case c2=>intro u hu;simp at hu;subst hu;rfl
    case c3=>unfold maxLen;omega
    case c4=>omega
    case c5=>simp;omega
    intro v' w2 hown' hgrow _;go_wp2;refine⟨⟨k + 1,by omega,by go_num,?_,?_⟩,by simp[intOf];omega⟩
    ·rw[HG.out.1];exact hown'
    ·exact((HG.out.2.alloc hbs _).alloc (by simp;omega) _).grown hgrow (by simp;omega) (fun q hq=>(hown.lt q hq).1)
   ·obtain rfl:k=n.kids.length:=by omega
    rw[List.take_length]at hown;have HG:=Lib.hid (And.intro hown hB);clear hown hB;go_wp2;go_ret;refine⟨_,rfl,?_,HG.out.2⟩;rw[HS.out];refine⟨u32_sl (by rw[List.map_map];exact HG.out.1) (by simp) (by
     intro x hx;obtain⟨q,hq,rfl⟩:=List.mem_map.1 hx;exact(HR.out.2.1.wf q hq).2.1),?_⟩
    rw[List.length_map,List.map_map];exact HG.out.1
 ·by_cases h3:n.kind=3
  ·have HS:=Lib.hid (show jbk n=(n.vols.filter (fun v=>v.root !=0)).map (·.root) by simp[jbk,h3]);have hd2:(n.kind==2)=false:=by simp[h3]
   have hd3:(n.kind==3)=true:=by simp[h3]
   generalize n.kind=kd at *;subst h3;go_enter Tryz.func125,Tryz.ntmps125;go_wp2;go_loopw [3,7,30,31,32,33,34,35,36,37,38,39,40,41,42] (fun s _ i _ _ _ _ _ _ _ _ _ _ _ _ wr=>∃k m:Nat,k≤n.vols.length∧m≤k∧i= .int .i64 k∧wr.ownsRow w.heap.size 22 1 s m (((n.vols.take k).filter (fun v=>v.root !=0)).map fun x=>Value.int .u32 x.root)∧Below w.heap.size w wr) (fun _ _ i _ _ _ _ _ _ _ _ _ _ _ _ _=>n.vols.length - (intOf i).toNat)
   case atStart=>exact⟨0,0,Nat.zero_le _,Nat.le_refl _,rfl,⟨rfl,Or.inl ⟨rfl,rfl⟩⟩,HB.out⟩
   case round=>
    obtain⟨k,m,hk,hmk,rfl,hown,hB⟩:=hrel;by_cases hlt:k < n.vols.length
    ·obtain⟨b,o,rfl,hat,hwf⟩:=HR.out.2.2 k hlt;have hb:b < w.heap.size:=hat.lt (by simp[volE]);have hatr:=hat.below hB (Nat.le_refl _);have hbr:b < wr.heap.size:=Nat.lt_of_lt_of_le hb hB.size;have htk:((n.vols.take (k + 1)).filter (fun v=>v.root !=0)).map (fun x=>Value.int .u32 x.root)=((n.vols.take k).filter (fun v=>v.root !=0)).map (fun x=>Value.int .u32 x.root) ++ (if n.vols[k].root=0 then[]else[.int .u32 n.vols[k].root]):=by
      rw[List.take_succ_eq_append_getElem hlt,List.filter_append,List.map_append];congr 1
      by_cases h0:n.vols[k].root=0 <;>simp[h0]
     have HG:=Lib.hid (And.intro htk hB);have hbs:=hB.size;clear hB hat htk;generalize n.vols[k]=kk at *;have HK:=jjm kk hwf;have hl:=volE.len kk hwf;have h1':=volE.one kk hwf;have n4:(wr.alloc (.cells (volE.enc kk).toArray 155)).cell? ⟨wr.heap.size,4,none⟩=some (.int .u32 kk.root):=jay 4 _ rfl;have HL:=Lib.hid hl;have HW:=Lib.hid hwf;clear hl hwf;generalize volE.enc kk=vs at *;generalize kk.root=num at *;generalize hzs:((n.vols.take k).filter (fun v=>v.root !=0)).map (fun x=>Value.int .u32 x.root)=zs at *;clear hzs;by_cases h0:num=0
     ·have h0b:(num !=0)=false:=by simp[h0]
      have HZ:=Lib.hid h0;clear h0;go_wp2_with (first|((with_reducible refine jao ?_);refine jai rfl 155 (.tmp 32) rfl b (o + k * 37) rfl vs _ hatr Tryz.underlying155 rfl HK ?_)|((with_reducible refine jab ?_);refine jaa rfl 155 (.tmp 7) (.tmp 33) rfl 155 _ rfl vs rfl (by rw[HL.out];rfl) h1' HK ?_));refine⟨⟨k + 1,m,by omega,by omega,by go_num,?_,HG.out.2.alloc hbs _⟩,by simp[intOf];omega⟩;rw[HG.out.1,if_pos HZ.out,List.append_nil];exact hown.alloc _
     ·have h0b:(num !=0)=true:=by simp[h0]
      have HZ:=Lib.hid h0;clear h0;go_wp2_with (first|((with_reducible refine jao ?_);refine jai rfl 155 (.tmp 32) rfl b (o + k * 37) rfl vs _ hatr Tryz.underlying155 rfl HK ?_)|((with_reducible refine jab ?_);refine jaa rfl 155 (.tmp 7) (.tmp 33) rfl 155 _ rfl vs rfl (by rw[HL.out];rfl) h1' HK ?_)|(at_builtin;refine wpList_append_own _ rfl (.tmp 37) (.tmp 40) 224 rfl w.heap.size 22 i0 (.int .u32 0) 1 4 Tryz.underlying224 hi hz0 hz1 hz2 rfl (by decide) _ _ _ rfl ((hown.alloc _).alloc _) ⟨wr.heap.size + 1,0,none⟩ 1 1 [.int .u32 num] rfl rfl ?c1 ?c2 ?c3 ?c4 ?c5 ?_))
      case c1=>intro j u hj;rw[jcl,Nat.zero_add];have:=jay (w:=wr.alloc (.cells vs.toArray 155)) (vs:=[.int .u32 num]) (t:=22) j u hj;simpa using this
      case c2=>intro u hu;simp at hu;subst hu;rfl
      case c3=>unfold maxLen;omega
      case c4=>omega
      case c5=>simp;omega
      intro v' w2 hown' hgrow _;go_wp2;refine⟨⟨k + 1,m + 1,by omega,by omega,by go_num,?_,?_⟩,by simp[intOf];omega⟩
      ·rw[HG.out.1,if_neg HZ.out];exact hown'
      ·exact((HG.out.2.alloc hbs _).alloc (by simp;omega) _).grown hgrow (by simp;omega) (fun q hq=>(hown.lt q hq).1)
    ·obtain rfl:k=n.vols.length:=by omega
     rw[List.take_length]at hown;have HG:=Lib.hid (And.intro hown hB);clear hown hB;go_wp2;go_ret;refine⟨_,rfl,?_,HG.out.2⟩;rw[HS.out];have hlen:=HG.out.1.1;simp only[List.length_map,Nat.mul_one]at hlen;refine⟨u32_sl (by rw[List.map_map];exact HG.out.1) (by simpa using hlen.symm) (by
      intro x hx;obtain⟨q,hq,rfl⟩:=List.mem_map.1 hx;exact(HR.out.2.2.wf q (List.mem_filter.1 hq).1).2.2.2.2.1),?_⟩
     rw[List.length_map,List.map_map,hlen];exact HG.out.1
  ·have HS:=Lib.hid (show jbk n=[] by simp[jbk,h2,h3]);have hd2:(n.kind==2)=false:=by simp[h2]
   have hd3:(n.kind==3)=false:=by simp[h3]
   generalize n.kind=kd at *;go_enter Tryz.func125,Tryz.ntmps125;go_wp2;go_ret;exact⟨_,rfl,by rw[HS.out];exact⟨Sl.nil _,⟨rfl,Or.inl ⟨rfl,rfl⟩⟩⟩,HB.out⟩
def cmpI(a b:Int):Int:=if a < b then -1 else if b < a then 1 else 0
theorem jji(w:World)(a b:Int):
 Calls Tryz.prog 112 #[.int .u32 a, .int .u32 b] w fun e w'=>e= .returned (.int .i64 (cmpI a b))∧w=w':=by
 by_cases h1:a < b
 ·have HC:=Lib.hid (show cmpI a b= -1 by simp[cmpI,h1]);go_enter Tryz.func112,Tryz.ntmps112;go_wp2;go_ret;exact⟨by rw[HC.out];rfl,rfl⟩
 ·by_cases h2:b < a
  ·have HC:=Lib.hid (show cmpI a b=1 by simp[cmpI,h1,h2]);go_enter Tryz.func112,Tryz.ntmps112;go_wp2;go_ret;exact⟨by rw[HC.out];rfl,rfl⟩
  ·have HC:=Lib.hid (show cmpI a b=0 by simp[cmpI,h1,h2]);go_enter Tryz.func112,Tryz.ntmps112;go_wp2;go_ret;exact⟨by rw[HC.out];rfl,rfl⟩
def jbp(xs:List Int)(x:Int):Nat:=(xs.filter (· ==x)).length
def NoRow(cs:Array Value):Prop:=∀(i:Nat) (s:ByteArray) (v:Value),cs[i]? =some (.string s)→cs[i + 1]? =some v→(∀s',v≠ .string s')∧(∀n,v≠ .int .u32 n)∧(∀n,v≠ .int .u8 n)
def Soft(w w':World):Prop:=
 w.heap.size≤w'.heap.size∧∀b,b < w.heap.size→w'.heap[b]? =w.heap[b]? ∨∃cs t fr,w.heap[b]? =some (.cells cs t fr)∧NoRow cs
theorem Soft.of_below{w w':World}(h:Below w.heap.size w w'):Soft w w':=⟨h.size,fun b hb=>Or.inl (h.block b hb)⟩
theorem Soft.of_grown{w w':World}{g:Nat}{cs:Array Value}{t:TypeId}{fr:Nat×Nat}(h:w.grownBy w' (some g))(hg:w.heap[g]? =some (.cells cs t fr))(hn:NoRow cs):Soft w w':=by
 refine⟨h.size,fun b hb=>?_⟩;by_cases e:b=g
 ·subst e;exact Or.inr ⟨cs,t,fr,hg,hn⟩
 ·exact Or.inl (h.block b hb (by simpa using e))
def Opens{α:Type}(E:Enc α):Prop:=∀x,∃s v,(E.enc x)[0]? =some (.string s)∧(E.enc x)[1]? =some v∧((∃s',v= .string s')∨(∃n,v= .int .u32 n)∨(∃n,v= .int .u8 n))
theorem jju:Opens itemE:=fun x=>⟨x.key, .string x.val,rfl,rfl,Or.inl ⟨_,rfl⟩⟩
theorem jip:Opens kidE:=fun x=>⟨x.key, .int .u32 x.num,rfl,rfl,Or.inr (Or.inl ⟨_,rfl⟩)⟩
theorem jlw:Opens volE:=fun x=>⟨x.name, .int .u8 x.kind,rfl,rfl,Or.inr (Or.inr ⟨_,rfl⟩)⟩
theorem Row.soft{α:Type}{E:Enc α}(hE:Opens E){w w':World}{A:Option Addr}{xs:List α}(h:Row E w A xs)(hs:Soft w w'):Row E w' A xs:=by
 intro k hk;obtain⟨b,o,e,hat,hwf⟩:=h k hk;refine⟨b,o,e,?_,hwf⟩;obtain⟨s,v,h0,h1,hv⟩:=hE xs[k];have c0:=hat.cell 0 _ h0;have c1:=hat.cell 1 _ h1;have hb:b < w.heap.size:=block_lt_of_cell c0;rcases hs.2 b hb with hq|⟨cs,t,fr,hq,hn⟩
 ·exact hat.heap hq
 ·exfalso;rw[cell_of_row _ _ _ _ _ _ hq]at c0 c1;obtain⟨n1,n2,n3⟩:=hn _ s v c0 (by rw[←c1]);rcases hv with⟨q,rfl⟩|⟨q,rfl⟩|⟨q,rfl⟩
  ·exact n1 q rfl
  ·exact n2 q rfl
  ·exact n3 q rfl
theorem Sl.soft{α:Type}{E:Enc α}(hE:Opens E){w w':World}{v:Value}{xs:List α}(h:Sl E w v xs)(hs:Soft w w'):Sl E w' v xs:=by
 obtain⟨A,c,e,h1,h2,h3⟩:=h;exact⟨A,c,e,h1,h2,h3.soft hE hs⟩
/-! A cell of the heap at work. -/
structure CC where
 num:Int
 data:ByteArray
 refs:Int
 node:Node
 hash:List Int
 led:Int
def ccRow(c:CC)(vi vk vv:Value):List Value:=
 [.int .u32 c.num, .string c.data, .int .i64 c.refs, .int .u8 c.node.kind,vi,vk,vv] ++ hashV c.hash ++ [.int .i64 c.led]
theorem ccRow_noRow(c:CC)(vi vk vv:Value)(hi:∃a n k,vi= .slice a n k)(hk:∃a n k,vk= .slice a n k)(hv:∃a n k,vv= .slice a n k):NoRow (ccRow c vi vk vv).toArray:=by
 obtain⟨_,_,_,rfl⟩:=hi;obtain⟨_,_,_,rfl⟩:=hk;obtain⟨_,_,_,rfl⟩:=hv;intro i s v h0 h1;rw[List.getElem?_toArray]at h0 h1
 match i with
 |0=>simp[ccRow]at h0
 |1=>
  simp[ccRow]at h1;subst h1;exact⟨by simp,by simp,by simp⟩
 |2=>simp[ccRow]at h0
 |3=>simp[ccRow]at h0
 |4=>simp[ccRow]at h0
 |5=>simp[ccRow]at h0
 |6=>simp[ccRow]at h0
 |i + 7=>
  exfalso;unfold ccRow at h0;rw[List.append_assoc,List.getElem?_append_right (by simp)]at h0;have hm:=List.mem_of_getElem? h0;rcases List.mem_append.1 hm with hm|hm
  ·simp[hashV]at hm
  ·simp at hm
theorem jia(a b:Int):(decide (cmpI a b < 0))=decide (a < b):=by
 unfold cmpI;by_cases h:a < b
 ·simp[h]
 ·by_cases k:b < a <;>simp[h,k]
theorem jla(a b:Int):(cmpI a b==0)=(a==b):=by
 unfold cmpI;by_cases h:a < b
 ·have:¬a=b:=by omega
  simp[h,this]
 ·by_cases k:b < a
  ·have:¬a=b:=by omega
   simp[h,k,this]
  ·have:a=b:=by omega
   simp[this]
def ptrE:Enc Nat where
 sz:=1
 enc q:=[.pointer (some ⟨q,0,none⟩)]
 wf _:=True
 len _ _:=rfl
 one x _ u hu:=by simp at hu;subst hu;rfl
 pos:=by decide
def ja5(ns:List Int)(t:Int):Nat:=posOf (fun n=>decide (n < t)) ns
def jba(ns:List Int)(t:Int):Bool:=hasAt (fun n=>n==t) ns (ja5 ns t)
def jdk(ns:List Int):Prop:=∀i j (hi:i < ns.length) (hj:j < ns.length),i < j→ns[i] < ns[j]
theorem jea{ns:List Int}(h:jdk ns)(t:Int)(i j:Nat)(hi:i < ns.length)(hj:j < ns.length)(hij:i≤j)(hl:ns[j] < t):ns[i] < t:=by
 rcases Nat.lt_or_eq_of_le hij with hlt|heq
 ·have:=h i j hi hj hlt;omega
 ·subst heq;exact hl
theorem jlb(w:World)(q:Nat)(n t:Int)(hc:w.cell? ⟨q,0,none⟩=some (.int .u32 n)):
 Calls Tryz.prog 182 #[.pointer (some ⟨q,0,none⟩), .int .u32 t] w fun e w'=>e= .returned (.int .i64 (cmpI n t))∧w=w':=by
 go_enter Tryz.func182,Tryz.ntmps182;go_wp2_with (go_at_call 112;refine(jji _ _ _).mono ?_;rintro e _ ⟨rfl,rfl⟩);go_ret;exact⟨rfl,rfl⟩
theorem bsCell_any(w:World)(v:Value)(ps:List Nat)(ns:List Int)(t:Int)(hv:Sl ptrE w v ps)(hlen:ns.length=ps.length)(hcs:∀k (h:k < ps.length) (h':k < ns.length),w.cell? ⟨ps[k],0,none⟩=some (.int .u32 ns[k]))(hso:jdk ns)(hmax:ps.length≤4398046511104):
 Calls Tryz.prog 181 #[v, .int .u32 t, .func (.func 182) #[] #[]] w fun e w'=>e= .returned (.tuple #[.int .i64 (ja5 ns t), .bool (jba ns t)])∧w'=w:=by
 obtain⟨A,c,rfl,hc,hc2,hrow⟩:=hv;have HR:=Lib.hid (And.intro hrow hcs);have HS:=Lib.hid hso;clear hrow hso hcs;go_enter Tryz.func181,Tryz.ntmps181;go_wp2;go_loopw [9,10,11] (fun vi vj _ wr=>∃i j:Nat,i≤j∧j≤ps.length∧vi= .int .i64 i∧vj= .int .i64 j∧(∀k (h:k < ns.length),k < i→ns[k] < t)∧(∀k (h:k < ns.length),j≤k→¬ns[k] < t)∧wr=w) (fun vi vj _ _=>(intOf vj).toNat - (intOf vi).toNat)
 case atStart=>exact⟨0,ps.length,Nat.zero_le _,Nat.le_refl _,rfl,rfl,fun k _ h=>by omega,fun k h h'=>by omega,rfl⟩
 case round=>
  obtain⟨i,j,hij,hj,rfl,rfl,hlo,hhi,rfl⟩:=hrel;by_cases hlt:i < j
  ·have hm:(i + j) / 2 < ps.length:=by omega
   have hmn:(i + j) / 2 < ns.length:=by omega
   obtain⟨b,o,rfl,hat,_⟩:=HR.out.1 ((i + j) / 2) hm;have d0:wr.cell? ⟨b,o + (i + j) / 2,none⟩=some (.pointer (some ⟨ps[(i + j) / 2],0,none⟩)):=by have:=hat.cell 0 _ rfl;simpa[ptrE]using this
   have hbr:b < wr.heap.size:=block_lt_of_cell d0;have e0:=HR.out.2 ((i + j) / 2) hm hmn;have HL:=Lib.hid (And.intro hlo hhi);clear hlo hhi hat;have HM:=Lib.hid (show(ns[(i + j) / 2] < t→∀k (h:k < ns.length),k < (i + j) / 2 + 1→ns[k] < t)∧(¬ns[(i + j) / 2] < t→∀k (h:k < ns.length),(i + j) / 2≤k→¬ns[k] < t)from
    ⟨fun hl k hk hki=>jea HS.out t k ((i + j) / 2) hk hmn (by omega) hl,fun hl k hk hki hh=>hl (jea HS.out t ((i + j) / 2) k hmn hk hki hh)⟩)
   generalize ns[(i + j) / 2]=nn at *;generalize ps[(i + j) / 2]=pp at *;have hn:=jia nn t;by_cases hbl:nn < t
   ·rw[decide_eq_true hbl]at hn;have HBL:=Lib.hid (HM.out.1 hbl);clear hbl HM;go_wp2_with (go_at_call 182;refine(jlb _ pp nn t e0).mono ?_;rintro e _ ⟨rfl,rfl⟩);refine⟨⟨(i + j) / 2 + 1,j,by omega,hj,by go_num,rfl,HBL.out,(fun k h h'=>by have:=HL.out.2 k h h';omega),trivial⟩,?_⟩;simp[intOf];omega
   ·rw[decide_eq_false hbl]at hn;have HBL:=Lib.hid (HM.out.2 hbl);clear hbl HM;go_wp2_with (go_at_call 182;refine(jlb _ pp nn t e0).mono ?_;rintro e _ ⟨rfl,rfl⟩);refine⟨⟨i,(i + j) / 2,by omega,by omega,rfl,by go_num,HL.out.1,(fun k h h'=>by have:=HBL.out k h h';omega),trivial⟩,?_⟩;simp[intOf];omega
  ·obtain rfl:i=j:=by omega
   have hpos:ja5 ns t=i:=jd0 _ ns i (by omega) (fun k h h'=>decide_eq_true (hlo k h h')) (fun h=>decide_eq_false (hhi i h (Nat.le_refl _)));by_cases hi:i < ps.length
   ·have hin:i < ns.length:=by omega
    obtain⟨b,o,rfl,hat,_⟩:=HR.out.1 i hi;have d0:wr.cell? ⟨b,o + i,none⟩=some (.pointer (some ⟨ps[i],0,none⟩)):=by have:=hat.cell 0 _ rfl;simpa[ptrE]using this
    have hbr:b < wr.heap.size:=block_lt_of_cell d0;have e0:=HR.out.2 i hi hin;have hhas:jba ns t=(cmpI ns[i] t==0):=by unfold jba hasAt;rw[hpos,List.getElem?_eq_getElem hin,jla]
    have HL:=Lib.hid (And.intro hpos hhas);clear hlo hhi hat hpos hhas;generalize ns[i]=nn at *;generalize ps[i]=pp at *;go_wp2_with (go_at_call 182;refine(jlb _ pp nn t e0).mono ?_;rintro e _ ⟨rfl,rfl⟩);go_ret2;obtain⟨e1,e2⟩:=HL.out;exact⟨by rw[e1,e2];rfl,rfl⟩
   ·have hhas:jba ns t=false:=by unfold jba hasAt;rw[hpos,List.getElem?_eq_none (by omega)]
    have HL:=Lib.hid (And.intro hpos hhas);clear hlo hhi hpos hhas;go_wp2;go_ret2;obtain⟨e1,e2⟩:=HL.out;exact⟨by rw[e1,e2];rfl,rfl⟩
def CellAt(w:World)(q:Nat)(c:CC):Prop:=
 ∃vi vk vv,w.heap[q]? =some (.cells (ccRow c vi vk vv).toArray 145 (0,0))∧Sl itemE w vi c.node.items∧Sl kidE w vk c.node.kids∧Sl volE w vv c.node.vols
theorem CellAt.num{w:World}{q:Nat}{c:CC}(h:CellAt w q c):w.cell? ⟨q,0,none⟩=some (.int .u32 c.num):=by
 obtain⟨vi,vk,vv,h,_⟩:=h;rw[cell_of_row _ _ _ _ _ _ h];rfl
theorem CellAt.keep{w w':World}{q:Nat}{c:CC}(h:CellAt w q c)(hs:Soft w w')(hq:w'.heap[q]? =w.heap[q]?):CellAt w' q c:=by
 obtain⟨vi,vk,vv,h,h1,h2,h3⟩:=h;exact⟨vi,vk,vv,by rw[hq];exact h,h1.soft jju hs,h2.soft jip hs,h3.soft jlw hs⟩
structure ccWf(c:CC):Prop where
 hash:jd7 c.hash
 cel:u32Ok c.num∧strOk c.data∧(-9223372036854775808≤c.refs∧c.refs≤9223372036854775807)
 small:c.node.items.length≤255∧c.node.kids.length≤255∧c.node.vols.length≤255
 kd:0≤c.node.kind∧c.node.kind≤255
structure St(B:Nat)(w:World)(p:Nat)(sz:Int)(pcs:List (Nat×CC)):Prop where
 low:B≤p
 row:∃v a,w.heap[p]? =some (.cells #[.int .u32 sz,v, .int .i64 a] 150 (0,0))∧w.ownsRow B 142 1 v pcs.length (pcs.map fun x=>Value.pointer (some ⟨x.1,0,none⟩))
 cells:∀x∈pcs,CellAt w x.1 x.2∧B≤x.1
 nodup:(pcs.map (·.1)).Nodup
 wf:∀x∈pcs,ccWf x.2
 spare:∀(v:Value) (g:Nat) (cs:Array Value) (t:TypeId) (fr:Nat×Nat),w.cell? ⟨p,1,none⟩=some v→v.ownBlock=some g→w.heap[g]? =some (.cells cs t fr)→∀x∈cs.toList,∀s,x≠ .string s
theorem jhz(sz:Int)(v:Value)(a:Int)(hv:v.oneCell'=true∧∀s,v≠ .string s):NoRow #[.int .u32 sz,v, .int .i64 a]:=by
 intro i s u h0 h1
 match i with
 |0=>simp at h0
 |1=>simp at h0;exact absurd h0 (hv.2 s)
 |2=>simp at h0
 |i + 3=>simp at h0
theorem jlx{w:World}{B:Nat}{e:TypeId}{sz:Nat}{v:Value}{n:Nat}{xs:List Value}(h:w.ownsRow B e sz v n xs):v.oneCell'=true∧∀s,v≠ .string s:=by
 rcases h.2 with⟨rfl,_⟩|⟨g,cap,cur,rfl,_⟩
 ·exact⟨rfl,fun s=>by simp⟩
 ·exact⟨rfl,fun s=>by simp⟩
theorem jly{w:World}{q p:Nat}{c:CC}{cs:Array Value}{t:TypeId}{fr:Nat×Nat}(h:CellAt w q c)(hp:w.heap[p]? =some (.cells cs t fr))(ht:t≠145):q≠p:=by
 intro e;obtain⟨vi,vk,vv,h,_⟩:=h;rw[e,hp]at h;injection h with h;injection h with _ h2 _;exact ht h2
theorem St.asked{B:Nat}{w:World}{p:Nat}{sz:Int}{pcs:List (Nat×CC)}(h:St B w p sz pcs)(a:Int):St B (w.setCell ⟨p,2,none⟩ (.int .i64 a)) p sz pcs∧Soft w (w.setCell ⟨p,2,none⟩ (.int .i64 a))∧Below B w (w.setCell ⟨p,2,none⟩ (.int .i64 a)):=by
 obtain⟨v,a0,hp,hown⟩:=h.row;have hg:w.grownBy (w.setCell ⟨p,2,none⟩ (.int .i64 a)) (some p):=jap (World.grownBy.refl w (some p)) 2 _;have hs:=Soft.of_grown hg hp (jhz sz v a0 (jlx hown));refine⟨⟨h.low,⟨v,a,ja2 hp 2 _,jat hown hg hp (by decide)⟩,fun x hx=>⟨?_,(h.cells x hx).2⟩,h.nodup,h.wf,?_⟩,hs,(Below.refl B w).setCell (p:=⟨p,2,none⟩) h.low _⟩
 rotate_left
 ·intro v' g cs t fr hc ho hgb;have hv:v'=v:=by
   rw[cell_of_row _ _ _ _ _ _ (ja2 hp 2 _)]at hc;simpa using hc.symm
  subst hv;have hne:g≠p:=fun e=>jb8 hown hp (by decide) (by rw[ho,e])
  have hgl:g < w.heap.size:=(hown.lt g ho).2;rw[hg.block g hgl (by simpa using hne)]at hgb;exact h.spare v' g cs t fr (by rw[cell_of_row _ _ _ _ _ _ hp];rfl) ho hgb
 have hc:=(h.cells x hx).1;have hne:=jly hc hp (by decide);obtain⟨_,_,_,hcb,_⟩:=hc;exact(h.cells x hx).1.keep hs (hg.block x.1 (lt_of_block hcb) (by simpa using hne))
theorem ptr_flat:∀l:List (Nat×CC),(l.map (·.1)).flatMap ptrE.enc=l.map fun x=>Value.pointer (some ⟨x.1,0,none⟩)
 |[]=>rfl
 |x::l=>by
  rw[List.map_cons,List.flatMap_cons,ptr_flat l];rfl
theorem St.sl{B:Nat}{w:World}{pcs:List (Nat×CC)}{v:Value}(hown:w.ownsRow B 142 1 v pcs.length (pcs.map fun x=>Value.pointer (some ⟨x.1,0,none⟩))):Sl ptrE w v (pcs.map (·.1)):=
 jct (E:=ptrE) (base:=B) (n:=pcs.length) (e:=142) (by rw[ptr_flat];exact hown) (by simp) (fun _ _=>trivial)
theorem addI64(w:World)(b o:Nat)(c d:Int)(h:w.cell? ⟨b,o,none⟩=some (.int .i64 c))(hf:w.frozen? ⟨b,o,none⟩=false):
 (callFunc 231 #[.pointer (some ⟨b,o,none⟩), .int .i64 d]).run Tryz.prog w= .ok (.value (.int .i64 (IntKind.i64.wrap (c + d)))) (w.setCell ⟨b,o,none⟩ (.int .i64 (IntKind.i64.wrap (c + d)))):=
 run_call_add (fn:=Tryz.f231) Tryz.func231 (by kernel_rfl) (by kernel_rfl) (by kernel_rfl) .i64 (by kernel_rfl) h hf (by rfl)
theorem int64Add_any(w:World)(b o:Nat)(c d:Int)(h:w.cell? ⟨b,o,none⟩=some (.int .i64 c))(hf:w.frozen? ⟨b,o,none⟩=false):
 Calls Tryz.prog 180 #[.pointer (some ⟨b,o,none⟩), .int .i64 d] w fun e w'=>∃v u,e= .returned v∧w'=w.setCell ⟨b,o,none⟩ (.int .i64 u):=by
 have ha:=fun d=>addI64 w b o c d h hf
 go_enter Tryz.func180,Tryz.ntmps180;go_wp2;go_ret;exact⟨_,_,rfl,rfl⟩
def nums(pcs:List (Nat×CC)):List Int:=pcs.map (·.2.num)
theorem find_any(B:Nat)(w:World)(p:Nat)(sz:Int)(pcs:List (Nat×CC))(t:Int)(h:St B w p sz pcs)(hso:jdk (nums pcs))(hmax:pcs.length≤1073741824):
 Calls Tryz.prog 126 #[.pointer (some ⟨p,0,none⟩), .int .u32 t] w fun e w'=>e= .returned (.tuple #[.int .i64 (ja5 (nums pcs) t), .bool (jba (nums pcs) t)])∧∃a,w'=w.setCell ⟨p,2,none⟩ (.int .i64 a):=by
 obtain⟨v,a0,hp,hown⟩:=h.row;have c2:w.cell? ⟨p,2,none⟩=some (.int .i64 a0):=by rw[cell_of_row _ _ _ _ _ _ hp];rfl
 have f2:w.frozen? ⟨p,2,none⟩=false:=frozen_of_row _ _ _ _ _ hp;have HS:=Lib.hid (And.intro h hso);clear hp hown h hso;go_enter Tryz.func126,Tryz.ntmps126;go_wp2_with (fail);go_at_call 180;refine(int64Add_any w p 2 a0 1 c2 f2).mono ?_;rintro e _ ⟨v1,u,rfl,rfl⟩;have h2:=(HS.out.1.asked u).1;obtain⟨v',a1,hp',hown'⟩:=h2.row;have d1:(w.setCell ⟨p,2,none⟩ (.int .i64 u)).cell? ⟨p,1,none⟩=some v':=by rw[cell_of_row _ _ _ _ _ _ hp'];rfl
 have hsl:=St.sl hown';have hcs:∀k (hk:k < (pcs.map (·.1)).length) (hk':k < (nums pcs).length),(w.setCell ⟨p,2,none⟩ (.int .i64 u)).cell? ⟨(pcs.map (·.1))[k],0,none⟩=some (.int .u32 (nums pcs)[k]):=by
  intro k hk hk';have hkp:k < pcs.length:=by simpa using hk
  have:=(h2.cells pcs[k] (List.getElem_mem hkp)).1.num;simpa[nums]using this
 have HH:=Lib.hid (And.intro hsl hcs);obtain⟨A,cp,rfl,_,_,_⟩:=hsl;clear hp' hown' hcs h2;go_wp2_with (fail);go_at_call 181;refine(bsCell_any _ _ (pcs.map (·.1)) (nums pcs) t (by have h:=HH.out.1;rw[List.length_map]at h;exact h) (by simp[nums]) HH.out.2 HS.out.2 (by simp;omega)).mono ?_;rintro e _ ⟨rfl,rfl⟩;go_wp2;go_ret2;exact⟨rfl,u,rfl⟩
def je8(pcs:List (Nat×CC))(t:Int):Option (Nat×CC):=if jba (nums pcs) t then pcs[ja5 (nums pcs) t]? else none
theorem at_any(B:Nat)(w:World)(p:Nat)(sz:Int)(pcs:List (Nat×CC))(t:Int)(h:St B w p sz pcs)(hso:jdk (nums pcs))(hmax:pcs.length≤1073741824):
 Calls Tryz.prog 69 #[.pointer (some ⟨p,0,none⟩), .int .u32 t] w fun e w'=>e= .returned (.pointer ((je8 pcs t).map fun x=>⟨x.1,0,none⟩))∧∃a,w'=w.setCell ⟨p,2,none⟩ (.int .i64 a):=by
 have HS:=Lib.hid (And.intro h hso);clear h hso;cases hh:jba (nums pcs) t with
 |false=>
  have HC:=Lib.hid (show je8 pcs t=none by simp[je8,hh]);go_enter Tryz.func69,Tryz.ntmps69;go_wp2_with (fail);go_at_call 126;refine(find_any B w p sz pcs t HS.out.1 HS.out.2 hmax).mono ?_;rintro e _ ⟨rfl,u,rfl⟩;rw[hh];go_wp2;go_ret;exact⟨by rw[HC.out];rfl,u,rfl⟩
 |true=>
  have hlt:ja5 (nums pcs) t < pcs.length:=by
   unfold jba hasAt at hh;cases hx:(nums pcs)[ja5 (nums pcs) t]? with
   |none=>rw[hx]at hh;cases hh
   |some y=>have:=(List.getElem?_eq_some_iff.1 hx).1;simpa[nums]using this
  have HC:=Lib.hid (show je8 pcs t=some pcs[ja5 (nums pcs) t] by simp[je8,hh,hlt]);go_enter Tryz.func69,Tryz.ntmps69;go_wp2_with (fail);go_at_call 126;refine(find_any B w p sz pcs t HS.out.1 HS.out.2 hmax).mono ?_;rintro e _ ⟨rfl,u,rfl⟩;rw[hh];have h2:=(HS.out.1.asked u).1;obtain⟨v',a1,hp',hown'⟩:=h2.row;have d1:(w.setCell ⟨p,2,none⟩ (.int .i64 u)).cell? ⟨p,1,none⟩=some v':=by rw[cell_of_row _ _ _ _ _ _ hp'];rfl
  obtain⟨A,cp,rfl,hcp1,hcp2,hrow⟩:=St.sl hown';obtain⟨b,o,rfl,hat,_⟩:=hrow (ja5 (nums pcs) t) (by simpa using hlt);have d0:(w.setCell ⟨p,2,none⟩ (.int .i64 u)).cell? ⟨b,o + ja5 (nums pcs) t,none⟩=some (.pointer (some ⟨pcs[ja5 (nums pcs) t].1,0,none⟩)):=by have:=hat.cell 0 _ rfl;simpa[ptrE]using this
  have hbr:b < (w.setCell ⟨p,2,none⟩ (.int .i64 u)).heap.size:=block_lt_of_cell d0;rw[List.length_map]at d1 hcp1;clear hp' hown' h2 hat hrow hh;generalize hpos:ja5 (nums pcs) t=i at *;go_wp2;go_ret;exact⟨by rw[HC.out];rfl,u,rfl⟩
theorem CellAt.data{w:World}{q:Nat}{c:CC}(h:CellAt w q c):w.cell? ⟨q,1,none⟩=some (.string c.data):=by
 obtain⟨vi,vk,vv,h,_⟩:=h;rw[cell_of_row _ _ _ _ _ _ h];rfl
def BadT(t:TypeId):Prop:=t=150∨t=145∨t=142∨t=3
def CellKept(w':World)(b:Nat)(cs:Array Value)(fr:Nat×Nat):Prop:=∃cs',w'.heap[b]? =some (.cells cs' 145 fr)∧cs'[4]? =cs[4]? ∧cs'[5]? =cs[5]? ∧cs'[6]? =cs[6]?
structure Fr(w w':World):Prop where
 os:w'.os=w.os
 tape:w'.tape=w.tape
 output:w'.output=w.output
 size:w.heap.size≤w'.heap.size
 block:∀b,b < w.heap.size→w'.heap[b]? =w.heap[b]? ∨∃cs t fr,w.heap[b]? =some (.cells cs t fr)∧BadT t∧NoRow cs∧(t=145→CellKept w' b cs fr)
theorem Fr.refl(w:World):Fr w w:=⟨rfl,rfl,rfl,Nat.le_refl _,fun _ _=>Or.inl rfl⟩
theorem Fr.trans{a b c:World}(h:Fr a b)(k:Fr b c):Fr a c:=by
 refine⟨k.os.trans h.os,k.tape.trans h.tape,k.output.trans h.output,Nat.le_trans h.size k.size,fun i hi=>?_⟩;rcases h.block i hi with h1|h1
 ·rcases k.block i (Nat.lt_of_lt_of_le hi h.size)with k1|⟨cs,t,fr,k1,k2⟩
  ·exact Or.inl (k1.trans h1)
  ·exact Or.inr ⟨cs,t,fr,by rw[←h1];exact k1,k2⟩
 ·obtain⟨cs,t,fr,e,hb,hn,hc⟩:=h1;refine Or.inr ⟨cs,t,fr,e,hb,hn,fun ht=>?_⟩;obtain⟨cs',e',d4,d5,d6⟩:=hc ht;rcases k.block i (Nat.lt_of_lt_of_le hi h.size)with k1|⟨cs2,t2,fr2,k1,_,_,kc⟩
  ·exact⟨cs',k1.trans e',d4,d5,d6⟩
  ·rw[e']at k1;injection k1 with k1;injection k1 with k1 k2 k3;subst k1;subst k2;subst k3;obtain⟨cs3,e3,f4,f5,f6⟩:=kc rfl;exact⟨cs3,e3,f4.trans d4,f5.trans d5,f6.trans d6⟩
theorem Fr.of_below{w w':World}(h:Below w.heap.size w w'):Fr w w':=⟨h.os,h.tape,h.output,h.size,fun b hb=>Or.inl (h.block b hb)⟩
theorem Fr.soft{w w':World}(h:Fr w w'):Soft w w':=⟨h.size,fun b hb=>(h.block b hb).imp id fun⟨cs,t,fr,h1,_,h3,_⟩=>⟨cs,t,fr,h1,h3⟩⟩
theorem Fr.of_grown{w w':World}{g:Nat}{cs:Array Value}{t:TypeId}{fr:Nat×Nat}(h:w.grownBy w' (some g))(hg:w.heap[g]? =some (.cells cs t fr))(ht:BadT t)(hn:NoRow cs)(hc:t=145→CellKept w' g cs fr):Fr w w':=by
 refine⟨h.os,h.tape,h.output,h.size,fun b hb=>?_⟩;by_cases e:b=g
 ·subst e;exact Or.inr ⟨cs,t,fr,hg,ht,hn,hc⟩
 ·exact Or.inl (h.block b hb (by simpa using e))
theorem Fr.keep{w w':World}(h:Fr w w'){b:Nat}{cs:Array Value}{t:TypeId}{fr:Nat×Nat}(hb:w.heap[b]? =some (.cells cs t fr))(ht:¬BadT t):w'.heap[b]? =some (.cells cs t fr):=by
 rcases h.block b (lt_of_block hb)with h1|⟨cs',t',fr',h1,h2,_⟩
 ·rw[h1];exact hb
 ·rw[hb]at h1;injection h1 with h1;injection h1 with _ h1 _;rw[h1]at ht;exact absurd h2 ht
theorem Fr.own{w w':World}(h:Fr w w'){B:Nat}{e:TypeId}{s:Nat}{v:Value}{n:Nat}{xs:List Value}(ho:w.ownsRow B e s v n xs)(he:¬BadT e):w'.ownsRow B e s v n xs:=by
 refine⟨ho.1,ho.2.imp id ?_⟩;rintro⟨g,cap,cur,h1,h2,h3,h4⟩;exact⟨g,cap,cur,h1,h2,h.keep h3 he,h4⟩
theorem rowPtr_noRow(cs:Array Value)(h:∀v∈cs.toList,∀s,v≠ .string s):NoRow cs:=by
 intro i s v h0 _;exact absurd rfl (h (.string s) (by rw[Array.mem_toList_iff];exact Array.mem_of_getElem? h0) s)
theorem St.same{B:Nat}{w w':World}{p:Nat}{sz:Int}{pcs:List (Nat×CC)}(h:St B w p sz pcs)(hk:∀b,B≤b→b < w.heap.size→∀cs t fr,w.heap[b]? =some (.cells cs t fr)→(t=150∨t=145∨t=142)→w'.heap[b]? =w.heap[b]?)(hs:Soft w w'):St B w' p sz pcs:=by
 obtain⟨v,a,hp,hown⟩:=h.row;refine⟨h.low,⟨v,a,?_,?_⟩,fun x hx=>⟨?_,(h.cells x hx).2⟩,h.nodup,h.wf,?_⟩
 rotate_left 3
 ·intro v' g cs t fr hc ho hgb;have hp':w'.heap[p]? =some (.cells #[.int .u32 sz,v, .int .i64 a] 150 (0,0)):=by rw[hk p h.low (lt_of_block hp) _ _ _ hp (Or.inl rfl)];exact hp
  have hv:v'=v:=by
   rw[cell_of_row _ _ _ _ _ _ hp']at hc;simpa using hc.symm
  subst hv;rcases hown.2 with⟨e1,_⟩|⟨g',cap,cur,e1,h2,h3,h4⟩
  ·rw[e1]at ho;cases ho
  ·have e2:g'=g:=by rw[e1]at ho;simpa[Value.ownBlock]using ho
   subst e2;rw[hk g' h2 (lt_of_block h3) _ _ _ h3 (Or.inr (Or.inr rfl))]at hgb;exact h.spare v' g' cs t fr (by rw[cell_of_row _ _ _ _ _ _ hp];rfl) ho hgb
 ·rw[hk p h.low (lt_of_block hp) _ _ _ hp (Or.inl rfl)];exact hp
 ·refine⟨hown.1,hown.2.imp id ?_⟩;rintro⟨g,cap,cur,h1,h2,h3,h4⟩;exact⟨g,cap,cur,h1,h2,by rw[hk g h2 (lt_of_block h3) _ _ _ h3 (Or.inr (Or.inr rfl))];exact h3,h4⟩
 ·have hc:=h.cells x hx;refine hc.1.keep hs ?_;obtain⟨vi,vk,vv,hb,_⟩:=hc.1;exact hk x.1 hc.2 (lt_of_block hb) _ _ _ hb (Or.inr (Or.inl rfl))
theorem St.below{B:Nat}{w w':World}{p:Nat}{sz:Int}{pcs:List (Nat×CC)}(h:St B w p sz pcs)(hb:Below w.heap.size w w'):St B w' p sz pcs:=
 h.same (fun b _ hlt _ _ _ _ _=>hb.block b hlt) (Soft.of_below hb)
theorem St.cellRow{B:Nat}{w:World}{p:Nat}{sz:Int}{pcs:List (Nat×CC)}(h:St B w p sz pcs){x:Nat×CC}(hx:x∈pcs):∃vi vk vv,w.heap[x.1]? =some (.cells (ccRow x.2 vi vk vv).toArray 145 (0,0))∧Sl itemE w vi x.2.node.items∧Sl kidE w vk x.2.node.kids∧Sl volE w vv x.2.node.vols:=(h.cells x hx).1
theorem jax{α:Type}{E:Enc α}{w:World}{v:Value}{xs:List α}(h:Sl E w v xs):∃a n k,v= .slice a n k:=by
 obtain⟨A,c,rfl,_⟩:=h;exact⟨_,_,_,rfl⟩
theorem St.set{B:Nat}{w w':World}{p:Nat}{sz:Int}{pcs:List (Nat×CC)}(h:St B w p sz pcs){x:Nat×CC}(hx:x∈pcs){c':CC}(hn:c'.node=x.2.node)(hwf:ccWf c'){vi vk vv:Value}(hi:Sl itemE w vi x.2.node.items)(hk:Sl kidE w vk x.2.node.kids)(hv:Sl volE w vv x.2.node.vols)
 (hc:w.heap[x.1]? =some (.cells (ccRow x.2 vi vk vv).toArray 145 (0,0))) (hg:w.grownBy w' (some x.1)) (hb:w'.heap[x.1]? =some (.cells (ccRow c' vi vk vv).toArray 145 (0,0))):
 St B w' p sz (pcs.map fun y=>if y.1=x.1 then(y.1,c')else y)∧Fr w w'∧Below B w w':=by
 obtain⟨v,a,hp,hown⟩:=h.row;have hfr:Fr w w':=Fr.of_grown hg hc (Or.inr (Or.inl rfl)) (ccRow_noRow _ _ _ _ (jax hi) (jax hk) (jax hv)) (fun _=>⟨_,hb,by simp[ccRow],by simp[ccRow],by simp[ccRow]⟩);have hne:p≠x.1:=fun e=>jly (h.cells x hx).1 hp (by decide) e.symm
 have hps:(pcs.map fun y=>if y.1=x.1 then(y.1,c')else y).map (·.1)=pcs.map (·.1):=by
  rw[List.map_map];apply List.map_congr_left;intro y _;simp only[Function.comp];split <;>rfl
 refine⟨⟨h.low,⟨v,a,?_,?_⟩,?_,by rw[hps];exact h.nodup,?_,?_⟩,hfr,(Below.refl B w).trans ⟨hg.os,hg.tape,hg.output,hg.size,fun k hk=>?_⟩⟩
 ·rw[hg.block p (lt_of_block hp) (by simpa using hne)];exact hp
 ·have:=jat hown hg hc (by decide);rw[List.length_map];have e:(pcs.map fun y=>if y.1=x.1 then(y.1,c')else y).map (fun y=>Value.pointer (some ⟨y.1,0,none⟩))=pcs.map fun y=>Value.pointer (some ⟨y.1,0,none⟩):=by
   rw[List.map_map];apply List.map_congr_left;intro y _;simp only[Function.comp];split <;>rfl
  rw[e];exact this
 ·intro y hy;obtain⟨z,hz,rfl⟩:=List.mem_map.1 hy;by_cases e:z.1=x.1
  ·simp only[if_pos e];refine⟨⟨vi,vk,vv,by rw[e];exact hb,?_,?_,?_⟩,(h.cells z hz).2⟩
   ·rw[hn];exact hi.soft jju hfr.soft
   ·rw[hn];exact hk.soft jip hfr.soft
   ·rw[hn];exact hv.soft jlw hfr.soft
  ·simp only[if_neg e];refine⟨(h.cells z hz).1.keep hfr.soft ?_,(h.cells z hz).2⟩;obtain⟨_,_,_,hzb,_⟩:=(h.cells z hz).1;exact hg.block z.1 (lt_of_block hzb) (by simpa using e)
 ·intro y hy;obtain⟨z,hz,rfl⟩:=List.mem_map.1 hy;by_cases e:z.1=x.1
  ·simp only[if_pos e];exact hwf
  ·simp only[if_neg e];exact h.wf z hz
 ·intro v' g cs t fr hc' ho hgb;have hp':w'.heap[p]? =some (.cells #[.int .u32 sz,v, .int .i64 a] 150 (0,0)):=by rw[hg.block p (lt_of_block hp) (by simpa using hne)];exact hp
  have hv:v'=v:=by
   rw[cell_of_row _ _ _ _ _ _ hp']at hc';simpa using hc'.symm
  subst hv;have hgx:g≠x.1:=fun e=>jb8 hown hc (by decide) (by rw[ho,e])
  rw[hg.block g (hown.lt g ho).2 (by simpa using hgx)]at hgb;exact h.spare v' g cs t fr (by rw[cell_of_row _ _ _ _ _ _ hp];rfl) ho hgb
 ·have hl:=(h.cells x hx).2;exact hg.block k (Nat.lt_of_lt_of_le hk (Nat.le_trans hl (Nat.le_of_lt (lt_of_block hc)))) (by simp;omega)
theorem map_one{pcs:List (Nat×CC)}(hnd:(pcs.map (·.1)).Nodup){x:Nat×CC}(hx:x∈pcs)(c':CC)(q:Nat×CC→Nat×CC)(hq:q x=(x.1,c'))(ho:∀y∈pcs,y≠x→q y=y):
 (pcs.map fun y=>if y.1=x.1 then(y.1,c')else y)=pcs.map q:=by
 apply List.map_congr_left;intro y hy;by_cases e:y=x
 ·subst e;rw[if_pos rfl,hq]
 ·have hne:y.1≠x.1:=by
   intro h1;obtain⟨i,hi,rfl⟩:=List.getElem_of_mem hy;obtain⟨j,hj,rfl⟩:=List.getElem_of_mem hx;rcases Nat.lt_trichotomy i j with h|h|h
   ·exact List.pairwise_iff_getElem.1 hnd i j (by simpa using hi) (by simpa using hj) h (by simpa using h1)
   ·subst h;exact e rfl
   ·exact List.pairwise_iff_getElem.1 hnd j i (by simpa using hj) (by simpa using hi) h (by simpa using h1.symm)
  rw[if_neg hne,ho y hy e]
theorem Fr.asked{B:Nat}{w:World}{p:Nat}{sz:Int}{pcs:List (Nat×CC)}(h:St B w p sz pcs)(a:Int):Fr w (w.setCell ⟨p,2,none⟩ (.int .i64 a)):=by
 obtain⟨v,a0,hp,hown⟩:=h.row;exact Fr.of_grown (jap (World.grownBy.refl w (some p)) 2 _) hp (Or.inl rfl) (jhz sz v a0 (jlx hown)) (fun h=>absurd h (by decide))
end Go.Proofs.YtpaohkkhejpgjaaGreatDoor
