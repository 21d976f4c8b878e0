/- Texts of the proof: V9 Va Vp Vr. -/
import Derived.Test.YtpaohkkhejpgjaaGreatDoorM6
import Derived.Test.YtpaohkkhejpgjaaGreatDoorM3
import Derived.Test.YtpaohkkhejpgjaaGreatDoorM17
import Derived.Test.YtpaohkkhejpgjaaGreatDoorM9
import Derived.RangeFuncNested
import Derived.RangeFuncBound
import Derived.RangeFuncCalls
import Derived.RangeFuncLeaves
import Derived.Shelf.Abstract
import Derived.Shelf.RegionOpen
import Derived.WalkKit
import Derived.OwnWalkIn
import Derived.TacticsInMore
import Derived.LoopNIn
import Derived.LoopIn
import Derived.Test.YtpaohkkhejpgjaaGreatDoorM20
set_option linter.all false
set_option maxRecDepth 100000
set_option maxHeartbeats 8000000
namespace Go.Proofs.YtpaohkkhejpgjaaGreatDoor
open Go Go.RowKit
def RiseB(bs:List Blk):Prop:=(bs.map (·.num)).Pairwise (· < ·)
theorem jl7:∀bs:List Blk,jdj bs=true ↔ RiseB bs
 |[]=>by simp[jdj,RiseB]
 |[_]=>by simp[jdj,RiseB]
 |a::b::r=>by
  rw[jdj,Bool.and_eq_true,jl7 (b::r),decide_eq_true_eq];unfold RiseB;simp only[List.map_cons,List.pairwise_cons];constructor
  ·rintro⟨h,h1,h2⟩;refine⟨fun k hk=>?_,h1,h2⟩;rcases List.mem_cons.1 hk with rfl|hk
   ·exact h
   ·exact Int.lt_trans h (h1 k hk)
  ·rintro⟨h,h1,h2⟩;exact⟨h _ (by simp),h1,h2⟩
theorem blk_split(bs:List Blk)(t:Int)(h:RiseB bs):∃P R,bs=P ++ R∧(∀p∈P,p.num < t)∧jbr bs t=P.length∧
 ((∃x R',R=x::R'∧x.num=t∧jer bs t=true∧∀y∈R',t < y.num)∨(jer bs t=false∧∀y∈R,t < y.num)):=by
 refine⟨bs.takeWhile (fun b=>decide (b.num < t)),bs.dropWhile (fun b=>decide (b.num < t)),(List.takeWhile_append_dropWhile).symm,?_,rfl,?_⟩
 ·intro p hp;have:=List.all_eq_true.1 (List.all_takeWhile (p:=fun b:Blk=>decide (b.num < t)) (l:=bs)) p hp;simpa using this
 ·have hget:bs[jbr bs t]? =(bs.dropWhile (fun b=>decide (b.num < t))).head? :=by
   have key:∀P R:List Blk,(P ++ R)[P.length]? =R.head? :=fun P R=>by rw[List.getElem?_append_right (Nat.le_refl _),Nat.sub_self,List.head?_eq_getElem?]
   have:=key (bs.takeWhile (fun b=>decide (b.num < t))) (bs.dropWhile (fun b=>decide (b.num < t)));rw[List.takeWhile_append_dropWhile]at this;exact this
  have hnot:=List.head?_dropWhile_not (fun b:Blk=>decide (b.num < t)) bs;have hrd:RiseB (bs.dropWhile (fun b=>decide (b.num < t))):=by
   unfold RiseB at h ⊢;exact h.sublist ((List.dropWhile_sublist _).map _)
  have hh:jer bs t=match (bs.dropWhile (fun b=>decide (b.num < t))).head? with|some x=>x.num==t|none=>false:=by
   unfold jer hasAt;rw[hget];cases (bs.dropWhile (fun b=>decide (b.num < t))).head? <;>rfl
  cases hd:bs.dropWhile (fun b=>decide (b.num < t))with
  |nil=>
   rw[hd]at hh;exact Or.inr ⟨hh,fun y hy=>by simp at hy⟩
  |cons x R'=>
   rw[hd]at hh hnot hrd;simp only[List.head?_cons]at hh hnot;have hx:t≤x.num:=by simpa using hnot
   have hgt:∀y∈R',x.num < y.num:=by
    unfold RiseB at hrd;rw[List.map_cons,List.pairwise_cons]at hrd;intro y hy;exact hrd.1 _ (List.mem_map.2 ⟨y,hy,rfl⟩)
   by_cases he:x.num=t
   ·left;refine⟨x,R',rfl,he,by rw[hh,he];simp,fun y hy=>?_⟩;have:=hgt y hy;omega
   ·right;refine⟨by rw[hh];simpa using he,fun y hy=>?_⟩;rcases List.mem_cons.1 hy with rfl|hy
    ·omega
    ·have:=hgt y hy;omega
theorem rise_parts{P R:List Blk}(h:RiseB (P ++ R)):RiseB P∧RiseB R∧∀p∈P,∀r∈R,p.num < r.num:=by
 unfold RiseB at h ⊢;rw[List.map_append,List.pairwise_append]at h;exact⟨h.1,h.2.1,fun p hp r hr=>h.2.2 _ (List.mem_map.2 ⟨p,hp,rfl⟩) _ (List.mem_map.2 ⟨r,hr,rfl⟩)⟩
theorem rise_mk{P R:List Blk}(h1:RiseB P)(h2:RiseB R)(h3:∀p∈P,∀r∈R,p.num < r.num):RiseB (P ++ R):=by
 unfold RiseB at h1 h2 ⊢;rw[List.map_append,List.pairwise_append];refine⟨h1,h2,fun a ha b hb=>?_⟩;obtain⟨p,hp,rfl⟩:=List.mem_map.1 ha;obtain⟨r,hr,rfl⟩:=List.mem_map.1 hb;exact h3 p hp r hr
theorem rise_cons{x:Blk}{R:List Blk}(h1:RiseB R)(h2:∀r∈R,x.num < r.num):RiseB (x::R):=by
 unfold RiseB at h1 ⊢;rw[List.map_cons,List.pairwise_cons];exact⟨fun a ha=>by obtain⟨r,hr,rfl⟩:=List.mem_map.1 ha;exact h2 r hr,h1⟩
theorem insB_app(b:Blk)(R:List Blk):∀P:List Blk,(P ++ R).insertIdx P.length b=P ++ b::R
 |[]=>by simp
 |p::P=>by
  have:=insB_app b R P;simp[this]
def lookB(bs:List Blk)(n:Int):ByteArray:=((bs.find? (fun b=>b.num==n)).map (·.data)).getD ByteArray.empty
theorem look_none{bs:List Blk}{n:Int}(h:∀b∈bs,b.num≠n):bs.find? (fun b=>b.num==n)=none:=by
 rw[List.find?_eq_none];intro b hb;simpa using h b hb
theorem jky{s:ByteArray}(h:s.toList.isEmpty=true):s=ByteArray.empty:=by
 rw[ByteArray.toList_eq,List.isEmpty_iff]at h;exact jgq (by rw[h];rfl)
theorem jf2{P R:List Blk}{t n:Int}(hP:∀p∈P,p.num < t)(hR:∀r∈R,t < r.num)(x:Blk)(hx:x.num=t):
 lookB (P ++ x::R) n=if n=t then x.data else lookB (P ++ R) n:=by
 unfold lookB;rw[List.find?_append,List.find?_append];by_cases hn:n=t
 ·subst hn;rw[if_pos rfl,look_none (fun b hb=>by have:=hP b hb;omega),List.find?_cons_of_pos (by simpa using hx)];rfl
 ·rw[if_neg hn,List.find?_cons_of_neg (by simp[hx];omega)]
theorem look_at{P R:List Blk}{t n:Int}(hP:∀p∈P,p.num < t)(hR:∀r∈R,t < r.num):lookB (P ++ R) t=ByteArray.empty:=by
 unfold lookB;rw[look_none (fun b hb=>by
  rcases List.mem_append.1 hb with hb|hb
  ·have:=hP b hb;omega
  ·have:=hR b hb;omega)]
 rfl
theorem put_rise{bs:List Blk}(h:RiseB bs)(b:Blk):RiseB (putB bs b)∧(∀x∈putB bs b,x∈bs∨(x=b∧b.data.toList.isEmpty=false))∧∀n,lookB (putB bs b) n=if n=b.num then b.data else lookB bs n:=by
 obtain⟨P,R,rfl,hP,hpos,hc⟩:=blk_split bs b.num h;obtain⟨r1,r2,r3⟩:=rise_parts h;unfold putB;rw[hpos];rcases hc with⟨x,R',rfl,hx,hhas,hgt⟩|⟨hhas,hgt⟩
 ·rw[hhas,if_pos rfl];obtain⟨_,r4,_⟩:=rise_parts (P:=[x]) (R:=R') r2;have hlow:∀p∈P,∀r∈R',p.num < r.num:=fun p hp r hr=>r3 p hp r (by simp[hr])
  cases he:b.data.toList.isEmpty with
  |true=>
   rw[if_pos rfl,List.eraseIdx_append_of_length_le (Nat.le_refl _),Nat.sub_self];show RiseB (P ++ R')∧_
   refine⟨rise_mk r1 r4 hlow,fun y hy=>Or.inl ?_,fun n=>?_⟩
   ·rcases List.mem_append.1 hy with hy|hy
    ·simp[hy]
    ·simp[show y∈R' from hy]
   ·show lookB (P ++ R') n=_
    rw[jf2 hP hgt x hx];by_cases hn:n=b.num
    ·subst hn;rw[if_pos rfl,jky he,look_at (n:=b.num) hP hgt]
    ·rw[if_neg hn,if_neg hn]
  |false=>
   rw[if_neg (by simp),List.set_append_right _ _ (Nat.le_refl _),Nat.sub_self];show RiseB (P ++ b::R')∧_
   refine⟨rise_mk r1 (rise_cons r4 hgt) (fun p hp r hr=>?_),fun y hy=>?_,fun n=>?_⟩
   ·rcases List.mem_cons.1 hr with rfl|hr
    ·exact hP p hp
    ·exact hlow p hp r hr
   ·rcases List.mem_append.1 hy with hy|hy
    ·exact Or.inl (by simp[hy])
    ·rcases List.mem_cons.1 hy with rfl|hy
     ·exact Or.inr ⟨rfl,rfl⟩
     ·exact Or.inl (by simp[hy])
   ·show lookB (P ++ b::R') n=_
    rw[jf2 hP hgt b rfl,jf2 hP hgt x hx];by_cases hn:n=b.num
    ·rw[if_pos hn,if_pos hn]
    ·rw[if_neg hn,if_neg hn,if_neg hn]
 ·rw[hhas,if_neg (by simp)];cases he:b.data.toList.isEmpty with
  |true=>
   rw[if_pos rfl];refine⟨h,fun y hy=>Or.inl hy,fun n=>?_⟩;by_cases hn:n=b.num
   ·subst hn;rw[if_pos rfl,jky he,look_at (n:=b.num) hP hgt]
   ·rw[if_neg hn]
  |false=>
   rw[if_neg (by simp),insB_app];refine⟨rise_mk r1 (rise_cons r2 hgt) (fun p hp r hr=>?_),fun y hy=>?_,fun n=>jf2 hP hgt b rfl⟩
   ·rcases List.mem_cons.1 hr with rfl|hr
    ·exact hP p hp
    ·exact r3 p hp r hr
   ·rcases List.mem_append.1 hy with hy|hy
    ·exact Or.inl (by simp[hy])
    ·rcases List.mem_cons.1 hy with rfl|hy
     ·exact Or.inr ⟨rfl,rfl⟩
     ·exact Or.inl (by simp[hy])
theorem lookB_has{bs:List Blk}(h:RiseB bs)(n:Int):(if jer bs n then((bs[jbr bs n]?).map (·.data)).getD ByteArray.empty else ByteArray.empty)=lookB bs n:=by
 obtain⟨P,R,rfl,hP,hpos,hc⟩:=blk_split bs n h;rcases hc with⟨x,R',rfl,hx,hhas,hgt⟩|⟨hhas,hgt⟩
 ·rw[hhas,if_pos rfl,hpos,List.getElem?_append_right (Nat.le_refl _),Nat.sub_self,jf2 hP hgt x hx,if_pos rfl];rfl
 ·rw[hhas,if_neg (by simp),look_at (n:=n) hP hgt]
theorem jhf{d:Dv}(h:RiseB d.blocks)(n:Int):readB d n=match jek d.waits n with|some b=>b.data|none=>lookB d.blocks n:=by
 unfold readB;cases jek d.waits n with
 |some b=>rfl
 |none=>exact lookB_has h n
theorem lastOf_snoc(ws:List Blk)(b:Blk)(n:Int):jek (ws ++ [b]) n=if b.num=n then some b else jek ws n:=by
 unfold jek;rw[List.reverse_append,List.reverse_singleton,List.singleton_append];by_cases h:b.num=n
 ·rw[if_pos h,List.find?_cons_of_pos (by simpa using h)]
 ·rw[if_neg h,List.find?_cons_of_neg (by simpa using h)]
theorem lastOf_cons(ws:List Blk)(b:Blk)(n:Int):jek (b::ws) n=match jek ws n with|some x=>some x|none=>if b.num=n then some b else none:=by
 unfold jek;rw[List.reverse_cons,List.find?_append];cases ws.reverse.find? (fun b=>b.num==n)with
 |some x=>rfl
 |none=>
  by_cases h:b.num=n
  ·simp[h]
  ·simp[h]
theorem lastOf_mem{ws:List Blk}{n:Int}{b:Blk}(h:jek ws n=some b):b∈ws∧b.num=n:=by
 unfold jek at h;have h1:=List.mem_of_find?_eq_some h;have h2:=List.find?_some h;exact⟨by simpa using h1,by simpa using h2⟩
theorem jkz:∀(ws bs:List Blk),RiseB bs→RiseB (ws.foldl putB bs)∧(∀x∈ws.foldl putB bs,x∈bs∨(x∈ws∧x.data.toList.isEmpty=false))∧∀n,lookB (ws.foldl putB bs) n=match jek ws n with|some b=>b.data|none=>lookB bs n
 |[],bs,h=>⟨h,fun x hx=>Or.inl hx,fun n=>rfl⟩
 |b::ws,bs,h=>by
  obtain⟨p1,p2,p3⟩:=put_rise h b;obtain⟨i1,i2,i3⟩:=jkz ws (putB bs b) p1;rw[List.foldl_cons];refine⟨i1,fun x hx=>?_,fun n=>?_⟩
  ·rcases i2 x hx with h1|⟨h1,h2⟩
   ·rcases p2 x h1 with h2|⟨rfl,h2⟩
    ·exact Or.inl h2
    ·exact Or.inr ⟨by simp,h2⟩
   ·exact Or.inr ⟨by simp[h1],h2⟩
  ·rw[i3 n,lastOf_cons];cases jek ws n with
   |some x=>rfl
   |none=>
    simp only;rw[p3 n];by_cases hn:n=b.num
    ·rw[if_pos hn,if_pos hn.symm]
    ·rw[if_neg hn,if_neg (fun e=>hn e.symm)]
theorem jhp{α:Type}(p:α→Bool):∀l:List α,(l.dropWhile p).dropWhile p=l.dropWhile p
 |[]=>rfl
 |x::r=>by
  by_cases h:p x=true
  ·rw[List.dropWhile_cons_of_pos h];exact jhp p r
  ·rw[List.dropWhile_cons_of_neg h,List.dropWhile_cons_of_neg h]
theorem cut_idem(s:ByteArray):cutB (cutB s)=cutB s:=by
 unfold cutB Lib.trimRightB;simp only[List.reverse_reverse,jhp]
theorem cut_size(s:ByteArray):(cutB s).size≤s.size:=by
 unfold cutB Lib.trimRightB;have h1:(s.data.toList.reverse.dropWhile (· ==0)).length≤s.data.toList.reverse.length:=(List.dropWhile_sublist _).length_le;show(((s.data.toList.reverse.dropWhile (· ==0)).reverse).toArray).size≤_
 have h2:s.size=s.data.toList.length:=by rw[Array.length_toList];rfl
 rw[List.size_toArray,List.length_reverse,h2];rw[List.length_reverse]at h1;exact h1
structure DevOk(d:Dv):Prop where
 lo:16≤d.size
 hi:d.size≤65536
 wl:d.waits.length≤16384
 bs:∀b∈d.blocks,ja3 b d.size=true∧b.data.toList.isEmpty=false
 ris:RiseB d.blocks
 ws:∀b∈d.waits,ja3 b d.size=true
theorem jcq(d:Dv):devB d=true ↔ DevOk d:=by
 unfold devB;simp only[Bool.and_eq_true,decide_eq_true_eq,List.all_eq_true,Bool.not_eq_true',jl7];constructor
 ·rintro⟨⟨h1,h2,h3⟩,h4,h5,h6⟩;exact⟨h1,h2,h3,h4,h5,h6⟩
 ·rintro⟨h1,h2,h3,h4,h5,h6⟩;exact⟨⟨h1,h2,h3⟩,h4,h5,h6⟩
theorem DevOk.burn{d:Dv}(h:DevOk d):DevOk (burnD d):=⟨h.lo,h.hi,h.wl,h.bs,h.ris,h.ws⟩
theorem DevOk.write{d:Dv}(h:DevOk d){num:Int}{data:ByteArray}(hn:num < d.size)(hd:data.size≤512)(hw:d.waits.length < 16384):DevOk {d with waits:=d.waits ++ [⟨num,cutB data⟩]}:=by
 refine⟨h.lo,h.hi,by simp;omega,h.bs,h.ris,fun b hb=>?_⟩;rcases List.mem_append.1 hb with hb|hb
 ·exact h.ws b hb
 ·rw[List.mem_singleton.1 hb];unfold ja3;have:=cut_size data;rw[Bool.and_eq_true,Bool.and_eq_true,decide_eq_true_eq,decide_eq_true_eq,jga,cut_idem];exact⟨hn,by simp only;omega,rfl⟩
theorem DevOk.flush{d:Dv}(h:DevOk d):DevOk {d with blocks:=d.waits.foldl putB d.blocks,waits:=[]}:=by
 obtain⟨f1,f2,_⟩:=jkz d.waits d.blocks h.ris;refine⟨h.lo,h.hi,by simp,fun b hb=>?_,f1,fun b hb=>by simp at hb⟩;rcases f2 b hb with hb|⟨hb,he⟩
 ·exact h.bs b hb
 ·exact⟨h.ws b hb,he⟩
theorem write_ok{d:Dv}(h:DevOk d)(hdn:d.down=false)(hf:d.fuse≠0){num:Int}{data:ByteArray}(hn:num < d.size)(hd:data.size≤512)(hw:d.waits.length < 16384):
 jbg d num data=(burnD {d with waits:=d.waits ++ [⟨num,cutB data⟩]},0):=by
 have he:jes d num data=0:=by
  unfold jes;rw[hdn,if_neg (by simp),if_neg (by omega),if_neg (by omega),if_neg (by omega)]
 have hb:(burnD d).down=false:=by
  unfold burnD;simp[hdn,hf]
 unfold jbg;rw[if_neg (by rw[(jcq d).2 h];simp),if_neg (by rw[he];simp),hb];rfl
theorem flush_ok{d:Dv}(h:DevOk d)(hdn:d.down=false)(hf:d.fuse≠0):jbs d=({burnD d with blocks:=d.waits.foldl putB d.blocks,waits:=[]},0):=by
 have hb:(burnD d).down=false:=by
  unfold burnD;simp[hdn,hf]
 unfold jbs;rw[if_neg (by rw[(jcq d).2 h];simp),hdn,if_neg (by simp),hb,if_neg (by simp)]
theorem read_write{d:Dv}(h:RiseB d.blocks)(num:Int)(x:ByteArray)(n:Int):readB {d with waits:=d.waits ++ [⟨num,x⟩]} n=if num=n then x else readB d n:=by
 rw[jhf (d:={d with waits:=d.waits ++ [⟨num,x⟩]}) h,jhf h];simp only[lastOf_snoc];by_cases hn:num=n
 ·rw[if_pos hn,if_pos hn]
 ·rw[if_neg hn,if_neg hn]
theorem read_flush{d:Dv}(h:RiseB d.blocks)(n:Int):readB {d with blocks:=d.waits.foldl putB d.blocks,waits:=[]} n=readB d n:=by
 obtain⟨f1,_,f3⟩:=jkz d.waits d.blocks h;rw[jhf (d:={d with blocks:=d.waits.foldl putB d.blocks,waits:=[]}) f1,jhf h];show lookB (d.waits.foldl putB d.blocks) n=_
 rw[f3 n]
theorem jh3(w:World)(n:Int)(d:ByteArray)(t:Int):
 Calls Tryz.prog 177 #[.agg #[.int .u32 n, .string d], .int .u32 t] w fun e w'=>e= .returned (.int .i64 (cmpI n t))∧Below w.heap.size w w':=by
 go_enter Tryz.func177,Tryz.ntmps177;go_wp2_with (go_at_call 112;refine(jji _ _ _).mono ?_;rintro e _ ⟨rfl,rfl⟩);go_ret;exact⟨rfl,(Below.refl _ _).alloc (Nat.le_refl _) _⟩
theorem bsBlk_any(w:World)(v:Value)(xs:List Blk)(t:Int)(hv:Sl blkE w v xs)(hso:jdk (xs.map (·.num)))(hlen:xs.length≤4398046511104):
 Calls Tryz.prog 176 #[v, .int .u32 t, .func (.func 177) #[] #[]] w fun e w'=>e= .returned (.tuple #[.int .i64 (ja5 (xs.map (·.num)) t), .bool (jba (xs.map (·.num)) t)])∧Below w.heap.size w w':=by
 obtain⟨A,c,rfl,hc,hc2,hrow⟩:=hv;have HR:=Lib.hid hrow;have HS:=Lib.hid hso;clear hrow hso;go_enter Tryz.func176,Tryz.ntmps176;go_wp2;go_loopw [9,10,11] (fun vi vj _ wr=>∃i j:Nat,i≤j∧j≤xs.length∧vi= .int .i64 i∧vj= .int .i64 j∧(∀k (h:k < xs.length),k < i→xs[k].num < t)∧(∀k (h:k < xs.length),j≤k→t≤xs[k].num)∧Below w.heap.size w wr) (fun vi vj _ _=>(intOf vj).toNat - (intOf vi).toNat)
 case atStart=>exact⟨0,xs.length,Nat.zero_le _,Nat.le_refl _,rfl,rfl,fun k _ h=>by omega,fun k h h'=>by omega,Below.refl _ _⟩
 case round=>
  obtain⟨i,j,hij,hj,rfl,rfl,hlo,hhi,hB⟩:=hrel;by_cases hlt:i < j
  ·have hm:(i + j) / 2 < xs.length:=by omega
   obtain⟨b,o,rfl,hat,hwf⟩:=HR.out ((i + j) / 2) hm;have hb:b < w.heap.size:=hat.lt (by simp[blkE]);have hat2:=hat.below hB (Nat.le_refl _);have d0:=hat2.cell 0 _ rfl;have d1:=hat2.cell 1 _ rfl;have hbr:b < wr.heap.size:=Nat.lt_of_lt_of_le hb hB.size;have HL:=Lib.hid (And.intro hlo (And.intro hhi hB));clear hlo hhi hB hat hat2 hwf;simp only[blkE,Nat.add_zero]at d0 d1;by_cases hbl:xs[(i + j) / 2].num < t
   ·have hn:=jia xs[(i + j) / 2].num t;rw[decide_eq_true hbl]at hn;have HBL:=Lib.hid (show ∀k (h:k < xs.length),k < (i + j) / 2 + 1→xs[k].num < t from fun k hk hki=>by have:=jea HS.out t k ((i + j) / 2) (by simpa using hk) (by simpa using hm) (by omega) (by simpa using hbl);simpa using this);clear hbl;generalize xs[(i + j) / 2].num=kk at *;generalize xs[(i + j) / 2].data=kv at *;go_wp2_with (go_at_call 177;refine(jh3 _ _ _ _).mono ?_;rintro e w1 ⟨rfl,hb1⟩);refine⟨⟨(i + j) / 2 + 1,j,by omega,hj,by go_num,rfl,HBL.out,HL.out.2.1,Below.step HL.out.2.2 hb1⟩,?_⟩;simp[intOf];omega
   ·have hn:=jia xs[(i + j) / 2].num t;rw[decide_eq_false hbl]at hn;have HBL:=Lib.hid (show ∀k (h:k < xs.length),(i + j) / 2≤k→t≤xs[k].num from fun k hk hki=>Int.not_lt.1 fun hh=>hbl (by have:=jea HS.out t ((i + j) / 2) k (by simpa using hm) (by simpa using hk) hki (by simpa using hh);simpa using this));clear hbl;generalize xs[(i + j) / 2].num=kk at *;generalize xs[(i + j) / 2].data=kv at *;go_wp2_with (go_at_call 177;refine(jh3 _ _ _ _).mono ?_;rintro e w1 ⟨rfl,hb1⟩);refine⟨⟨i,(i + j) / 2,by omega,by omega,rfl,by go_num,HL.out.1,HBL.out,Below.step HL.out.2.2 hb1⟩,?_⟩;simp[intOf];omega
  ·obtain rfl:i=j:=by omega
   have hpos:ja5 (xs.map (·.num)) t=i:=by
    refine jd0 _ (xs.map (·.num)) i (by simpa using hj) (fun k h hk=>?_) (fun h=>?_)
    ·have:=hlo k (by simpa using h) hk;simpa using this
    ·have:=hhi i (by simpa using h) (Nat.le_refl _);simpa using this
   by_cases hi:i < xs.length
   ·obtain⟨b,o,rfl,hat,hwf⟩:=HR.out i hi;have hb:b < w.heap.size:=hat.lt (by simp[blkE]);have hat2:=hat.below hB (Nat.le_refl _);have d0:=hat2.cell 0 _ rfl;have d1:=hat2.cell 1 _ rfl;have hbr:b < wr.heap.size:=Nat.lt_of_lt_of_le hb hB.size;have hhas:jba (xs.map (·.num)) t=(cmpI xs[i].num t==0):=by unfold jba hasAt;rw[hpos,List.getElem?_map,List.getElem?_eq_getElem hi,jla];rfl
    have HL:=Lib.hid (And.intro hpos (And.intro hhas hB));clear hlo hhi hB hat hat2 hwf hpos hhas;simp only[blkE,Nat.add_zero]at d0 d1;generalize xs[i].num=kk at *;generalize xs[i].data=kv at *;go_wp2_with (go_at_call 177;refine(jh3 _ _ _ _).mono ?_;rintro e w1 ⟨rfl,hb1⟩);go_ret2;obtain⟨e1,e2,e3⟩:=HL.out;exact⟨by rw[e1,e2];rfl,Below.step e3 hb1⟩
   ·have hhas:jba (xs.map (·.num)) t=false:=by unfold jba hasAt;rw[hpos,List.getElem?_eq_none (by rw[List.length_map];omega)]
    have HL:=Lib.hid (And.intro hpos (And.intro hhas hB));clear hlo hhi hB hpos hhas;go_wp2;go_ret2;obtain⟨e1,e2,e3⟩:=HL.out;exact⟨by rw[e1,e2];rfl,e3⟩
end Go.Proofs.YtpaohkkhejpgjaaGreatDoor
namespace Go.Proofs.YtpaohkkhejpgjaaGreatDoor
open Go Go.RowKit Go.Shelf
attribute [local go_sem] Oper.semAt_some
def noBlk:Blk:=⟨0,ByteArray.empty⟩
def jf3(xs:List Blk)(k:Nat):List (Nat×Blk):=(List.range k).map (fun j=>(xs.length - 1 - j,(xs[xs.length - 1 - j]?).getD noBlk))
theorem backTo_succ(xs:List Blk)(k:Nat):jf3 xs (k + 1)=jf3 xs k ++ [(xs.length - 1 - k,(xs[xs.length - 1 - k]?).getD noBlk)]:=by simp[jf3,List.range_succ]
theorem backTo_len(xs:List Blk)(k:Nat):(jf3 xs k).length=k:=by simp[jf3]
theorem jl9(xs:List Blk)(k:Nat)(hk:k≤xs.length):(jf3 xs k).map (·.2)=xs.reverse.take k:=by
 apply List.ext_getElem
 ·simp[jf3,hk]
 ·intro i h1 h2;have hi:i < k:=by simp[jf3]at h1;omega
  simp only[jf3,List.map_map,List.getElem_map,List.getElem_range,Function.comp,List.getElem_take,List.getElem_reverse];rw[List.getElem?_eq_getElem (by omega)];rfl
def blkEncs(x:Nat×Blk):Array Value:= #[.int .i64 (x.1:Int), .agg #[.int .u32 x.2.num, .string x.2.data]]
theorem back1_any(m:Nat)(hm:1≤m)(Bs:Nat)(v:Value)(xs:List Blk)(w:World)(hBs:w.cell? ⟨Bs,0,none⟩=some v)(hv:Sl blkE w v xs)(hl:xs.length≤4398046511104):
 SeqStopsK Fence.wide m Tryz.prog 175 #[.pointer (some ⟨Bs,0,none⟩)] blkEncs (Below w.heap.size) (fun ys=>ys.map (·.2)=xs.reverse) (fun pre=>pre.map (·.2) <+:xs.reverse) xs.length w:=fun l J Jx W hW _ _ hY h0=>by
 obtain⟨A,c,rfl,hc,hc2,hrow⟩:=hv;have HR:=Lib.hid hrow;clear hrow;have hcB:W.cell? ⟨Bs,0,none⟩=some (.slice A xs.length c):=(hW.cell (p:=⟨Bs,0,none⟩) (block_lt_of_cell hBs)).trans hBs;refine(callsIn_of_wp Tryz.func175 rfl trivial ?_ rfl);simp only[Tryz.ntmps175,List.size_toArray,List.length_cons,List.length_nil,Nat.reduceAdd,Nat.reduceSub,Array.replicate_succ,Array.replicate_zero,List.push_toArray,List.append_toArray,List.nil_append,List.cons_append]
 gi_wp2
 gi_loopw [3] (fun i wr=>∃k:Nat,k≤xs.length∧i= .int .i64 ((xs.length:Int) - 1 - k)∧J (jf3 xs k) wr∧Below w.heap.size W wr) (fun i _=>(intOf i + 1).toNat)
 case atStart=>exact⟨0,Nat.zero_le _,by go_num,h0,Below.refl _ _⟩
 case round=>
  obtain⟨k,hk,rfl,hJs,hB⟩:=hrel;have hcx:wr.cell? ⟨Bs,0,none⟩=some (.slice A xs.length c):=(hB.cell (p:=⟨Bs,0,none⟩) (block_lt_of_cell hBs)).trans hcB;by_cases hlt:k < xs.length
  ·have hm:xs.length - 1 - k < xs.length:=by omega
   obtain⟨b,o,rfl,hat,hwf⟩:=HR.out (xs.length - 1 - k) hm;have hat2:=hat.below ((hW.trans hB):Below w.heap.size w wr) (Nat.le_refl _);have d0:=hat2.cell 0 _ rfl;have d1:=hat2.cell 1 _ rfl;have hgd:(xs[xs.length - 1 - k]?).getD noBlk=xs[xs.length - 1 - k]:=by rw[List.getElem?_eq_getElem hm];rfl
   have hY2:=hY _ (xs.length - 1 - k,(xs[xs.length - 1 - k]?).getD noBlk) wr hJs (by rw[backTo_len];exact hlt);rw[hgd]at hY2;have HS:=Lib.hid (show jf3 xs (k + 1)=jf3 xs k ++ [(xs.length - 1 - k,xs[xs.length - 1 - k])] by rw[backTo_succ,hgd]);simp only[blkE,Nat.add_zero]at d0 d1;have hidx:((xs.length - 1 - k:Nat):Int)=(xs.length:Int) - 1 - k:=by omega
   have HB:=Lib.hid (And.intro hB hk);clear hgd hat hat2 hwf hB;generalize xs[xs.length - 1 - k]=bk at *;obtain⟨kk,kv⟩:=bk;simp only[blkEncs]at hY2 d0 d1;obtain⟨fn,tmps,assign,body,hy,hR⟩:=hY2;have q1:decide (0≤(xs.length:Int) - 1 - k)=true:=decide_eq_true (by omega);have q2:decide ((xs.length:Int) - 1 - k≥0)=true:=q1;rw[hidx]at hy
   gi_wp2
   refine hR.mono ?_;rintro e W3 (⟨rfl,hJ3,hk3⟩|⟨rfl,hJx3⟩)
   ·gi_wp2
    go_roundw
    case rel=>exact⟨k + 1,by omega,by go_num,by rw[HS.out];exact hJ3,HB.out.1.trans hk3⟩
    case measure=>simp[intOf];omega
   ·gi_wp2
    refine bodyPost_ret (results_none rfl _ _ _) rfl ?_;refine⟨⟨_,rfl⟩, .inr ⟨jf3 xs (k + 1),by rw[jl9 _ _ (by omega)];exact List.take_prefix _ _,by rw[HS.out];exact hJx3⟩⟩
  ·obtain rfl:k=xs.length:=by omega
   have q1:decide (0≤(xs.length:Int) - 1 - xs.length)=false:=decide_eq_false (by omega);have q2:decide ((xs.length:Int) - 1 - xs.length≥0)=false:=q1
   gi_wp2
   go_end0;exact⟨⟨_,rfl⟩, .inl ⟨_,by rw[jl9 _ _ (Nat.le_refl _),List.take_of_length_le (by simp)],hJs⟩⟩
theorem numPos_blk(bs:List Blk)(t:Int):ja5 (bs.map (·.num)) t=jbr bs t:=by
 unfold ja5 jbr posOf;rw[List.takeWhile_map,List.length_map];rfl
theorem numHas_blk(bs:List Blk)(t:Int):jba (bs.map (·.num)) t=jer bs t:=by
 unfold jba jer hasAt;rw[numPos_blk,List.getElem?_map];cases bs[jbr bs t]? <;>rfl
theorem rise_rising{bs:List Blk}(h:RiseB bs):jdk (bs.map (·.num)):=fun i j hi hj hij=>List.pairwise_iff_getElem.1 h i j hi hj hij
theorem jma(w:World)(p:Nat)(bv:Value)(bs:List Blk)(t:Int)(hc:w.cell? ⟨p,1,none⟩=some bv)(hv:Sl blkE w bv bs)(hr:RiseB bs)(hl:bs.length≤1073741824):
 Calls Tryz.prog 118 #[.pointer (some ⟨p,0,none⟩), .int .u32 t] w fun e w'=>e= .returned (.tuple #[.int .i64 (jbr bs t), .bool (jer bs t)])∧Below w.heap.size w w':=by
 obtain⟨A,n,c,rfl⟩:=jax hv;have HV:=Lib.hid hv;clear hv;go_enter Tryz.func118,Tryz.ntmps118;go_wp2_with (go_at_call 176;refine(bsBlk_any w _ bs t HV.out (rise_rising hr) (by omega)).mono ?_;rintro e w1 ⟨rfl,hb1⟩;rw[numPos_blk,numHas_blk];have HB1:=Lib.hid hb1;clear hb1);go_ret2;exact⟨rfl,HB1.out⟩
theorem backB_any(w:World)(a:Option Addr)(n c:Nat):Calls Tryz.prog 117 #[.slice a n c] w fun e w'=>
 e= .returned (.func (.func 175) #[] #[.pointer (some ⟨w.heap.size,0,none⟩)])∧w'=w.alloc (.cells #[.slice a n c] 23):=by
 go_enter Tryz.func117,Tryz.ntmps117;go_wp2;go_ret;exact⟨rfl,rfl⟩
def NoHit(num:Int)(pre:List (Nat×Blk)):Prop:=(pre.map (·.2)).find? (fun b=>b.num==num)=none
def Hit(num:Int)(pre:List (Nat×Blk))(data:ByteArray):Prop:=∃ini last,pre=ini ++ [last]∧NoHit num ini∧last.2.num=num∧last.2.data=data
theorem NoHit.snoc{num:Int}{pre:List (Nat×Blk)}(h:NoHit num pre){x:Nat×Blk}(hx:x.2.num≠num):NoHit num (pre ++ [x]):=by
 unfold NoHit at *;rw[List.map_append,List.find?_append,h];simp[hx]
theorem Hit.last{d:Dv}{num:Int}{pre:List (Nat×Blk)}{data:ByteArray}(h:Hit num pre data)(hp:pre.map (·.2) <+:d.waits.reverse):readB d num=data:=by
 obtain⟨ini,last,rfl,h1,h2,rfl⟩:=h;obtain⟨r,hr⟩:=hp;have:jek d.waits num=some last.2:=by
  unfold jek;rw[←hr,List.map_append,List.append_assoc,List.find?_append,h1];simp[h2]
 unfold readB;rw[this]
theorem row_own{β:Type}(b:Nat)(cs:Array Value)(t:TypeId):Own (fun(_:β) W=>W.heap[b]? =some (.cells cs t (0,0))):=fun s X Y row hs hg hrow=>
 (hg.block b (Array.getElem?_eq_some_iff.1 (show X.heap[b]? =_ from hs)).1 (fun e'=>by obtain⟨o,ho,hc⟩:=hrow b e'.symm;rw[show X.heap[b]? =_ from hs]at ho;cases ho;cases hc)).trans hs
theorem jmb(w0 w:World)(p:Nat)(num cnt:Int)(d:Dv)(bv wv:Value)(h0:Below w0.heap.size w0 w)(hp0:w0.heap.size≤p)
 (hp:w.heap[p]? =some (.cells #[.int .u32 d.size,bv,wv, .bool d.down, .int .i64 d.fuse, .int .u64 cnt] 114 (0,0)))
 (hbs:Sl blkE w0 bv d.blocks) (hws:Sl blkE w0 wv d.waits) (hr:RiseB d.blocks) (hl:d.blocks.length≤1073741824) (hl2:d.waits.length≤1073741824):
 Calls Tryz.prog 57 #[.pointer (some ⟨p,0,none⟩), .int .u32 num] w fun e w'=>e= .returned (.string (readB d num))∧Below w0.heap.size w0 w':=by
 obtain⟨A,n,c,rfl⟩:=jax hbs;obtain⟨A2,n2,c2,rfl⟩:=jax hws;have HS:=Lib.hid (And.intro hbs hws);clear hbs hws;have hlt:=lt_of_block hp;have y2:w.cell? ⟨p,2,none⟩=some (.slice A2 n2 c2):=by rw[cell_of_row _ _ _ _ _ _ hp];rfl
 have y5:w.cell? ⟨p,5,none⟩=some (.int .u64 cnt):=by rw[cell_of_row _ _ _ _ _ _ hp];rfl
 have z5:=frozen_of_row w p 5 _ _ hp;have HP:=Lib.hid (And.intro hp h0);clear hp h0;refine(callsIn_wide (n:=6)).1 ?_;refine callsIn_of_wp_marks Tryz.func57 rfl trivial ?_ rfl;simp only[Tryz.ntmps57,List.size_toArray,List.length_cons,List.length_nil,Nat.reduceAdd,Nat.reduceSub,Array.replicate_succ,Array.replicate_zero,List.push_toArray,List.append_toArray,List.nil_append,List.cons_append]
 gi_wp2_with (fail)
 have bN:=(Boxed.new w 22 (.int .u32 num)).alloc (.cells #[.string {data:= #[]}] 9);have bR:=Boxed.new (w.alloc (.cells #[.int .u32 num] 22)) 9 (.string {data:= #[]});rw[World.size_alloc]at bR;have hsz:((w.alloc (.cells #[.int .u32 num] 22)).alloc (.cells #[.string {data:= #[]}] 9)).heap.size=w.heap.size + 2:=by simp
 have hBa:Below w0.heap.size w0 ((w.alloc (.cells #[.int .u32 num] 22)).alloc (.cells #[.string {data:= #[]}] 9)):=(HP.out.2.alloc HP.out.2.size _).alloc (by have:=HP.out.2.size;simp;omega) _;have hpa:((w.alloc (.cells #[.int .u32 num] 22)).alloc (.cells #[.string {data:= #[]}] 9)).heap[p]? =some (.cells #[.int .u32 d.size, .slice A n c, .slice A2 n2 c2, .bool d.down, .int .i64 d.fuse, .int .u64 cnt] 114 (0,0)):=by
  rw[Lib.alloc_old _ _ _ (by simp;omega),Lib.alloc_old _ _ _ hlt];exact HP.out.1
 generalize(w.alloc (.cells #[.int .u32 num] 22)).alloc (.cells #[.string {data:= #[]}] 9)=wa at *;have c5:wa.cell? ⟨p,5,none⟩=some (.int .u64 cnt):=by rw[cell_of_row _ _ _ _ _ _ hpa];rfl
 have f5:=frozen_of_row wa p 5 _ _ hpa;refine⟨trivial,?_⟩;refine(callsIn_wide.2 (meter_add wa p 5 cnt 1 c5 f5)).mono ?_;rintro e w1 ⟨v1,u,rfl,hw1⟩;have hp1:=ja2 hpa 5 (.int .u64 u);have hg:wa.grownBy (wa.setCell ⟨p,5,none⟩ (.int .u64 u)) (some p):=jap (World.grownBy.refl wa (some p)) 5 _;have bN1:=bN.kept hg (by simp;omega);have bR1:=bR.kept hg (by simp;omega);have hB1:=hBa.grown hg hBa.size (fun q hq=>by have h9:p=q:=Option.some.inj hq;omega);have hs1:(wa.setCell ⟨p,5,none⟩ (.int .u64 u)).heap.size=w.heap.size + 2:=by simpa using hsz
 rw[←hw1]at hp1 bN1 bR1 hB1 hs1;clear hg c5 f5 hw1 bN bR hBa hpa hsz y2 y5 z5;have y1:w1.cell? ⟨p,1,none⟩=some (.slice A n c):=by rw[cell_of_row _ _ _ _ _ _ hp1];rfl
 have y2:w1.cell? ⟨p,2,none⟩=some (.slice A2 n2 c2):=by rw[cell_of_row _ _ _ _ _ _ hp1];rfl
 have HW:=Lib.hid (And.intro hp1 (And.intro bN1 (And.intro bR1 hB1)));clear hp1 bN1 bR1 hB1 HP
 gi_wp2_with (fail)
 refine⟨trivial,?_⟩;refine(callsIn_wide.2 (backB_any _ _ _ _)).mono ?_;rintro e w2 ⟨rfl,hw2⟩;have bS:=Boxed.new w1 23 (.slice A2 n2 c2);have hs2:(w1.alloc (.cells #[.slice A2 n2 c2] 23)).heap.size=w.heap.size + 3:=by simp[hs1]
 have hp2:=(Below.heap_alloc w1 (.cells #[.slice A2 n2 c2] 23) p (lt_of_block HW.out.1)).trans HW.out.1;have bN2:=HW.out.2.1.alloc (.cells #[.slice A2 n2 c2] 23);have bR2:=HW.out.2.2.1.alloc (.cells #[.slice A2 n2 c2] 23);have hB2:=HW.out.2.2.2.alloc HW.out.2.2.2.size (.cells #[.slice A2 n2 c2] 23);rw[hs1]at bS;rw[←hw2]at bS hs2 hp2 bN2 bR2 hB2;rw[hs1];clear hw2 HW y1 y2 hs1
 gi_wp2_with (fail)
 have HB0:=Lib.hid hB2;have hsl:Sl blkE w2 (.slice A2 n2 c2) d.waits:=HS.out.2.below hB2 (Nat.le_refl _);refine wpIn_rangeFunc_ownH rfl (by omega) (gf:=175) (lb:= #[.pointer (some ⟨w.heap.size + 2,0,none⟩)]) rfl trivial (enters_of Tryz.func175 (by kernel_rfl) rfl)
  (back1_any 5 (by omega) (w.heap.size + 2) _ d.waits w2 bS.cell hsl (by omega)) belowK_t (belowK_b (Nat.le_refl _)) (Below.refl _ _) (fun _=>rfl)
  (fun pre W=>((NoHit num pre∧Boxed W w.heap.size 22 (.int .u32 num))∧(Boxed W (w.heap.size + 1) 9 (.string {data:= #[]})∧W.heap[p]? =some (.cells #[.int .u32 d.size, .slice A n c, .slice A2 n2 c2, .bool d.down, .int .i64 d.fuse, .int .u64 u] 114 (0,0))∧w2.heap.size≤W.heap.size))∧Below w0.heap.size w0 W)
  (fun c pre W=>(c= .ret∧∃data,Hit num pre data∧Boxed W (w.heap.size + 1) 9 (.string data))∧Below w0.heap.size w0 W)
  ?own ?ownx ?start
  (fun x a' W=>∃Bx,W.heap[Bx]? =some (.cells #[.int .u32 x.2.num, .string x.2.data] 160 (0,0))∧a'={tmps:= #[.pointer (some ⟨p,0,none⟩), .int .u32 num,undef, .pointer (some ⟨w.heap.size,0,none⟩), .pointer (some ⟨w.heap.size + 1,0,none⟩),undef, .pointer (some ⟨Bx,0,none⟩),undef,undef, .pointer (some ⟨p,0,none⟩), .pointer (some ⟨p,0,none⟩), .pointer (some ⟨p,5,none⟩),v1, .pointer (some ⟨p,0,none⟩), .pointer (some ⟨p,0,none⟩), .pointer (some ⟨p,0,none⟩), .pointer (some ⟨p,2,none⟩), .slice A2 n2 c2, .func (.func 175) #[] #[.pointer (some ⟨w.heap.size + 2,0,none⟩)], .int .i64 (x.1:Int), .agg #[.int .u32 x.2.num, .string x.2.data],undef,undef,undef,undef,undef,undef,undef,undef,undef,undef,undef,undef,undef,undef,undef,undef,undef,undef,undef,undef,undef,undef],defers:=[]})
  ?ownA ?assign ?body ?done ?stop
 case own=>exact OwnFrom.and (Own.from (fun s X Y row hs hg hr=>⟨⟨hs.1.1,boxed_own (β:=Unit) _ _ (fun _=>_) () X Y row hs.1.2 hg hr⟩,boxed_own (β:=Unit) _ _ (fun _=>_) () X Y row hs.2.1 hg hr,row_own (β:=Unit) _ _ _ () X Y row hs.2.2.1 hg hr,Nat.le_trans hs.2.2.2 hg.size⟩) _) (ownFrom_below (Nat.le_refl _) HB0.out.size)
 case ownx=>exact fun c=>OwnFrom.and (Own.from (fun s X Y row hs hg hr=>⟨hs.1,by obtain⟨data,e1,e2⟩:=hs.2;exact⟨data,e1,boxed_own (β:=Unit) _ _ (fun _=>_) () X Y row e2 hg hr⟩⟩) _) (ownFrom_below (Nat.le_refl _) HB0.out.size)
 case start=>exact⟨⟨⟨rfl,bN2⟩,bR2,hp2,Nat.le_refl _⟩,hB2⟩
 case ownA=>exact fun x a'=>Own.from (fun s X Y row hs hg hr=>by obtain⟨Bx,e1,e2⟩:=hs;exact⟨Bx,row_own (β:=Unit) _ _ _ () X Y row e1 hg hr,e2⟩) _
 case assign=>
  rintro l pre ⟨xi,xk,xd⟩ W K ⟨⟨⟨hf,hN⟩,hR,hpW,hsW⟩,hBW⟩ hK;simp only[blkEncs]
  gi_wp2
  exact hK _ _ ((KeepsOthers.alloc _ _).from _) ((Below.refl _ W).alloc hsW _) ⟨⟨⟨hf,hN.alloc _⟩,hR.alloc _,(Below.heap_alloc W _ p (lt_of_block hpW)).trans hpW,by simp;omega⟩,hBW.alloc hBW.size _⟩ ⟨W.heap.size,World.alloc_heap_new W _,rfl⟩
 case body=>
  rintro l pre ⟨xi,xk,xd⟩ a' W hl0 hrec ⟨⟨⟨hf,hN⟩,hR,hpW,hsW⟩,hBW⟩ ⟨Bx,hBx,rfl⟩ hlen;have g0:W.cell? ⟨Bx,0,none⟩=some (.int .u32 xk):=by rw[cell_of_row _ _ _ _ _ _ hBx];rfl
  have g1:W.cell? ⟨Bx,1,none⟩=some (.string xd):=by rw[cell_of_row _ _ _ _ _ _ hBx];rfl
  have g2:=hN.cell;have g3:=hR.cell;have g4:=hR.frozen;by_cases he:xk=num
  ·have q1:(xk==num)=true:=by simpa using he
   gi_wp2
   refine⟨(KeepsOthers.setCell _ _ _).from _,⟨rfl,xd,⟨pre,(xi,⟨num,xd⟩),rfl,hf,rfl,rfl⟩,hR.set _⟩,hBW.setCell (p:=⟨w.heap.size + 1,0,none⟩) (show w0.heap.size≤w.heap.size + 1 by omega) _⟩
  ·have q1:(xk==num)=false:=by simpa using he
   gi_wp2
   exact⟨KeepsFrom.refl _ _,Below.refl _ _,⟨⟨hf.snoc he,hN⟩,hR,hpW,by omega⟩,hBW⟩
 case done=>
  rintro D ys W hD hys ⟨⟨⟨hf,hN⟩,hR,hpW,hsW⟩,hBW⟩ hK;unfold NoHit at hf;rw[hys]at hf;have HL:=Lib.hid (show jek d.waits num=none from hf);have g1:W.cell? ⟨p,1,none⟩=some (.slice A n c):=by rw[cell_of_row _ _ _ _ _ _ hpW];rfl
  have g2:=hN.cell;have hsb:Sl blkE W (.slice A n c) d.blocks:=HS.out.1.below hBW (Nat.le_refl _);have HSB:=Lib.hid hsb;have HK:=Lib.hid (And.intro hK (And.intro hR (And.intro hpW hBW)));clear hsb hK hpW hBW hf hR hN hys
  gi_wp2_with (fail)
  refine⟨trivial,?_⟩;refine(callsIn_wide.2 (jma W p _ d.blocks num g1 HSB.out hr hl)).mono ?_;rintro e w3 ⟨rfl,hb3⟩;have hK3:=(hb3.block D (Array.getElem?_eq_some_iff.1 HK.out.1).1).trans HK.out.1;have hR3:Boxed w3 (w.heap.size + 1) 9 (.string {data:= #[]}):=(hb3.block _ HK.out.2.1.lt).trans HK.out.2.1;have hp3:=(hb3.block p (lt_of_block HK.out.2.2.1)).trans HK.out.2.2.1;have hB3:=HK.out.2.2.2.trans (hb3.mono HK.out.2.2.2.size);have hs3:Sl blkE w3 (.slice A n c) d.blocks:=HS.out.1.below hB3 (Nat.le_refl _);clear hb3 HSB HK g1 g2;have y1:w3.cell? ⟨p,1,none⟩=some (.slice A n c):=by rw[cell_of_row _ _ _ _ _ _ hp3];rfl
  have r1:=hR3.cell;have r2:=hR3.frozen;have hRne:D≠w.heap.size + 1:=by intro e;rw[e]at hK3;rw[show w3.heap[w.heap.size + 1]? =_ from hR3]at hK3;cases hK3
  have fin:∀x:ByteArray,x=readB d num→((w3.setCell ⟨w.heap.size + 1,0,none⟩ (.string x)).putObj D (.deferred none)).cell? ⟨w.heap.size + 1,0,none⟩=some (.string (readB d num))∧Below w0.heap.size w0 ((w3.setCell ⟨w.heap.size + 1,0,none⟩ (.string x)).putObj D (.deferred none))∧(w3.setCell ⟨w.heap.size + 1,0,none⟩ (.string x)).heap[D]? =some (.deferred (some [])):=by
   rintro x rfl;have hK':=(KeepsOthers.setCell w3 ⟨w.heap.size + 1,0,none⟩ (.string (readB d num))).same D _ hK3 rfl;exact⟨cell_kept (World.cell?_setCell_same' w3 ⟨w.heap.size + 1,0,none⟩ (.string (readB d num)) (by rw[r1];rfl)) (grownBy_putObj' _ D (.deferred none)) (fun r e=>by cases e;exact⟨_,hK',rfl⟩),
    (hB3.setCell (p:=⟨w.heap.size + 1,0,none⟩) (show w0.heap.size≤w.heap.size + 1 by omega) _).trans (belowK_b (w:=w2) HB0.out.size _ D _ _ hD hK' rfl rfl),hK'⟩
  have HF:=Lib.hid fin;clear fin hK3 hR3 hB3 hp3;cases hh:jer d.blocks num with
  |false=>
   have hx:ByteArray.mk #[]=readB d num:=by unfold readB;rw[HL.out,hh];rfl
   have HX:=Lib.hid (HF.out _ hx);clear hx hh
   gi_wp2_with (fail)
   refine⟨by simp, .inl ⟨_,_,rfl,run_takeDeferred HX.out.2.2,?_⟩⟩;refine⟨.string (readB d num),?_,rfl,HX.out.2.1⟩;simp[results,Tryz.f57,go_sem,HX.out.1]
  |true=>
   have hpl:jbr d.blocks num < d.blocks.length:=by
    unfold jer hasAt at hh;cases hg:d.blocks[jbr d.blocks num]? with
    |none=>rw[hg]at hh;cases hh
    |some b=>exact(List.getElem?_eq_some_iff.1 hg).1
   have hx:d.blocks[jbr d.blocks num].data=readB d num:=by unfold readB;rw[HL.out,hh,List.getElem?_eq_getElem hpl];rfl
   have HX:=Lib.hid (HF.out _ hx);obtain⟨A9,c9,e9,hc,hc2,hrow⟩:=hs3;obtain⟨rfl,rfl,rfl⟩:A=A9∧n=d.blocks.length∧c=c9:=by simpa using e9
   obtain⟨b,o,rfl,hat,hwf⟩:=hrow (jbr d.blocks num) hpl;have d1:=hat.cell 1 _ rfl;simp only[blkE,Nat.add_zero]at d1;clear hx hh hat hwf hrow e9;have HHS:=Lib.hid HS.out;generalize d.blocks[jbr d.blocks num].data=dd at *;generalize jbr d.blocks num=ix at *
   gi_wp2_with (fail)
   refine⟨by simp, .inl ⟨_,_,rfl,run_takeDeferred HX.out.2.2,?_⟩⟩;refine⟨.string (readB d num),?_,rfl,HX.out.2.1⟩;simp[results,Tryz.f57,go_sem,HX.out.1]
 case stop=>
  rintro D c0 pre W hD hpre ⟨⟨rfl,data,hh,hR⟩,hBW⟩ hK
  gi_wp2
  have hd:=hh.last hpre;subst hd;have hK':=hK;refine⟨by simp, .inl ⟨_,_,rfl,run_takeDeferred hK',?_⟩⟩;have hc5:=cell_kept hR.cell (grownBy_putObj' _ D (.deferred none)) (fun r e=>by cases e;exact⟨_,hK',rfl⟩);refine⟨.string (readB d num),?_,rfl,hBW.trans (belowK_b (w:=w2) HB0.out.size _ D _ _ hD hK' rfl rfl)⟩;simp[results,Tryz.f57,go_sem,hc5]
#print axioms jmb
end Go.Proofs.YtpaohkkhejpgjaaGreatDoor
