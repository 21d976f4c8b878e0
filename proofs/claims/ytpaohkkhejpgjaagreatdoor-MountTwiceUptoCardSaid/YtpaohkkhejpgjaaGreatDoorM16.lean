/- Texts of the proof: Lv Hl Rs. -/
import Derived.Test.YtpaohkkhejpgjaaGreatDoorM5
import Derived.Test.YtpaohkkhejpgjaaGreatDoorM15
import Derived.Test.YtpaohkkhejpgjaaGreatDoorM12
set_option linter.all false
set_option maxRecDepth 100000
set_option maxHeartbeats 8000000
namespace Go.Proofs.YtpaohkkhejpgjaaGreatDoor
open Go Go.RowKit
/-! The levels of a tree. -/
section
variable {α β:Type} {sz:α→Nat} {last:α→Nat→Bool}
end
def KeysOk(ks:List ByteArray):Prop:=(∀k∈ks,k.size≤48∧bl ByteArray.empty k=true)∧ks.Pairwise (fun a b=>bl a b=true)
/-! The heap at work as a list. -/
def jeb:List Int→Bool
 |[]=>true
 |[_]=>true
 |a::b::r=>decide (a < b) && jeb (b::r)
def okCel(sz:Int)(c:Cel):Bool:=decB c.data && (decide (2≤c.num) && decide (c.num < sz))
def okH(h:Hp):Bool:=(decide (16≤h.size) && decide (h.size≤65536)) && (h.cells.all (okCel h.size) && jeb (h.cells.map (·.num)))
def cc0(c:Cel):CC:=⟨c.num,c.data,c.refs,decN c.data,jbm,0⟩
def cc1(c:Cel):CC:=⟨c.num,c.data,c.refs,decN c.data,shaOf c.data.data.toList,0⟩
def jaz(cs:List CC):List Int:=cs.flatMap fun c=>jbk c.node
def jav(h:Hp):List CC:=bumps (jaz (h.cells.map cc1)) (h.cells.map cc1)
def jld(cs:List CC):Bool:=cs.all (fun c=>decide (c.led≤c.refs) && decide (c.refs≤16777216))
def jgd(cs:List CC):Bool:=cs.all (fun c=>jdr cs c.node==0)
def openB(h:Hp):Bool:=okH h && (jgd (h.cells.map cc1) && jld (jav h))
def celOf(c:CC):Cel:=⟨c.num,c.data,c.refs⟩
def jfi(sz:Int)(cs:List CC):Hp:=⟨sz,cs.map celOf⟩
def wholeB(n:Node):ByteArray:=⟨(jcw (encL n)).toArray⟩
def jaj(cs:List CC):List Int:=cs.map (·.num)
def je3(cs:List CC)(t:Int):Int:=((jc6 cs t).map (·.refs)).getD 0
def insCC(c:CC)(cs:List CC):List CC:=cs.take (ja5 (jaj cs) c.num) ++ c::cs.drop (ja5 (jaj cs) c.num)
/-! Small laws. -/
theorem jge:∀l:List Int,jeb l=true ↔ l.Pairwise (· < ·)
 |[]=>by simp[jeb]
 |[_]=>by simp[jeb]
 |a::b::r=>by
  rw[jeb,Bool.and_eq_true,jge (b::r)];simp only[List.pairwise_cons,decide_eq_true_eq];constructor
  ·rintro⟨h,h1,h2⟩;refine⟨fun k hk=>?_,h1,h2⟩;rcases List.mem_cons.1 hk with rfl|hk
   ·exact h
   ·have:=h1 k hk;omega
  ·rintro⟨h,h1,h2⟩;exact⟨h _ (by simp),h1,h2⟩
theorem jc2:∀{cs:List CC} (h:(jaj cs).Pairwise (· < ·)) {t:Int} {c:CC},jc6 cs t=some c ↔ c∈cs∧c.num=t
 |[],_,t,c=>by simp[jc6]
 |d::cs,h,t,c=>by
  simp only[jaj,List.map_cons,List.pairwise_cons]at h;have ih:=jc2 (cs:=cs) h.2 (t:=t) (c:=c);unfold jc6 at ih ⊢;by_cases hd:d.num=t
  ·rw[List.find?_cons_of_pos (by simpa using hd)];constructor
   ·intro e;injection e with e;subst e;exact⟨by simp,hd⟩
   ·rintro⟨hm,he⟩;rcases List.mem_cons.1 hm with rfl|hm
    ·rfl
    ·have:=h.1 c.num (List.mem_map.2 ⟨c,hm,rfl⟩);omega
  ·rw[List.find?_cons_of_neg (by simpa using hd),ih];constructor
   ·rintro⟨hm,he⟩;exact⟨by simp[hm],he⟩
   ·rintro⟨hm,he⟩;rcases List.mem_cons.1 hm with rfl|hm
    ·exact absurd he hd
    ·exact⟨hm,he⟩
def Has(cs:List CC)(num:Int)(hash:List Int):Prop:=∃c∈cs,c.num=num∧c.hash=hash
theorem jj3{cs:List CC}(h:(jaj cs).Pairwise (· < ·)):∀(ks:List Kid) (why:Int),jdp cs why ks=0 ↔ why=0∧∀k∈ks,Has cs k.num k.hash
 |[],why=>by simp[jdp]
 |k::r,why=>by
  rw[jdp];cases hf:jc6 cs k.num with
  |none=>
   simp only[List.mem_cons,forall_eq_or_imp];constructor
   ·intro e;omega
   ·rintro⟨_,⟨c,hc,hn,_⟩,_⟩;rw[(jc2 h).2 ⟨hc,hn⟩]at hf;cases hf
  |some c=>
   have hc:=(jc2 h).1 hf;simp only[jj3 h r,List.mem_cons,forall_eq_or_imp];by_cases he:c.hash=k.hash
   ·rw[if_pos he];exact⟨fun hh=>⟨hh.1,⟨c,hc.1,hc.2,he⟩,hh.2⟩,fun hh=>⟨hh.1,hh.2.2⟩⟩
   ·rw[if_neg he];constructor
    ·rintro⟨h9,_⟩;omega
    ·rintro⟨_,⟨d,hd,hn,hh⟩,_⟩;have:=(jc2 h).2 ⟨hd,hn⟩;rw[hf]at this;injection this with this;subst this;exact absurd hh he
theorem jjg{cs:List CC}(h:(jaj cs).Pairwise (· < ·))(n:Node):jdr cs n=0 ↔ ∀k∈jcn n,Has cs k.num k.hash:=by
 unfold jdr;rw[jj3 h];simp
theorem kidNums_named(n:Node):∀t∈jbk n,∃k∈jcn n,k.num=t:=by
 intro t ht;unfold jbk at ht;split at ht
 ·obtain⟨k,hk,rfl⟩:=List.mem_map.1 ht;exact⟨⟨ByteArray.empty,k.num,k.hash⟩,by unfold jcn;exact List.mem_append_left _ (List.mem_map.2 ⟨k,hk,rfl⟩),rfl⟩
 ·split at ht
  ·obtain⟨v,hv,rfl⟩:=List.mem_map.1 ht;exact⟨⟨ByteArray.empty,v.root,v.hash⟩,by unfold jcn;exact List.mem_append_right _ (List.mem_map.2 ⟨v,hv,rfl⟩),rfl⟩
  ·simp at ht
/-! A right heap. -/
structure Good(sz:Int)(cs:List CC):Prop where
 lo:16≤sz
 hi:sz≤65536
 dec:∀c∈cs,decB c.data=true∧c.node=decN c.data∧c.hash=shaOf c.data.data.toList∧2≤c.num∧c.num < sz
 ris:(jaj cs).Pairwise (· < ·)
 lds:∀c∈cs,∀k∈jcn c.node,Has cs k.num k.hash
 cnt:∀c∈cs,c.led=jbp (jaz cs) c.num∧c.led≤c.refs∧c.refs≤16777216
theorem jhr{f:CC→CC}(h:∀c,(f c).node=c.node)(cs:List CC):jaz (cs.map f)=jaz cs:=by
 unfold jaz;rw[List.flatMap_map];simp[h]
theorem jib{f:CC→CC}(h:∀c,(f c).num=c.num)(cs:List CC):jaj (cs.map f)=jaj cs:=by
 unfold jaj;rw[List.map_map];apply List.map_congr_left;intro c _;exact h c
theorem has_map{f:CC→CC}(h:∀c,(f c).num=c.num∧(f c).hash=c.hash)(cs:List CC)(t:Int)(x:List Int):Has (cs.map f) t x ↔ Has cs t x:=by
 unfold Has;constructor
 ·rintro⟨c,hc,h1,h2⟩;obtain⟨d,hd,rfl⟩:=List.mem_map.1 hc;exact⟨d,hd,by rw[←h1,(h d).1],by rw[←h2,(h d).2]⟩
 ·rintro⟨c,hc,h1,h2⟩;exact⟨f c,List.mem_map.2 ⟨c,hc,rfl⟩,by rw[(h c).1,h1],by rw[(h c).2,h2]⟩
theorem jb5(h:Hp):jav h=(h.cells.map cc1).map (fun c=>{c with led:=c.led + jbp (jaz (h.cells.map cc1)) c.num}):=jeh _ _
theorem je4(h:Hp)(hb:openB h=true):Good h.size (jav h):=by
 unfold openB okH at hb;simp only[Bool.and_eq_true,decide_eq_true_eq]at hb;obtain⟨⟨⟨h1,h2⟩,h3,h4⟩,h5,h6⟩:=hb;have hn1:jaj (h.cells.map cc1)=h.cells.map (·.num):=by unfold jaj;rw[List.map_map];rfl
 have hr1:(jaj (h.cells.map cc1)).Pairwise (· < ·):=by rw[hn1];exact(jge _).1 h4
 have hno:jaj (jav h)=jaj (h.cells.map cc1):=by rw[jb5,jib];intro;rfl
 have hal:jaz (jav h)=jaz (h.cells.map cc1):=by rw[jb5,jhr];intro;rfl
 refine⟨h1,h2,?_,by rw[hno];exact hr1,?_,?_⟩
 ·intro c hc;rw[jb5]at hc;obtain⟨d,hd,rfl⟩:=List.mem_map.1 hc;obtain⟨e,he,rfl⟩:=List.mem_map.1 hd;have:=List.all_eq_true.1 h3 e he;simp only[okCel,Bool.and_eq_true,decide_eq_true_eq]at this;exact⟨this.1,rfl,rfl,this.2⟩
 ·intro c hc k hk;rw[jb5]at hc;obtain⟨d,hd,rfl⟩:=List.mem_map.1 hc;have:=List.all_eq_true.1 h5 d hd;rw[beq_iff_eq,jjg hr1]at this;rw[jb5,has_map (by intro c;exact⟨rfl,rfl⟩)];exact this k hk
 ·intro c hc;have h7:=List.all_eq_true.1 h6 c hc;simp only[Bool.and_eq_true,decide_eq_true_eq]at h7;refine⟨?_,h7⟩;rw[hal];rw[jb5]at hc;obtain⟨d,hd,rfl⟩:=List.mem_map.1 hc;obtain⟨e,he,rfl⟩:=List.mem_map.1 hd;simp[cc1]
theorem open_good{sz:Int}{cs:List CC}(g:Good sz cs):jav (jfi sz cs)=cs∧openB (jfi sz cs)=true:=by
 have e1:(jfi sz cs).cells.map cc1=cs.map (fun c=>{c with led:=0}):=by
  unfold jfi;rw[List.map_map];apply List.map_congr_left;intro c hc;obtain⟨_,h2,h3,_⟩:=g.dec c hc;simp only[Function.comp,celOf,cc1,←h2,←h3]
 have hal:jaz ((jfi sz cs).cells.map cc1)=jaz cs:=by rw[e1,jhr];intro;rfl
 have eo:jav (jfi sz cs)=cs:=by
  rw[jb5,hal,e1,List.map_map]
  conv=>rhs;rw[←List.map_id cs]
  apply List.map_congr_left;intro c hc;have:=(g.cnt c hc).1;simp only[Function.comp,id,Int.zero_add,←this]
 refine⟨eo,?_⟩;unfold openB okH;simp only[Bool.and_eq_true,decide_eq_true_eq];have hn:(jfi sz cs).cells.map (·.num)=jaj cs:=by unfold jfi jaj;rw[List.map_map];rfl
 refine⟨⟨⟨g.lo,g.hi⟩,List.all_eq_true.2 ?_,by rw[hn];exact(jge _).2 g.ris⟩,List.all_eq_true.2 ?_,?_⟩
 ·intro e he;obtain⟨c,hc,rfl⟩:=List.mem_map.1 he;obtain⟨h1,_,_,h4⟩:=g.dec c hc;simp only[okCel,celOf,Bool.and_eq_true];exact⟨h1,decide_eq_true h4.1,decide_eq_true h4.2⟩
 ·intro d hd;rw[e1]at hd ⊢;obtain⟨c,hc,rfl⟩:=List.mem_map.1 hd;have hp:(jaj (cs.map (fun c=>{c with led:=0}))).Pairwise (· < ·):=by rw[jib (by intro;rfl)];exact g.ris
  rw[beq_iff_eq,jjg hp];intro k hk;rw[has_map (by intro c;exact⟨rfl,rfl⟩)];exact g.lds c hc k hk
 ·rw[eo];refine List.all_eq_true.2 fun c hc=>?_
  simp only[Bool.and_eq_true,decide_eq_true_eq];exact(g.cnt c hc).2
/-! The least free number. -/
theorem take_while{α:Type}(p:α→Bool):∀l:List α,l.take (l.takeWhile p).length=l.takeWhile p∧l.drop (l.takeWhile p).length=l.dropWhile p
 |[]=>by simp
 |x::r=>by
  have ih:=take_while p r;by_cases h:p x=true
  ·simp[h,ih.1,ih.2]
  ·simp[h]
theorem numPos_split(cs:List CC)(t:Int):cs.take (ja5 (jaj cs) t)=cs.takeWhile (fun c=>decide (c.num < t))∧cs.drop (ja5 (jaj cs) t)=cs.dropWhile (fun c=>decide (c.num < t)):=by
 have e:ja5 (jaj cs) t=(cs.takeWhile (fun c=>decide (c.num < t))).length:=by
  unfold ja5 posOf jaj;rw[List.takeWhile_map,List.length_map];rfl
 rw[e];exact take_while _ cs
theorem drop_ge:∀(cs:List CC) (t:Int),(jaj cs).Pairwise (· < ·)→∀c∈cs.dropWhile (fun c=>decide (c.num < t)),t≤c.num
 |[],_,_,c,hc=>by simp at hc
 |d::cs,t,h,c,hc=>by
  simp only[jaj,List.map_cons,List.pairwise_cons]at h;by_cases hd:d.num < t
  ·rw[List.dropWhile_cons_of_pos (by simpa using hd)]at hc;exact drop_ge cs t h.2 c hc
  ·rw[List.dropWhile_cons_of_neg (by simpa using hd)]at hc;rcases List.mem_cons.1 hc with rfl|hc
   ·omega
   ·have:=h.1 c.num (List.mem_map.2 ⟨c,hc,rfl⟩);omega
theorem jic(c:CC)(cs:List CC):(insCC c cs).Perm (c::cs):=by
 unfold insCC
 conv=>rhs;rw[←List.take_append_drop (ja5 (jaj cs) c.num) cs]
 exact List.perm_middle
theorem jen{c d:CC}{cs:List CC}:d∈insCC c cs ↔ d=c∨d∈cs:=by rw[(jic c cs).mem_iff,List.mem_cons]
theorem jjh{c:CC}{cs:List CC}(h:(jaj cs).Pairwise (· < ·))(hc:c.num ∉ jaj cs):(jaj (insCC c cs)).Pairwise (· < ·):=by
 have hsp:=numPos_split cs c.num;unfold insCC;rw[hsp.1,hsp.2];have hp:=h;rw[←List.takeWhile_append_dropWhile (p:=fun d:CC=>decide (d.num < c.num)) (l:=cs)]at hp;unfold jaj at hp ⊢;rw[List.map_append,List.pairwise_append]at hp;rw[List.map_append,List.map_cons,List.pairwise_append,List.pairwise_cons];have hlt:∀x∈(cs.takeWhile fun d:CC=>decide (d.num < c.num)).map (·.num),x < c.num:=by
  intro x hx;obtain⟨d,hd,rfl⟩:=List.mem_map.1 hx;have:=List.all_eq_true.1 (List.all_takeWhile (p:=fun d:CC=>decide (d.num < c.num)) (l:=cs)) d hd;simpa using this
 have hgt:∀x∈(cs.dropWhile fun d:CC=>decide (d.num < c.num)).map (·.num),c.num < x:=by
  intro x hx;obtain⟨d,hd,rfl⟩:=List.mem_map.1 hx;have h1:=drop_ge cs c.num h d hd;have h2:d.num≠c.num:=fun e=>hc (by rw[←e];exact List.mem_map.2 ⟨d,(List.dropWhile_sublist _).subset hd,rfl⟩)
  omega
 refine⟨hp.1,⟨hgt,hp.2.1⟩,fun a ha b hb=>?_⟩;rcases List.mem_cons.1 hb with rfl|hb
 ·exact hlt a ha
 ·exact hp.2.2 a ha b hb
theorem allKids_ins(c:CC)(cs:List CC)(t:Int):jbp (jaz (insCC c cs)) t=jbp (jbk c.node) t + jbp (jaz cs) t:=by
 have h1:(jaz (insCC c cs)).Perm (jaz (c::cs)):=(jic c cs).flatMap_right _;have h2:jbp (jaz (insCC c cs)) t=jbp (jaz (c::cs)) t:=(h1.filter _).length_eq;rw[h2];show jbp (jbk c.node ++ jaz cs) t=_
 exact countL_app _ _ _
/-! Raise, Build, Need. -/
section
variable {σ:Type} (put:σ→Node→Kid×Int×σ)
def bare(k:Kid):Kid:={k with key:=ByteArray.empty}
end
end Go.Proofs.YtpaohkkhejpgjaaGreatDoor
