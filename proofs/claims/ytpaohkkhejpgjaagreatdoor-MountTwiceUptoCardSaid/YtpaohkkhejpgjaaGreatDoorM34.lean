/- Texts of the proof: W6 Y0 Y1 Y2 Y3. -/
import Derived.Test.YtpaohkkhejpgjaaGreatDoorM27
import Derived.Test.YtpaohkkhejpgjaaGreatDoorM17
import Derived.Test.YtpaohkkhejpgjaaGreatDoorM25
import Derived.Test.YtpaohkkhejpgjaaGreatDoorM23
import Derived.Test.YtpaohkkhejpgjaaGreatDoorM29
import Derived.Test.YtpaohkkhejpgjaaGreatDoorM30
import Derived.Test.YtpaohkkhejpgjaaGreatDoorM33
import Derived.Test.YtpaohkkhejpgjaaGreatDoorM12
set_option linter.all false
set_option maxRecDepth 100000
set_option maxHeartbeats 8000000
namespace Go.Proofs.YtpaohkkhejpgjaaGreatDoor
open Go Go.RowKit
structure Lt(cs:List CC)(pend:List Int):Prop where
 dec:∀c∈cs,decB c.data=true∧c.node=decN c.data
 ris:(jaj cs).Pairwise (· < ·)
 lds:∀c∈cs,∀k∈jcn c.node,Has cs k.num k.hash
 cnt:∀c∈cs,c.led=jbp (jaz cs) c.num + jbp pend c.num∧c.led≤c.refs∧c.refs≤16777216
 pnd:∀t∈pend,t∈jaj cs
def AsCC(c' c:CC)(k:Int):Prop:=c'.num=c.num∧c'.data=c.data∧c'.node=c.node∧c'.hash=c.hash∧c'.refs - c'.led=c.refs - c.led - k
structure Dp(δ:Int→Int)(cs cs':List CC):Prop where
 sub:∀c'∈cs',∃c∈cs,AsCC c' c (δ c.num)∧(c.refs≠0→c'.refs≠0)
 keep:∀c∈cs,δ c.num < c.refs - c.led→∃c'∈cs',AsCC c' c (δ c.num)
def unit1(t n:Int):Int:=if n=t then 1 else 0
theorem asCC_refl(c:CC){k:Int}(hk:k=0):AsCC c c k:=⟨rfl,rfl,rfl,rfl,by omega⟩
theorem AsCC.trans{a b c:CC}{k l m:Int}(h:AsCC b a k)(g:AsCC c b l)(hm:m=k + l):AsCC c a m:=by
 obtain⟨h1,h2,h3,h4,h5⟩:=h;obtain⟨g1,g2,g3,g4,g5⟩:=g;exact⟨g1.trans h1,g2.trans h2,g3.trans h3,g4.trans h4,by omega⟩
theorem Dp.refl(cs:List CC):Dp (fun _=>0) cs cs:=⟨fun c hc=>⟨c,hc,asCC_refl c rfl,id⟩,fun c hc _=>⟨c,hc,asCC_refl c rfl⟩⟩
theorem Dp.trans{δ ε:Int→Int}{a b c:List CC}(h:Dp δ a b)(k:Dp ε b c)(he:∀n,0≤ε n){γ:Int→Int}(hγ:∀n,γ n=δ n + ε n):Dp γ a c:=by
 refine⟨fun z hz=>?_,fun x hx hlt=>?_⟩
 ·obtain⟨y,hy,y1,y2⟩:=k.sub z hz;obtain⟨x,hx,x1,x2⟩:=h.sub y hy;exact⟨x,hx,x1.trans y1 (by rw[x1.1];exact hγ _),fun hn=>y2 (x2 hn)⟩
 ·have h0:=he x.num;have h1:=hγ x.num;obtain⟨y,hy,hxy⟩:=h.keep x hx (by omega);obtain⟨z,hz,hyz⟩:=k.keep y hy (by rw[hxy.1,hxy.2.2.2.2];omega);exact⟨z,hz,hxy.trans hyz (by rw[hxy.1];exact hγ _)⟩
theorem uniqW{cs:List CC}(h:(jaj cs).Pairwise (· < ·)){a b:CC}(ha:a∈cs)(hb:b∈cs)(hn:a.num=b.num):a=b:=by
 have h1:=(jc2 h (t:=b.num)).2 ⟨ha,hn⟩;have h2:=(jc2 h (t:=b.num)).2 ⟨hb,rfl⟩;rw[h1]at h2;injection h2
theorem split_atW{cs:List CC}(h:(jaj cs).Pairwise (· < ·)){c:CC}(hc:c∈cs):∃P R,cs=P ++ c::R∧ja5 (jaj cs) c.num=P.length∧(∀x∈P,x.num < c.num)∧(∀x∈R,c.num < x.num):=by
 obtain⟨P,R,rfl⟩:=List.append_of_mem hc;unfold jaj at h;rw[List.map_append,List.map_cons,List.pairwise_append,List.pairwise_cons]at h;have hP:∀x∈P,x.num < c.num:=fun x hx=>h.2.2 _ (List.mem_map.2 ⟨x,hx,rfl⟩) _ (by simp)
 refine⟨P,R,rfl,?_,hP,fun x hx=>h.2.1.1 _ (List.mem_map.2 ⟨x,hx,rfl⟩)⟩;unfold ja5 posOf jaj;rw[List.takeWhile_map,List.length_map,List.takeWhile_append_of_pos (by simpa using hP),List.takeWhile_cons_of_neg (by simp)];simp
theorem rDn_num(t:Int)(c:CC):(rDn t c).num=c.num:=by unfold rDn;split <;>rfl
theorem rDn_node(t:Int)(c:CC):(rDn t c).node=c.node:=by unfold rDn;split <;>rfl
theorem rDn_hash(t:Int)(c:CC):(rDn t c).hash=c.hash:=by unfold rDn;split <;>rfl
theorem rDn_data(t:Int)(c:CC):(rDn t c).data=c.data:=by unfold rDn;split <;>rfl
theorem rDn_led(t:Int)(c:CC):(rDn t c).led=c.led:=by unfold rDn;split <;>rfl
theorem lDn_num(t:Int)(c:CC):(lDn t c).num=c.num:=by unfold lDn;split <;>rfl
theorem lDn_node(t:Int)(c:CC):(lDn t c).node=c.node:=by unfold lDn;split <;>rfl
theorem lDn_hash(t:Int)(c:CC):(lDn t c).hash=c.hash:=by unfold lDn;split <;>rfl
theorem lDn_data(t:Int)(c:CC):(lDn t c).data=c.data:=by unfold lDn;split <;>rfl
theorem lDn_refs(t:Int)(c:CC):(lDn t c).refs=c.refs:=by unfold lDn;split <;>rfl
theorem lDn_led(t:Int)(c:CC):(lDn t c).led=c.led - unit1 t c.num:=by
 unfold lDn unit1;split <;>simp
theorem rDn_refs(t:Int)(c:CC):(rDn t c).refs=c.refs - unit1 t c.num:=by
 unfold rDn unit1;split <;>simp
theorem countL_cons1(k:Int)(l:List Int)(t:Int):(jbp (k::l) t:Int)=unit1 k t + jbp l t:=by
 unfold unit1 jbp;rw[List.filter_cons];by_cases h:t=k
 ·subst h;simp;omega
 ·have:(k==t)=false:=by simpa using fun e=>h e.symm
  simp[h,this]
theorem countL_mem{l:List Int}{t:Int}(h:t∈l):0 < jbp l t:=by
 unfold jbp;exact List.length_pos_of_mem (List.mem_filter.2 ⟨h,by simp⟩)
theorem kids_in{cs:List CC}{c:CC}(hc:c∈cs){t:Int}(ht:t∈jbk c.node):t∈jaz cs:=List.mem_flatMap.2 ⟨c,hc,ht⟩
theorem Lt.led{cs:List CC}{k:Int}{pend:List Int}(h:Lt cs (k::pend)):Lt (cs.map (lDn k)) pend:=by
 refine⟨fun c hc=>?_,by rw[jib (lDn_num k)];exact h.ris,fun c hc q hq=>?_,fun c hc=>?_,fun t ht=>by rw[jib (lDn_num k)];exact h.pnd t (List.mem_cons_of_mem _ ht)⟩
 ·obtain⟨e,he,rfl⟩:=List.mem_map.1 hc;rw[lDn_data,lDn_node];exact h.dec e he
 ·obtain⟨e,he,rfl⟩:=List.mem_map.1 hc;rw[lDn_node]at hq;exact(has_map (fun c=>⟨lDn_num k c,lDn_hash k c⟩) cs _ _).2 (h.lds e he q hq)
 ·obtain⟨e,he,rfl⟩:=List.mem_map.1 hc;have h1:=h.cnt e he;rw[countL_cons1]at h1;rw[lDn_led,lDn_num,lDn_refs,jhr (lDn_node k)];have:0≤unit1 k e.num:=by unfold unit1;split <;>omega
  refine⟨by omega,by omega,h1.2.2⟩
theorem fold_let{g:Int→List CC→List CC}{m:Nat}
 (hg:∀(t:Int) (cs:List CC) (pend:List Int),Lt cs pend→cs.length≤m→(∃c∈cs,c.num=t∧c.led≤c.refs - 1)→Lt (g t cs) pend∧Dp (unit1 t) cs (g t cs)∧(g t cs).length≤cs.length):
 ∀(ks:List Int) (cs:List CC) (pend:List Int),Lt cs (ks ++ pend)→cs.length≤m→
  Lt (ks.foldl (fun cs k=>if jba (jaj cs) k then g k (cs.map (lDn k))else cs) cs) pend∧
  Dp (fun _=>0) cs (ks.foldl (fun cs k=>if jba (jaj cs) k then g k (cs.map (lDn k))else cs) cs)∧
  (ks.foldl (fun cs k=>if jba (jaj cs) k then g k (cs.map (lDn k))else cs) cs).length≤cs.length
 |[],cs,pend,h,_=>⟨h,Dp.refl cs,Nat.le_refl _⟩
 |k::ks,cs,pend,h,hm=>by
  have hk:k∈jaj cs:=h.pnd k (by simp);rw[List.foldl_cons,if_pos ((jez h.ris k).2 hk)];have h1:=Lt.led (pend:=ks ++ pend) h;obtain⟨c,hc,hck⟩:=List.mem_map.1 hk;have hcc:=h.cnt c hc;obtain⟨g1,g2,g3⟩:=hg k (cs.map (lDn k)) (ks ++ pend) h1 (by rw[List.length_map];exact hm) ⟨lDn k c,List.mem_map.2 ⟨c,hc,rfl⟩,by rw[lDn_num];exact hck,by
   rw[lDn_led,lDn_refs];have:unit1 k c.num=1:=by unfold unit1;rw[if_pos hck]
   omega⟩
  rw[List.length_map]at g3;obtain⟨i1,i2,i3⟩:=fold_let hg ks _ pend g1 (by omega);have hd:Dp (fun n=> - unit1 k n) cs (cs.map (lDn k)):=by
   refine⟨fun z hz=>?_,fun x hx _=>⟨lDn k x,List.mem_map.2 ⟨x,hx,rfl⟩,⟨lDn_num k x,lDn_data k x,lDn_node k x,lDn_hash k x,by rw[lDn_refs,lDn_led];omega⟩⟩⟩;obtain⟨x,hx,rfl⟩:=List.mem_map.1 hz;exact⟨x,hx,⟨lDn_num k x,lDn_data k x,lDn_node k x,lDn_hash k x,by rw[lDn_refs,lDn_led];omega⟩,by rw[lDn_refs];exact id⟩
  have hu:∀n,0≤unit1 k n:=fun n=>by unfold unit1;split <;>omega
  have hd2:Dp (fun _=>0) cs (g k (cs.map (lDn k))):=hd.trans g2 hu (fun n=>by omega);exact⟨i1,hd2.trans i2 (fun _=>Int.le_refl _) (fun n=>rfl),Nat.le_trans i3 g3⟩
theorem let_law:∀(f:Nat) (t:Int) (cs:List CC) (pend:List Int),Lt cs pend→cs.length < f→(∃c∈cs,c.num=t∧c.led≤c.refs - 1)→
 Lt (letS f t cs) pend∧Dp (unit1 t) cs (letS f t cs)∧(letS f t cs).length≤cs.length
 |0,_,_,_,_,hf,_=>absurd hf (Nat.not_lt_zero _)
 |f + 1,t,cs,pend,h,hf,⟨c,hc,hct,hcl⟩=>by
  subst hct;have hfc:jc6 cs c.num=some c:=(jc2 h.ris).2 ⟨hc,rfl⟩;have hrf:je3 cs c.num=c.refs:=jem h.ris hc;have hun:=fun{x:CC} (hx:x∈cs) (hn:x.num=c.num)=>uniqW h.ris hx hc hn
  have hcnt:=h.cnt c hc;unfold letS;rw[hrf];by_cases h0:c.refs - 1=0
  ·rw[if_pos h0];have hk:kidsOf cs c.num=jbk c.node:=by unfold kidsOf;rw[hfc];rfl
   obtain⟨P,R,hcs,hpos,hP,hR⟩:=split_atW h.ris hc;have he:(cs.map (rDn c.num)).eraseIdx (ja5 (jaj cs) c.num)=P ++ R:=by
    have e1:P.map (rDn c.num)=P:=by
     conv=>rhs;rw[←List.map_id P]
     exact List.map_congr_left fun x hx=>by have:=hP x hx;unfold rDn;rw[if_neg (by omega)];rfl
    have e2:R.map (rDn c.num)=R:=by
     conv=>rhs;rw[←List.map_id R]
     exact List.map_congr_left fun x hx=>by have:=hR x hx;unfold rDn;rw[if_neg (by omega)];rfl
    rw[hpos]
    conv=>lhs;rw[hcs]
    rw[List.map_append,List.map_cons,e1,e2,List.eraseIdx_append_of_length_le (Nat.le_refl _)];simp
   rw[hk,he];have hmem:∀x,x∈P ++ R ↔ x∈cs∧x.num≠c.num:=by
    intro x;constructor
    ·intro hx;rcases List.mem_append.1 hx with hx|hx
     ·have:=hP x hx;exact⟨by rw[hcs];simp[hx],by omega⟩
     ·have:=hR x hx;exact⟨by rw[hcs];simp[hx],by omega⟩
    ·rintro⟨hx,hn⟩;rw[hcs]at hx;rcases List.mem_append.1 hx with hx|hx
     ·exact List.mem_append_left _ hx
     ·rcases List.mem_cons.1 hx with rfl|hx
      ·exact absurd rfl hn
      ·exact List.mem_append_right _ hx
   have hak:∀n,(jbp (jaz cs) n:Int)=jbp (jbk c.node) n + jbp (jaz (P ++ R)) n:=by
    intro n;have e:jaz cs=jaz P ++ (jbk c.node ++ jaz R):=by rw[hcs];unfold jaz;simp
    have e':jaz (P ++ R)=jaz P ++ jaz R:=by unfold jaz;simp
    rw[e,e',countL_app,countL_app,countL_app];omega
   have hz:jbp (jaz cs) c.num=0∧jbp pend c.num=0:=by omega
   have hno:∀x∈cs,∀t∈jbk x.node,t≠c.num:=fun x hx t ht e=>by
    have:=countL_mem (kids_in hx ht);rw[e]at this;omega
   have hin:∀n∈jaj cs,n≠c.num→n∈jaj (P ++ R):=by
    intro n hn hne;obtain⟨x,hx,rfl⟩:=List.mem_map.1 hn;exact List.mem_map.2 ⟨x,(hmem x).2 ⟨hx,hne⟩,rfl⟩
   have hris:(jaj (P ++ R)).Pairwise (· < ·):=by
    have:=h.ris;rw[hcs]at this;unfold jaj at this ⊢;refine this.sublist ?_;rw[List.map_append,List.map_append];exact List.Sublist.append (List.Sublist.refl _) (List.sublist_cons_self _ _)
   have l1:Lt (P ++ R) (jbk c.node ++ pend):=by
    refine⟨fun x hx=>h.dec x ((hmem x).1 hx).1,hris,fun x hx k hk=>?_,fun x hx=>?_,fun t ht=>?_⟩
    ·have hx':=((hmem x).1 hx).1;obtain⟨y,hy,y1,y2⟩:=h.lds x hx' k hk;refine⟨y,(hmem y).2 ⟨hy,?_⟩,y1,y2⟩;rw[y1];have hd:=h.dec x hx';have hsh:=(jh4 hd.1).1;rw[←hd.2]at hsh;exact hno x hx' k.num (by rw[←jjv hsh];exact List.mem_map.2 ⟨k,hk,rfl⟩)
    ·obtain⟨hx',hne⟩:=(hmem x).1 hx;have h1:=h.cnt x hx';have h2:=hak x.num;rw[countL_app];refine⟨by omega,h1.2⟩
    ·rcases List.mem_append.1 ht with ht|ht
     ·have hne:=hno c hc t ht;have hd:=h.dec c hc;have hsh:=(jh4 hd.1).1;rw[←hd.2]at hsh;rw[←jjv hsh]at ht;obtain⟨k,hk,rfl⟩:=List.mem_map.1 ht;obtain⟨y,hy,y1,_⟩:=h.lds c hc k hk;exact hin _ (by rw[←y1];exact List.mem_map.2 ⟨y,hy,rfl⟩) hne
     ·have hne:t≠c.num:=fun e=>by
       have:=countL_mem ht;rw[e]at this;omega
      exact hin t (h.pnd t ht) hne
   have hlen:(P ++ R).length + 1=cs.length:=by rw[hcs];simp;omega
   obtain⟨f1,f2,f3⟩:=fold_let (g:=letS f) (m:=(P ++ R).length) (fun t cs' pend' a b e=>let_law f t cs' pend' a (by omega) e) (jbk c.node) (P ++ R) pend l1 (Nat.le_refl _);refine⟨f1,Dp.trans (δ:=unit1 c.num) (ε:=fun _=>0) ⟨fun x hx=>?_,fun x hx hlt=>?_⟩ f2 (fun _=>Int.le_refl _) (fun n=>by simp),by omega⟩
   ·obtain⟨hx',hne⟩:=(hmem x).1 hx;exact⟨x,hx',asCC_refl x (by unfold unit1;rw[if_neg hne]),id⟩
   ·by_cases hn:x.num=c.num
    ·have:=hun hx hn;subst this;unfold unit1 at hlt;rw[if_pos rfl]at hlt;omega
    ·exact⟨x,(hmem x).2 ⟨hx,hn⟩,asCC_refl x (by unfold unit1;rw[if_neg hn])⟩
  ·rw[if_neg h0];have hrel:∀x∈cs,AsCC (rDn c.num x) x (unit1 c.num x.num):=fun x _=>⟨rDn_num _ x,rDn_data _ x,rDn_node _ x,rDn_hash _ x,by rw[rDn_refs,rDn_led];omega⟩
   refine⟨⟨fun x hx=>?_,by rw[jib (rDn_num _)];exact h.ris,fun x hx k hk=>?_,fun x hx=>?_,fun t ht=>by rw[jib (rDn_num _)];exact h.pnd t ht⟩,⟨fun z hz=>?_,fun x hx _=>⟨_,List.mem_map.2 ⟨x,hx,rfl⟩,hrel x hx⟩⟩,by rw[List.length_map];exact Nat.le_refl _⟩
   ·obtain⟨e,he,rfl⟩:=List.mem_map.1 hx;rw[rDn_data,rDn_node];exact h.dec e he
   ·obtain⟨e,he,rfl⟩:=List.mem_map.1 hx;rw[rDn_node]at hk;exact(has_map (fun y=>⟨rDn_num c.num y,rDn_hash c.num y⟩) cs _ _).2 (h.lds e he k hk)
   ·obtain⟨e,he,rfl⟩:=List.mem_map.1 hx;have h1:=h.cnt e he;rw[rDn_led,rDn_num,rDn_refs,jhr (rDn_node _)];by_cases hn:e.num=c.num
    ·have:=hun he hn;subst this;unfold unit1;rw[if_pos rfl];exact⟨h1.1,hcl,by omega⟩
    ·unfold unit1;rw[if_neg hn];exact⟨h1.1,by omega,by omega⟩
   ·obtain⟨x,hx,rfl⟩:=List.mem_map.1 hz;refine⟨x,hx,hrel x hx,fun hn=>?_⟩;rw[rDn_refs];by_cases e:x.num=c.num
    ·have:=hun hx e;subst this;unfold unit1;rw[if_pos rfl];exact h0
    ·unfold unit1;rw[if_neg e];omega
theorem jhi{K:Act→Prop}{o:Oper}{a:Act}{w:World}(x y:Operand)(ho:o.op= .binOp .neq 34 x y 34)(l m:List Int)(hl:l.length=32)(hm:m.length=32)(la ma:Array Value)
 (hla:(hashV l).toArray=la) (hma:(hashV m).toArray=ma) (hx:a.eval x= .agg la) (hy:a.eval y= .agg ma) (h:K (a.put o.dst (.bool (!(l==m))))):o.quiet Tryz.prog a (fun w'=>∃g:Grown w,w'=g.val) K:=by
 subst hla hma;refine⟨.bool (!(l==m)),?_,h⟩;rintro _ ⟨g,rfl⟩;have hr:=neq_run x y l m g.val hl hm;unfold Oper.quietAt execOp;simp only[ho,hx,hy];simp only[Sem.run_bind]at hr ⊢;rw[hr];simp only[Result.andThen_ok,Sem.run_pure];exact⟨rfl,rfl⟩
theorem jal{P:Program}{K:Act→Prop}{o:Oper}{a:Act}{w:World}(ty:TypeId)(x:Operand)(ho:o.op= .load ty x)(ad:Addr)(hx:a.eval x= .pointer (some ad))(v:Value)
 (hl:∀g:Grown w,(loadVar ty ad).run P g.val= .ok v g.val) (h:K (a.put o.dst v)):o.quiet P a (fun w'=>∃g:Grown w,w'=g.val) K:=by
 refine⟨v,?_,h⟩;rintro _ ⟨g,rfl⟩;unfold Oper.quietAt execOp;simp only[ho,hx,Instr.loadAt,Instr.sureAddr,Sem.run_bind,Sem.run_pure,Result.andThen_ok,hl g];exact⟨rfl,rfl⟩
theorem eq_run(x y:Operand)(l m:List Int)(w:World)(hl:l.length=32)(hm:m.length=32):(do eqGuard .eql 34 x y (.agg (hashV l).toArray) (.agg (hashV m).toArray);binOp .eql 34 (.agg (hashV l).toArray) (.agg (hashV m).toArray)).run Tryz.prog w= .ok (.bool (l==m)) w:=by
 have hq:=eqHash l m w hl hm;simp[eqGuard,binOp,Op.equal,Op.maxDepth,noGuard,hq]
theorem quiet_eqG{K:Act→Prop}{o:Oper}{a:Act}{w:World}(x y:Operand)(ho:o.op= .binOp .eql 34 x y 34)(l m:List Int)(hl:l.length=32)(hm:m.length=32)(la ma:Array Value)
 (hla:(hashV l).toArray=la) (hma:(hashV m).toArray=ma) (hx:a.eval x= .agg la) (hy:a.eval y= .agg ma) (h:K (a.put o.dst (.bool (l==m)))):o.quiet Tryz.prog a (fun w'=>∃g:Grown w,w'=g.val) K:=by
 subst hla hma;refine⟨.bool (l==m),?_,h⟩;rintro _ ⟨g,rfl⟩;have hr:=eq_run x y l m g.val hl hm;unfold Oper.quietAt execOp;simp only[ho,hx,hy];simp only[Sem.run_bind]at hr ⊢;rw[hr];simp only[Result.andThen_ok,Sem.run_pure];exact⟨rfl,rfl⟩
theorem jmk{α:Type}{E:Enc α}{w w':World}{B:Nat}{v:Value}{xs:List α}(h:Sl E w v xs)(hf:∀g,v.ownBlock=some g→B≤g)(hk:∀b,B≤b→b < w.heap.size→w'.heap[b]? =w.heap[b]?):Sl E w' v xs:=by
 obtain⟨A,c,rfl,h1,h2,h3⟩:=h;refine⟨A,c,rfl,h1,h2,fun k hk'=>?_⟩;obtain⟨b,o,rfl,hat,hwf⟩:=h3 k hk';refine⟨b,o,rfl,hat.heap (hk b (hf b rfl) (hat.lt ?_)),hwf⟩;intro e;have:=E.len _ hwf;rw[e]at this;have:=E.pos;simp at *;omega
theorem sl_keepO{α:Type}{E:Enc α}{w w':World}{v:Value}{xs:List α}(h:Sl E w v xs)(hk:∀g,v.ownBlock=some g→g < w.heap.size→w'.heap[g]? =w.heap[g]?):Sl E w' v xs:=by
 obtain⟨A,c,rfl,h1,h2,h3⟩:=h;refine⟨A,c,rfl,h1,h2,fun k hk'=>?_⟩;obtain⟨b,o,rfl,hat,hwf⟩:=h3 k hk';refine⟨b,o,rfl,hat.heap (hk b rfl (hat.lt ?_)),hwf⟩;intro e;have:=E.len _ hwf;rw[e]at this;have:=E.pos;simp at *;omega
theorem Grown2.below{w w1 w2:World}{p:Nat}{r:Option Nat}(h:Grown2 w w1 p r)(k:Below w1.heap.size w1 w2):Grown2 w w2 p r:=
 ⟨k.os.trans h.os,k.tape.trans h.tape,k.output.trans h.output,Nat.le_trans h.size k.size,fun t ht hp hr=>(k.block t (Nat.lt_of_lt_of_le ht h.size)).trans (h.block t ht hp hr)⟩
theorem jml{B:Nat}{w w':World}{v:Value}{n:Node}(h:NodeF B w v n)(hk:∀b,B≤b→b < w.heap.size→w'.heap[b]? =w.heap[b]?):NodeF B w' v n:=by
 obtain⟨⟨a,b,c,rfl,h1,h2,h3,h4⟩,hf⟩:=h;obtain⟨f1,f2,f3⟩:=hf _ _ _ _ rfl;exact⟨⟨a,b,c,rfl,jmk h1 f1 hk,jmk h2 f2 hk,jmk h3 f3 hk,h4⟩,hf⟩
theorem jg5{B:Nat}{w w':World}{v:Value}{n:Node}(h:NodeF B w v n)(hb:Below w.heap.size w w'):NodeF B w' v n:=⟨h.1.below hb (Nat.le_refl _),h.2⟩
theorem flat_celS:∀(P:List CC),((P.map celOf).flatMap celE.enc).length=P.length * 3
 |[]=>rfl
 |c::P=>by
  rw[List.map_cons,List.flatMap_cons,List.length_append,flat_celS P,List.length_cons];show 3 + _=_
  omega
theorem refs_row{cs:List CC}{t:Int}(h:(jaj cs).Pairwise (· < ·))(hh:jba (jaj cs) t=true):∃c,c∈cs∧ja5 (jaj cs) t < cs.length∧
 ((cs.map celOf).flatMap celE.enc)[ja5 (jaj cs) t * 3 + 2]? =some (.int .i64 c.refs)∧
 ((cs.map celOf).flatMap celE.enc).set (ja5 (jaj cs) t * 3 + 2) (.int .i64 (c.refs + 1))=((cs.map (rUp t)).map celOf).flatMap celE.enc:=by
 obtain⟨c,hc,hct⟩:=List.mem_map.1 ((jez h t).1 hh);subst hct;obtain⟨P,R,hcs,hpos,hP,hR⟩:=split_atW h hc;have e1:P.map (rUp c.num)=P:=by
  conv=>rhs;rw[←List.map_id P]
  exact List.map_congr_left fun x hx=>by have:=hP x hx;unfold rUp;rw[if_neg (by omega)];rfl
 have e2:R.map (rUp c.num)=R:=by
  conv=>rhs;rw[←List.map_id R]
  exact List.map_congr_left fun x hx=>by have:=hR x hx;unfold rUp;rw[if_neg (by omega)];rfl
 have e3:rUp c.num c={c with refs:=c.refs + 1}:=by unfold rUp;rw[if_pos rfl]
 have hl:=flat_celS P;refine⟨c,hc,by rw[hpos,hcs];simp,?_,?_⟩
 ·rw[hpos,hcs,List.map_append,List.map_cons,List.flatMap_append,List.flatMap_cons,List.getElem?_append_right (by omega),hl];rw[show P.length * 3 + 2 - P.length * 3=2 by omega];rfl
 ·rw[hpos]
  conv=>lhs;rw[hcs]
  conv=>rhs;rw[hcs]
  rw[List.map_append (f:=rUp c.num),List.map_cons (f:=rUp c.num),e1,e2,e3,List.map_append,List.map_cons,List.flatMap_append,List.flatMap_cons,List.map_append,List.map_cons,List.flatMap_append,List.flatMap_cons,
   List.set_append_right _ _ (by omega),hl,show P.length * 3 + 2 - P.length * 3=2 by omega]
  rfl
theorem ins_row{cs:List CC}(c:CC)(hi:ja5 (jaj cs) c.num≤cs.length):(insCC c cs).map celOf=(cs.map celOf).insertIdx (ja5 (jaj cs) c.num) (celOf c):=by
 rw[je5 _ (by rw[List.length_map];exact hi)];unfold insCC;rw[List.map_append,List.map_cons,List.map_take,List.map_drop]
theorem ji2(d:Dv):∀(f:Nat) (tb:Bool) (k:Kid) (cs:List CC),cs.length≤(loadS d f tb k cs).2.length
 |0,_,_,_=>Nat.le_refl _
 |f + 1,tb,k,cs=>by
  unfold loadS;split
  ·exact Nat.le_refl _
  ·split
   ·rw[List.length_map];exact Nat.le_refl _
   ·have hk:∀(ks:List Kid) (cs:List CC),cs.length≤(jcg (loadS d f false) ks cs).2.length:=by
     intro ks;induction ks with
     |nil=>intro cs;exact Nat.le_refl _
     |cons k r ih=>
      intro cs;unfold jcg;split
      ·exact ji2 d f false k cs
      ·exact Nat.le_trans (ji2 d f false k cs) (ih _)
    refine Nat.le_trans ?_ (hk _ _);rw[(jic _ cs).length_eq,List.length_cons];omega
theorem loadS_refs(d:Dv):∀(f:Nat) (tb:Bool) (k:Kid) (cs:List CC) (b:Int),1≤b→(∀c∈cs,c.refs≤b)→∀c∈(loadS d f tb k cs).2,c.refs≤b + 1 + 255 * ((loadS d f tb k cs).2.length - cs.length)
 |0,_,_,cs,b,h1,h=>fun c hc=>by have:=h c hc;show c.refs≤b + 1 + 255 * ((cs.length:Int) - cs.length);omega
 |f + 1,tb,k,cs,b,h1,h=>by
  unfold loadS;split
  ·intro c hc;have:=h c hc;simp only;omega
  ·rename_i hok;split
   ·intro c hc;obtain⟨e,he,rfl⟩:=List.mem_map.1 hc;have:=h e he;simp only[List.length_map];unfold rUp;split
    ·simp only;omega
    ·omega
   ·have hk:∀(ks:List Kid) (cs:List CC) (b:Int),1≤b→(∀c∈cs,c.refs≤b)→∀c∈(jcg (loadS d f false) ks cs).2,c.refs≤b + ks.length + 255 * ((jcg (loadS d f false) ks cs).2.length - cs.length):=by
     intro ks;induction ks with
     |nil=>intro cs b _ h c hc;have:=h c hc;simp only[jcg,List.length_nil];simp only[jcg]at hc;have:=h c hc;omega
     |cons k r ih=>
      intro cs b h1 h;have hl:=ji2 d f false k cs;have hr:=loadS_refs d f false k cs b h1 h;unfold jcg;split
      ·intro c hc;have:=hr c hc;simp only[List.length_cons];omega
      ·intro c hc;have:=ih (loadS d f false k cs).2 (b + 1 + 255 * ((loadS d f false k cs).2.length - cs.length)) (by omega) hr c hc;simp only[List.length_cons];omega
    have hob:jda d k tb=true:=by simpa using hok
    have hd:=(jdv hob).2.2.1;have hkl:(jcn (decN (readD d k.num).1)).length≤255:=by
     have h2:=jev hd;rw[←jjv (jh4 hd).1,List.length_map]at h2;exact h2
    have hil:(insCC (newL k.num (readD d k.num).1) cs).length=cs.length + 1:=by rw[(jic _ cs).length_eq,List.length_cons]
    intro c hc;have:=hk _ _ b h1 (fun x hx=>by
     rcases jen.1 hx with rfl|hx
     ·exact h1
     ·exact h x hx) c hc
    rw[hil]at this;omega
def ldrRow(d:Dv)(bv wv cv:Value):Array Value:= #[.int .u32 d.size,bv,wv, .bool d.down, .int .i64 d.fuse,cv]
def LdAt(w0 w:World)(p:Nat)(d:Dv)(bv wv cv:Value)(cs:List CC):Prop:=w.heap[p]? =some (.cells (ldrRow d bv wv cv) 93 (0,0))∧w0.heap.size≤p∧w.ownsRow w0.heap.size 91 3 cv cs.length ((cs.map celOf).flatMap celE.enc)∧Below w0.heap.size w0 w
def LdDone(w0 w w':World)(p:Nat)(d:Dv)(bv wv cv:Value)(cs':List CC):Prop:=∃cv',LdAt w0 w' p d bv wv cv' cs'∧(∀g,cv'.ownBlock=some g→cv.ownBlock=some g∨w.heap.size≤g)∧Grown2 w w' p cv.ownBlock
theorem LdAt.below{w0 w w':World}{p:Nat}{d:Dv}{bv wv cv:Value}{cs:List CC}(h:LdAt w0 w p d bv wv cv cs)(hb:Below w.heap.size w w'):LdAt w0 w' p d bv wv cv cs:=
 ⟨(hb.block _ (lt_of_block h.1)).trans h.1,h.2.1,jc4 h.2.2.1 hb,h.2.2.2.trans (hb.mono h.2.2.2.size)⟩
theorem LdDone.stay{w0 w w':World}{p:Nat}{d:Dv}{bv wv cv:Value}{cs:List CC}(h:LdAt w0 w p d bv wv cv cs)(hb:Below w.heap.size w w'):LdDone w0 w w' p d bv wv cv cs:=
 ⟨cv,h.below hb,fun g hg=>Or.inl hg,Grown2.of_below hb⟩
def InsRel(w0 w wz:World)(p:Nat)(d:Dv)(bv wv cv:Value)(cs1:List CC)(B nb:Nat)(nr:Array Value)(n:Node):Prop:=LdDone w0 w wz p d bv wv cv cs1∧wz.heap[nb]? =some (.cells nr 59 (0,0))∧NodeF B wz (.agg nr) n
structure KidsRel(w0 w wr:World)(p:Nat)(d:Dv)(bv wv cv:Value)(f:Nat)(ks:List Kid)(cs1:List CC)(r:Value)(j:Nat)(cvj:Value)(csj:List CC)(bj:Int):Prop where
 at_:LdAt w0 wr p d bv wv cvj csj
 eq:jcg (loadS d f false) ks cs1=jcg (loadS d f false) (ks.drop j) csj
 own:∀g,cvj.ownBlock=some g→cv.ownBlock=some g∨w.heap.size≤g
 grown:Grown2 w wr p cv.ownBlock
 row:Sl kidE wr r ks
 apart:∀g,r.ownBlock=some g→g≠p∧cvj.ownBlock≠some g
 ok:LdOk d csj
 one:1≤bj
 refs:∀c∈csj,c.refs≤bj
 room:bj + ((ks.length - j:Nat):Int) + 256 * (65536 - csj.length)≤1099511627776
 fuel:65536 < f + csj.length
def KidsAt(w0 w wr:World)(p:Nat)(d:Dv)(bv wv cv:Value)(f:Nat)(ks:List Kid)(cs1:List CC)(r:Value)(j:Nat):Prop:=∃cvj csj bj,KidsRel w0 w wr p d bv wv cv f ks cs1 r j cvj csj bj
theorem LdDone.after{w0 w wA w':World}{p:Nat}{d:Dv}{bv wv cv cvj:Value}{cs':List CC}(hg:Grown2 w wA p cv.ownBlock)(ho:∀g,cvj.ownBlock=some g→cv.ownBlock=some g∨w.heap.size≤g)(h:LdDone w0 wA w' p d bv wv cvj cs'):
 ∃cv',LdAt w0 w' p d bv wv cv' cs'∧(∀g,cv'.ownBlock=some g→cv.ownBlock=some g∨w.heap.size≤g)∧Grown2 w w' p cv.ownBlock∧(∀g,cv'.ownBlock=some g→cvj.ownBlock=some g∨wA.heap.size≤g)∧Grown2 wA w' p cvj.ownBlock:=by
 obtain⟨cv',h1,h2,h3⟩:=h;refine⟨cv',h1,fun g e=>?_,⟨h3.os.trans hg.os,h3.tape.trans hg.tape,h3.output.trans hg.output,Nat.le_trans hg.size h3.size,fun t ht hp hc=>?_⟩,h2,h3⟩
 ·rcases h2 g e with h|h
  ·exact ho g h
  ·exact Or.inr (Nat.le_trans hg.size h)
 ·refine(h3.block t (Nat.lt_of_lt_of_le ht hg.size) hp (fun e=>?_)).trans (hg.block t ht hp hc);rcases ho t e with h|h
  ·exact hc h
  ·omega
theorem ldOk_ins{d:Dv}{cs:List CC}{k:Kid}{tb:Bool}(h:LdOk d cs)(hl:jda d k tb=true)(hn:k.num ∉ jaj cs):LdOk d (insCC (newL k.num (readD d k.num).1) cs):=by
 obtain⟨h1,h2,h3,_⟩:=jdv hl;refine⟨fun c hc=>?_,jjh h.ris hn,fun c hc=>?_⟩
 ·rcases jen.1 hc with rfl|hc
  ·exact⟨h3,rfl,rfl,h1,h2,rfl,rfl⟩
  ·exact h.dec c hc
 ·rcases jen.1 hc with rfl|hc
  ·exact Int.le_refl _
  ·exact h.pos c hc
theorem jgk{α:Type}{E:Enc α}{w:World}{A:Option Addr}{n c:Nat}{xs:List α}(h:Sl E w (.slice A n c) xs)(j:Nat)(hj:j < xs.length):∃b o,A=some ⟨b,o,none⟩∧At w b (o + j * E.sz) (E.enc xs[j])∧E.wf xs[j]:=by
 obtain⟨A',c',e,_,_,hr⟩:=h;injection e with e1 e2 e3;subst e1;exact hr j hj
def jck(d:Dv)(bv wv:Value):Value:= .agg #[.int .u32 d.size,bv,wv, .bool d.down, .int .i64 d.fuse]
structure CsOk(d:Dv)(cs:List CC)(b:Int)(f:Nat):Prop where
 ok:LdOk d cs
 one:1≤b
 refs:∀c∈cs,c.refs≤b
 room:b + 256 * (65536 - cs.length)≤1099511627776
 fuel:65536 < f + cs.length
def LoadAt(w0:World)(p:Nat)(d:Dv)(bv wv:Value)(f:Nat):Prop:=∀(w:World) (cv:Value) (cs:List CC) (k:Kid) (tb:Bool) (b:Int),LdAt w0 w p d bv wv cv cs→kidE.wf k→CsOk d cs b f→
 Calls Tryz.prog 45 #[.pointer (some ⟨p,0,none⟩), .agg (kidE.enc k).toArray, .bool tb] w fun e w'=>e= .returned (.bool (loadS d f tb k cs).1)∧LdDone w0 w w' p d bv wv cv (loadS d f tb k cs).2
theorem cs_wf{d:Dv}{cs:List CC}{b:Int}{f:Nat}(h:CsOk d cs b f)(hd:DevOk d):∀x∈cs.map celOf,celE.wf x:=by
 intro x hx;obtain⟨c,hc,rfl⟩:=List.mem_map.1 hx;have h1:=h.ok.dec c hc;have h2:=h.refs c hc;have h3:=h.ok.pos c hc;have h4:=h.room;have h6:c.data.size≤512:=by
  have h5:=h1.1;unfold decB at h5;simp only[Bool.and_eq_true,decide_eq_true_eq]at h5;exact h5.1
 have h7:=jki h.ok hd.hi hd.lo;have h8:=hd.hi;refine⟨⟨by show 0≤c.num;omega,by show c.num≤4294967295;omega⟩,Nat.le_trans h6 (by decide),⟨by show -9223372036854775808≤c.refs;omega,by show c.refs≤9223372036854775807;omega⟩⟩
theorem sl_wfY{α:Type}{E:Enc α}{w:World}{v:Value}{xs:List α}(h:Sl E w v xs):∀x∈xs,E.wf x:=by
 obtain⟨A,c,_,_,_,hr⟩:=h;intro x hx;obtain⟨i,hi,rfl⟩:=List.getElem_of_mem hx;obtain⟨_,_,_,_,hw⟩:=hr i hi;exact hw
theorem jmm{d:Dv}{w:World}{v:Value}(h:DevV w v d)(n:Int):(readD d n).1.size≤140737488355328:=by
 obtain⟨bv,wv,_,h1,h2,_,_⟩:=h;have e0:ByteArray.empty.size≤140737488355328:=by decide
 unfold readD;split
 ·exact e0
 ·split
  ·exact e0
  ·split
   ·exact e0
   ·show(readB d n).size≤_
    unfold readB;cases hl:jek d.waits n with
    |some b=>exact(sl_wfY h2 b (lastOf_mem hl).1).2
    |none=>
     simp only;split
     ·cases hg:d.blocks[jbr d.blocks n]? with
      |none=>exact e0
      |some b=>exact(sl_wfY h1 b (List.mem_of_getElem? hg)).2
     ·exact e0
theorem load_step(w0:World)(p:Nat)(d:Dv)(bv wv:Value)(hdv:DevV w0 (jck d bv wv) d)(hd:DevOk d)(hbl:d.blocks.length≤1073741824)(hwl:d.waits.length≤1073741824)(f:Nat)(IH:LoadAt w0 p d bv wv f):LoadAt w0 p d bv wv (f + 1):=by
 intro w cv cs k tb b hat hkw hcs;have HIH:=Lib.hid IH;have HCS:=Lib.hid hcs;have HKW:=Lib.hid hkw;have HDV:=Lib.hid hdv;clear IH hdv;have hkb:=heap_alloc_new w (.cells (kidE.enc k).toArray 40);have hwa:LdAt w0 (w.alloc (.cells (kidE.enc k).toArray 40)) p d bv wv cv cs:=hat.below ((Below.refl _ w).alloc (Nat.le_refl _) _);have hBa:=(Below.refl w.heap.size w).alloc (Nat.le_refl _) (.cells (kidE.enc k).toArray 40);have HAT:=Lib.hid hat;have HCE:=Lib.hid (cs_wf hcs hd);clear hat hcs;have hkl:=kidE.len k hkw;have q1:(kidE.enc k).toArray[1]? =some (.int .u32 k.num):=rfl;have hkx:∀j u,(hashV k.hash)[j]? =some u→(kidE.enc k).toArray[2 + j]? =some u:=fun j u hj=>by
  rw[List.getElem?_toArray,show kidE.enc k=[Value.string k.key, .int .u32 k.num] ++ hashV k.hash from rfl,List.getElem?_append_right (by simp)];simpa using hj
 have HKX:=Lib.hid hkx;clear hkx;obtain⟨ka,hka⟩:∃ka,(kidE.enc k).toArray=ka:=⟨_,rfl⟩
 rw[hka]at hkb hwa hBa q1 HKX ⊢;have HKA:=Lib.hid hka;clear hka hkl;go_enter Tryz.func45,Tryz.ntmps45;go_upto_region 1 with(fail);generalize w.alloc (.cells ka 40)=wa at *;have HB:=Lib.hid (And.intro hwa (And.intro hBa hkb));have x0:wa.cell? ⟨p,0,none⟩=some (.int .u32 d.size):=by rw[cell_of_row _ _ _ _ _ _ hwa.1];rfl
 have x1:wa.cell? ⟨p,1,none⟩=some bv:=by rw[cell_of_row _ _ _ _ _ _ hwa.1];rfl
 have x2:wa.cell? ⟨p,2,none⟩=some wv:=by rw[cell_of_row _ _ _ _ _ _ hwa.1];rfl
 have x3:wa.cell? ⟨p,3,none⟩=some (.bool d.down):=by rw[cell_of_row _ _ _ _ _ _ hwa.1];rfl
 have x4:wa.cell? ⟨p,4,none⟩=some (.int .i64 d.fuse):=by rw[cell_of_row _ _ _ _ _ _ hwa.1];rfl
 have z1:wa.cell? ⟨w.heap.size,1,none⟩=some (.int .u32 k.num):=by rw[cell_of_row _ _ _ _ _ _ hkb];exact q1
 have f0:=fun g:Grown wa=>g.fact x0
 have f1:=fun g:Grown wa=>g.fact x1
 have f2:=fun g:Grown wa=>g.fact x2
 have f3:=fun g:Grown wa=>g.fact x3
 have f4:=fun g:Grown wa=>g.fact x4
 have f5:=fun g:Grown wa=>g.fact z1
 clear hwa hBa hkb q1;have hdvG:=fun g:Grown wa=>HDV.out.below (HB.out.1.2.2.2.trans (g.prop.mono HB.out.1.2.2.2.size)) (Nat.le_refl _)
 have HDG:=Lib.hid hdvG;clear hdvG;refine jak (by kernel_rfl) (by kernel_rfl) ?_;iterate 6 (
  with_reducible refine wpQuiet_step (fun K hK=>?_)
  go_simp;generalize hZ:(Act.mk _ _:Act)=zz;refine hK _ ?_;subst hZ;clear hK K)
 with_reducible refine wpQuiet_step (fun K hK=>?_)
 go_simp;apply Exists.intro;refine⟨fun g=>?_,hK _ ?_⟩
 ·go_at_call 18;refine(jef g.val _ d k.num (HDG.out g) hbl hwl).mono ?_;rintro e wk ⟨rfl,hbk⟩;exact⟨rfl,⟨wk,g.prop.trans (hbk.mono g.prop.size)⟩,rfl⟩
 clear hK K;iterate 5 (
  with_reducible refine wpQuiet_step (fun K hK=>?_)
  go_simp;generalize hZ:(Act.mk _ _:Act)=zz;refine hK _ ?_;subst hZ;clear hK K)
 refine wpQuiet_nil ?_;intro _ hwq;obtain⟨wq,hwq⟩:=hwq;subst hwq;have HWQ:=Lib.hid wq.prop;have hq1:=HB.out.1.below wq.prop;have hq2:=HB.out.2.1.trans (wq.prop.mono HB.out.2.1.size);have hq3:=(wq.prop.block _ (lt_of_block HB.out.2.2)).trans HB.out.2.2;have HQ:=Lib.hid (And.intro hq1 (And.intro hq2 hq3));have hstr:=jmm HDV.out k.num;clear f0 f1 f2 f3 f4 f5 x0 x1 x2 x3 x4 z1 hq1 hq2 hq3 HDG;generalize wq.val=w1 at *;obtain⟨data,hdata⟩:∃x,(readD d k.num).1=x:=⟨_,rfl⟩
 obtain⟨e1,he1⟩:∃x,(readD d k.num).2=x:=⟨_,rfl⟩
 have HRD:=Lib.hid (And.intro hdata he1);rw[hdata]at hstr ⊢;rw[he1];clear hdata he1;go_wp2_with (fail);refine(jfl w1 data hstr).mono ?_;rintro e w2 ⟨nv,rfl,hnv,hnw,hb2⟩;have HNV:=Lib.hid hnv;obtain⟨hnv,_⟩:=hnv;have HNB:=Lib.hid (show p < w1.heap.size∧∀g,cv.ownBlock=some g→g < w1.heap.size from⟨lt_of_block HQ.out.1.1,fun g hg=>(HQ.out.1.2.2.1.lt g hg).2⟩);have HNW:=Lib.hid hnw;obtain⟨vi,vk,vv,rfl,hsi,hsk,hsv,hk0,hk1⟩:=hnv;have hone:vi.oneCell'=true∧vk.oneCell'=true∧vv.oneCell'=true:=by
  obtain⟨_,_,a1,_⟩:=hsi;obtain⟨_,_,a2,_⟩:=hsk;obtain⟨_,_,a3,_⟩:=hsv;rw[a1,a2,a3];exact⟨rfl,rfl,rfl⟩
 have HONE:=Lib.hid hone;have hq1:=HQ.out.1.below hb2;have hq2:=HQ.out.2.1.trans (hb2.mono HQ.out.2.1.size);have hq3:=(hb2.block _ (lt_of_block HQ.out.2.2)).trans HQ.out.2.2;have hnb:=heap_alloc_new w2 (.cells #[.int .u8 (decN data).kind,vi,vk,vv] 59);have hr1:=hq1.below ((Below.refl _ w2).alloc (Nat.le_refl _) (.cells #[.int .u8 (decN data).kind,vi,vk,vv] 59));have hr2:=hq2.alloc hq2.size (.cells #[.int .u8 (decN data).kind,vi,vk,vv] 59);have hr3:=(Lib.alloc_old w2 (.cells #[.int .u8 (decN data).kind,vi,vk,vv] 59) _ (lt_of_block hq3)).trans hq3;have hr4:=jg5 HNV.out ((Below.refl _ w2).alloc (Nat.le_refl _) (.cells #[.int .u8 (decN data).kind,vi,vk,vv] 59));have hkd:0≤(decN data).kind∧(decN data).kind≤255:=⟨hk0,hk1⟩
 have HR:=Lib.hid (And.intro hr1 (And.intro hr2 (And.intro hr3 (And.intro hr4 hnb))));clear hsi hsk hsv hk0 hk1 hone hq1 hq2 hq3 hb2 HQ hnw hr1 hr2 hr3 hr4 hnb;have HKD:=Lib.hid (show(decN data).kind=(decN data).kind from rfl);obtain⟨kd,hkdE⟩:∃x,(decN data).kind=x:=⟨_,rfl⟩
 rw[hkdE]at HR hkd ⊢;have HKE:=Lib.hid hkdE;clear hkdE HNV HKD;go_upto_region 3 with((with_reducible refine jab ?_);refine jaa rfl 59 (.tmp 9) (.tmp 28) rfl 59 _ rfl [_,_,_,_] rfl rfl (by intro v hv;simp at hv;rcases hv with rfl|rfl|rfl|rfl <;>first|rfl|exact HONE.out.1|exact HONE.out.2.1|exact HONE.out.2.2) ja0 ?_);generalize w2.alloc (.cells #[.int .u8 kd,vi,vk,vv] 59)=wr at *;have hlb:=lt_of_block HR.out.2.2.1;have z1:wr.cell? ⟨w.heap.size,1,none⟩=some (.int .u32 k.num):=by rw[cell_of_row _ _ _ _ _ _ HR.out.2.2.1,←HKA.out];rfl
 have z2:At wr w.heap.size 2 (hashV k.hash):=fun j hj=>by
  rw[cell_of_row _ _ _ _ _ _ HR.out.2.2.1];exact HKX.out j _ (List.getElem?_eq_getElem hj)
 have z3:wr.cell? ⟨w2.heap.size,0,none⟩=some (.int .u8 kd):=by rw[cell_of_row _ _ _ _ _ _ HR.out.2.2.2.2];rfl
 have f1:=fun g:Grown wr=>g.fact z1
 have f3:=fun g:Grown wr=>g.fact z3
 have hhl:(hashV k.hash).length=32:=by simp[hashV,HKW.out.2.2.1]
 have f2:=fun g:Grown wr=>jas (P:=Tryz.prog) g.val w.heap.size 2 34 (hashV k.hash) _ (z2.below (g.prop) (Nat.le_refl _)) Tryz.underlying34 rfl (by rw[hhl];exact jje)
 obtain⟨hb5,hb5e⟩:∃x,(hashV k.hash).toArray=x:=⟨_,rfl⟩
 rw[hb5e]at f2;have HLO:=Lib.hid (show jda d k tb=(jd1 k.num && (decide (e1=0) && (decB data && (decide (shaOf data.data.toList=k.hash) && (!tb||decide (kd=3)))))) by unfold jda;rw[HRD.out.1,HRD.out.2,HKE.out]);have HH5:=Lib.hid hb5e;obtain⟨e2,hE2⟩:∃x,decE data=x:=⟨_,rfl⟩
 rw[hE2];have HE2:=Lib.hid (show decE data=e2 from hE2);clear hE2;have HSH:=Lib.hid (jgc data.data.toList);clear z1 z2 z3 hb5e hhl;generalize hnbn:w2.heap.size=nb at *;clear hnbn;go_cut [30,31,32,33,34,35,36,37,38,39,40,41,42,43,44,45,46,47,48,49,50,51,52,53,54,55,56] (fun _ _ _ _ _ _ _ _ _ _ _ _ _ _ _ _ _ _ _ _ _ _ _ _ _ _ x wx=>x= .bool (!(jda d k tb))∧Below wr.heap.size wr wx)
 case first=>
  cases hbk:jd1 k.num with
  |false=>
   have HV:=Lib.hid (show jda d k tb=false by rw[HLO.out,hbk];rfl);refine jak (by kernel_rfl) (by kernel_rfl) ?_;iterate 2 (
    with_reducible refine wpQuiet_step (fun K hK=>?_)
    go_simp;generalize hZ:(Act.mk _ _:Act)=zz;refine hK _ ?_;subst hZ;clear hK K)
   with_reducible refine wpQuiet_step (fun K hK=>?_)
   go_simp;apply Exists.intro;refine⟨fun g=>?_,hK _ ?_⟩
   ·go_at_call 107;refine(ja7 _ _).mono ?_;rintro e _ ⟨rfl,rfl⟩;rw[hbk];exact⟨rfl,g,rfl⟩
   clear hK K;iterate 24 (
    with_reducible refine wpQuiet_step (fun K hK=>?_)
    go_simp;generalize hZ:(Act.mk _ _:Act)=zz;refine hK _ ?_;subst hZ;clear hK K)
   refine wpQuiet_nil ?_;intro _ hwq;obtain⟨wq,hwq⟩:=hwq;subst hwq;go_wp2_with (fail);go_meet;exact⟨by rw[HV.out];rfl,wq.prop⟩
  |true=>
   by_cases hw1:e1=0
   ·have hw1b:(e1 !=0)=false:=by simp[hw1]
    have HW1:=Lib.hid hw1;clear hw1;cases hdc:decB data with
    |false=>
     have HV:=Lib.hid (show jda d k tb=false by rw[HLO.out,hdc];simp);have he2:(e2 !=0)=true:=by rw[←HE2.out];unfold decE;rw[hdc];rfl
     clear hdc;refine jak (by kernel_rfl) (by kernel_rfl) ?_;iterate 2 (
      with_reducible refine wpQuiet_step (fun K hK=>?_)
      go_simp;generalize hZ:(Act.mk _ _:Act)=zz;refine hK _ ?_;subst hZ;clear hK K)
     with_reducible refine wpQuiet_step (fun K hK=>?_)
     go_simp;apply Exists.intro;refine⟨fun g=>?_,hK _ ?_⟩
     ·go_at_call 107;refine(ja7 _ _).mono ?_;rintro e _ ⟨rfl,rfl⟩;rw[hbk];exact⟨rfl,g,rfl⟩
     clear hK K;iterate 24 (
      with_reducible refine wpQuiet_step (fun K hK=>?_)
      go_simp;generalize hZ:(Act.mk _ _:Act)=zz;refine hK _ ?_;subst hZ;clear hK K)
     refine wpQuiet_nil ?_;intro _ hwq;obtain⟨wq,hwq⟩:=hwq;subst hwq;go_wp2_with (fail);go_meet;exact⟨by rw[HV.out];rfl,wq.prop⟩
    |true=>
     have he2:(e2 !=0)=false:=by rw[←HE2.out];unfold decE;rw[hdc];rfl
     have HDC:=Lib.hid hdc;clear hdc;cases hsh:(shaOf data.data.toList==k.hash)with
     |false=>
      have hne:¬shaOf data.data.toList=k.hash:=beq_eq_false_iff_ne.1 hsh;have HV:=Lib.hid (show jda d k tb=false by rw[HLO.out,decide_eq_false hne];simp);clear hne;refine jak (by kernel_rfl) (by kernel_rfl) ?_;iterate 2 (
       with_reducible refine wpQuiet_step (fun K hK=>?_)
       go_simp;generalize hZ:(Act.mk _ _:Act)=zz;refine hK _ ?_;subst hZ;clear hK K)
      with_reducible refine wpQuiet_step (fun K hK=>?_)
      go_simp;apply Exists.intro;refine⟨fun g=>?_,hK _ ?_⟩
      ·go_at_call 107;refine(ja7 _ _).mono ?_;rintro e _ ⟨rfl,rfl⟩;rw[hbk];exact⟨rfl,g,rfl⟩
      clear hK K;iterate 11 (
       with_reducible refine wpQuiet_step (fun K hK=>?_)
       go_simp;generalize hZ:(Act.mk _ _:Act)=zz;refine hK _ ?_;subst hZ;clear hK K)
      with_reducible refine wpQuiet_step (fun K hK=>?_)
      go_simp;apply Exists.intro;refine⟨fun g=>?_,hK _ ?_⟩
      ·go_at_call 33;refine(jfj g.val data hstr).mono ?_;rintro e wk ⟨rfl,hbk⟩;exact⟨rfl,⟨wk,g.prop.trans (hbk.mono g.prop.size)⟩,rfl⟩
      clear hK K;iterate 1 (
       with_reducible refine wpQuiet_step (fun K hK=>?_)
       go_simp;generalize hZ:(Act.mk _ _:Act)=zz;refine hK _ ?_;subst hZ;clear hK K)
      refine wpQuiet_step (fun K hK=>?_);refine jal 34 (.tmp 45) rfl ⟨w.heap.size,2,none⟩ rfl (.agg hb5) f2 ?_;generalize hZ:(Act.put _ _ _:Act)=zz;refine hK _ ?_;subst hZ;clear hK K;refine wpQuiet_step (fun K hK=>?_);refine jhi (.tmp 44) (.tmp 46) rfl (shaOf data.data.toList) k.hash HSH.out.1 HKW.out.2.2.1 _ hb5 rfl HH5.out rfl rfl ?_;rw[hsh];generalize hZ:(Act.put _ _ _:Act)=zz;refine hK _ ?_;subst hZ;clear hK K;iterate 9 (
       with_reducible refine wpQuiet_step (fun K hK=>?_)
       go_simp;generalize hZ:(Act.mk _ _:Act)=zz;refine hK _ ?_;subst hZ;clear hK K)
      refine wpQuiet_nil ?_;intro _ hwq;obtain⟨wq,hwq⟩:=hwq;subst hwq;go_wp2_with (fail);go_meet;exact⟨by rw[HV.out];rfl,wq.prop⟩
     |true=>
      have heq:shaOf data.data.toList=k.hash:=beq_iff_eq.1 hsh;cases tb with
      |false=>
       have HV:=Lib.hid (show jda d k false=true by rw[HLO.out,hbk,decide_eq_true HW1.out,HDC.out,decide_eq_true heq];rfl);clear heq;refine jak (by kernel_rfl) (by kernel_rfl) ?_;iterate 2 (
        with_reducible refine wpQuiet_step (fun K hK=>?_)
        go_simp;generalize hZ:(Act.mk _ _:Act)=zz;refine hK _ ?_;subst hZ;clear hK K)
       with_reducible refine wpQuiet_step (fun K hK=>?_)
       go_simp;apply Exists.intro;refine⟨fun g=>?_,hK _ ?_⟩
       ·go_at_call 107;refine(ja7 _ _).mono ?_;rintro e _ ⟨rfl,rfl⟩;rw[hbk];exact⟨rfl,g,rfl⟩
       clear hK K;iterate 11 (
        with_reducible refine wpQuiet_step (fun K hK=>?_)
        go_simp;generalize hZ:(Act.mk _ _:Act)=zz;refine hK _ ?_;subst hZ;clear hK K)
       with_reducible refine wpQuiet_step (fun K hK=>?_)
       go_simp;apply Exists.intro;refine⟨fun g=>?_,hK _ ?_⟩
       ·go_at_call 33;refine(jfj g.val data hstr).mono ?_;rintro e wk ⟨rfl,hbk⟩;exact⟨rfl,⟨wk,g.prop.trans (hbk.mono g.prop.size)⟩,rfl⟩
       clear hK K;iterate 1 (
        with_reducible refine wpQuiet_step (fun K hK=>?_)
        go_simp;generalize hZ:(Act.mk _ _:Act)=zz;refine hK _ ?_;subst hZ;clear hK K)
       refine wpQuiet_step (fun K hK=>?_);refine jal 34 (.tmp 45) rfl ⟨w.heap.size,2,none⟩ rfl (.agg hb5) f2 ?_;generalize hZ:(Act.put _ _ _:Act)=zz;refine hK _ ?_;subst hZ;clear hK K;refine wpQuiet_step (fun K hK=>?_);refine jhi (.tmp 44) (.tmp 46) rfl (shaOf data.data.toList) k.hash HSH.out.1 HKW.out.2.2.1 _ hb5 rfl HH5.out rfl rfl ?_;rw[hsh];generalize hZ:(Act.put _ _ _:Act)=zz;refine hK _ ?_;subst hZ;clear hK K;iterate 9 (
        with_reducible refine wpQuiet_step (fun K hK=>?_)
        go_simp;generalize hZ:(Act.mk _ _:Act)=zz;refine hK _ ?_;subst hZ;clear hK K)
       refine wpQuiet_nil ?_;intro _ hwq;obtain⟨wq,hwq⟩:=hwq;subst hwq;go_wp2_with (fail);go_meet;exact⟨by rw[HV.out];rfl,wq.prop⟩
      |true=>
       by_cases hk3:kd=3
       ·have hk3b:(kd !=3)=false:=by simp[hk3]
        have HV:=Lib.hid (show jda d k true=true by rw[HLO.out,hbk,decide_eq_true HW1.out,HDC.out,decide_eq_true heq,decide_eq_true hk3];rfl);clear heq hk3;refine jak (by kernel_rfl) (by kernel_rfl) ?_;iterate 2 (
         with_reducible refine wpQuiet_step (fun K hK=>?_)
         go_simp;generalize hZ:(Act.mk _ _:Act)=zz;refine hK _ ?_;subst hZ;clear hK K)
        with_reducible refine wpQuiet_step (fun K hK=>?_)
        go_simp;apply Exists.intro;refine⟨fun g=>?_,hK _ ?_⟩
        ·go_at_call 107;refine(ja7 _ _).mono ?_;rintro e _ ⟨rfl,rfl⟩;rw[hbk];exact⟨rfl,g,rfl⟩
        clear hK K;iterate 11 (
         with_reducible refine wpQuiet_step (fun K hK=>?_)
         go_simp;generalize hZ:(Act.mk _ _:Act)=zz;refine hK _ ?_;subst hZ;clear hK K)
        with_reducible refine wpQuiet_step (fun K hK=>?_)
        go_simp;apply Exists.intro;refine⟨fun g=>?_,hK _ ?_⟩
        ·go_at_call 33;refine(jfj g.val data hstr).mono ?_;rintro e wk ⟨rfl,hbk⟩;exact⟨rfl,⟨wk,g.prop.trans (hbk.mono g.prop.size)⟩,rfl⟩
        clear hK K;iterate 1 (
         with_reducible refine wpQuiet_step (fun K hK=>?_)
         go_simp;generalize hZ:(Act.mk _ _:Act)=zz;refine hK _ ?_;subst hZ;clear hK K)
        refine wpQuiet_step (fun K hK=>?_);refine jal 34 (.tmp 45) rfl ⟨w.heap.size,2,none⟩ rfl (.agg hb5) f2 ?_;generalize hZ:(Act.put _ _ _:Act)=zz;refine hK _ ?_;subst hZ;clear hK K;refine wpQuiet_step (fun K hK=>?_);refine jhi (.tmp 44) (.tmp 46) rfl (shaOf data.data.toList) k.hash HSH.out.1 HKW.out.2.2.1 _ hb5 rfl HH5.out rfl rfl ?_;rw[hsh];generalize hZ:(Act.put _ _ _:Act)=zz;refine hK _ ?_;subst hZ;clear hK K;iterate 9 (
         with_reducible refine wpQuiet_step (fun K hK=>?_)
         go_simp;generalize hZ:(Act.mk _ _:Act)=zz;refine hK _ ?_;subst hZ;clear hK K)
        refine wpQuiet_nil ?_;intro _ hwq;obtain⟨wq,hwq⟩:=hwq;subst hwq;go_wp2_with (fail);go_meet;exact⟨by rw[HV.out];rfl,wq.prop⟩
       ·have hk3b:(kd !=3)=true:=by simp[hk3]
        have HV:=Lib.hid (show jda d k true=false by rw[HLO.out,decide_eq_false hk3];simp);clear heq hk3;refine jak (by kernel_rfl) (by kernel_rfl) ?_;iterate 2 (
         with_reducible refine wpQuiet_step (fun K hK=>?_)
         go_simp;generalize hZ:(Act.mk _ _:Act)=zz;refine hK _ ?_;subst hZ;clear hK K)
        with_reducible refine wpQuiet_step (fun K hK=>?_)
        go_simp;apply Exists.intro;refine⟨fun g=>?_,hK _ ?_⟩
        ·go_at_call 107;refine(ja7 _ _).mono ?_;rintro e _ ⟨rfl,rfl⟩;rw[hbk];exact⟨rfl,g,rfl⟩
        clear hK K;iterate 11 (
         with_reducible refine wpQuiet_step (fun K hK=>?_)
         go_simp;generalize hZ:(Act.mk _ _:Act)=zz;refine hK _ ?_;subst hZ;clear hK K)
        with_reducible refine wpQuiet_step (fun K hK=>?_)
        go_simp;apply Exists.intro;refine⟨fun g=>?_,hK _ ?_⟩
        ·go_at_call 33;refine(jfj g.val data hstr).mono ?_;rintro e wk ⟨rfl,hbk⟩;exact⟨rfl,⟨wk,g.prop.trans (hbk.mono g.prop.size)⟩,rfl⟩
        clear hK K;iterate 1 (
         with_reducible refine wpQuiet_step (fun K hK=>?_)
         go_simp;generalize hZ:(Act.mk _ _:Act)=zz;refine hK _ ?_;subst hZ;clear hK K)
        refine wpQuiet_step (fun K hK=>?_);refine jal 34 (.tmp 45) rfl ⟨w.heap.size,2,none⟩ rfl (.agg hb5) f2 ?_;generalize hZ:(Act.put _ _ _:Act)=zz;refine hK _ ?_;subst hZ;clear hK K;refine wpQuiet_step (fun K hK=>?_);refine jhi (.tmp 44) (.tmp 46) rfl (shaOf data.data.toList) k.hash HSH.out.1 HKW.out.2.2.1 _ hb5 rfl HH5.out rfl rfl ?_;rw[hsh];generalize hZ:(Act.put _ _ _:Act)=zz;refine hK _ ?_;subst hZ;clear hK K;iterate 9 (
         with_reducible refine wpQuiet_step (fun K hK=>?_)
         go_simp;generalize hZ:(Act.mk _ _:Act)=zz;refine hK _ ?_;subst hZ;clear hK K)
        refine wpQuiet_nil ?_;intro _ hwq;obtain⟨wq,hwq⟩:=hwq;subst hwq;go_wp2_with (fail);go_meet;exact⟨by rw[HV.out];rfl,wq.prop⟩
   ·have hw1b:(e1 !=0)=true:=by simp[hw1]
    have HV:=Lib.hid (show jda d k tb=false by rw[HLO.out,decide_eq_false hw1];simp);clear hw1;refine jak (by kernel_rfl) (by kernel_rfl) ?_;iterate 2 (
     with_reducible refine wpQuiet_step (fun K hK=>?_)
     go_simp;generalize hZ:(Act.mk _ _:Act)=zz;refine hK _ ?_;subst hZ;clear hK K)
    with_reducible refine wpQuiet_step (fun K hK=>?_)
    go_simp;apply Exists.intro;refine⟨fun g=>?_,hK _ ?_⟩
    ·go_at_call 107;refine(ja7 _ _).mono ?_;rintro e _ ⟨rfl,rfl⟩;rw[hbk];exact⟨rfl,g,rfl⟩
    clear hK K;iterate 24 (
     with_reducible refine wpQuiet_step (fun K hK=>?_)
     go_simp;generalize hZ:(Act.mk _ _:Act)=zz;refine hK _ ?_;subst hZ;clear hK K)
    refine wpQuiet_nil ?_;intro _ hwq;obtain⟨wq,hwq⟩:=hwq;subst hwq;go_wp2_with (fail);go_meet;exact⟨by rw[HV.out];rfl,wq.prop⟩
 case rest=>
  obtain⟨rfl,hbc⟩:=hcut;have hc1:=HR.out.1.below hbc;have hc2:=HR.out.2.1.trans (hbc.mono HR.out.2.1.size);have hc3:=(hbc.block _ (lt_of_block HR.out.2.2.1)).trans HR.out.2.2.1;have hc4:=jg5 HR.out.2.2.2.1 hbc;have hc5:=(hbc.block _ (lt_of_block HR.out.2.2.2.2)).trans HR.out.2.2.2.2;have HC:=Lib.hid (And.intro hc1 (And.intro hc2 (And.intro hc3 (And.intro hc4 hc5))));clear f1 f2 f3 hc1 hc2 hc3 hc4 hc5 hbc hlb HR;cases hlk:jda d k tb with
  |false=>
   have hnl:(!jda d k tb)=true:=by rw[hlk];rfl
   have HV:=Lib.hid (show loadS d (f + 1) tb k cs=(false,cs) by unfold loadS;rw[hlk,if_pos rfl]);clear hlk;go_wp2_with (fail);go_ret;rw[HV.out];exact⟨rfl,LdDone.stay HAT.out HC.out.2.1⟩
  |true=>
   have hnl:(!jda d k tb)=false:=by rw[hlk];rfl
   have HLK:=Lib.hid hlk;clear hlk;have hwfc:∀x∈cs.map celOf,celE.wf x:=HCE.out;have hslc:=jct (E:=celE) HC.out.1.2.2.1 (by rw[List.length_map]) hwfc;have hnum:(cs.map celOf).map (·.num)=jaj cs:=by rw[List.map_map];rfl
   have hris:jdk ((cs.map celOf).map (·.num)):=by rw[hnum];exact jc3 HCS.out.ok.ris
   have HLC:=Lib.hid (jki HCS.out.ok hd.hi hd.lo);have hlen:cs.length≤65534:=jki HCS.out.ok hd.hi hd.lo;have hpl:=fun g:Grown wc=>jhe g.val cv (cs.map celOf) k.num (hslc.below g.prop (Nat.le_refl _)) hris (by rw[List.length_map];omega)
   rw[hnum]at hpl;have HPL:=Lib.hid hpl;have y5:wc.cell? ⟨p,5,none⟩=some cv:=by rw[cell_of_row _ _ _ _ _ _ HC.out.1.1];rfl
   have z1:wc.cell? ⟨w.heap.size,1,none⟩=some (.int .u32 k.num):=by rw[cell_of_row _ _ _ _ _ _ HC.out.2.2.1,←HKA.out];rfl
   have f1:=fun g:Grown wc=>g.fact y5
   have f2:=fun g:Grown wc=>g.fact z1
   clear y5 z1 hslc hnum hris hpl hwfc;go_wp2_with (fail);refine jak (by kernel_rfl) (by kernel_rfl) ?_;iterate 6 (
    with_reducible refine wpQuiet_step (fun K hK=>?_)
    go_simp;generalize hZ:(Act.mk _ _:Act)=zz;refine hK _ ?_;subst hZ;clear hK K)
   with_reducible refine wpQuiet_step (fun K hK=>?_)
   go_simp;apply Exists.intro;refine⟨fun g=>?_,hK _ ?_⟩
   ·go_at_call 48;refine(HPL.out g).mono ?_;rintro e wk ⟨rfl,hbk⟩;exact⟨rfl,⟨wk,g.prop.trans (hbk.mono g.prop.size)⟩,rfl⟩
   clear hK K;iterate 5 (
    with_reducible refine wpQuiet_step (fun K hK=>?_)
    go_simp;generalize hZ:(Act.mk _ _:Act)=zz;refine hK _ ?_;subst hZ;clear hK K)
   refine wpQuiet_nil ?_;intro _ hwq;obtain⟨wq,hwq⟩:=hwq;subst hwq;have hc1:=HC.out.1.below wq.prop;have hc2:=HC.out.2.1.trans (wq.prop.mono HC.out.2.1.size);have hc3:=(wq.prop.block _ (lt_of_block HC.out.2.2.1)).trans HC.out.2.2.1;have hc4:=jg5 HC.out.2.2.2.1 wq.prop;have hc5:=(wq.prop.block _ (lt_of_block HC.out.2.2.2.2)).trans HC.out.2.2.2.2;have HX:=Lib.hid (And.intro hc1 (And.intro hc2 (And.intro hc3 (And.intro hc4 hc5))));clear f1 f2 hc1 hc2 hc3 hc4 hc5 HPL HC;generalize wq.val=wx at *;clear wq;obtain⟨i,hi⟩:∃i,ja5 (jaj cs) k.num=i:=⟨_,rfl⟩
   have HI:=Lib.hid hi;rw[hi];clear hi;cases hh:jba (jaj cs) k.num with
   |true=>
    have hV:loadS d (f + 1) tb k cs=(true,cs.map (rUp k.num)):=by unfold loadS;rw[HLK.out,if_neg (by simp),if_pos hh]
    obtain⟨c,hcm,hil,hgc,hset⟩:=refs_row HCS.out.ok.ris hh;rw[HI.out]at hil hgc hset;obtain⟨ho1,ho2⟩:=HX.out.1.2.2.1;rcases ho2 with⟨_,h0⟩|⟨g,cap,cur,rfl,hgB,hgb,hnc,hcm2,hcsz,htk⟩
    ·omega
    ·have hlen2:cs.length≤cap:=hnc;have y5:wx.cell? ⟨p,5,none⟩=some (.slice (some ⟨g,0,none⟩) cs.length cap):=by rw[cell_of_row _ _ _ _ _ _ HX.out.1.1];rfl
     have c6:wx.cell? ⟨g,i * 3 + 2,none⟩=some (.int .i64 c.refs):=by
      rw[cell_of_row _ _ _ _ _ _ hgb,←hgc,←htk,List.getElem?_take,if_pos (by omega),Array.getElem?_toList]
     have c7:wx.frozen? ⟨g,i * 3 + 2,none⟩=false:=jbi hgb _;have hrb:=HCS.out.refs c hcm;have hrm:=HCS.out.room;have hrp:=HCS.out.ok.pos c hcm;have hwr:IntKind.i64.wrap (c.refs + 1)=c.refs + 1:=by rw[IntKind.wrap_i64];omega
     have hst:=HX.out.1.2.2.1.stored (i * 3 + 2) (.int .i64 (c.refs + 1));rw[hset]at hst;have hgp:g≠p:=fun e=>by
      subst e;have h9:=HX.out.1.1;rw[hgb]at h9;injection h9 with h9;injection h9 with _ h9 _;exact absurd h9 (by decide)
     have HV:=Lib.hid hV;have HW2:=Lib.hid (And.intro hst (And.intro hgp (And.intro hgB hwr)));have hi1:(0:Int)≤i:=by omega
     have hi2:(i:Int) < cs.length:=by omega
     clear hV hcm hgc hset ho1 hgb hnc hcm2 hcsz htk hrb hrm hrp hst hgp;generalize c.refs=rf at *;have hV:=HV.out;go_wp2_with (fail);go_ret;rw[hV];obtain⟨⟨hs1,hs2⟩,hgp,hgB,_⟩:=HW2.out;refine⟨rfl,_,⟨(hs2.block p (lt_of_block HX.out.1.1) (fun e=>hgp (by injection e with e;exact e.symm))).trans HX.out.1.1,HX.out.1.2.1,by rw[List.length_map];exact hs1,HX.out.1.2.2.2.setCell (p:=⟨g,i * 3 + 2,none⟩) hgB _⟩,fun g hg=>Or.inl hg,(Grown2.of_below HX.out.2.1).step hs2 (Or.inr (Or.inl rfl))⟩
   |false=>
    have hil:i≤cs.length:=by
     rw[←HI.out];unfold ja5;have:=posOf_le (fun n=>decide (n < k.num)) (jaj cs);unfold jaj at this ⊢;rw[List.length_map]at this;exact this
    have hV:loadS d (f + 1) tb k cs=jcg (loadS d f false) (jcn (decN data)) (insCC (newL k.num data) cs):=by unfold loadS;rw[HLK.out,if_neg (by simp),if_neg (by rw[hh];simp),HRD.out.1]
    have hins:(insCC (newL k.num data) cs).map celOf=(cs.map celOf).insertIdx i ⟨k.num,data,1⟩:=by
     have:=ins_row (cs:=cs) (newL k.num data) (by show ja5 (jaj cs) k.num≤_;rw[HI.out];exact hil);rw[show(newL k.num data).num=k.num from rfl,HI.out]at this;exact this
    have hinl:(insCC (newL k.num data) cs).length=cs.length + 1:=by rw[(jic _ cs).length_eq,List.length_cons]
    have hnot:k.num ∉ jaj cs:=fun h=>by rw[(jez HCS.out.ok.ris k.num).2 h]at hh;cases hh
    have HV:=Lib.hid (And.intro hV (And.intro hins (And.intro hinl hnot)));clear hV hins hinl hnot;go_upto_region 9 with(fail);have y5:wx.cell? ⟨p,5,none⟩=some cv:=by rw[cell_of_row _ _ _ _ _ _ HX.out.1.1];rfl
    have z1:wx.cell? ⟨w.heap.size,1,none⟩=some (.int .u32 k.num):=by rw[cell_of_row _ _ _ _ _ _ HX.out.2.2.1,←HKA.out];rfl
    have hpw:p < w.heap.size:=lt_of_block HAT.out.1;have ne1:¬w.heap.size=p:=by omega
    have ne2:¬p=w.heap.size:=by omega
    have hlw:w.heap.size < wx.heap.size:=lt_of_block HX.out.2.2.1;have hlp:p < wx.heap.size:=by omega
    have HNE:=Lib.hid (And.intro HNB.out.1 (lt_of_block HX.out.2.2.2.2));generalize hnumE:k.num=num at *;have HJ:=Lib.hid (show ∀(wi:World),((wx.alloc (.cells #[.int .u32 num, .string data, .int .i64 1] 91)).drew).grownBy wi cv.ownBlock→
     wi.cell? ⟨w.heap.size,1,none⟩=some (.int .u32 num)∧wi.cell? ⟨p,5,none⟩=some cv∧wi.frozen? ⟨p,5,none⟩=false∧wi.heap[p]? =some (.cells (ldrRow d bv wv cv) 93 (0,0))∧wi.heap[nb]? =some (.cells #[.int .u8 kd,vi,vk,vv] 59 (0,0))∧
     NodeF w1.heap.size wi (.agg #[.int .u8 kd,vi,vk,vv]) (decN data)∧Grown2 w wi p cv.ownBlock∧Below w0.heap.size w0 wi from by
     intro wi hg;have hold:∀t,t < wx.heap.size→some t≠cv.ownBlock→wi.heap[t]? =wx.heap[t]? :=fun t ht hne=>(hg.block t (by simp[World.drew];omega) hne).trans (Lib.alloc_old wx _ t ht)
     have hown:=HX.out.1.2.2.1;have h1:=(hold p hlp (fun e=>jb8 hown HX.out.1.1 (by decide) e.symm)).trans HX.out.1.1;have h2:=(hold nb (lt_of_block HX.out.2.2.2.2) (fun e=>jb8 hown HX.out.2.2.2.2 (by decide) e.symm)).trans HX.out.2.2.2.2;have hgx:=((HX.out.1.2.2.2.alloc HX.out.1.2.2.2.size (.cells #[.int .u32 num, .string data, .int .i64 1] 91)).drew).grown hg (by have:=HX.out.1.2.2.2.size;simp[World.drew];omega) (fun q hq=>(hown.lt q hq).1);refine⟨(World.cell?_of_block (hold _ hlw (fun e=>jb8 hown HX.out.2.2.1 (by decide) e.symm))).trans z1,by rw[cell_of_row _ _ _ _ _ _ h1];rfl,jbi h1 _,h1,h2,jml HX.out.2.2.2.1 (fun b hb hlt=>hold b hlt (fun e=>by have:=HNB.out.2 b e.symm;omega)),?_,hgx⟩;exact⟨hg.os.trans HX.out.2.1.os,hg.tape.trans HX.out.2.1.tape,hg.output.trans HX.out.2.1.output,Nat.le_trans HX.out.2.1.size (Nat.le_trans (by simp[World.drew]) hg.size),fun t ht _ hne=>(hold t (Nat.lt_of_lt_of_le ht HX.out.2.1.size) (fun e=>hne e.symm)).trans (HX.out.2.1.block t ht)⟩)
    go_cut [79,80,81,82,83,84,85,86,87,88,89,90,91,92] (fun _ _ _ _ _ _ _ _ _ _ _ _ _ _ wz=>InsRel w0 w wz p d bv wv cv (insCC (newL num data) cs) w1.heap.size nb #[.int .u8 kd,vi,vk,vv] (decN data))
    case first=>
     rw[jjl 30 (.tmp 82)];go_region_held3 (fun x=>x.cell? ⟨w.heap.size,1,none⟩=some (.int .u32 num)) (go_keep) (first
      |(go_at_call 108;refine(insCel_any w0.heap.size _ cv cs.length i wx.heap.size ⟨num,data,1⟩ (cs.map celOf) (by rw[List.length_map]) ((HX.out.1.2.2.1.alloc _).drew) HCE.out hil (heap_alloc_new wx _) (fun e=>by have:=(HX.out.1.2.2.1.lt _ e).2;omega) (by have:=HLC.out;omega) (by have:=HX.out.1.2.2.2.size;simp[World.drew];omega)).mono ?_;rintro e wi ⟨g',cap',rfl,ho2,hg2,hfr⟩;have hj:=HJ.out wi hg2;have hk1:=hj.1;have hcd:=hj.2.1;have hfd:=hj.2.2.1;have HD:=Lib.hid (And.intro ho2 (And.intro hg2 (And.intro hfr hj)));clear ho2 hg2 hfr hj))
     all_goals(
      have hset:=ja2 HD.out.2.2.2.2.2.2.1 5 (.slice (some ⟨g',0,none⟩) (cs.length + 1) cap');have hgs:=jap (World.grownBy.refl wi (some p)) 5 (.slice (some ⟨g',0,none⟩) (cs.length + 1) cap');have hw1:=jat HD.out.1 hgs HD.out.2.2.2.2.2.2.1 (by decide);have hgp:nb≠p:=fun e=>by
       have h8:=HD.out.2.2.2.2.2.2.1;have h9:=HD.out.2.2.2.2.2.2.2.1;rw[e,h8]at h9;injection h9 with h9;injection h9 with _ h9 _;exact absurd h9 (by decide)
      have HF:=Lib.hid (show InsRel w0 w (wi.setCell ⟨p,5,none⟩ (.slice (some ⟨g',0,none⟩) (cs.length + 1) cap')) p d bv wv cv (insCC (newL num data) cs) w1.heap.size nb #[.int .u8 kd,vi,vk,vv] (decN data)from by
       refine⟨⟨_,⟨hset,HX.out.1.2.1,by rw[HV.out.2.2.1,HV.out.2.1];exact hw1,HD.out.2.2.2.2.2.2.2.2.2.2.setCell (p:=⟨p,5,none⟩) HX.out.1.2.1 _⟩,fun q hq=>?_,HD.out.2.2.2.2.2.2.2.2.2.1.step hgs (Or.inl rfl)⟩,(hgs.block nb (lt_of_block HD.out.2.2.2.2.2.2.2.1) (fun e=>hgp (by injection e))).trans HD.out.2.2.2.2.2.2.2.1,jml HD.out.2.2.2.2.2.2.2.2.1 (fun b hb hlt=>hgs.block b hlt (fun e=>by injection e with e;have:=HNB.out.1;omega))⟩;have hq':g'=q:=by injection hq
       subst hq';rcases HD.out.2.2.1 with h|h
       ·exact Or.inl h
       ·right;have h1:=HX.out.2.1.size;simp[World.drew]at h;omega)
      clear hset hgs hw1 hgp hk1 hcd hfd;go_wp2_with (fail);go_meet;exact HF.out)
    case rest=>
     obtain⟨⟨cv1,hla,hown1,hgr1⟩,hnd,hnf⟩:=hcut;have hks:(jcn (decN data)).length≤255:=by
      have hd3:=(jdv HLK.out).2.2.1;rw[hnumE,HRD.out.1]at hd3;have h2:=jev hd3;rw[←jjv (jh4 hd3).1,List.length_map]at h2;exact h2
     have hokI:=ldOk_ins HCS.out.ok HLK.out (by rw[hnumE];exact HV.out.2.2.2);rw[hnumE,HRD.out.1]at hokI;have hsm:=jfv data;have HRW:=Lib.hid (And.intro hla (And.intro hown1 (And.intro hgr1 (And.intro hnd (And.intro hnf hokI)))));clear hla hown1 hgr1 hnd hnf hokI y5 z1 ne1 ne2 hlw hlp HJ;have HSM:=Lib.hid hsm;clear hsm;go_wp2_with (refine wpList_load_row rfl 59 _ rfl nb rfl 59 _ (0,0) _ HRW.out.2.2.2.1 Tryz.underlying59 rfl ja0 ?_);go_at_call 109;refine(namedHO_any wc _ (decN data) HRW.out.2.2.2.2.1.1 ⟨by have:=HSM.out.2.1;omega,by have:=HSM.out.2.2;omega⟩).mono ?_;rintro e w5 ⟨r,rfl,⟨hsl,hfr⟩,hb5n⟩;have hslE:=hsl;obtain⟨A,c0,rfl,hc1,hc2,hrow⟩:=hslE;have hK0:KidsAt w0 w w5 p d bv wv cv f (jcn (decN data)) (insCC (newL num data) cs) (.slice A (jcn (decN data)).length c0) 0:=by
      refine⟨cv1,_,b,HRW.out.1.below hb5n,rfl,HRW.out.2.1,HRW.out.2.2.1.below hb5n,hsl,fun g hg=>⟨?_,fun e=>?_⟩,HRW.out.2.2.2.2.2,HCS.out.one,fun c hc=>?_,?_,?_⟩
      ·have h1:=hfr g hg;have h2:=lt_of_block HRW.out.1.1;omega
      ·have h1:=hfr g hg;have h2:=(HRW.out.1.2.2.1.lt _ e).2;omega
      ·rcases jen.1 hc with rfl|hc
       ·exact HCS.out.one
       ·exact HCS.out.refs c hc
      ·have:=HCS.out.room;rw[HV.out.2.2.1];simp only[Nat.sub_zero];omega
      ·have:=HCS.out.fuel;rw[HV.out.2.2.1];omega
     have HK0:=Lib.hid hK0;clear hK0 hsl hfr hrow HRW hb5n;generalize hksE:jcn (decN data)=ks at *;generalize hc1E:insCC (newL num data) cs=cs1 at *;go_wp2_with (fail);go_loopw [14,96,97,98,99,100,101,102,103,104] (fun _ i _ _ _ _ _ _ _ _ wr=>∃j:Nat,j≤ks.length∧i= .int .i64 j∧KidsAt w0 w wr p d bv wv cv f ks cs1 (.slice A ks.length c0) j) (fun _ i _ _ _ _ _ _ _ _ _=>ks.length - (intOf i).toNat)
     case atStart=>exact⟨0,Nat.zero_le _,rfl,HK0.out⟩
     case round=>
      obtain⟨j,hj,rfl,cvj,csj,bj,hkr⟩:=hrel;have HKR:=Lib.hid hkr;by_cases hlt:j < ks.length
      ·obtain⟨bb,oo,rfl,hatr,hkwf⟩:=jgk hkr.row j hlt;have hbbr:bb < wr.heap.size:=block_lt_of_cell (hatr.cell 0 (.string ks[j].key) rfl);have hBk:=(Below.refl wr.heap.size wr).alloc (Nat.le_refl _) (.cells (kidE.enc ks[j]).toArray 40);have hih:=HIH.out (wr.alloc (.cells (kidE.enc ks[j]).toArray 40)) cvj csj ks[j] false bj (hkr.at_.below hBk) hkwf ⟨hkr.ok,hkr.one,hkr.refs,by have:=hkr.room;omega,hkr.fuel⟩;have HIJ:=Lib.hid hih;have hdr:ks.drop j=ks[j]::ks.drop (j + 1):=List.drop_eq_getElem_cons hlt;have HDR:=Lib.hid hdr;have hap:=hkr.apart bb rfl;have HAP:=Lib.hid (And.intro hap hbbr);clear hkr hih hdr hap;have hkl2:=kidE.len _ hkwf;have hk1:=kidE.one _ hkwf;have hkli:=jc7 _ hkwf;clear hkwf;generalize ks[j]=kj at *;have hatn:=new_at wr (kidE.enc kj) 40;generalize kidE.enc kj=vs at *;go_wp2_with (first
        |((with_reducible refine jao ?_);refine jai rfl 40 (.tmp 98) rfl bb (oo + j * 34) rfl vs _ hatr Tryz.underlying40 rfl hkli ?_)
        |((with_reducible refine jab ?_);refine jaa rfl 40 (.tmp 14) (.tmp 99) rfl 40 _ rfl vs rfl (by rw[hkl2];rfl) hk1 hkli ?_)
        |((with_reducible refine jao ?_);refine jai rfl 40 (.tmp 14) rfl wr.heap.size 0 rfl vs _ hatn Tryz.underlying40 rfl hkli ?_))
       refine HIJ.out.mono ?_;rintro e w6 ⟨rfl,hdone⟩;have hBg:=HKR.out.grown.below hBk;obtain⟨cv6,k1,k2,k3,k4,k5⟩:=hdone.after hBg HKR.out.own;have HD6:=Lib.hid (And.intro k1 (And.intro k2 (And.intro k3 (And.intro k4 k5))));clear hdone k1 k2 k3 k4 k5 hBg hatr hatn hk1 hkl2;cases hr1:(loadS d f false kj csj).1 with
       |false=>
        have hres:loadS d (f + 1) tb k cs=(false,(loadS d f false kj csj).2):=by
         rw[HV.out.1,HKR.out.eq,HDR.out];unfold jcg;rw[hr1,if_pos rfl]
        have HRES:=Lib.hid hres;clear hres hr1;go_wp2_with (fail);go_ret;rw[HRES.out];exact⟨rfl,cv6,HD6.out.1,HD6.out.2.1,HD6.out.2.2.1⟩
       |true=>
        have hnext:KidsAt w0 w w6 p d bv wv cv f ks cs1 (.slice (some ⟨bb,oo,none⟩) ks.length c0) (j + 1):=by
         have hlp:=jjw d f false kj csj HKR.out.ok hr1;have hln:=ji2 d f false kj csj;have hrf:=loadS_refs d f false kj csj bj HKR.out.one HKR.out.refs;have hrm:=HKR.out.room;have hfu:=HKR.out.fuel;have hl6:=jki hlp.1.ok hd.hi hd.lo;refine⟨cv6,_,bj + 1 + 255 * ((loadS d f false kj csj).2.length - csj.length),HD6.out.1,?_,HD6.out.2.1,HD6.out.2.2.1,?_,fun g hg=>?_,hlp.1.ok,by have:=HKR.out.one;omega,hrf,?_,by omega⟩
         ·rw[HKR.out.eq,HDR.out]
          conv=>lhs;unfold jcg
          rw[hr1,if_neg (by simp)]
         ·refine sl_keepO (HKR.out.row.below hBk (Nat.le_refl _)) (fun g hg hlt=>?_);have hgb:bb=g:=by injection hg
          subst hgb;exact HD6.out.2.2.2.2.block bb hlt HAP.out.1.1 HAP.out.1.2
         ·have hgb:bb=g:=by injection hg
          subst hgb;refine⟨HAP.out.1.1,fun e=>?_⟩;rcases HD6.out.2.2.2.1 bb e with h|h
          ·exact HAP.out.1.2 h
          ·have:=HAP.out.2;simp at h;omega
         ·omega
        have HN:=Lib.hid hnext;clear hnext hr1;go_wp2_with (fail);exact⟨⟨j + 1,by omega,by go_num,HN.out⟩,by simp[intOf];omega⟩
      ·obtain rfl:j=ks.length:=by omega
       have hres:loadS d (f + 1) tb k cs=(true,csj):=by rw[HV.out.1,hkr.eq,List.drop_of_length_le (Nat.le_refl _)];rfl
       have HRES:=Lib.hid hres;clear hkr hres;go_wp2_with (fail);go_ret;rw[HRES.out];exact⟨rfl,cvj,HKR.out.at_,HKR.out.own,HKR.out.grown⟩
theorem load_any(w0:World)(p:Nat)(d:Dv)(bv wv:Value)(hdv:DevV w0 (jck d bv wv) d)(hd:DevOk d)(hbl:d.blocks.length≤1073741824)(hwl:d.waits.length≤1073741824):∀f,LoadAt w0 p d bv wv f
 |0=>fun w cv cs k tb b _ _ hcs=>by
  have h1:=hcs.fuel;have h2:=jki hcs.ok hd.hi hd.lo;omega
 |f + 1=>load_step w0 p d bv wv hdv hd hbl hwl f (load_any w0 p d bv wv hdv hd hbl hwl f)
theorem jkj{s:Sup}(h:supWf s):kidE.wf (tabOf s):=⟨by unfold strOk tabOf;simp,h.2.2.1,h.2.2.2⟩
theorem jmn(w:World)(s:Sup)(hw:supWf s):Calls Tryz.prog 46 #[.agg (supA s)] w fun e w'=>e= .returned (.agg (kidE.enc (tabOf s)).toArray)∧Below w.heap.size w w':=by
 have hb:=heap_alloc_new w (.cells (supA s) 36);have hB:=jb2 w (supA s) 36;have hbk:Tryz.prog.built 40 [(1, .int .u32 s.table),(2, .agg (hashV s.hash).toArray)]=some (kidE.enc (tabOf s)).toArray:=jgp (tabOf s).num (tabOf s).hash hw.2.2.2.1;have k2:=supA_2 s;have hlen:=kidE.len _ (jkj hw);have hone:=kidE.one _ (jkj hw);have hinfo:=jc7 _ (jkj hw);have HHS:=Lib.hid (fun(j:Nat) (u:Value) (hj:(hashV s.hash)[j]? =some u)=>(supA_hash s j).trans hj);have hhl:(hashV s.hash).length=32:=by simp[hashV,hw.2.2.2.1]
 obtain⟨cs,hcs⟩:∃cs,supA s=cs:=⟨_,rfl⟩
 rw[hcs]at hb hB k2 HHS ⊢;clear hcs;generalize hashV s.hash=hs at *;generalize s.table=tb at *;generalize kidE.enc (tabOf s)=us at *;obtain⟨ha,hha⟩:∃ha,hs.toArray=ha:=⟨_,rfl⟩
 obtain⟨ua,hua⟩:∃ua,us.toArray=ua:=⟨_,rfl⟩
 have HA:=Lib.hid (And.intro hha hua);rw[hha,hua]at hbk;have HBK:=Lib.hid hbk;have HL:=Lib.hid hlen;clear hbk hha hlen;rw[hua];clear hua;go_enter Tryz.func46,Tryz.ntmps46;go_upto_region 1 with(fail);have hsz:w.heap.size + 1=(w.alloc (.cells cs 36)).heap.size:=by simp
 rw[hsz];clear hsz;generalize w.alloc (.cells cs 36)=wa at *;have a2:wa.cell? ⟨w.heap.size,2,none⟩=some (.int .u32 tb):=by rw[cell_of_row _ _ _ _ _ _ hb];exact k2
 have a3:At wa w.heap.size 3 hs:=fun j hj=>by
  rw[cell_of_row _ _ _ _ _ _ hb];exact HHS.out j _ (List.getElem?_eq_getElem hj)
 have hlb:=lt_of_block hb;have a2':∀o,(wa.alloc o).cell? ⟨w.heap.size,2,none⟩=some (.int .u32 tb):=fun o=>(World.cell?_alloc_some wa _ o (by rw[a2];rfl)).trans a2
 have a3':∀o,At (wa.alloc o) w.heap.size 3 hs:=fun o=>a3.heap (Lib.alloc_old wa o _ hlb)
 have HB:=Lib.hid hB;have h32:(Tryz.prog.info? 34).map (·.size)=some hs.length:=by rw[hhl];exact jje
 have HU:=Lib.hid (show us.length=34 from HL.out);clear hB hb k2 a2 a3;go_wp2_with (first
  |((with_reducible refine jbv 34 ?_);refine jae rfl 34 (.tmp 5) rfl w.heap.size 3 rfl hs _ (a3' _) Tryz.underlying34 rfl h32 ha HA.out.1 ?_)
  |((with_reducible refine jar 40 ?_);go_loud (refine jah rfl 40 _ rfl [(1, .int .u32 tb),(2, .agg ha)] rfl ua HBK.out ?_))
  |((with_reducible refine jam 40 ?_);refine jaa rfl 40 (.tmp 2) (.tmp 7) rfl 40 _ rfl us (by rw[HA.out.2];rfl) (by rw[HU.out];rfl) hone hinfo ?_))
 have hnb:=heap_alloc_new wa (.cells us.toArray 40);have HNB:=Lib.hid hnb;clear hnb;go_wp2_with (fail);refine bodyPost_ret (results_cell_row rfl _ _ wa.heap.size 40 _ (0,0) _ rfl HNB.out Tryz.underlying40 rfl (by rw[List.size_toArray];exact hinfo)) rfl ⟨by rw[HA.out.2],HB.out.alloc HB.out.size _⟩
def devL(d:Dv)(bv wv:Value):List Value:=[.int .u32 d.size,bv,wv, .bool d.down, .int .i64 d.fuse]
def stoL(dv hp a b v k:List Value):List Value:=dv ++ (hp ++ (a ++ (b ++ (v ++ k))))
structure StoLen(dv hp a b v k:List Value):Prop where
 dv:dv.length=5
 hp:hp.length=2
 a:a.length=35
 b:b.length=35
 v:v.length=2
 k:k.length=34
theorem jb4{dv hp a b v k:List Value}(h:StoLen dv hp a b v k):(stoL dv hp a b v k).length=113:=by
 unfold stoL;simp only[List.length_append,h.dv,h.hp,h.a,h.b,h.v,h.k]
theorem jg6:kidE.wf noKid:=⟨by unfold strOk;decide,by unfold u32Ok;decide,jcb.2.2.2⟩
def zSup:List Value:=(supA noSup).toList
def zKid:List Value:=kidE.enc noKid
def zDevY:List Value:=[.int .u32 0, .slice none 0 0, .slice none 0 0, .bool false, .int .i64 0]
def zHp:List Value:=[.int .u32 0, .slice none 0 0]
def zV:List Value:=[.bool false, .bool false]
def zSto:List Value:=stoL zDevY zHp zSup zSup zV zKid
theorem ja6:(Tryz.prog.info? 42).map (·.size)=some 113:=by kernel_rfl
theorem jjz:Tryz.prog.built 42 []=some zSto.toArray:=by kernel_rfl
theorem jj0(a b c e f:Value):Tryz.prog.built 42 [(0, .agg #[a,b,c,e,f])]=some (stoL [a,b,c,e,f] zHp zSup zSup zV zKid).toArray:=by kernel_rfl
theorem built_stoDH(a b c e f g h:Value):Tryz.prog.built 42 [(0, .agg #[a,b,c,e,f]),(1, .agg #[g,h])]=some (stoL [a,b,c,e,f] [g,h] zSup zSup zV zKid).toArray:=by kernel_rfl
theorem jb7{fn:Func}{t u:Tmp}(h:fn.results= #[.cell t 42, .tmp u])(tmps:Array Value)(g:Nat)(vs:List Value)(hs:vs.length=113)(fr:Nat×Nat)(w:World)(ht:tmps.getD t undef= .pointer (some ⟨g,0,none⟩))
 (hg:w.heap[g]? =some (.cells vs.toArray 42 fr)):
 (results fn tmps).run Tryz.prog w= .ok (.tuple #[.agg vs.toArray,tmps.getD u undef]) w:=by
 have hp':tmps[t]?.getD undef= .pointer (some ⟨g,0,none⟩):=by simpa using ht
 have hl:=run_loadVar_row (P:=Tryz.prog) w g 42 42 vs.toArray fr _ hg Tryz.underlying42 rfl (by rw[List.size_toArray,hs];exact ja6);simp[results,h,hp',asAddr,hl]
theorem jdg{P:Program}{op:Oper}{a:Act}{w:World}{K:Act→World→Prop}{Q:Exit→Act→World→Prop}(ty:TypeId)(x v:Operand)(ho:op.op= .store ty x v)
 (g i:Nat) (hx:a.eval x= .pointer (some ⟨g,i,none⟩)) (vs:List Value) (hv:a.eval v= .agg vs.toArray) (t:TypeId) (cur:Array Value) (hg:w.heap[g]? =some (.cells cur t (0,0)))
 (hl:i + vs.length≤cur.size) (h1:∀v∈vs,v.oneCell'=true) (hi:(P.info? ty).map (·.size)=some vs.length)
 (h:K (a.put op.dst undef) (w.setRow g (cur.toList.take i ++ vs ++ cur.toList.drop (i + vs.length)).toArray)):op.wp P a w K Q:=by
 unfold Oper.wp execOp;simp only[ho,hx,hv,Instr.storeAt,Instr.sureAddr,Sem.run_bind,Sem.run_pure,Result.andThen_ok,jdw w g i ty t vs cur hg hl h1 hi];exact h
def StoV(w:World)(v:Value)(s:Sto):Prop:=∃bv wv cv,v= .agg (stoL (devL s.dev bv wv) [.int .u32 s.heap.size,cv] (supA s.s0).toList (supA s.s1).toList [.bool s.v0, .bool s.v1] (kidE.enc s.table)).toArray∧
 DevV w (jck s.dev bv wv) s.dev∧HeapV w (.agg #[.int .u32 s.heap.size,cv]) s.heap∧supWf s.s0∧supWf s.s1∧kidE.wf s.table
theorem StoV.below{w w':World}{v:Value}{s:Sto}(h:StoV w v s){B:Nat}(hb:Below B w w')(hB:w.heap.size≤B):StoV w' v s:=by
 obtain⟨bv,wv,cv,e,h1,h2,h3⟩:=h;exact⟨bv,wv,cv,e,h1.below hb hB,h2.below hb hB,h3⟩
theorem ja4{d:Dv}{bv wv:Value}{x cv:Value}{a b:Sup}{p q:Bool}{k:Kid}(ha:supWf a)(hb:supWf b)(hk:kidE.wf k):StoLen (devL d bv wv) [x,cv] (supA a).toList (supA b).toList [.bool p, .bool q] (kidE.enc k):=
 ⟨rfl,rfl,by rw[Array.length_toList];exact jbn ha,by rw[Array.length_toList];exact jbn hb,rfl,kidE.len _ hk⟩
section
variable {w:World} {g:Nat} {dv hp a b v k:List Value} {fr:Nat×Nat} {t:TypeId}
theorem jcr(h:w.heap[g]? =some (.cells (stoL dv hp a b v k).toArray t fr))(hl:StoLen dv hp a b v k):At w g 0 dv∧At w g 5 hp∧At w g 7 a∧At w g 42 b∧At w g 77 v∧At w g 79 k:=by
 have h0:At w g 0 (stoL dv hp a b v k):=by
  intro i hi;rw[cell_of_row _ _ _ _ _ _ h,Nat.zero_add];simp[hi]
 unfold stoL at h0;have h1:=h0.right;have h2:=h1.right;have h3:=h2.right;have h4:=h3.right;have h5:=h4.right;rw[hl.dv]at h1 h2 h3 h4 h5;rw[hl.hp]at h2 h3 h4 h5;rw[hl.a]at h3 h4 h5;rw[hl.b]at h4 h5;rw[hl.v]at h5;exact⟨h0.left,h1.left,h2.left,h3.left,h4.left,h5⟩
end
end Go.Proofs.YtpaohkkhejpgjaaGreatDoor
