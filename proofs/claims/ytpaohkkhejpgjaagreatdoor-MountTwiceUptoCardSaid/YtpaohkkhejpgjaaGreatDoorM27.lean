/- Texts of the proof: W0 W1 W2 W3 W4 W5 No. -/
import Derived.Test.YtpaohkkhejpgjaaGreatDoorM16
import Derived.Test.YtpaohkkhejpgjaaGreatDoorM21
import Derived.Test.YtpaohkkhejpgjaaGreatDoorM25
import Derived.Test.YtpaohkkhejpgjaaGreatDoorM12
set_option linter.all false
set_option maxRecDepth 100000
set_option maxHeartbeats 8000000
namespace Go.Proofs.YtpaohkkhejpgjaaGreatDoor
open Go Go.RowKit
def rUp(t:Int)(c:CC):CC:=if c.num=t then{c with refs:=c.refs + 1}else c
def newL(t:Int)(data:ByteArray):CC:=⟨t,data,1,decN data,shaOf data.data.toList,0⟩
def jda(d:Dv)(k:Kid)(tb:Bool):Bool:=jd1 k.num && (decide ((readD d k.num).2=0) && (decB (readD d k.num).1 && (decide (shaOf (readD d k.num).1.data.toList=k.hash) && (!tb||decide ((decN (readD d k.num).1).kind=3)))))
def jcg(f:Kid→List CC→Bool×List CC):List Kid→List CC→Bool×List CC
 |[],cs=>(true,cs)
 |k::r,cs=>if(f k cs).1=false then(false,(f k cs).2)else jcg f r (f k cs).2
def loadS(d:Dv):Nat→Bool→Kid→List CC→Bool×List CC
 |0,_,_,cs=>(false,cs)
 |f + 1,tb,k,cs=>
  if jda d k tb=false then(false,cs)
  else if jba (jaj cs) k.num=true then(true,cs.map (rUp k.num))
  else jcg (loadS d f false) (jcn (decN (readD d k.num).1)) (insCC (newL k.num (readD d k.num).1) cs)
structure LdOk(d:Dv)(cs:List CC):Prop where
 dec:∀c∈cs,decB c.data=true∧c.node=decN c.data∧c.hash=shaOf c.data.data.toList∧2≤c.num∧c.num < d.size∧c.led=0∧c.data=(readD d c.num).1
 ris:(jaj cs).Pairwise (· < ·)
 pos:∀c∈cs,1≤c.refs
structure LdPost(d:Dv)(cs cs':List CC)(es:List Int):Prop where
 ok:LdOk d cs'
 has:∀t x,Has cs t x→Has cs' t x
 refs:∀t,je3 cs' t + jbp (jaz cs) t=je3 cs t + jbp es t + jbp (jaz cs') t
 kids:∀c∈cs',c.num ∉ jaj cs→∀k∈jcn c.node,Has cs' k.num k.hash
theorem jem{cs:List CC}(h:(jaj cs).Pairwise (· < ·)){c:CC}(hc:c∈cs):je3 cs c.num=c.refs:=by
 unfold je3;rw[(jc2 h).2 ⟨hc,rfl⟩];rfl
theorem jf4{cs:List CC}(h:(jaj cs).Pairwise (· < ·)){t:Int}(ht:t ∉ jaj cs):je3 cs t=0:=by
 unfold je3;cases hf:jc6 cs t with
 |none=>rfl
 |some c=>
  obtain⟨h1,h2⟩:=(jc2 h).1 hf;exact absurd (List.mem_map.2 ⟨c,h1,h2⟩) ht
theorem jgi(t:Int)(c:CC):(rUp t c).num=c.num:=by unfold rUp;split <;>rfl
theorem jk0(t:Int)(c:CC):(rUp t c).node=c.node:=by unfold rUp;split <;>rfl
theorem rUp_hash(t:Int)(c:CC):(rUp t c).hash=c.hash:=by unfold rUp;split <;>rfl
theorem rUp_data(t:Int)(c:CC):(rUp t c).data=c.data:=by unfold rUp;split <;>rfl
theorem rUp_led(t:Int)(c:CC):(rUp t c).led=c.led:=by unfold rUp;split <;>rfl
theorem LdOk.up{d:Dv}{cs:List CC}(h:LdOk d cs)(t:Int):LdOk d (cs.map (rUp t)):=by
 refine⟨fun c hc=>?_,by rw[jib (jgi t)];exact h.ris,fun c hc=>?_⟩
 ·obtain⟨e,he,rfl⟩:=List.mem_map.1 hc;rw[rUp_data,jk0,rUp_hash,jgi,rUp_led];exact h.dec e he
 ·obtain⟨e,he,rfl⟩:=List.mem_map.1 hc;have:=h.pos e he;unfold rUp;split
  ·simp only;omega
  ·exact this
theorem refs_up{cs:List CC}(h:(jaj cs).Pairwise (· < ·)){t:Int}(ht:t∈jaj cs)(u:Int):je3 (cs.map (rUp t)) u=je3 cs u + (if t=u then 1 else 0):=by
 have hr:(jaj (cs.map (rUp t))).Pairwise (· < ·):=by rw[jib (jgi t)];exact h
 by_cases hu:u∈jaj cs
 ·obtain⟨c,hc,rfl⟩:=List.mem_map.1 hu;have h1:=jem hr (c:=rUp t c) (List.mem_map.2 ⟨c,hc,rfl⟩);rw[jgi]at h1;rw[h1,jem h hc];unfold rUp;by_cases e:c.num=t
  ·rw[if_pos e,if_pos e.symm]
  ·rw[if_neg e,if_neg (fun x=>e x.symm)];simp
 ·rw[jf4 hr (by rw[jib (jgi t)];exact hu),jf4 h hu,if_neg (fun(e:t=u)=>hu (e ▸ ht))];rfl
theorem refs_ins{cs:List CC}(h:(jaj cs).Pairwise (· < ·)){c:CC}(hc:c.num ∉ jaj cs)(h1:c.refs=1)(u:Int):je3 (insCC c cs) u=je3 cs u + (if c.num=u then 1 else 0):=by
 have hr:=jjh h hc;by_cases hu:u=c.num
 ·subst hu;rw[jem hr (jen.2 (Or.inl rfl)),jf4 h hc,if_pos rfl,h1];rfl
 ·rw[if_neg (fun e=>hu e.symm)];by_cases hm:u∈jaj cs
  ·obtain⟨e,he,rfl⟩:=List.mem_map.1 hm;rw[jem hr (jen.2 (Or.inr he)),jem h he];simp
  ·rw[jf4 h hm,jf4 hr (fun hx=>by
    obtain⟨e,he,rfl⟩:=List.mem_map.1 hx;rcases jen.1 he with rfl|he
    ·exact hu rfl
    ·exact hm (List.mem_map.2 ⟨e,he,rfl⟩))]
   rfl
theorem LdPost.trans{d:Dv}{a b c:List CC}{es fs:List Int}(h:LdPost d a b es)(k:LdPost d b c fs):LdPost d a c (es ++ fs):=by
 refine⟨k.ok,fun t x y=>k.has t x (h.has t x y),fun t=>?_,fun e he hn q hq=>?_⟩
 ·have h1:=h.refs t;have h2:=k.refs t;rw[countL_app];omega
 ·by_cases hb:e.num∈jaj b
  ·obtain⟨e',he',h3⟩:=List.mem_map.1 hb;have h4:=h.kids e' he' (by rw[h3];exact hn);have h5:e'.node=e.node:=by
    have d1:=h.ok.dec e' he';have d2:=k.ok.dec e he;rw[d1.2.1,d2.2.1,d1.2.2.2.2.2.2,d2.2.2.2.2.2.2,h3]
   rw[h5]at h4;exact k.has _ _ (h4 q hq)
  ·exact k.kids e he hb q hq
theorem jiy{d:Dv}{f:Kid→List CC→Bool×List CC}(hf:∀k cs,LdOk d cs→(f k cs).1=true→LdPost d cs (f k cs).2 [k.num]∧Has (f k cs).2 k.num k.hash):
 ∀(ks:List Kid) (cs:List CC),LdOk d cs→(jcg f ks cs).1=true→LdPost d cs (jcg f ks cs).2 (ks.map (·.num))∧∀k∈ks,Has (jcg f ks cs).2 k.num k.hash
 |[],cs,h,_=>⟨⟨h,fun _ _ x=>x,fun t=>by simp[jcg,jbp],fun c hc hn=>absurd (List.mem_map.2 ⟨c,hc,rfl⟩) hn⟩,fun k hk=>by simp at hk⟩
 |k::r,cs,h,h0=>by
  unfold jcg at h0 ⊢;cases h1:(f k cs).1 with
  |false=>rw[h1,if_pos rfl]at h0;cases h0
  |true=>
   rw[h1,if_neg (by simp)]at h0;rw[if_neg (by simp)];obtain⟨p1,p2⟩:=hf k cs h h1;obtain⟨q1,q2⟩:=jiy hf r _ p1.ok h0;refine⟨p1.trans q1,fun e he=>?_⟩;rcases List.mem_cons.1 he with rfl|he
   ·exact q1.has _ _ p2
   ·exact q2 e he
theorem pos_inW:∀(cs:List CC) (c:CC),(jaj cs).Pairwise (· < ·)→c∈cs→cs[ja5 (jaj cs) c.num]? =some c
 |[],c,_,h=>absurd h (by simp)
 |x::cs,c,hp,h=>by
  have hp':(x.num::jaj cs).Pairwise (· < ·):=hp;rw[List.pairwise_cons]at hp';rcases List.mem_cons.1 h with rfl|h
  ·have:ja5 (jaj (c::cs)) c.num=0:=by simp[ja5,posOf,jaj]
   rw[this];rfl
  ·have hx:x.num < c.num:=hp'.1 c.num (List.mem_map.2 ⟨c,h,rfl⟩);have:ja5 (jaj (x::cs)) c.num=ja5 (jaj cs) c.num + 1:=by simp[ja5,posOf,jaj,hx]
   rw[this,List.getElem?_cons_succ];exact pos_inW cs c hp'.2 h
theorem jez{cs:List CC}(h:(jaj cs).Pairwise (· < ·))(t:Int):jba (jaj cs) t=true ↔ t∈jaj cs:=by
 constructor
 ·intro hh;unfold jba hasAt at hh;split at hh
  ·rename_i x hx;have:x=t:=by simpa using hh
   rw[←this];exact List.mem_of_getElem? hx
  ·cases hh
 ·intro hm;obtain⟨c,hc,rfl⟩:=List.mem_map.1 hm;have hp:=pos_inW cs c h hc;unfold jba hasAt;rw[show(jaj cs)[ja5 (jaj cs) c.num]? =some c.num by
   show(cs.map (·.num))[_]? =_
   rw[List.getElem?_map,hp];rfl]
  simp
theorem jjv{n:Node}(h:jbu n=true):(jcn n).map (·.num)=jbk n:=by
 unfold jbu at h;unfold jcn jbk;rw[List.map_append,List.map_map,List.map_map];by_cases h1:n.kind=1
 ·rw[if_pos h1]at h;simp only[Bool.and_eq_true,beq_iff_eq]at h;have hk:n.kids=[]:=List.length_eq_zero_iff.1 (by omega);have hv:n.vols=[]:=List.length_eq_zero_iff.1 (by omega);rw[hk,hv,h1];rfl
 ·rw[if_neg h1]at h;by_cases h2:n.kind=2
  ·rw[if_pos h2]at h;simp only[Bool.and_eq_true,beq_iff_eq]at h;have hv:n.vols=[]:=List.length_eq_zero_iff.1 (by omega);rw[hv,if_pos h2];simp only[List.filter_nil,List.map_nil,List.append_nil];rfl
  ·rw[if_neg h2]at h;by_cases h3:n.kind=3
   ·rw[if_pos h3]at h;simp only[Bool.and_eq_true,beq_iff_eq]at h;have hk:n.kids=[]:=List.length_eq_zero_iff.1 (by omega);rw[hk,if_neg h2,if_pos h3];simp only[List.map_nil,List.nil_append];rfl
   ·rw[if_neg h3]at h;cases h
theorem jh4{s:ByteArray}(h:decB s=true):jbu (decN s)=true∧jcd (decN s)=0:=by
 have e:decN s=(takeT (decTk s)).1:=by unfold decN;rw[if_pos h]
 unfold decB at h;simp only[Bool.and_eq_true,beq_iff_eq]at h;have h0:=h.2.2.1;rw[←e]at h0;refine⟨?_,h0⟩;unfold jcd at h0;cases hs:jbu (decN s)with
 |true=>rfl
 |false=>rw[hs]at h0;simp at h0
theorem readD_range{d:Dv}{n:Int}(h:(readD d n).2=0):n < d.size:=by
 unfold readD at h;split at h
 ·simp at h
 ·split at h
  ·simp at h
  ·split at h
   ·simp at h
   ·omega
theorem jdv{d:Dv}{k:Kid}{tb:Bool}(h:jda d k tb=true):2≤k.num∧k.num < d.size∧decB (readD d k.num).1=true∧shaOf (readD d k.num).1.data.toList=k.hash∧(tb=true→(decN (readD d k.num).1).kind=3):=by
 unfold jda jd1 at h;simp only[Bool.and_eq_true,decide_eq_true_eq,Bool.or_eq_true,Bool.not_eq_true']at h;obtain⟨⟨h1,_⟩,h2,h3,h4,h5⟩:=h;refine⟨h1,readD_range h2,h3,h4,fun ht=>?_⟩;rcases h5 with h5|h5
 ·rw[ht]at h5;cases h5
 ·exact h5
theorem jjw(d:Dv):∀(f:Nat) (tb:Bool) (k:Kid) (cs:List CC),LdOk d cs→(loadS d f tb k cs).1=true→LdPost d cs (loadS d f tb k cs).2 [k.num]∧Has (loadS d f tb k cs).2 k.num k.hash
 |0,tb,k,cs,_,h0=>by simp[loadS]at h0
 |f + 1,tb,k,cs,h,h0=>by
  unfold loadS at h0 ⊢;cases ho:jda d k tb with
  |false=>rw[ho,if_pos rfl]at h0;cases h0
  |true=>
   rw[ho,if_neg (by simp)]at h0;rw[if_neg (by simp)];obtain⟨k1,k2,k3,k4,k5⟩:=jdv ho;by_cases hh:jba (jaj cs) k.num=true
   ·rw[if_pos hh];have hm:=(jez h.ris k.num).1 hh;obtain⟨c,hc,hcn⟩:=List.mem_map.1 hm;have hd:=h.dec c hc;have hhash:c.hash=k.hash:=by rw[hd.2.2.1,hd.2.2.2.2.2.2,hcn,k4]
    have hhas:∀t x,Has cs t x→Has (cs.map (rUp k.num)) t x:=fun t x hx=>(has_map (fun c=>⟨jgi _ c,rUp_hash _ c⟩) cs t x).2 hx
    refine⟨⟨h.up k.num,hhas,fun t=>?_,fun e he hn=>?_⟩,hhas _ _ ⟨c,hc,hcn,hhash⟩⟩
    ·rw[jhr (jk0 _),refs_up h.ris hm t];have:jbp [k.num] t=if k.num=t then 1 else 0:=by rw[jgb];rfl
     simp only[this];split <;>simp
    ·obtain⟨e',he',rfl⟩:=List.mem_map.1 he;rw[jgi]at hn;exact absurd (List.mem_map.2 ⟨e',he',rfl⟩) hn
   ·rw[if_neg hh]at h0 ⊢;have hm:k.num ∉ jaj cs:=fun hm=>hh ((jez h.ris k.num).2 hm)
    have hnn:(newL k.num (readD d k.num).1).num=k.num:=rfl;have hok1:LdOk d (insCC (newL k.num (readD d k.num).1) cs):=by
     refine⟨fun c hc=>?_,jjh h.ris hm,fun c hc=>?_⟩
     ·rcases jen.1 hc with rfl|hc
      ·exact⟨k3,rfl,rfl,k1,k2,rfl,rfl⟩
      ·exact h.dec c hc
     ·rcases jen.1 hc with rfl|hc
      ·show(1:Int)≤1;omega
      ·exact h.pos c hc
    obtain⟨p1,p2⟩:=jiy (d:=d) (f:=loadS d f false) (fun k' cs' hl h1=>jjw d f false k' cs' hl h1) _ _ hok1 h0;have hkn:(jcn (decN (readD d k.num).1)).map (·.num)=jbk (decN (readD d k.num).1):=jjv (jh4 k3).1;refine⟨⟨p1.ok,fun t x hx=>?_,fun t=>?_,fun e he hn q hq=>?_⟩,p1.has _ _ ⟨newL k.num (readD d k.num).1,jen.2 (Or.inl rfl),rfl,k4⟩⟩
    ·obtain⟨c,hc,c1,c2⟩:=hx;exact p1.has _ _ ⟨c,jen.2 (Or.inr hc),c1,c2⟩
    ·have h1:=p1.refs t;rw[hkn,allKids_ins,refs_ins h.ris hm rfl t]at h1;have h2:jbp [k.num] t=if k.num=t then 1 else 0:=by rw[jgb];rfl
     have h3:(newL k.num (readD d k.num).1).node=decN (readD d k.num).1:=rfl;rw[hnn,h3]at h1;rw[h2];split at h1 <;>rename_i h4 <;>simp only[h4,if_true,if_false]at h1 ⊢ <;>omega
    ·by_cases hb:e.num=k.num
     ·have d2:=p1.ok.dec e he;have hen:e.node=decN (readD d k.num).1:=by rw[d2.2.1,d2.2.2.2.2.2.2,hb]
      rw[hen]at hq;exact p2 q hq
     ·refine p1.kids e he (fun hx=>?_) q hq;obtain⟨c,hc,hc2⟩:=List.mem_map.1 hx;rcases jen.1 hc with rfl|hc
      ·exact hb hc2.symm
      ·exact hn (List.mem_map.2 ⟨c,hc,hc2⟩)
structure Sto where
 dev:Dv
 heap:Hp
 s0:Sup
 s1:Sup
 v0:Bool
 v1:Bool
 table:Kid
def noSto:Sto:=⟨noDev,⟨0,[]⟩,noSup,noSup,false,false,noKid⟩
structure Mt where
 cs:List CC
 s0:Sup
 s1:Sup
 v0:Bool
 v1:Bool
 table:Kid
def mt0:Mt:=⟨[],noSup,noSup,false,false,noKid⟩
def tabOf(x:Sup):Kid:=⟨ByteArray.empty,x.table,x.hash⟩
def jc5(d:Dv)(m:Mt)(x:Sup):Mt:=
 if x.size≠d.size∨(loadS d 65537 true (tabOf x) m.cs).1=false then m
 else⟨(loadS d 65537 true (tabOf x) m.cs).2,if slotS x=0 then x else m.s0,if slotS x=0 then m.s1 else x,m.v0||decide (slotS x=0),m.v1|| !decide (slotS x=0),if m.table.num=0 then tabOf x else m.table⟩
def mtEnd(d:Dv)(m:Mt):Sto×Int:=
 if jba (jaj m.cs) m.table.num=false then({noSto with dev:=d},9)
 else(⟨d,⟨d.size,(m.cs.map (rUp m.table.num)).map celOf⟩,m.s0,m.s1,m.v0,m.v1,m.table⟩,0)
def jcz(d:Dv):Sto×Int:=
 if devB d=false then(noSto,7)else if d.down=true then({noSto with dev:=d},17)
 else mtEnd d ((jcm (readD d 0).1 (readD d 1).1).foldl (jc5 d) mt0)
def jdb(h:Hp)(k:Kid):Bool:=match (jav h).find? (fun c=>c.num==k.num)with
 |some c=>decide (c.node.kind=3) && decide (c.hash=k.hash)
 |none=>false
def supEq(a b:Sup):Bool:=decide (a.size=b.size) && (decide (a.gen=b.gen) && (decide (a.table=b.table) && decide (a.hash=b.hash)))
def slotB(s:Sto)(x:Sup)(v:Bool)(i:Int):Bool:=if v then(supB x && (decide (slotS x=i) && (decide (x.size=s.dev.size) && jdb s.heap (tabOf x))))else supEq x noSup
def wantS(s:Sto)(n:Int):Int:=(if n=s.table.num then 1 else 0) + (if s.v0=true∧s.s0.table=n then 1 else 0) + (if s.v1=true∧s.s1.table=n then 1 else 0)
def jdm(s:Sto):Bool:=devB s.dev && (openB s.heap && (decide (s.heap.size=s.dev.size) && ((slotB s s.s0 s.v0 0 && (slotB s s.s1 s.v1 1 && (s.v0||s.v1))) && (s.table.key.toList.isEmpty && (jdb s.heap s.table &&
 (jav s.heap).all (fun c=>decide (c.refs - c.led=wantS s c.num) && decide (c.refs≠0)))))))
def IsTab(d:Dv)(cs:List CC)(k:Kid):Prop:=Has cs k.num k.hash∧(decN (readD d k.num).1).kind=3
def oneIf(p:Bool)(a t:Int):Int:=if p=true∧a=t then 1 else 0
structure MtOk(d:Dv)(m:Mt):Prop where
 ok:LdOk d m.cs
 refs:∀t,je3 m.cs t=jbp (jaz m.cs) t + oneIf m.v0 m.s0.table t + oneIf m.v1 m.s1.table t
 kids:∀c∈m.cs,∀k∈jcn c.node,Has m.cs k.num k.hash
 t0:m.v0=true→supB m.s0=true∧slotS m.s0=0∧m.s0.size=d.size∧IsTab d m.cs (tabOf m.s0)
 t1:m.v1=true→supB m.s1=true∧slotS m.s1=1∧m.s1.size=d.size∧IsTab d m.cs (tabOf m.s1)
 n0:m.v0=false→m.s0=noSup
 n1:m.v1=false→m.s1=noSup
 tab:(m.table=noKid∧m.v0=false∧m.v1=false)∨(m.table.key=ByteArray.empty∧2≤m.table.num∧IsTab d m.cs m.table∧(m.v0=true∨m.v1=true))
theorem mtOk0(d:Dv):MtOk d mt0:=by
 refine⟨⟨fun c hc=>by simp[mt0]at hc,List.Pairwise.nil,fun c hc=>by simp[mt0]at hc⟩,fun t=>by simp[mt0,oneIf,je3,jc6,jaz,jbp],fun c hc=>by simp[mt0]at hc,fun h=>by simp[mt0]at h,fun h=>by simp[mt0]at h,fun _=>rfl,fun _=>rfl,Or.inl ⟨rfl,rfl,rfl⟩⟩
theorem loadS_ok{d:Dv}{f:Nat}{tb:Bool}{k:Kid}{cs:List CC}(h:(loadS d f tb k cs).1=true):jda d k tb=true:=by
 cases f with
 |zero=>simp[loadS]at h
 |succ f=>
  unfold loadS at h;cases ho:jda d k tb with
  |true=>rfl
  |false=>rw[ho,if_pos rfl]at h;cases h
theorem IsTab.mono{d:Dv}{cs cs':List CC}(h:∀t x,Has cs t x→Has cs' t x){k:Kid}(hk:IsTab d cs k):IsTab d cs' k:=⟨h _ _ hk.1,hk.2⟩
theorem one_new{p:Bool}(h:p=false)(a t:Int):oneIf p a t=0:=by unfold oneIf;rw[h];simp
theorem jfc{d:Dv}{m:Mt}{x:Sup}(h:MtOk d m)(hx:supB x=true)(hs:slotS x=0∧m.v0=false∨slotS x=1∧m.v1=false):MtOk d (jc5 d m x):=by
 unfold jc5;by_cases hc:x.size≠d.size∨(loadS d 65537 true (tabOf x) m.cs).1=false
 ·rw[if_pos hc];exact h
 ·rw[if_neg hc];have hsz:x.size=d.size:=by
   by_cases e:x.size=d.size
   ·exact e
   ·exact absurd (Or.inl e) hc
  have hl:(loadS d 65537 true (tabOf x) m.cs).1=true:=by
   cases e:(loadS d 65537 true (tabOf x) m.cs).1 with
   |true=>rfl
   |false=>exact absurd (Or.inr e) hc
  have hk3:=(jdv (loadS_ok hl)).2.2.2.2 rfl;have hn2:=(jdv (loadS_ok hl)).1;obtain⟨p,q⟩:=jjw d 65537 true (tabOf x) m.cs h.ok hl;generalize(loadS d 65537 true (tabOf x) m.cs).2=cs' at *;have hit:IsTab d cs' (tabOf x):=⟨q,hk3⟩
  have hkids:∀c∈cs',∀k∈jcn c.node,Has cs' k.num k.hash:=by
   intro c hc' k hk;by_cases hm:c.num∈jaj m.cs
   ·obtain⟨e,he,hen⟩:=List.mem_map.1 hm;have d1:=h.ok.dec e he;have d2:=p.ok.dec c hc';have hnode:e.node=c.node:=by rw[d1.2.1,d2.2.1,d1.2.2.2.2.2.2,d2.2.2.2.2.2.2,hen]
    exact p.has _ _ (h.kids e he k (by rw[hnode];exact hk))
   ·exact p.kids c hc' hm k hk
  have hrefs:∀t,je3 cs' t=jbp (jaz cs') t + oneIf m.v0 m.s0.table t + oneIf m.v1 m.s1.table t + (if x.table=t then 1 else 0):=by
   intro t;have h1:=p.refs t;have h2:=h.refs t;have h3:jbp [(tabOf x).num] t=if x.table=t then 1 else 0:=by rw[jgb];rfl
   rw[h3]at h1;split at h1 <;>rename_i h4 <;>simp only[h4,if_true,if_false]at h1 ⊢ <;>omega
  have htab:((if m.table.num=0 then tabOf x else m.table):Kid).key=ByteArray.empty∧2≤((if m.table.num=0 then tabOf x else m.table):Kid).num∧IsTab d cs' (if m.table.num=0 then tabOf x else m.table):=by
   by_cases h0:m.table.num=0
   ·rw[if_pos h0];exact⟨rfl,hn2,hit⟩
   ·rw[if_neg h0];rcases h.tab with⟨h1,_,_⟩|⟨h1,h2,h3,_⟩
    ·rw[h1]at h0;exact absurd rfl h0
    ·exact⟨h1,h2,h3.mono p.has⟩
  rcases hs with⟨hs,hv⟩|⟨hs,hv⟩
  ·rw[if_pos hs,if_pos hs,decide_eq_true hs];refine⟨p.ok,fun t=>?_,hkids,fun _=>⟨hx,hs,hsz,hit⟩,fun h1=>?_,fun h1=>?_,fun h1=>?_,Or.inr ⟨htab.1,htab.2.1,htab.2.2,Or.inl (by simp)⟩⟩
   ·rw[hrefs t,one_new hv];simp only[Bool.or_true,Bool.not_true,Bool.or_false];have:oneIf true x.table t=if x.table=t then 1 else 0:=by unfold oneIf;simp
    rw[this];omega
   ·simp only[Bool.not_true,Bool.or_false]at h1;obtain⟨a1,a2,a3,a4⟩:=h.t1 h1;exact⟨a1,a2,a3,a4.mono p.has⟩
   ·simp at h1
   ·simp only[Bool.not_true,Bool.or_false]at h1;exact h.n1 h1
  ·have hs0:¬slotS x=0:=by omega
   rw[if_neg hs0,if_neg hs0,decide_eq_false hs0];refine⟨p.ok,fun t=>?_,hkids,fun h1=>?_,fun _=>⟨hx,hs,hsz,hit⟩,fun h1=>?_,fun h1=>?_,Or.inr ⟨htab.1,htab.2.1,htab.2.2,Or.inr (by simp)⟩⟩
   ·rw[hrefs t,one_new hv];simp only[Bool.or_false,Bool.not_false,Bool.or_true];have:oneIf true x.table t=if x.table=t then 1 else 0:=by unfold oneIf;simp
    rw[this];omega
   ·simp only[Bool.or_false]at h1;obtain⟨a1,a2,a3,a4⟩:=h.t0 h1;exact⟨a1,a2,a3,a4.mono p.has⟩
   ·simp only[Bool.or_false]at h1;exact h.n0 h1
   ·simp at h1
theorem mtStep_v{d:Dv}{m:Mt}{x:Sup}:(slotS x≠0→(jc5 d m x).v0=m.v0)∧(slotS x=0→(jc5 d m x).v1=m.v1):=by
 unfold jc5;split
 ·exact⟨fun _=>rfl,fun _=>rfl⟩
 ·exact⟨fun h=>by simp[h],fun h=>by simp[h]⟩
theorem jmf{data:ByteArray}{i:Int}{s:Sup}(h:(jcj data).bind (fun s=>if slotS s=i then some s else none)=some s):supB s=true∧slotS s=i:=by
 cases hd:jcj data with
 |none=>rw[hd]at h;cases h
 |some t=>
  rw[hd]at h;simp only[Option.bind_some]at h;by_cases ht:slotS t=i
  ·rw[if_pos ht]at h;injection h with h;subst h;exact⟨(jl3 hd).1,ht⟩
  ·rw[if_neg ht]at h;cases h
theorem mt_all(d:Dv)(a b:ByteArray):MtOk d ((jcm a b).foldl (jc5 d) mt0):=by
 unfold jcm;cases ha:(jcj a).bind (fun s=>if slotS s=0 then some s else none)with
 |none=>
  cases hb:(jcj b).bind (fun s=>if slotS s=1 then some s else none)with
  |none=>exact mtOk0 d
  |some t=>
   obtain⟨b1,b2⟩:=jmf hb;exact jfc (mtOk0 d) b1 (Or.inr ⟨b2,rfl⟩)
 |some s=>
  obtain⟨a1,a2⟩:=jmf ha;cases hb:(jcj b).bind (fun s=>if slotS s=1 then some s else none)with
  |none=>exact jfc (mtOk0 d) a1 (Or.inl ⟨a2,rfl⟩)
  |some t=>
   obtain⟨b1,b2⟩:=jmf hb;simp only;split
   ·exact jfc (jfc (mtOk0 d) a1 (Or.inl ⟨a2,rfl⟩)) b1 (Or.inr ⟨b2,mtStep_v.2 a2⟩)
   ·exact jfc (jfc (mtOk0 d) b1 (Or.inr ⟨b2,rfl⟩)) a1 (Or.inl ⟨a2,mtStep_v.1 (by omega)⟩)
theorem jg2:∀(l:List Int) (a b:Int),l.Pairwise (· < ·)→(∀x∈l,a≤x∧x < b)→a≤b→(l.length:Int)≤b - a
 |[],a,b,_,_,h=>by simp;omega
 |x::r,a,b,hp,hr,h=>by
  rw[List.pairwise_cons]at hp;have hx:=hr x (by simp);have ih:=jg2 r (x + 1) b hp.2 (fun y hy=>⟨by have:=hp.1 y hy;omega,(hr y (by simp[hy])).2⟩) (by omega);simp only[List.length_cons];omega
theorem countL_leW(l:List Int)(t:Int):jbp l t≤l.length:=List.length_filter_le _ _
theorem jev{s:ByteArray}(h:decB s=true):(jbk (decN s)).length≤255:=by
 have e:decN s=(takeT (decTk s)).1:=by unfold decN;rw[if_pos h]
 have h2:=jhv (decTk s);rw[←e]at h2;unfold jbk;split
 ·rw[List.length_map];exact h2.2.1
 ·split
  ·rw[List.length_map];exact Nat.le_trans (List.length_filter_le _ _) h2.2.2
  ·simp
theorem jg3:∀(cs:List CC),(∀c∈cs,(jbk c.node).length≤255)→(jaz cs).length≤255 * cs.length
 |[],_=>by simp[jaz]
 |c::cs,h=>by
  have ih:=jg3 cs (fun x hx=>h x (by simp[hx]));have h1:=h c (by simp);have e:jaz (c::cs)=jbk c.node ++ jaz cs:=rfl;rw[e,List.length_append,List.length_cons];omega
theorem jki{d:Dv}{cs:List CC}(h:LdOk d cs)(hd:d.size≤65536)(h0:16≤d.size):cs.length≤65534:=by
 have h1:=jg2 (jaj cs) 2 65536 h.ris (fun x hx=>by
  obtain⟨c,hc,rfl⟩:=List.mem_map.1 hx;have:=h.dec c hc;omega) (by omega)
 unfold jaj at h1;rw[List.length_map]at h1;omega
theorem cc1_celOf{d:Dv}{cs:List CC}(h:LdOk d cs):(cs.map celOf).map cc1=cs:=by
 rw[List.map_map]
 conv=>rhs;rw[←List.map_id cs]
 apply List.map_congr_left;intro c hc;obtain⟨_,h2,h3,_,_,h6,_⟩:=h.dec c hc;cases c with
 |mk num data refs node hash led=>
  simp only at h2 h3 h6;simp only[Function.comp,celOf,cc1,id,h2,h3,h6]
theorem mount_end{d:Dv}(hd:DevOk d){m:Mt}(h:MtOk d m)(h0:(mtEnd d m).2=0):jdm (mtEnd d m).1=true∧(mtEnd d m).1.dev=d:=by
 unfold mtEnd at h0 ⊢;cases hn:jba (jaj m.cs) m.table.num with
 |false=>rw[hn,if_pos rfl]at h0;exact absurd h0 (show ¬(9:Int)=0 by decide)
 |true=>
  rw[if_neg (by simp)];refine⟨?_,rfl⟩;have htn:=(jez h.ok.ris _).1 hn;have hge:∀t∈jaj m.cs,2≤t:=fun t ht=>by
   obtain⟨c,hc,rfl⟩:=List.mem_map.1 ht;exact(h.ok.dec c hc).2.2.2.1
  have htab:m.table.key=ByteArray.empty∧2≤m.table.num∧IsTab d m.cs m.table∧(m.v0=true∨m.v1=true):=by
   rcases h.tab with⟨h1,_⟩|h1
   ·have:=hge _ htn;rw[h1]at this;have e:noKid.num=0:=rfl;omega
   ·exact h1
  have hup:=h.ok.up m.table.num;have hrf:∀t,je3 (m.cs.map (rUp m.table.num)) t=jbp (jaz (m.cs.map (rUp m.table.num))) t + oneIf m.v0 m.s0.table t + oneIf m.v1 m.s1.table t + (if m.table.num=t then 1 else 0):=by
   intro t;rw[refs_up h.ok.ris htn t,h.refs t,jhr (jk0 _)]
  have hhas:∀t x,Has m.cs t x→Has (m.cs.map (rUp m.table.num)) t x:=fun t x hx=>(has_map (fun c=>⟨jgi _ c,rUp_hash _ c⟩) m.cs t x).2 hx
  have hkids:∀c∈m.cs.map (rUp m.table.num),∀k∈jcn c.node,Has (m.cs.map (rUp m.table.num)) k.num k.hash:=by
   intro c hc k hk;obtain⟨e,he,rfl⟩:=List.mem_map.1 hc;rw[jk0]at hk;exact hhas _ _ (h.kids e he k hk)
  have ht0:=h.t0;have ht1:=h.t1;have hn0:=h.n0;have hn1:=h.n1;have tabUp:∀k,IsTab d m.cs k→IsTab d (m.cs.map (rUp m.table.num)) k:=fun k hk=>hk.mono hhas
  generalize m.cs.map (rUp m.table.num)=cs at *;have e1:=cc1_celOf hup;have eo:jav ⟨d.size,cs.map celOf⟩=cs.map (fun c=>{c with led:=c.led + jbp (jaz cs) c.num}):=by
   rw[jb5];show((cs.map celOf).map cc1).map _=_
   rw[e1]
  have hlen:=jki hup hd.hi hd.lo;have hal:=jg3 cs (fun c hc=>by rw[(hup.dec c hc).2.1];exact jev (hup.dec c hc).1);have hone:∀p a t,0≤oneIf p a t∧oneIf p a t≤1:=by intro p a t;unfold oneIf;split <;>omega
  have hop:openB ⟨d.size,cs.map celOf⟩=true:=by
   unfold openB okH;simp only[Bool.and_eq_true,decide_eq_true_eq];have hnums:(cs.map celOf).map (·.num)=jaj cs:=by rw[List.map_map];rfl
   refine⟨⟨⟨hd.lo,hd.hi⟩,List.all_eq_true.2 ?_,by rw[hnums];exact(jge _).2 hup.ris⟩,?_,?_⟩
   ·intro e he;obtain⟨c,hc,rfl⟩:=List.mem_map.1 he;have h1:=hup.dec c hc;simp only[okCel,celOf,Bool.and_eq_true];exact⟨h1.1,decide_eq_true h1.2.2.2.1,decide_eq_true h1.2.2.2.2.1⟩
   ·rw[e1];unfold jgd;refine List.all_eq_true.2 fun c hc=>?_
    rw[beq_iff_eq,jjg hup.ris];exact hkids c hc
   ·rw[eo];unfold jld;refine List.all_eq_true.2 fun c hc=>?_
    obtain⟨e,he,rfl⟩:=List.mem_map.1 hc;have h1:=hrf e.num;rw[jem hup.ris he]at h1;have h2:=(hup.dec e he).2.2.2.2.2.1;have h3:=countL_leW (jaz cs) e.num;have h4:=hone m.v0 m.s0.table e.num;have h5:=hone m.v1 m.s1.table e.num;simp only[Bool.and_eq_true,decide_eq_true_eq];split at h1 <;>constructor <;>omega
  have hfind:∀k,IsTab d cs k→jdb ⟨d.size,cs.map celOf⟩ k=true:=by
   intro k ⟨⟨c,hc,hc1,hc2⟩,hk⟩;unfold jdb;rw[eo,List.find?_map];have hf:cs.find? ((fun c:CC=>c.num==k.num) ∘ fun c=>{c with led:=c.led + jbp (jaz cs) c.num})=some c:=by
    have:=(jc2 hup.ris (t:=k.num) (c:=c)).2 ⟨hc,hc1⟩;exact this
   rw[hf];have h1:=hup.dec c hc;have hn:c.node=decN (readD d k.num).1:=by rw[h1.2.1,h1.2.2.2.2.2.2,hc1]
   simp only[Option.map_some,Bool.and_eq_true,decide_eq_true_eq];exact⟨by rw[hn];exact hk,hc2⟩
  have hdv:=(jcq d).2 hd;unfold jdm;simp only[Bool.and_eq_true,decide_eq_true_eq];refine⟨hdv,hop,trivial,⟨?_,?_,?_⟩,?_,hfind _ (tabUp _ htab.2.2.1),?_⟩
  ·unfold slotB;cases hv:m.v0 with
   |true=>
    obtain⟨a1,a2,a3,a4⟩:=ht0 hv;rw[if_pos rfl];simp only[Bool.and_eq_true,decide_eq_true_eq];exact⟨a1,a2,a3,hfind _ (tabUp _ a4)⟩
   |false=>
    rw[if_neg (by simp),hn0 hv];simp[supEq]
  ·unfold slotB;cases hv:m.v1 with
   |true=>
    obtain⟨a1,a2,a3,a4⟩:=ht1 hv;rw[if_pos rfl];simp only[Bool.and_eq_true,decide_eq_true_eq];exact⟨a1,a2,a3,hfind _ (tabUp _ a4)⟩
   |false=>
    rw[if_neg (by simp),hn1 hv];simp[supEq]
  ·rcases htab.2.2.2 with hv|hv <;>simp[hv]
  ·rw[htab.1,ByteArray.toList_eq];rfl
  ·rw[eo];refine List.all_eq_true.2 fun c hc=>?_
   obtain⟨e,he,rfl⟩:=List.mem_map.1 hc;have h1:=hrf e.num;rw[jem hup.ris he]at h1;have h2:=(hup.dec e he).2.2.2.2.2.1;have h3:=hup.pos e he;have h5:(if e.num=m.table.num then(1:Int)else 0)=if m.table.num=e.num then 1 else 0:=by
    by_cases h4:m.table.num=e.num
    ·rw[if_pos h4,if_pos h4.symm]
    ·rw[if_neg h4,if_neg (fun x=>h4 x.symm)]
   have hw:e.refs - (e.led + (jbp (jaz cs) e.num:Int))=wantS ⟨d,⟨d.size,cs.map celOf⟩,m.s0,m.s1,m.v0,m.v1,m.table⟩ e.num:=by
    unfold wantS;unfold oneIf at h1;simp only;rw[h5,h1,h2];generalize(if m.table.num=e.num then(1:Int)else 0)=p1;generalize(if m.v0=true∧m.s0.table=e.num then(1:Int)else 0)=p2;generalize(if m.v1=true∧m.s1.table=e.num then(1:Int)else 0)=p3;omega
   rw[Bool.and_eq_true];exact⟨decide_eq_true hw,decide_eq_true (by simp only;omega)⟩
theorem jh5(d:Dv)(h0:(jcz d).2=0):jdm (jcz d).1=true∧(jcz d).1.dev=d:=by
 unfold jcz at h0 ⊢;cases hd:devB d with
 |false=>rw[hd,if_pos rfl]at h0;exact absurd h0 (show ¬(7:Int)=0 by decide)
 |true=>
  rw[hd,if_neg (by simp)]at h0;rw[if_neg (by simp)];cases hn:d.down with
  |true=>rw[hn,if_pos rfl]at h0;exact absurd h0 (show ¬(17:Int)=0 by decide)
  |false=>
   rw[hn,if_neg (by simp)]at h0;rw[if_neg (by simp)];exact mount_end ((jcq d).1 hd) (mt_all d _ _) h0
structure Wt where
 dev:Dv
 why:Int
def jdc(w:Wt)(num:Int)(data:ByteArray):Wt:=if w.why=0 then⟨(jbg w.dev num data).1,(jbg w.dev num data).2⟩else w
def jd6(w:Wt):Wt:=if w.why=0 then⟨(jbs w.dev).1,(jbs w.dev).2⟩else w
def jdq:Node:=⟨3,[],[],[]⟩
def noneB:ByteArray:=wholeB jdq
def jbj(nb:ByteArray)(size:Int):Sup:=⟨size,1,2,shaOf nb.data.toList⟩
def jiz(size:Int):Sup:=jbj noneB size
def jgj(d:Dv):Wt:=jd6 (jdc (jdc (jd6 (jdc ⟨d,0⟩ 2 noneB)) 1 (jbl (jiz d.size))) 0 ByteArray.empty)
def jc1(d:Dv):Dv×Int:=if devB d=false then(noDev,7)else((jgj d).dev,(jgj d).why)
structure Rdy(d:Dv)(m:Nat):Prop where
 ok:DevOk d
 fuse:d.fuse= -1
 up:d.down=false
 waits:d.waits.length≤m
theorem burn_still{d:Dv}(hf:d.fuse= -1)(hd:d.down=false):burnD d=d:=by
 cases d
 simp only at hf hd;subst hf;subst hd;rfl
theorem Rdy.write{d:Dv}{m:Nat}(h:Rdy d m)(hm:m < 16384){num:Int}{data:ByteArray}(hn:num < d.size)(hd:data.size≤512)(hcut:cutB data=data):
 (jbg d num data).2=0∧Rdy (jbg d num data).1 (m + 1)∧(jbg d num data).1.size=d.size∧∀n,readB (jbg d num data).1 n=if num=n then data else readB d n:=by
 have hw:=h.waits;rw[write_ok h.ok h.up (by rw[h.fuse];decide) hn hd (by omega),burn_still (d:={d with waits:=d.waits ++ [⟨num,cutB data⟩]}) h.fuse h.up,hcut];refine⟨rfl,⟨?_,h.fuse,h.up,by simp;omega⟩,rfl,fun n=>read_write h.ok.ris num data n⟩;have:=h.ok.write (num:=num) (data:=data) hn hd (by omega);rw[hcut]at this;exact this
theorem Rdy.flush{d:Dv}{m:Nat}(h:Rdy d m):(jbs d).2=0∧Rdy (jbs d).1 0∧(jbs d).1.size=d.size∧∀n,readB (jbs d).1 n=readB d n:=by
 rw[flush_ok h.ok h.up (by rw[h.fuse];decide),burn_still h.fuse h.up];exact⟨rfl,⟨h.ok.flush,h.fuse,h.up,by simp⟩,rfl,fun n=>read_flush h.ok.ris n⟩
theorem Rdy.read{d:Dv}{m:Nat}(h:Rdy d m){n:Int}(hn:n < d.size):readD d n=(readB d n,0):=by
 unfold readD;rw[if_neg (by rw[(jcq d).2 h.ok];simp),h.up,if_neg (by simp),if_neg (by omega)]
theorem ji0(l:List UInt8):cutB ⟨(jcw l).toArray⟩=⟨(jcw l).toArray⟩:=by
 unfold jcw;exact cut_idem ⟨((numB (crcOf (padTo 508 l)) 4).data.toList ++ padTo 508 l).toArray⟩
theorem cut_empty:cutB ByteArray.empty=ByteArray.empty:=rfl
theorem jmg:jcd jdq=0∧jfn jdq:=⟨by decide,by refine⟨?_,?_,?_⟩ <;>intro x hx <;>simp[jdq]at hx⟩
theorem none_dec:decB noneB=true∧decN noneB=jdq:=dec_enc jdq jmg.1 jmg.2
theorem jjx:noneB.size≤512:=by
 have h:=none_dec.1;unfold decB at h;simp only[Bool.and_eq_true,decide_eq_true_eq]at h;exact h.1
theorem sup_ok{size g:Int}(h:16≤size)(h2:size≤65536)(hg:1≤g)(hg2:g≤4611686018427387904)(hash:List Int):supB ⟨size,g,2,hash⟩=true:=by
 unfold supB jd1;simp only[Bool.and_eq_true,decide_eq_true_eq];exact⟨⟨h,h2⟩,⟨hg,hg2⟩,⟨by omega,by omega⟩,by omega⟩
structure NoneD(nb:ByteArray):Prop where
 dec:decB nb=true∧decN nb=jdq
 small:nb.size≤512
 cut:cutB nb=nb
theorem jk1:NoneD noneB:=⟨none_dec,jjx,ji0 _⟩
structure Fmt(nb:ByteArray)(e:Dv)(size:Int):Prop where
 rdy:Rdy e 0
 siz:e.size=size
 r0:readB e 0=ByteArray.empty
 r1:readB e 1=jbl (jbj nb size)
 r2:readB e 2=nb
theorem jmh(nb:ByteArray):jd7 (shaOf nb.data.toList):=jgc _
theorem ji1(s:Sup)(hs:supB s=true)(hh:jd7 s.hash):(jbl s).size≤512:=(sup_enc s hs hh).1
theorem format_rdy{d:Dv}{m:Nat}(h:Rdy d m)(hm:m < 16384):(jc1 d).2=0∧Fmt noneB (jc1 d).1 d.size:=by
 have hlo:=h.ok.lo;have hhi:=h.ok.hi;have hsb:supB (jiz d.size)=true:=sup_ok hlo hhi (by decide) (by decide) _;obtain⟨a1,a2,a3,a4⟩:=h.write hm (num:=2) (data:=noneB) (by omega) jjx (ji0 _);obtain⟨b1,b2,b3,b4⟩:=a2.flush;obtain⟨c1,c2,c3,c4⟩:=b2.write (by omega) (num:=1) (data:=jbl (jiz d.size)) (by omega) (ji1 _ hsb (jmh _)) (ji0 _);obtain⟨d1,d2,d3,d4⟩:=c2.write (by omega) (num:=0) (data:=ByteArray.empty) (by omega) (by decide) cut_empty;obtain⟨e1,e2,e3,e4⟩:=d2.flush;have hw:jgj d=⟨(jbs (jbg (jbg (jbs (jbg d 2 noneB).1).1 1 (jbl (jiz d.size))).1 0 ByteArray.empty).1).1,0⟩:=by
  unfold jgj jd6 jdc;simp only[a1,b1,c1,d1,e1,if_true]
 unfold jc1;rw[if_neg (by rw[(jcq d).2 h.ok];simp),hw];refine⟨rfl,e2,e3.trans (d3.trans (c3.trans (b3.trans a3))),?_,?_,?_⟩
 ·rw[e4,d4,if_pos rfl]
 ·rw[e4,d4,if_neg (by decide),c4,if_pos rfl];rfl
 ·rw[e4,d4,if_neg (by decide),c4,if_neg (by decide),b4,a4,if_pos rfl]
theorem numT_zero(k:Nat)(r:List UInt8)(hk:k≤8):numT (tkL (numU 0 k ++ r)) k=(0,tkL r):=jd3 0 k r (Int.le_refl _) (by
 have:(0:Int) < 256 ^ k:=Int.pow_pos (by decide);exact this) hk
theorem dec_empty:jcj ByteArray.empty=none:=by
 have h1:supTk ByteArray.empty=tkL (numU 0 4 ++ List.replicate 502 0):=by
  unfold supTk tkL;refine tk_ext (jgq ?_);rw[Lib.extract_data];show List.take (512 - 6) (List.drop 6 (padTo 512 []))=_
  unfold padTo;rfl
 have h2:supB (supOf ByteArray.empty)=false:=by
  unfold supB supOf;rw[h1,numT_zero 4 _ (by omega)];simp
 unfold jcj;rw[h2];simp
theorem load_tab{nb:ByteArray}(hnb:NoneD nb){d:Dv}{m:Nat}(h:Rdy d m)(h2:readB d 2=nb){k:Kid}(hn:k.num=2)(hk:k.hash=shaOf nb.data.toList)(f:Nat)(cs:List CC):
 loadS d (f + 1) true k cs=if jba (jaj cs) 2=true then(true,cs.map (rUp 2))else(true,insCC (newL 2 nb) cs):=by
 have hlo:=h.ok.lo;have hr:readD d 2=(nb,0):=by rw[h.read (by omega),h2]
 have hok:jda d k true=true:=by
  unfold jda;rw[hn,hr];simp only[hnb.dec.1,hnb.dec.2,hk];decide
 unfold loadS;rw[hok,if_neg (by simp),hn];by_cases hh:jba (jaj cs) 2=true
 ·rw[if_pos hh,if_pos hh]
 ·rw[if_neg hh,if_neg hh,hr,hnb.dec.2];rfl
theorem jmi{nb:ByteArray}(hnb:NoneD nb){e:Dv}{size:Int}(h:Fmt nb e size):jcz e=(⟨e,⟨size,[⟨2,nb,2⟩]⟩,noSup,jbj nb size,false,true,tabOf (jbj nb size)⟩,0):=by
 obtain⟨hr,rfl,r0,r1,r2⟩:=h;have hlo:=hr.ok.lo;have hhi:=hr.ok.hi;have hsb:supB (jbj nb e.size)=true:=sup_ok hlo hhi (by decide) (by decide) _;have ho:jcm (readD e 0).1 (readD e 1).1=[jbj nb e.size]:=by
  rw[hr.read (by omega),hr.read (by omega),r0,r1];unfold jcm;rw[dec_empty,dec_sup _ hsb (jmh nb)];rfl
 unfold jcz;rw[if_neg (by rw[(jcq e).2 hr.ok];simp),hr.up,if_neg (by simp),ho];have hl:=load_tab hnb hr r2 (k:=tabOf (jbj nb e.size)) rfl rfl 65536 [];have hst:jc5 e mt0 (jbj nb e.size)=⟨[newL 2 nb],noSup,jbj nb e.size,false,true,tabOf (jbj nb e.size)⟩:=by
  unfold jc5;have hl':loadS e 65537 true (tabOf (jbj nb e.size)) mt0.cs=(true,[newL 2 nb]):=hl;rw[hl',if_neg (by simp[jbj])];rfl
 show mtEnd e (jc5 e mt0 (jbj nb e.size))=_
 rw[hst];rfl
def noHp:Hp:=⟨0,[]⟩
def holdE(cs:List CC)(num:Int):Int:=match jc6 cs num with
 |none=>5
 |some c=>if c.refs=16777216 then 1 else 0
def holdS(h:Hp)(num:Int):Hp×Int:=
 if openB h=false then(noHp,7)
 else if holdE (jav h) num≠0 then(jfi h.size (jav h),holdE (jav h) num)
 else(jfi h.size ((jav h).map (rUp num)),0)
def rDn(t:Int)(c:CC):CC:=if c.num=t then{c with refs:=c.refs - 1}else c
def lDn(t:Int)(c:CC):CC:=if c.num=t then{c with led:=c.led - 1}else c
def kidsOf(cs:List CC)(t:Int):List Int:=((jc6 cs t).map (fun c=>jbk c.node)).getD []
def letS:Nat→Int→List CC→List CC
 |0,_,cs=>cs
 |f + 1,t,cs=>
  if je3 cs t - 1=0 then
   (kidsOf cs t).foldl (fun cs k=>if jba (jaj cs) k then letS f k (cs.map (lDn k))else cs) ((cs.map (rDn t)).eraseIdx (ja5 (jaj cs) t))
  else cs.map (rDn t)
def dropE(cs:List CC)(num:Int):Int:=match jc6 cs num with
 |none=>5
 |some c=>if c.refs=c.led then 7 else 0
def dropS(h:Hp)(num:Int):Hp×Int:=
 if openB h=false then(noHp,7)
 else if dropE (jav h) num≠0 then(jfi h.size (jav h),dropE (jav h) num)
 else(jfi h.size (letS (h.cells.length + 1) num (jav h)),0)
def swapS(s:Sto)(h:Hp)(k:Kid):Sto×Int:=
 if jdm s=false then(noSto,7)
 else if jdm {s with heap:=h,table:=k}=false then(s,4)
 else({s with heap:=h,table:=k},0)
def jbh(s:Sto):List Sup:=(if s.v0 then[s.s0]else[]) ++ (if s.v1 then[s.s1]else[])
def genS(s:Sto):Int:=(jbh s).foldl (fun n x=>max n x.gen) 0
def ja1(s:Sto):Sup:=⟨s.dev.size,genS s + 1,s.table.num,s.table.hash⟩
def validAt(s:Sto)(i:Int):Bool:=if i=0 then s.v0 else s.v1
def slotAt(s:Sto)(i:Int):Sup:=if i=0 then s.s0 else s.s1
def jdo(H:Int→Bool)(w:Wt)(cs:List Cel):Wt:=cs.foldl (fun w c=>if H c.num then w else jdc w c.num c.data) w
def jg4(s:Sto)(H:Int→Bool):Wt:=jd6 (jdc (jd6 (jdo H ⟨s.dev,0⟩ s.heap.cells)) (slotS (ja1 s)) (jbl (ja1 s)))
def commitH(s:Sto):Hp:=
 if validAt s (slotS (ja1 s))then(dropS (holdS s.heap s.table.num).1 (slotAt s (slotS (ja1 s))).table).1 else(holdS s.heap s.table.num).1
def jhh(s:Sto)(d:Dv)(h:Hp)(x:Sup):Sto:=
 ⟨d,h,if slotS x=0 then x else s.s0,if slotS x=0 then s.s1 else x,s.v0||decide (slotS x=0),s.v1|| !decide (slotS x=0),s.table⟩
def jep(s:Sto)(H:Int→Bool):Sto×Int:=
 if jdm s=false then(noSto,7)
 else if genS s=4611686018427387904 then(s,1)
 else if(jg4 s H).why≠0 then({noSto with dev:=(jg4 s H).dev},(jg4 s H).why)
 else(jhh s (jg4 s H).dev (commitH s) (ja1 s),0)
def sto1(nb:ByteArray)(e:Dv)(size:Int):Sto:=⟨e,⟨size,[⟨2,nb,2⟩]⟩,noSup,jbj nb size,false,true,tabOf (jbj nb size)⟩
def sup2(nb:ByteArray)(size:Int):Sup:=⟨size,2,2,shaOf nb.data.toList⟩
def sto2(nb:ByteArray)(e:Dv)(size:Int):Sto:=⟨e,⟨size,[⟨2,nb,3⟩]⟩,sup2 nb size,jbj nb size,true,true,tabOf (jbj nb size)⟩
theorem jjy{nb:ByteArray}(hnb:NoneD nb){e:Dv}{size:Int}(h:Fmt nb e size):jdm (sto1 nb e size)=true:=by
 have h1:=jh5 e (by rw[jmi hnb h]);rw[jmi hnb h]at h1;exact h1.1
theorem opened_one{nb:ByteArray}(hnb:NoneD nb)(size r:Int):jav ⟨size,[⟨2,nb,r⟩]⟩=[⟨2,nb,r,jdq,shaOf nb.data.toList,0⟩]:=by
 unfold jav;have hk:([⟨2,nb,r⟩]:List Cel).map cc1=[⟨2,nb,r,jdq,shaOf nb.data.toList,0⟩]:=by
  show[cc1 ⟨2,nb,r⟩]=_
  unfold cc1;rw[hnb.dec.2]
 have ha:jaz [(⟨2,nb,r,jdq,shaOf nb.data.toList,0⟩:CC)]=[]:=rfl;show bumps (jaz (([⟨2,nb,r⟩]:List Cel).map cc1)) (([⟨2,nb,r⟩]:List Cel).map cc1)=_
 rw[hk,ha];rfl
theorem commit_new{nb:ByteArray}(hnb:NoneD nb){e:Dv}{size:Int}(h:Fmt nb e size)(H:Int→Bool):∃f,jep (sto1 nb e size) H=(sto2 nb f size,0)∧jcz f=(sto2 nb f size,0):=by
 have hc:=jjy hnb h;obtain⟨hr,rfl,r0,r1,r2⟩:=h;have hlo:=hr.ok.lo;have hhi:=hr.ok.hi;have hx:ja1 (sto1 nb e e.size)=sup2 nb e.size:=rfl;have hsb:supB (sup2 nb e.size)=true:=sup_ok hlo hhi (by decide) (by decide) _;have hsf:supB (jbj nb e.size)=true:=sup_ok hlo hhi (by decide) (by decide) _;have hw0:∃e0,jdo H ⟨e,0⟩ (sto1 nb e e.size).heap.cells=⟨e0,0⟩∧Rdy e0 1∧e0.size=e.size∧∀n,readB e0 n=readB e n:=by
  show ∃e0,(if H 2 then(⟨e,0⟩:Wt)else jdc ⟨e,0⟩ 2 nb)=⟨e0,0⟩∧_
  cases H 2 with
  |true=>exact⟨e,rfl,⟨hr.ok,hr.fuse,hr.up,Nat.le_trans hr.waits (by omega)⟩,rfl,fun n=>rfl⟩
  |false=>
   obtain⟨a1,a2,a3,a4⟩:=hr.write (by omega) (num:=2) (data:=nb) (by omega) hnb.small hnb.cut;refine⟨(jbg e 2 nb).1,?_,a2,a3,fun n=>?_⟩
   ·show jdc ⟨e,0⟩ 2 nb=_
    unfold jdc;rw[if_pos rfl,a1]
   ·rw[a4];by_cases hn:2=n
    ·rw[if_pos hn,←hn,r2]
    ·rw[if_neg hn]
 obtain⟨e0,hw0,q0,z0,y0⟩:=hw0;obtain⟨b1,b2,b3,b4⟩:=q0.flush;obtain⟨d1,d2,d3,d4⟩:=b2.write (by omega) (num:=0) (data:=jbl (sup2 nb e.size)) (by omega) (ji1 _ hsb (jmh nb)) (ji0 _);obtain⟨e1,e2,e3,e4⟩:=d2.flush;have hwc:jg4 (sto1 nb e e.size) H=⟨(jbs (jbg (jbs e0).1 0 (jbl (sup2 nb e.size))).1).1,0⟩:=by
  unfold jg4;rw[hx];show jd6 (jdc (jd6 (jdo H ⟨e,0⟩ (sto1 nb e e.size).heap.cells)) _ _)=_
  rw[hw0];show jd6 (jdc (jd6 ⟨e0,0⟩) 0 (jbl (sup2 nb e.size)))=_
  unfold jd6 jdc;simp only[b1,d1,e1,if_true]
 have hh:(holdS (sto1 nb e e.size).heap 2).1=⟨e.size,[⟨2,nb,3⟩]⟩:=by
  have ho:openB (sto1 nb e e.size).heap=true:=by
   unfold jdm at hc;simp only[Bool.and_eq_true]at hc;exact hc.2.1
  unfold holdS;rw[if_neg (by rw[ho];simp)];show(if holdE (jav ⟨e.size,[⟨2,nb,2⟩]⟩) 2≠0 then _ else(jfi e.size ((jav ⟨e.size,[⟨2,nb,2⟩]⟩).map (rUp 2)),(0:Int))).1=_
  rw[opened_one hnb];rfl
 have hch:commitH (sto1 nb e e.size)=⟨e.size,[⟨2,nb,3⟩]⟩:=by
  unfold commitH;rw[hx];exact hh
 generalize hf:(jbs (jbg (jbs e0).1 0 (jbl (sup2 nb e.size))).1).1=f at *;refine⟨f,?_,?_⟩
 ·unfold jep;rw[hc,if_neg (by simp),hwc,hch,hx,if_neg (show ¬genS (sto1 nb e e.size)=4611686018427387904 by show ¬(max (0:Int) 1)=4611686018427387904;decide),if_neg (by simp)];rfl
 ·have hfs:f.size=e.size:=by omega
  have x0:readB f 0=jbl (sup2 nb e.size):=by rw[e4,d4,if_pos rfl]
  have x1:readB f 1=jbl (jbj nb e.size):=by rw[e4,d4,if_neg (by decide),b4,y0,r1]
  have x2:readB f 2=nb:=by rw[e4,d4,if_neg (by decide),b4,y0,r2]
  have ho:jcm (readD f 0).1 (readD f 1).1=[sup2 nb e.size,jbj nb e.size]:=by
   rw[e2.read (by omega),e2.read (by omega),x0,x1];unfold jcm;rw[dec_sup _ hsf (jmh nb),dec_sup _ hsb (jmh nb)];rfl
  unfold jcz;rw[if_neg (by rw[(jcq f).2 e2.ok];simp),e2.up,if_neg (by simp),ho];have hst:jc5 f mt0 (sup2 nb e.size)=⟨[newL 2 nb],sup2 nb e.size,noSup,true,false,tabOf (sup2 nb e.size)⟩:=by
   unfold jc5;have hl':loadS f 65537 true (tabOf (sup2 nb e.size)) mt0.cs=(true,[newL 2 nb]):=load_tab hnb e2 x2 (k:=tabOf (sup2 nb e.size)) rfl rfl 65536 [];rw[hl',if_neg (by simp[sup2,hfs])];rfl
  have hst2:jc5 f (jc5 f mt0 (sup2 nb e.size)) (jbj nb e.size)=⟨[{newL 2 nb with refs:=2}],sup2 nb e.size,jbj nb e.size,true,true,tabOf (sup2 nb e.size)⟩:=by
   rw[hst];unfold jc5;have hl':loadS f 65537 true (tabOf (jbj nb e.size)) [newL 2 nb]=(true,[{newL 2 nb with refs:=2}]):=load_tab hnb e2 x2 (k:=tabOf (jbj nb e.size)) rfl rfl 65536 [newL 2 nb];rw[hl',if_neg (by simp[jbj,hfs])];rfl
  show mtEnd f (jc5 f (jc5 f mt0 (sup2 nb e.size)) (jbj nb e.size))=_
  rw[hst2];unfold mtEnd;rw[hfs];rfl
theorem namedHO_any(w:World)(v:Value)(n:Node)(hv:NodeV w v n)(hl:n.kids.length≤100000∧n.vols.length≤100000):
 Calls Tryz.prog 109 #[v] w fun e w'=>∃r,e= .returned r∧(Sl kidE w' r (jcn n)∧∀g,r.ownBlock=some g→w.heap.size≤g)∧Below w.heap.size w w':=by
 obtain⟨i0,z0,hi,hz0,hz1,hz2,hzs⟩:=jbw kid_info;obtain⟨va,vb,vc,rfl,ha,hb0,hc0,hk0,hk1⟩:=hv;obtain⟨A,ca,rfl,ha1,ha2,hra⟩:=ha;obtain⟨B,cb,rfl,hb1,hb2,hrb⟩:=hb0;obtain⟨C,cc,rfl,hc1,hc2,hrc⟩:=hc0;have HR:=Lib.hid (And.intro hra (And.intro hrb hrc));have HB:=Lib.hid ((Below.refl w.heap.size w).alloc (Nat.le_refl _) (.cells #[.int .u8 n.kind, .slice A n.items.length ca, .slice B n.kids.length cb, .slice C n.vols.length cc] 59));obtain⟨hl1,hl2⟩:=hl;clear hra hrb hrc;generalize n.kind=kd at *;go_enter Tryz.func109,Tryz.ntmps109;go_wp2;go_loopw [3,5,11,12,13,14,15,16,17,18,19,20,21,22,23] (fun s _ i _ _ _ _ _ _ _ _ _ _ _ _ wr=>∃k:Nat,k≤n.kids.length∧i= .int .i64 k∧wr.ownsRow w.heap.size 40 34 s k (((n.kids.take k).map jcx).flatMap kidE.enc)∧Below w.heap.size w wr∧wr.heap[w.heap.size]? =some (.cells #[.int .u8 kd, .slice A n.items.length ca, .slice B n.kids.length cb, .slice C n.vols.length cc] 59 (0,0))) (fun _ _ i _ _ _ _ _ _ _ _ _ _ _ _ _=>n.kids.length - (intOf i).toNat)
 case atStart=>exact⟨0,Nat.zero_le _,rfl,⟨rfl,Or.inl ⟨rfl,rfl⟩⟩,HB.out,heap_alloc_new _ _⟩
 case round=>
  obtain⟨k,hk,rfl,hown,hB,hbox⟩:=hrel;by_cases hlt:k < n.kids.length
  ·obtain⟨b,o,rfl,hat,hwf⟩:=HR.out.2.1 k hlt;have hb:b < w.heap.size:=hat.lt (by simp[kidE]);have hatr:=hat.below hB (Nat.le_refl _);have hbr:b < wr.heap.size:=Nat.lt_of_lt_of_le hb hB.size;have htk:((n.kids.take (k + 1)).map jcx).flatMap kidE.enc=((n.kids.take k).map jcx).flatMap kidE.enc ++ kidE.enc (jcx n.kids[k]):=by
    rw[List.take_succ_eq_append_getElem hlt,List.map_append,List.flatMap_append];simp
   have HG:=Lib.hid (And.intro htk (And.intro hB hbox));have hbs:=hB.size;have hbl:=lt_of_block hbox;clear hB hat htk hbox;generalize n.kids[k]=kk at *;have HK:=jc7 kk hwf;have hl:=kidE.len kk hwf;have h1':=kidE.one kk hwf;have n1:(wr.alloc (.cells (kidE.enc kk).toArray 40)).cell? ⟨wr.heap.size,1,none⟩=some (.int .u32 kk.num):=jay 1 _ rfl;have n2:=hash_at (new_at wr (kidE.enc kk) 40);have HH:=jfh hwf.2.2;have hnl:(kidE.enc (jcx kk)).length=34:=kidE.len _ (jhb hwf);have hn1:=kidE.one _ (jhb hwf);have hbk:Tryz.prog.built 40 [(1, .int .u32 kk.num),(2, .agg (hashV kk.hash).toArray)]=some (kidE.enc (jcx kk)).toArray:=jgp _ _ hwf.2.2.1;have HL:=Lib.hid (And.intro hl (And.intro hnl hbk));clear hl hwf hnl hbk;generalize kidE.enc kk=vs at *;generalize kidE.enc (jcx kk)=us at *;generalize hashV kk.hash=hs at *;generalize kk.num=num at *;obtain⟨ha,hha⟩:∃ha,hs.toArray=ha:=⟨_,rfl⟩
   obtain⟨ua,hua⟩:∃ua,us.toArray=ua:=⟨_,rfl⟩
   have HA:=Lib.hid (And.intro hha hua);have hsz:ua.size=34:=by rw[←hua];simpa using HL.out.2.1
   have HSZ:=Lib.hid hsz;rw[hha,hua]at HL;clear hha hua hsz;generalize hzs:((n.kids.take k).map jcx).flatMap kidE.enc=zs at *;clear hzs;go_wp2_with (first
    |((with_reducible refine jbv 40 ?_);refine jai rfl 40 (.tmp 13) rfl b (o + k * 34) rfl vs _ hatr Tryz.underlying40 rfl HK ?_)
    |((with_reducible refine jam 40 ?_);refine jaa rfl 40 (.tmp 5) (.tmp 14) rfl 40 _ rfl vs rfl (by rw[HL.out.1];rfl) h1' HK ?_)
    |((with_reducible refine jbv 34 ?_);refine jae rfl 34 (.tmp 18) rfl wr.heap.size 2 rfl hs _ n2 Tryz.underlying34 rfl HH ha HA.out.1 ?_)
    |((with_reducible refine jar 40 ?_);go_loud (refine jah rfl 40 _ rfl [(1, .int .u32 num),(2, .agg ha)] rfl ua HL.out.2.2 ?_))
    |((with_reducible refine jf8 56 1 ?_);refine jdn rfl 56 40 (.tmp 20) rfl ua rfl 34 Tryz.underlying56 ⟨i0,z0,hi,hz0,hz1,hzs⟩ HSZ.out (by decide) (by decide) (wr.heap.size + 1) (by simp) ?_)
    |(at_builtin;go_loud (refine wpList_append_own _ rfl (.tmp 15) (.tmp 21) 56 rfl w.heap.size 40 i0 z0 34 56 Tryz.underlying56 hi hz0 hz1 hz2 hzs (by decide) _ _ _ rfl ((hown.alloc _).alloc _) ⟨wr.heap.size + 1,0,none⟩ 1 1 us rfl HL.out.2.1 ?c1 ?c2 ?c3 ?c4 ?c5 ?_)))
   case c1=>intro j u hj;rw[jcl,Nat.zero_add];have:=jay (w:=wr.alloc (.cells vs.toArray 40)) (vs:=us) (t:=40) j u hj;rw[HA.out.2]at this;simpa using this
   case c2=>exact hn1
   case c3=>unfold maxLen;omega
   case c4=>omega
   case c5=>simp;omega
   intro v' w2 hown' hgrow _;go_wp2;refine⟨⟨k + 1,by omega,by go_num,?_,?_,?_⟩,by simp[intOf];omega⟩
   ·rw[HG.out.1];exact hown'
   ·exact((HG.out.2.1.alloc hbs _).alloc (by simp;omega) _).grown hgrow (by simp;omega) (fun q hq=>(hown.lt q hq).1)
   ·rw[hgrow.block _ (by simp;omega) (fun e=>jb8 ((hown.alloc (.cells vs.toArray 40)).alloc (.cells ua 40)) ((Lib.alloc_old _ _ _ (by simp;omega)).trans ((Lib.alloc_old _ _ _ hbl).trans HG.out.2.2)) (by decide) e.symm),Lib.alloc_old _ _ _ (by simp;omega),Lib.alloc_old _ _ _ hbl];exact HG.out.2.2
  ·obtain rfl:k=n.kids.length:=by omega
   rw[List.take_length]at hown;have c3:wr.cell? ⟨w.heap.size,3,none⟩=some (.slice C n.vols.length cc):=by rw[cell_of_row _ _ _ _ _ _ hbox];rfl
   have HX:=Lib.hid (And.intro hown (And.intro hB hbox));have hbl0:=lt_of_block hbox;clear hown hB hbox;obtain⟨wx,hwx⟩:∃wx,wx=wr:=⟨wr,rfl⟩
   subst hwx;go_wp2;go_loopw [3,7,27,28,29,30,31,32,33,34,35,36,37,38,39,40,41,42] (fun s _ i _ _ _ _ _ _ _ _ _ _ _ _ _ _ _ wr=>∃k m:Nat,k≤n.vols.length∧m≤n.kids.length + k∧i= .int .i64 k∧wr.ownsRow w.heap.size 40 34 s m ((n.kids.map jcx ++ ((n.vols.take k).filter (fun v=>v.root !=0)).map jd2).flatMap kidE.enc)∧Below w.heap.size w wr) (fun _ _ i _ _ _ _ _ _ _ _ _ _ _ _ _ _ _ _=>n.vols.length - (intOf i).toNat)
   case atStart=>exact⟨0,n.kids.length,Nat.zero_le _,by omega,rfl,by simpa using HX.out.1,HX.out.2.1⟩
   case round=>
    obtain⟨k,m,hk,hmk,rfl,hown,hB⟩:=hrel;by_cases hlt:k < n.vols.length
    ·obtain⟨b,o,rfl,hat,hwf⟩:=HR.out.2.2 k hlt;have hb:b < w.heap.size:=hat.lt (by simp[volE]);have hatr:=hat.below hB (Nat.le_refl _);have hbr:b < wr.heap.size:=Nat.lt_of_lt_of_le hb hB.size;have htk:(n.kids.map jcx ++ ((n.vols.take (k + 1)).filter (fun v=>v.root !=0)).map jd2).flatMap kidE.enc=(n.kids.map jcx ++ ((n.vols.take k).filter (fun v=>v.root !=0)).map jd2).flatMap kidE.enc ++ (if n.vols[k].root=0 then[]else kidE.enc (jd2 n.vols[k])):=by
      rw[List.take_succ_eq_append_getElem hlt,List.filter_append,List.map_append,List.flatMap_append,List.flatMap_append,List.flatMap_append,List.append_assoc];congr 2
      by_cases h0:n.vols[k].root=0 <;>simp[h0]
     have HG:=Lib.hid (And.intro htk hB);have hbs:=hB.size;clear hB hat htk;generalize n.vols[k]=kk at *;have HK:=jjm kk hwf;have hl:=volE.len kk hwf;have h1':=volE.one kk hwf;have n4:(wr.alloc (.cells (volE.enc kk).toArray 155)).cell? ⟨wr.heap.size,4,none⟩=some (.int .u32 kk.root):=jay 4 _ rfl;have n5:=vhash_at (new_at wr (volE.enc kk) 155);have HH:=jfh hwf.2.2.2.2.2;have hnl:(kidE.enc (jd2 kk)).length=34:=kidE.len _ (jfu hwf);have hn1:=kidE.one _ (jfu hwf);have hbk:Tryz.prog.built 40 [(1, .int .u32 kk.root),(2, .agg (hashV kk.hash).toArray)]=some (kidE.enc (jd2 kk)).toArray:=jgp _ _ hwf.2.2.2.2.2.1;have HL:=Lib.hid (And.intro hl (And.intro hnl hbk));clear hl hwf hnl hbk;generalize volE.enc kk=vs at *;generalize kidE.enc (jd2 kk)=us at *;generalize hashV kk.hash=hs at *;generalize kk.root=num at *;obtain⟨ha,hha⟩:∃ha,hs.toArray=ha:=⟨_,rfl⟩
     obtain⟨ua,hua⟩:∃ua,us.toArray=ua:=⟨_,rfl⟩
     have HA:=Lib.hid (And.intro hha hua);have hsz:ua.size=34:=by rw[←hua];simpa using HL.out.2.1
     have HSZ:=Lib.hid hsz;rw[hha,hua]at HL;clear hha hua hsz;generalize hzs:(n.kids.map jcx ++ ((n.vols.take k).filter (fun v=>v.root !=0)).map jd2).flatMap kidE.enc=zs at *;clear hzs;by_cases h0:num=0
     ·have h0b:(num !=0)=false:=by simp[h0]
      have HZ:=Lib.hid h0;clear h0;go_wp2_with (first
       |((with_reducible refine jbv 155 ?_);refine jai rfl 155 (.tmp 29) rfl b (o + k * 37) rfl vs _ hatr Tryz.underlying155 rfl HK ?_)
       |((with_reducible refine jam 155 ?_);refine jaa rfl 155 (.tmp 7) (.tmp 30) rfl 155 _ rfl vs rfl (by rw[HL.out.1];rfl) h1' HK ?_))
      refine⟨⟨k + 1,m,by omega,by omega,by go_num,?_,HG.out.2.alloc hbs _⟩,by simp[intOf];omega⟩;rw[HG.out.1,if_pos HZ.out,List.append_nil];exact hown.alloc _
     ·have h0b:(num !=0)=true:=by simp[h0]
      have HZ:=Lib.hid h0;clear h0;go_wp2_with (first
       |((with_reducible refine jbv 155 ?_);refine jai rfl 155 (.tmp 29) rfl b (o + k * 37) rfl vs _ hatr Tryz.underlying155 rfl HK ?_)
       |((with_reducible refine jam 155 ?_);refine jaa rfl 155 (.tmp 7) (.tmp 30) rfl 155 _ rfl vs rfl (by rw[HL.out.1];rfl) h1' HK ?_)
       |((with_reducible refine jbv 34 ?_);refine jae rfl 34 (.tmp 37) rfl wr.heap.size 5 rfl hs _ n5 Tryz.underlying34 rfl HH ha HA.out.1 ?_)
       |((with_reducible refine jar 40 ?_);go_loud (refine jah rfl 40 _ rfl [(1, .int .u32 num),(2, .agg ha)] rfl ua HL.out.2.2 ?_))
       |((with_reducible refine jf8 56 1 ?_);refine jdn rfl 56 40 (.tmp 39) rfl ua rfl 34 Tryz.underlying56 ⟨i0,z0,hi,hz0,hz1,hzs⟩ HSZ.out (by decide) (by decide) (wr.heap.size + 1) (by simp) ?_)
       |(at_builtin;refine wpList_append_own _ rfl (.tmp 34) (.tmp 40) 56 rfl w.heap.size 40 i0 z0 34 56 Tryz.underlying56 hi hz0 hz1 hz2 hzs (by decide) _ _ _ rfl ((hown.alloc _).alloc _) ⟨wr.heap.size + 1,0,none⟩ 1 1 us rfl HL.out.2.1 ?c1 ?c2 ?c3 ?c4 ?c5 ?_))
      case c1=>intro j u hj;rw[jcl,Nat.zero_add];have:=jay (w:=wr.alloc (.cells vs.toArray 155)) (vs:=us) (t:=40) j u hj;rw[HA.out.2]at this;simpa using this
      case c2=>exact hn1
      case c3=>unfold maxLen;omega
      case c4=>omega
      case c5=>simp;omega
      intro v' w2 hown' hgrow _;go_wp2;refine⟨⟨k + 1,m + 1,by omega,by omega,by go_num,?_,?_⟩,by simp[intOf];omega⟩
      ·rw[HG.out.1,if_neg HZ.out];exact hown'
      ·exact((HG.out.2.alloc hbs _).alloc (by simp;omega) _).grown hgrow (by simp;omega) (fun q hq=>(hown.lt q hq).1)
    ·obtain rfl:k=n.vols.length:=by omega
     rw[List.take_length,←jgx]at hown;have HG:=Lib.hid (And.intro hown hB);clear hown hB;go_wp2;go_ret;refine⟨_,rfl,⟨?_,fun g hg=>(HG.out.1.lt g hg).1⟩,HG.out.2⟩;have hw:∀x∈jcn n,kidE.wf x:=by
      intro x hx;rw[jgx]at hx;rcases List.mem_append.1 hx with hx|hx
      ·obtain⟨q,hq,rfl⟩:=List.mem_map.1 hx;exact jhb (HR.out.2.1.wf q hq)
      ·obtain⟨q,hq,rfl⟩:=List.mem_map.1 hx;exact jfu (HR.out.2.2.wf q (List.mem_filter.1 hq).1)
     have hlen:=HG.out.1.1;rw[jbb kidE _ hw]at hlen;exact jct (E:=kidE) HG.out.1 (by have:=kidE.pos;exact(Nat.eq_of_mul_eq_mul_right (by decide) hlen).symm) hw
end Go.Proofs.YtpaohkkhejpgjaaGreatDoor
