/- Texts of the proof: Is In Ig. -/
import Derived.Test.YtpaohkkhejpgjaaGreatDoorM12
import Derived.Shelf.Spec.SlicesInsertGrow
import Derived.Deep.RegionLaw
import Derived.Lib.SliceRun
import Derived.Deep.AppendLies
set_option linter.all false
set_option maxRecDepth 100000
set_option maxHeartbeats 8000000
namespace Go.Proofs.YtpaohkkhejpgjaaGreatDoor
open Go Go.RowKit Go.Lib
theorem jbq(b:Nat):∀(vs:List Value) (o:Nat) (w:World) (cur:Array Value) (t:TypeId),w.heap[b]? =some (.cells cur t (0,0))→
 ∃cur',(w.setCells b o vs).heap[b]? =some (.cells cur' t (0,0))∧cur'.size=cur.size∧(∀j,cur'[j]? =if o≤j∧j < o + vs.length∧j < cur.size then vs[j - o]? else cur[j]?)∧w.grownBy (w.setCells b o vs) (some b)
 |[],o,w,cur,t,h=>⟨cur,h,rfl,fun j=>by rw[if_neg (by simp;omega)],World.grownBy.refl w (some b)⟩
 |v::r,o,w,cur,t,h=>by
  have h1:=ja2 h o v;obtain⟨cur',h2,h3,h4,h5⟩:=jbq b r (o + 1) (w.setCell ⟨b,o,none⟩ v) _ t h1;have h6:=jap (World.grownBy.refl w (some b)) o v;refine⟨cur',h2,by rw[h3];simp,fun j=>?_,jag h6 h5⟩;rw[h4 j];simp only[Array.size_setIfInBounds,Array.getElem?_setIfInBounds,List.length_cons];by_cases e:o=j
  ·subst e;rw[if_neg (by omega),if_pos rfl];by_cases hs:o < cur.size
   ·rw[if_pos hs,if_pos (by omega)];simp
   ·rw[if_neg hs,if_neg (by omega),Array.getElem?_eq_none (by omega)]
  ·rw[if_neg e];by_cases hc:o + 1≤j∧j < o + 1 + r.length∧j < cur.size
   ·rw[if_pos hc,if_pos (by omega),show j - o=(j - (o + 1)) + 1 by omega];rfl
   ·rw[if_neg hc,if_neg (by omega)]
theorem je6(cur:Array Value)(l:List Value)(n:Nat)(hl:l.length=n)(hs:n≤cur.size)(h:∀j,j < n→cur[j]? =l[j]?):cur.toList.take n=l:=by
 apply List.ext_getElem?;intro j;rw[List.getElem?_take];by_cases hj:j < n
 ·rw[if_pos hj,Array.getElem?_toList,h j hj]
 ·rw[if_neg hj,List.getElem?_eq_none (by omega)]
theorem jco{P:Program}(w:World)(dT sT ty elem:TypeId)(sz b o dLen dCap:Nat)(a:Addr)(sLen sCap:Nat)(cs:List Value)(n:Nat)
 (hu:P.underlying dT=some (.slice elem)) (hs:(P.info? elem).map (·.size)=some sz) (hm:Nat.min sLen dLen=n) (hn:cs.length=n * sz)
 (hsrc:∀j v,cs[j]? =some v→w.cell? (a.add j)=some v) (hc:∀j,j < cs.length→(w.cell? ⟨b,o + j,none⟩).isSome=true) (hf:∀j,j < cs.length→w.frozen? ⟨b,o + j,none⟩=false) (h1:∀v∈cs,v.oneCell'=true):
 (Builtin.copy_ #[dT,sT] ty #[.slice (some ⟨b,o,none⟩) dLen dCap, .slice (some a) sLen sCap]).run P w= .ok (goInt n) (w.setCells b o cs):=by
 have hl:=run_loadCells_list (P:=P) w a cs hsrc;have hst:=run_storeCells_cells (P:=P) b o cs 0 w (by simpa using hc) (by simpa using hf) h1;cases hq:P.info? elem with
 |none=>simp[hq]at hs
 |some i=>
  have hi:i.size=sz:=by simpa[hq]using hs
  simp[Builtin.copy_,run_underlying hu,Builtin.lenOf,Builtin.firstCells,sizeOf,typeInfo,hq,hi,hm,←hn,hl,hst]
theorem ins_app{α:Type}(y:α)(a:List α):∀P:List α,(P ++ a).insertIdx P.length y=P ++ y::a
 |[]=>by simp
 |p::P=>by
  have:=ins_app y a P;simp[this]
theorem je5{α:Type}(x:α){l:List α}{i:Nat}(h:i≤l.length):l.insertIdx i x=l.take i ++ x::l.drop i:=by
 have hl:(l.take i).length=i:=by rw[List.length_take];omega
 have:=ins_app x (l.drop i) (l.take i);rw[hl,List.take_append_drop]at this;exact this
end Go.Proofs.YtpaohkkhejpgjaaGreatDoor
