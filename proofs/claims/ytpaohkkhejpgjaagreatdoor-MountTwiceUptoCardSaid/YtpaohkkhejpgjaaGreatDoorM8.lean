/- Texts of the proof: Ad. -/
import Derived.Test.YtpaohkkhejpgjaaGreatDoorM6
import Derived.Test.YtpaohkkhejpgjaaGreatDoorRows
import Derived.Below
import Derived.DataShut
import Derived.ChangeSame
import Derived.ChangeArms
import Derived.WideShapes
import Derived.OpenShut
import Derived.Deep.Slices
import Derived.Deep.Strs
import Derived.Lib.SmallJoins
set_option linter.all false
set_option maxRecDepth 100000
set_option maxHeartbeats 8000000
namespace Go.Proofs.YtpaohkkhejpgjaaGreatDoor
open Go Go.RowKit Go.WideShapes Go.ChangeShapes Go.Deep Go.Joins
theorem cells_below{W W':World}(hb:Below W.heap.size W W'){base:Nat}{a:Addr}{n:Nat}{cs:List Value}(h:W.cells? base a n=some cs):W'.cells? base a n=some cs:=by
 obtain⟨h0,h1,h2⟩:=World.cells?_some h;refine World.cells?_of_each h0 h1 (fun i hi=>?_);have h3:=h2 i hi;have h4:cs[i]? =some (cs[i]'(by omega)):=List.getElem?_eq_getElem (by omega);rw[h4]at h3 ⊢;rw[hb.cell (World.block_lt_of_cell? W _ h3)];exact h3
section
variable {H:Type} {enc:TypeId×Value→H} {P:Program}
theorem bulk_mem{d:DataW H}{l:List (DataW H)}(h:d∈l):Rows.uptoBulk d≤Rows.uptoBulkAll l:=by
 induction l with
 |nil=>cases h
 |cons x r ih=>
  simp only[Rows.uptoBulkAll];cases List.mem_cons.1 h with
  |inl e=>subst e;omega
  |inr e=>have:=ih e;omega
theorem bulk_one(d:DataW H):1≤Rows.uptoBulk d:=by
 cases d with
 |lit l=>cases l <;>simp[Rows.uptoBulk]
 |nil=>simp[Rows.uptoBulk]
 |ptr d=>simp[Rows.uptoBulk]
 |slice elems spare=>simp[Rows.uptoBulk]
 |agg parts=>simp[Rows.uptoBulk]
 |iface t d=>simp[Rows.uptoBulk]
 |map entries=>simp[Rows.uptoBulk]
 |held h=>simp[Rows.uptoBulk]
theorem bulk_length(l:List (DataW H)):l.length≤Rows.uptoBulkAll l:=by
 induction l with
 |nil=>simp[Rows.uptoBulkAll]
 |cons x r ih=>have:=bulk_one x;simp only[Rows.uptoBulkAll,List.length_cons];omega
def ElemR{α:Type}(enc:TypeId×Value→H)(P:Program)(E:Enc α)(e:TypeId):Prop:=
 ∀(W:World) (base:Nat) (sp:Nat→Bool) (held:Bool) (n:Nat) (cs:List Value) (y:DataW H×List MemPlace),DataW.trod enc P W base sp held n e cs=some y→Rows.uptoBulk y.1≤1048576→
  (∃x:α,E.wf x∧cs=E.enc x)∧y.2=[]∧∀(W':World) (base':Nat) (sp':Nat→Bool) (held':Bool),∃m,DataW.trod enc P W' base' sp' held' m e cs=some y
def SlRd{α:Type}(enc:TypeId×Value→H)(P:Program)(E:Enc α)(t:TypeId)(W:World)(v:Value)(y:DataW H×List MemPlace):Prop:=
 (∃xs,Sl E W v xs∧xs.length≤1048576)∧∀W',Below W.heap.size W W'→∀sp:Nat→Bool,(∀p∈y.2,sp p.block=true)→∃n,DataW.trod enc P W' 0 sp true n t [v]=some y
theorem slice_read{α:Type}[Inhabited α]{E:Enc α}{t e:TypeId}{W:World}{fuel:Nat}{cs:List Value}{y:DataW H×List MemPlace}(ht:P.underlying t=some (.slice e))(hc:P.cellsOf e=E.sz)(hE:ElemR enc P E e)
 (h:DataW.trod enc P W 0 (fun _=>true) true fuel t cs=some y) (hy:Rows.uptoBulk y.1≤1048576):∃v,cs=[v]∧SlRd enc P E t W v y:=by
 rcases open_slice ht h with⟨rfl,rfl⟩|⟨a,len,cap,m,n,D,Pl,rfl,hb,hl,hm,hmm,rfl,hx⟩
 ·refine⟨_,rfl,⟨[],⟨none,0,rfl,Nat.le_refl _,by omega,fun k hk=>absurd hk (Nat.not_lt_zero _)⟩,Nat.zero_le _⟩,fun W' _ sp _=>⟨1,?_⟩⟩;simp[DataW.trod,ht]
 ·obtain rfl:m=cap:=hmm;rw[hc]at hx;have hbD:∀i,i < m→Rows.uptoBulk (D i)≤1048576:=by
   intro i hi;simp only[Rows.uptoBulk]at hy;by_cases h1:i < len
   ·have:=bulk_mem (show D i∈(List.range len).map D from List.mem_map.2 ⟨i,List.mem_range.2 h1,rfl⟩);omega
   ·have:=bulk_mem (show D i∈(List.range (m - len)).map fun j=>D (len + j)from List.mem_map.2 ⟨i - len,List.mem_range.2 (by omega),by rw[show len + (i - len)=i by omega]⟩);omega
  have hlen:len≤1048576:=by
   simp only[Rows.uptoBulk]at hy;have:=bulk_length ((List.range len).map D);rw[List.length_map,List.length_range]at this;omega
  obtain⟨X,hX⟩:=choose_lt (α:=α) (p:=fun i x=>E.wf x∧W.cells? 0 (a.add (i * E.sz)) E.sz=some (E.enc x)) (fun i hi=>by
   obtain⟨cs',h1,h2⟩:=hx i hi;obtain⟨⟨x,w1,w2⟩,_⟩:=hE _ _ _ _ _ _ _ h2 (hbD i hi);exact⟨x,w1,w2 ▸ h1⟩)
  have hPl:∀i,i < m→Pl i=[]:=fun i hi=>by
   obtain⟨cs',h1,h2⟩:=hx i hi;exact(hE _ _ _ _ _ _ _ h2 (hbD i hi)).2.1
  refine⟨_,rfl,⟨(List.range len).map X,⟨some a,m,by simp,by simpa using hl,by unfold maxLen at hm;omega,fun k hk=>?_⟩,by simpa using hlen⟩,fun W' hB sp hsp=>?_⟩
  ·have hk':k < len:=by simpa using hk
   obtain⟨w1,w2⟩:=hX k (by omega);obtain⟨_,h1,h2⟩:=World.cells?_some w2;have hpos:=E.pos;have hspot:a.spot=none:=by
    obtain⟨_,h1,h2⟩:=World.cells?_some (hX 0 (by omega)).2;have h3:=h2 0 hpos;rw[List.getElem?_eq_getElem (by omega:0 < (E.enc (X 0)).length)]at h3;have:=World.cell?_spot h3;simpa[Addr.add]using this
   obtain⟨b,o,s⟩:=a;obtain rfl:s=none:=hspot;refine⟨b,o,rfl,fun i hi=>?_,by simpa using w1⟩;simp only[List.getElem_map,List.getElem_range]at hi ⊢;have h3:=h2 i (by omega);rw[List.getElem?_eq_getElem hi]at h3;rw[←h3];simp only[add_plain]
  ·by_cases hs:sp a.block=true
   ·refine shut_slice_whole_cells ht hb hl hm hs D Pl (fun i hi=>?_);rw[hc];obtain⟨cs',h1,h2⟩:=hx i hi;obtain⟨_,_,h3⟩:=hE _ _ _ _ _ _ _ h2 (hbD i hi);obtain⟨k,hk⟩:=h3 W' 0 sp true;exact⟨cs',k,cells_below hB h1,hk⟩
   ·obtain rfl:m=0:=by
     rcases Nat.eq_zero_or_pos m with h0|h0
     ·exact h0
     ·exfalso;refine hs (hsp (.cell a.block (a.off + 0)) (List.mem_append_left _ (List.mem_map.2 ⟨0,List.mem_range.2 ?_,rfl⟩)));have:=E.pos;rw[hc];exact Nat.mul_pos h0 this
    obtain rfl:len=0:=by omega
    have:=shut_slice_cells (enc:=enc) (w:=W') (base:=0) (spare:=sp) (held:=true) ht hb hl hm (by simpa using hs) D Pl (fun i hi=>absurd hi (Nat.not_lt_zero _));simpa using this
end
instance:Inhabited Blk:=⟨⟨0,ByteArray.empty⟩⟩
theorem str_read{H:Type}{enc:TypeId×Value→H}{P:Program}{W:World}{base:Nat}{sp:Nat→Bool}{held:Bool}{n:Nat}{t:TypeId}{cs:List Value}{y:DataW H×List MemPlace}(ht:P.underlying t=some .string)
 (h:DataW.trod enc P W base sp held n t cs=some y) (hy:Rows.uptoBulk y.1≤1048576):
 ∃s:ByteArray,cs=[.string s]∧y.2=[]∧strOk s∧∀(W':World) (base':Nat) (sp':Nat→Bool) (held':Bool) (m:Nat),DataW.trod enc P W' base' sp' held' (m + 1) t cs=some y:=by
 obtain⟨s,rfl,rfl,h1⟩:=DataW.trod_string ht h;refine⟨s,rfl,rfl,?_,fun W' base' sp' held' m=>by simp[DataW.trod,ht,h1]⟩;simp only[Rows.uptoBulk]at hy;have:s.data.toList.length=s.size:=by simp
 unfold strOk;omega
theorem int_read{H:Type}{enc:TypeId×Value→H}{P:Program}{W:World}{base:Nat}{sp:Nat→Bool}{held:Bool}{n:Nat}{t:TypeId}{k:IntKind}{cs:List Value}{y:DataW H×List MemPlace}(ht:P.underlying t=some (.int k))
 (h:DataW.trod enc P W base sp held n t cs=some y):
 ∃z:Int,cs=[.int k z]∧y.2=[]∧(Lit.int k z).wf=true∧∀(W':World) (base':Nat) (sp':Nat→Bool) (held':Bool) (m:Nat),DataW.trod enc P W' base' sp' held' (m + 1) t cs=some y:=by
 obtain⟨z,rfl,rfl,h1⟩:=DataW.trod_int ht h;exact⟨z,rfl,rfl,h1,fun W' base' sp' held' m=>by simp[DataW.trod,ht,h1]⟩
theorem len2{α:Type}{cs:List α}(h:cs.length=2):∃c0 c1,cs=[c0,c1]:=by
 match cs,h with
 |[c0,c1],_=>exact⟨c0,c1,rfl⟩
section
variable {H:Type} {enc:TypeId×Value→H} {P:Program} {w:World} {base:Nat} {spare:Nat→Bool} {held:Bool}
end
theorem jkr:Tryz.prog.cellsOf 160=2:=by kernel_rfl
theorem cellsDev:Tryz.prog.cellsOf 25=5:=by kernel_rfl
theorem cellsStr:Tryz.prog.cellsOf 9=1:=by kernel_rfl
theorem cellsU32:Tryz.prog.cellsOf 22=1:=by kernel_rfl
theorem blk_elem{H:Type}(enc:TypeId×Value→H):ElemR enc Tryz.prog blkE 160:=by
 intro W base sp held n cs y h hy;obtain⟨y0,y1,n',rfl,hl,h0,h1⟩:=trod_struct2 Tryz.underlying160 h;simp only[Rows.uptoBulk,Rows.uptoBulkAll]at hy;obtain⟨z,e0,p0,k0,r0⟩:=int_read Tryz.underlying22 h0;obtain⟨v,e1,p1,k1,r1⟩:=str_read Tryz.underlying9 h1 (by omega);rw[jkr]at hl;obtain⟨c0,c1,rfl⟩:=len2 hl;have e0':[c0]=[Value.int .u32 z]:=by rw[←e0,cellsU32];rfl
 have e1':[c1]=[Value.string v]:=by rw[←e1,cellsStr];rfl
 obtain rfl:c0= .int .u32 z:=by simpa using e0'
 obtain rfl:c1= .string v:=by simpa using e1'
 have kz:0≤z∧z≤4294967295:=by have:=k0;simp[Lit.wf,IntKind.min,IntKind.max,IntKind.signed,IntKind.bits]at this;omega
 refine⟨⟨⟨z,v⟩,⟨kz,k1⟩,rfl⟩,by simp[p0,p1],fun W' base' sp' held'=>⟨0 + 1 + 1,?_⟩⟩;exact trod_struct2_mk Tryz.underlying160 (by rw[jkr];rfl) (r0 W' base' sp' held' 0) (r1 W' base' sp' held' 0)
end Go.Proofs.YtpaohkkhejpgjaaGreatDoor
