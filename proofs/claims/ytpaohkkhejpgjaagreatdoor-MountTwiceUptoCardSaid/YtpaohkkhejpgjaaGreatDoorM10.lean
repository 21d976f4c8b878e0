/- Texts of the proof: Bd. -/
import Derived.Test.YtpaohkkhejpgjaaGreatDoorM9
import Derived.Great.BuildSlice
set_option linter.all false
set_option maxRecDepth 100000
set_option maxHeartbeats 8000000
namespace Go.Proofs.YtpaohkkhejpgjaaGreatDoor
open Go Go.RowKit
theorem jar{P:Program}{ops:Array Oper}{rest:List Oper}{d:Option Tmp}{parts:Array (Nat×Operand)}{t:TypeId}{p:String}{af:Array Edge}{g:Option (Nat×Bool)}{a:Act}{w:World}{Q:Exit→Act→World→Prop}(ty:TypeId)
 (h:wpList P ops Q (⟨d, .build ty parts,t,p,af,g⟩::rest) a w):wpList P ops Q (⟨d, .build ty parts,t,p,af,g⟩::rest) a w:=h
theorem jbv{P:Program}{ops:Array Oper}{rest:List Oper}{d:Option Tmp}{x:Operand}{t:TypeId}{p:String}{af:Array Edge}{g:Option (Nat×Bool)}{a:Act}{w:World}{Q:Exit→Act→World→Prop}(ty:TypeId)
 (h:wpList P ops Q (⟨d, .load ty x,t,p,af,g⟩::rest) a w):wpList P ops Q (⟨d, .load ty x,t,p,af,g⟩::rest) a w:=h
theorem jam{P:Program}{ops:Array Oper}{rest:List Oper}{d:Option Tmp}{x v:Operand}{t:TypeId}{p:String}{af:Array Edge}{g:Option (Nat×Bool)}{a:Act}{w:World}{Q:Exit→Act→World→Prop}(ty:TypeId)
 (h:wpList P ops Q (⟨d, .store ty x v,t,p,af,g⟩::rest) a w):wpList P ops Q (⟨d, .store ty x v,t,p,af,g⟩::rest) a w:=h
theorem jah{P:Program}{ops:Array Oper}{rest:List Oper}{o:Oper}{a:Act}{w:World}{Q:Exit→Act→World→Prop}(hg:o.guard=none)(t:TypeId)(parts:Array (Nat×Operand))(ho:o.op= .build t parts)
 (vs:List (Nat×Value)) (hp:parts.toList.map (fun p=>(p.1,a.eval p.2))=vs) (cells:Array Value) (hc:P.built t vs=some cells)
 (h:wpList P ops Q rest (a.put o.dst (.agg cells)) w):wpList P ops Q (o::rest) a w:=by
 have hp':(parts.map fun(i,x)=>(i,a.eval x)).toList=vs:=by rw[Array.toList_map,←hp]
 refine wpList_build hg t parts ho (by rw[hp',hc];rfl) ?_;rw[hp',hc];exact h
theorem jf8{P:Program}{ops:Array Oper}{rest:List Oper}{d:Option Tmp}{parts:Array (Nat×Operand)}{t:TypeId}{p:String}{af:Array Edge}{g:Option (Nat×Bool)}{a:Act}{w:World}{Q:Exit→Act→World→Prop}(ty:TypeId)(n:Nat)
 (h:wpList P ops Q (⟨d, .buildSlice ty n parts,t,p,af,g⟩::rest) a w):wpList P ops Q (⟨d, .buildSlice ty n parts,t,p,af,g⟩::rest) a w:=h
theorem lit32a(l:List Int)(h:l.length=32):∃x0 x1 x2 x3 x4 x5 x6 x7 x8 x9 x10 x11 x12 x13 x14 x15 x16 x17 x18 x19 x20 x21 x22 x23 x24 x25 x26 x27 x28 x29 x30 x31,l=[x0,x1,x2,x3,x4,x5,x6,x7,x8,x9,x10,x11,x12,x13,x14,x15,x16,x17,x18,x19,x20,x21,x22,x23,x24,x25,x26,x27,x28,x29,x30,x31]:=by
 match l,h with
 |[x0,x1,x2,x3,x4,x5,x6,x7,x8,x9,x10,x11,x12,x13,x14,x15,x16,x17,x18,x19,x20,x21,x22,x23,x24,x25,x26,x27,x28,x29,x30,x31],_=>exact⟨x0,x1,x2,x3,x4,x5,x6,x7,x8,x9,x10,x11,x12,x13,x14,x15,x16,x17,x18,x19,x20,x21,x22,x23,x24,x25,x26,x27,x28,x29,x30,x31,rfl⟩
theorem jgp(n:Int)(hh:List Int)(h:hh.length=32):Tryz.prog.built 40 [(1, .int .u32 n),(2, .agg (hashV hh).toArray)]=some (kidE.enc ⟨ByteArray.empty,n,hh⟩).toArray:=by
 obtain⟨x0,x1,x2,x3,x4,x5,x6,x7,x8,x9,x10,x11,x12,x13,x14,x15,x16,x17,x18,x19,x20,x21,x22,x23,x24,x25,x26,x27,x28,x29,x30,x31,rfl⟩:=lit32a hh h;kernel_rfl
theorem fold_set:∀(l:List Value) (k:Nat) (cs:Array Value) (i:Nat),((l.zipIdx k).foldl (fun cs (x:Value×Nat)=>cs.setIfInBounds (0 + x.2) x.1) cs)[i]? =if k≤i∧i < k + l.length∧i < cs.size then l[i - k]? else cs[i]?
 |[],k,cs,i=>by
  rw[if_neg (by simp;omega)];rfl
 |v::l,k,cs,i=>by
  rw[List.zipIdx_cons,List.foldl_cons,fold_set l (k + 1) _ i];simp only[Nat.zero_add,Array.size_setIfInBounds,List.length_cons,Array.getElem?_setIfInBounds];by_cases h:k=i
  ·subst h;rw[if_neg (by omega),if_pos rfl];by_cases h2:k < cs.size
   ·rw[if_pos h2,if_pos (by omega)];simp
   ·rw[if_neg h2,if_neg (by omega),Array.getElem?_eq_none (by omega)]
  ·rw[if_neg h];by_cases h2:k + 1≤i∧i < k + 1 + l.length∧i < cs.size
   ·rw[if_pos h2,if_pos (by omega),show i - k=(i - (k + 1)) + 1 by omega];rfl
   ·rw[if_neg h2,if_neg (by omega)]
theorem fill_one(place:Nat→Option (Nat×Nat))(cells:Array Value)(v:Value)(sz:Nat)(hp:place 0=some (0,sz))(hv:v.cells.size=sz)(hc:cells.size=sz):Instr.fill place cells [(0,v)]=some v.cells:=by
 unfold Instr.fill Instr.fill;rw[hp];simp only;rw[if_neg (by rw[hv,hc];simp)];congr 1
 apply Array.ext_getElem?;intro i;have h:=fold_set v.cells.toList 0 cells i;rw[←Array.foldl_toList,Array.toList_zipIdx,h];by_cases hi:i < sz
 ·rw[if_pos (by simp;omega)];simp
 ·rw[if_neg (by omega),Array.getElem?_eq_none (by omega),Array.getElem?_eq_none (by omega)]
/-! The same with the cells under a letter of their own (the walk would take a list's array apart). -/
theorem jae{P:Program}{ops:Array Oper}{rest:List Oper}{o:Oper}{a:Act}{w:World}{Q:Exit→Act→World→Prop}(hgd:o.guard=none)(ty:TypeId)(x:Operand)(ho:o.op= .load ty x)
 (b i:Nat) (hx:a.eval x= .pointer (some ⟨b,i,none⟩)) (vs:List Value) (d:TypeDesc) (hat:At w b i vs)
 (hu:P.underlying ty=some d) (hd:(match d with| .struct _| .array _ _=>true|_=>false)=true) (hi:(P.info? ty).map (·.size)=some vs.length) (arr:Array Value) (ha:vs.toArray=arr)
 (h:wpList P ops Q rest (a.put o.dst (.agg arr)) w):wpList P ops Q (o::rest) a w:=by
 subst ha;exact jai hgd ty x ho b i hx vs d hat hu hd hi h
/-! In a region that draws its order and reads alone. -/
theorem jh9{P:Program}{K:Act→Prop}{o:Oper}{a:Act}{w:World}(ty:TypeId)(x:Operand)(ho:o.op= .load ty x)
 (b i:Nat) (hx:a.eval x= .pointer (some ⟨b,i,none⟩)) (vs:List Value) (d:TypeDesc) (hat:At w b i vs)
 (hu:P.underlying ty=some d) (hd:(match d with| .struct _| .array _ _=>true|_=>false)=true) (hi:(P.info? ty).map (·.size)=some vs.length) (arr:Array Value) (ha:vs.toArray=arr)
 (h:K (a.put o.dst (.agg arr))):o.quiet P a (fun w'=>∃n,w'=w.drewN n) K:=by
 subst ha;refine⟨.agg vs.toArray,?_,h⟩;rintro _ ⟨n,rfl⟩;have hr:=jas (P:=P) (w.drewN n) b i ty vs d hat hu hd hi;unfold Oper.quietAt execOp;simp only[ho,hx,Instr.loadAt,Instr.sureAddr,Sem.run_bind,Sem.run_pure,Result.andThen_ok,hr];exact⟨rfl,rfl⟩
theorem je1{P:Program}{ops:Array Oper}{rest:List Oper}{o:Oper}{a:Act}{w:World}{Q:Exit→Act→World→Prop}(hg:o.guard=none)(t e:TypeId)(x:Operand)(ho:o.op= .buildSlice t 1 #[(0,x)])
 (vs:List Value) (hx:a.eval x= .agg vs.toArray) (sz:Nat) (hu:P.underlying t=some (.slice e)) (hi:∃ie z,P.info? e=some ie∧ie.zero=some z∧ie.size=sz∧z.cells.size=sz) (hs:vs.length=sz) (h0:0 < sz) (h1:sz≤1000)
 (h:wpList P ops Q rest (a.put o.dst (.slice (some ⟨w.heap.size,0,none⟩) 1 1)) (w.alloc (.cells vs.toArray e))):wpList P ops Q (o::rest) a w:=by
 obtain⟨ie,z,h2,h3,h4,h5⟩:=hi;refine wpList_buildSlice hg t e 1 _ ho vs.toArray ie z hu h2 h3 (by rw[h4];omega) (by rw[h4];omega) ?_ h;have:(Array.map (fun x=>match x with|(i,x)=>(i,a.eval x)) #[(0,x)]).toList=[(0,Value.agg vs.toArray)]:=by simp[hx]
 rw[this];exact fill_one _ _ _ sz (by simp[h4]) (by simp[Value.cells,hs]) (by simp[h4])
theorem jdn{P:Program}{ops:Array Oper}{rest:List Oper}{o:Oper}{a:Act}{w:World}{Q:Exit→Act→World→Prop}(hg:o.guard=none)(t e:TypeId)(x:Operand)(ho:o.op= .buildSlice t 1 #[(0,x)])
 (arr:Array Value) (hx:a.eval x= .agg arr) (sz:Nat) (hu:P.underlying t=some (.slice e)) (hi:∃ie z,P.info? e=some ie∧ie.zero=some z∧ie.size=sz∧z.cells.size=sz) (hs:arr.size=sz) (h0:0 < sz) (h1:sz≤1000) (H:Nat) (hH:w.heap.size=H)
 (h:wpList P ops Q rest (a.put o.dst (.slice (some ⟨H,0,none⟩) 1 1)) (w.alloc (.cells arr e))):wpList P ops Q (o::rest) a w:=by
 subst hH;exact je1 hg t e x ho arr.toList (by simpa using hx) sz hu hi (by simpa using hs) h0 h1 (by simpa using h)
end Go.Proofs.YtpaohkkhejpgjaaGreatDoor
