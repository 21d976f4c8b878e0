/- Texts of the proof: B0 D0 Pk Pk2. -/
import Derived.Test.YtpaohkkhejpgjaaGreatDoorProg
import Derived.WalkKit
import Derived.Handy
import Derived.WalkLawsBesides
import Derived.WalkSpells
import Derived.Lib.Hide
import Derived.Deep.QuietTactic
import Derived.BigQuiet
import Derived.StillTailTactics
import Derived.Deep.LoopGhost
import Derived.Deep.DeepCutAuto
import Derived.Deep.RegionHeld3
import Derived.Deep.RegionWith
import Derived.Sort.Walk0
import Derived.Test.YtpaohkkhejpgjaaGreatDoorShelf
import Derived.Laws.LoneSync
import Derived.Laws.BytesArg
set_option linter.all false
set_option maxRecDepth 100000
set_option maxHeartbeats 8000000
namespace Go.Proofs.YtpaohkkhejpgjaaGreatDoor
open Go Go.RowKit
def At(w:World)(b o:Nat)(vs:List Value):Prop:=∀i (h:i < vs.length),w.cell? ⟨b,o + i,none⟩=some vs[i]
theorem At.cell{w:World}{b o:Nat}{vs:List Value}(h:At w b o vs)(i:Nat)(v:Value)(hv:vs[i]? =some v):w.cell? ⟨b,o + i,none⟩=some v:=by
 obtain⟨hi,rfl⟩:=List.getElem?_eq_some_iff.1 hv;exact h i hi
theorem At.lt{w:World}{b o:Nat}{vs:List Value}(h:At w b o vs)(hv:vs≠[]):b < w.heap.size:=by
 have h0:0 < vs.length:=List.length_pos_iff.2 hv;exact block_lt_of_cell (h 0 h0)
theorem At.below{B:Nat}{w w':World}{b o:Nat}{vs:List Value}(h:At w b o vs)(hb:Below B w w')(hB:w.heap.size≤B):At w' b o vs:=by
 intro i hi;have:=h i hi;rw[hb.cell (p:=⟨b,o + i,none⟩) (by have:=block_lt_of_cell this;simp at this;show b < B;omega)];exact this
theorem At.left{w:World}{b o:Nat}{vs us:List Value}(h:At w b o (vs ++ us)):At w b o vs:=by
 intro i hi;have:=h i (by simp;omega)
 rwa[List.getElem_append_left hi]at this
theorem At.right{w:World}{b o:Nat}{vs us:List Value}(h:At w b o (vs ++ us)):At w b (o + vs.length) us:=by
 intro i hi;have:=h (vs.length + i) (by simp;omega);rw[List.getElem_append_right (by omega)]at this;simpa[Nat.add_assoc]using this
structure Enc(α:Type) where
 sz:Nat
 enc:α→List Value
 wf:α→Prop
 len:∀x,wf x→(enc x).length=sz
 one:∀x,wf x→∀u∈enc x,u.oneCell'=true
 pos:0 < sz
def Row{α:Type}(E:Enc α)(w:World)(A:Option Addr)(xs:List α):Prop:=
 ∀k (h:k < xs.length),∃b o,A=some ⟨b,o,none⟩∧At w b (o + k * E.sz) (E.enc xs[k])∧E.wf xs[k]
def Sl{α:Type}(E:Enc α)(w:World)(v:Value)(xs:List α):Prop:=
 ∃A c,v= .slice A xs.length c∧xs.length≤c∧c≤9223372036854775807∧Row E w A xs
section
variable {α:Type} {E:Enc α} {w w':World} {A:Option Addr} {xs:List α} {v:Value} {B:Nat}
theorem Row.below(h:Row E w A xs)(hb:Below B w w')(hB:w.heap.size≤B):Row E w' A xs:=fun k hk=>
 let ⟨b,o,e,h1,h2⟩:=h k hk
 ⟨b,o,e,h1.below hb hB,h2⟩
theorem Sl.below(h:Sl E w v xs)(hb:Below B w w')(hB:w.heap.size≤B):Sl E w' v xs:=
 let ⟨A,c,e,h1,h2,h3⟩:=h
 ⟨A,c,e,h1,h2,h3.below hb hB⟩
theorem Row.nil(w:World)(A:Option Addr):Row E w A []:=fun k h=>by simp at h
theorem Sl.nil(w:World):Sl E w (.slice none 0 0) []:=⟨none,0,rfl,Nat.le_refl _,by omega,Row.nil _ _⟩
theorem Row.wf(h:Row E w A xs):∀x∈xs,E.wf x:=by
 intro x hx;obtain⟨k,hk,rfl⟩:=List.getElem_of_mem hx;obtain⟨_,_,_,_,h2⟩:=h k hk;exact h2
theorem Sl.wf(h:Sl E w v xs):∀x∈xs,E.wf x:=by
 obtain⟨_,_,_,_,_,h3⟩:=h;exact h3.wf
theorem Row.at_{b o:Nat}(h:Row E w (some ⟨b,o,none⟩) xs)(k:Nat)(hk:k < xs.length):At w b (o + k * E.sz) (E.enc xs[k]):=by
 obtain⟨b',o',e,h1,_⟩:=h k hk;injection e with e;injection e with e1 e2 _;subst e1 e2;exact h1
theorem Row.addr(h:Row E w A xs)(hne:xs≠[]):∃b o,A=some ⟨b,o,none⟩∧b < w.heap.size:=by
 have h0:0 < xs.length:=List.length_pos_iff.2 hne;obtain⟨b,o,e,h1,h2⟩:=h 0 h0;refine⟨b,o,e,h1.lt ?_⟩;intro hn;have:=E.len _ h2;rw[hn]at this;have:=E.pos;simp at *;omega
theorem Row.mk{b o:Nat}(h:∀k (hk:k < xs.length),At w b (o + k * E.sz) (E.enc xs[k])∧E.wf xs[k]):Row E w (some ⟨b,o,none⟩) xs:=fun k hk=>⟨b,o,rfl,h k hk⟩
theorem jfg(E:Enc α):∀(xs:List α),(∀x∈xs,E.wf x)→∀k (hk:k < xs.length) i,i < E.sz→(xs.flatMap E.enc)[k * E.sz + i]? =(E.enc xs[k])[i]?
 |[],_,k,hk,_,_=>by simp at hk
 |x::xs,hw,0,_,i,hi=>by
  have hx:=E.len x (hw x (by simp));simp only[List.flatMap_cons,Nat.zero_mul,Nat.zero_add,List.getElem_cons_zero];rw[List.getElem?_append_left (by omega)]
 |x::xs,hw,k + 1,hk,i,hi=>by
  have hx:=E.len x (hw x (by simp));have ih:=jfg E xs (fun y hy=>hw y (by simp[hy])) k (by simpa using hk) i hi;simp only[List.flatMap_cons,List.getElem_cons_succ];rw[List.getElem?_append_right (by rw[hx,Nat.succ_mul];omega),hx];rw[←ih];congr 1;rw[Nat.succ_mul];omega
theorem jbb(E:Enc α)(xs:List α)(hw:∀x∈xs,E.wf x):(xs.flatMap E.enc).length=xs.length * E.sz:=by
 induction xs with
 |nil=>simp
 |cons x xs ih=>
  have hx:=E.len x (hw x (by simp));simp only[List.flatMap_cons,List.length_append,List.length_cons,hx,ih (fun y hy=>hw y (by simp[hy])),Nat.succ_mul];omega
theorem jh8(E:Enc α)(xs:List α)(hw:∀x∈xs,E.wf x):∀u∈xs.flatMap E.enc,u.oneCell'=true:=by
 intro u hu;obtain⟨x,hx,hu⟩:=List.mem_flatMap.1 hu;exact E.one x (hw x hx) u hu
theorem jct{base n:Nat}{e:TypeId}(h:w.ownsRow base e E.sz v n (xs.flatMap E.enc))(hn:n=xs.length)(hw:∀x∈xs,E.wf x):Sl E w v xs:=by
 subst hn;obtain⟨h1,h2⟩:=h;rcases h2 with⟨rfl,h0⟩|⟨g,cap,cur,rfl,hg,hh,hr,hc,hcur,ht⟩
 ·have:xs=[]:=List.length_eq_zero_iff.1 h0;subst this;exact Sl.nil w
 ·refine⟨_,_,rfl,hr,by unfold maxLen at hc;omega,Row.mk (fun k hk=>⟨?_,hw _ (List.getElem_mem hk)⟩)⟩;intro i hi;have hsz:=E.len _ (hw _ (List.getElem_mem hk));have hk1:k * E.sz + E.sz≤xs.length * E.sz:=by rw[←Nat.succ_mul];exact Nat.mul_le_mul_right _ hk
  have:=jfg E xs hw k hk i (by omega);rw[cell_of_row w g _ cur e (0,0) hh,Nat.zero_add,←Array.getElem?_toList];rw[←ht,List.getElem?_take,if_pos (by omega)]at this;rw[this,List.getElem?_eq_getElem]
theorem Sl.len_eq{n c:Nat}(h:Sl E w (.slice A n c) xs):n=xs.length∧xs.length≤c∧c≤9223372036854775807∧Row E w A xs:=by
 obtain⟨A',c',e,h1,h2,h3⟩:=h;injection e with e1 e2 e3;subst e1 e2 e3;exact⟨rfl,h1,h2,h3⟩
end
/-! Whole structs loaded. -/
section
variable {P:Program}
theorem jcl(b o i:Nat):(⟨b,o,none⟩:Addr).add i=⟨b,o + i,none⟩:=by unfold Addr.add;split <;>simp_all
theorem jas(w:World)(b o:Nat)(ty:TypeId)(vs:List Value)(d:TypeDesc)(hat:At w b o vs)
 (hu:P.underlying ty=some d) (hd:(match d with| .struct _| .array _ _=>true|_=>false)=true) (hi:(P.info? ty).map (·.size)=some vs.length):
 (loadVar ty ⟨b,o,none⟩).run P w= .ok (.agg vs.toArray) w:=by
 have hl:(loadCells ⟨b,o,none⟩ vs.length).run P w= .ok vs.toArray w:=
  run_loadCells_list (P:=P) w ⟨b,o,none⟩ vs (fun j v hv=>by rw[jcl];exact hat.cell j v hv)
 cases hq:P.info? ty with
 |none=>simp[hq]at hi
 |some i=>
  have hs:i.size=vs.length:=by simpa[hq]using hi
  have hagg:(isAgg ty).run P w= .ok true w:=by
   unfold isAgg;rw[Sem.run_bind,run_underlying hu w];cases d <;>simp_all
  simp[loadVar,Sem.run_bind,hagg,sizeOf,typeInfo,hq,hs,hl]
theorem jai{ops:Array Oper}{rest:List Oper}{o:Oper}{a:Act}{w:World}{Q:Exit→Act→World→Prop}(hgd:o.guard=none)(ty:TypeId)(x:Operand)(ho:o.op= .load ty x)
 (b i:Nat) (hx:a.eval x= .pointer (some ⟨b,i,none⟩)) (vs:List Value) (d:TypeDesc) (hat:At w b i vs)
 (hu:P.underlying ty=some d) (hd:(match d with| .struct _| .array _ _=>true|_=>false)=true) (hi:(P.info? ty).map (·.size)=some vs.length)
 (h:wpList P ops Q rest (a.put o.dst (.agg vs.toArray)) w):wpList P ops Q (o::rest) a w:=
 wpList_plain hgd fun _ hK=>by
  unfold Oper.wp execOp;simp only[ho,hx,Instr.loadAt,Instr.sureAddr,Sem.run_bind,Sem.run_pure,Result.andThen_ok,jas w b i ty vs d hat hu hd hi];exact hK _ _ h
end
/-! Whole structs and arrays stored. -/
section
variable {P:Program}
theorem jdw(w:World)(g o:Nat)(ty t:TypeId)(vs:List Value)(cur:Array Value)(hg:w.heap[g]? =some (.cells cur t (0,0)))(hl:o + vs.length≤cur.size)
 (h1:∀v∈vs,v.oneCell'=true) (hi:(P.info? ty).map (·.size)=some vs.length):
 (storeVar ty ⟨g,o,none⟩ (.agg vs.toArray)).run P w= .ok () (w.setRow g (cur.toList.take o ++ vs ++ cur.toList.drop (o + vs.length)).toArray):=by
 have hs:=run_storeCells_at (P:=P) g o t vs 0 cur w hg (by simpa using hl) h1;cases hq:P.info? ty with
 |none=>simp[hq]at hi
 |some i=>
  have hsz:i.size=vs.length:=by simpa[hq]using hi
  simp only[Nat.add_zero]at hs;simp[storeVar,Sem.run_bind,sizeOf,typeInfo,hq,hsz,Value.cells,hs]
theorem jaf{ops:Array Oper}{rest:List Oper}{o:Oper}{a:Act}{w:World}{Q:Exit→Act→World→Prop}(hgd:o.guard=none)(ty:TypeId)(x v:Operand)(ho:o.op= .store ty x v)
 (g i:Nat) (hx:a.eval x= .pointer (some ⟨g,i,none⟩)) (vs:List Value) (hv:a.eval v= .agg vs.toArray) (t:TypeId) (cur:Array Value) (hg:w.heap[g]? =some (.cells cur t (0,0)))
 (hl:i + vs.length≤cur.size) (h1:∀v∈vs,v.oneCell'=true) (hi:(P.info? ty).map (·.size)=some vs.length)
 (h:wpList P ops Q rest (a.put o.dst undef) (w.setRow g (cur.toList.take i ++ vs ++ cur.toList.drop (i + vs.length)).toArray)):wpList P ops Q (o::rest) a w:=
 wpList_plain hgd fun _ hK=>by
  unfold Oper.wp execOp;simp only[ho,hx,hv,Instr.storeAt,Instr.sureAddr,Sem.run_bind,Sem.run_pure,Result.andThen_ok,jdw w g i ty t vs cur hg hl h1 hi];exact hK _ _ h
theorem jd9{ops:Array Oper}{rest:List Oper}{o:Oper}{a:Act}{w:World}{Q:Exit→Act→World→Prop}(hgd:o.guard=none)(ty:TypeId)(x v:Operand)(ho:o.op= .store ty x v)
 (g:Nat) (hx:a.eval x= .pointer (some ⟨g,0,none⟩)) (cs:Array Value) (hv:a.eval v= .agg cs) (t:TypeId) (hg:w.heap[g]? =some (.cells cs t (0,0)))
 (h1:∀v∈cs.toList,v.oneCell'=true) (hi:(P.info? ty).map (·.size)=some cs.size)
 (h:wpList P ops Q rest (a.put o.dst undef) w):wpList P ops Q (o::rest) a w:=by
 refine jaf hgd ty x v ho g 0 hx cs.toList (by simpa using hv) t cs hg (by simp) h1 (by simpa using hi) ?_;have:(cs.toList.take 0 ++ cs.toList ++ cs.toList.drop (0 + cs.toList.length)).toArray=cs:=by
  rw[List.drop_of_length_le (by simp)];simp
 rw[this,setRow_self w g cs t (0,0) hg];exact h
end
theorem setRow_alloc(w:World)(old cs:Array Value)(t:TypeId):(w.alloc (.cells old t)).setRow w.heap.size cs=w.alloc (.cells cs t):=by
 unfold World.setRow World.alloc;congr 1
 apply Array.ext_getElem?;intro k;simp only[Array.getElem?_modify,Array.getElem?_push];by_cases hk:w.heap.size=k
 ·subst hk;simp
 ·have hk2:¬k=w.heap.size:=fun e=>hk e.symm
  simp[hk,hk2]
theorem bcell{W w1:World}(hb:Below W.heap.size W w1):(∀b o,b < W.heap.size→w1.cell? ⟨b,o,none⟩=W.cell? ⟨b,o,none⟩)∧(∀b o,b < W.heap.size→w1.frozen? ⟨b,o,none⟩=W.frozen? ⟨b,o,none⟩):=
 ⟨fun b o h=>hb.cell (p:=⟨b,o,none⟩) h,fun b o h=>hb.frozen (p:=⟨b,o,none⟩) h⟩
theorem Below.step{w w1 w2:World}(h:Below w.heap.size w w1)(k:Below w1.heap.size w1 w2):Below w.heap.size w w2:=h.trans (k.mono h.size)
theorem Below.drewN'{B:Nat}{a w:World}(h:Below B a w)(n:Nat):Below B a (w.drewN n):=⟨h.os,h.tape,h.output,h.size,h.block⟩
structure Item where
 key:ByteArray
 val:ByteArray
structure Kid where
 key:ByteArray
 num:Int
 hash:List Int
structure Vol where
 name:ByteArray
 kind:Int
 src:ByteArray
 born:Int
 root:Int
 hash:List Int
structure Node where
 kind:Int
 items:List Item
 kids:List Kid
 vols:List Vol
structure Cel where
 num:Int
 data:ByteArray
 refs:Int
def strOk(s:ByteArray):Prop:=s.size≤140737488355328
def jd7(l:List Int):Prop:=l.length=32∧∀x∈l,0≤x∧x≤255
def hashV(l:List Int):List Value:=l.map (Value.int .u8)
theorem je2(l:List Int):∀u∈hashV l,u.oneCell'=true:=by
 intro u hu;simp only[hashV,List.mem_map]at hu;obtain⟨x,_,rfl⟩:=hu;rfl
def itemE:Enc Item where
 sz:=2
 enc x:=[.string x.key, .string x.val]
 wf x:=strOk x.key∧strOk x.val
 len _ _:=rfl
 one x _ u hu:=by simp at hu;rcases hu with rfl|rfl <;>rfl
 pos:=by decide
def u32Ok(n:Int):Prop:=0≤n∧n≤4294967295
def kidE:Enc Kid where
 sz:=34
 enc x:=[.string x.key, .int .u32 x.num] ++ hashV x.hash
 wf x:=strOk x.key∧u32Ok x.num∧jd7 x.hash
 len x h:=by simp[hashV,h.2.2.1]
 one x _ u hu:=by
  rcases List.mem_append.1 hu with hu|hu
  ·simp at hu;rcases hu with rfl|rfl <;>rfl
  ·exact je2 _ u hu
 pos:=by decide
def volE:Enc Vol where
 sz:=37
 enc x:=[.string x.name, .int .u8 x.kind, .string x.src, .int .u64 x.born, .int .u32 x.root] ++ hashV x.hash
 wf x:=strOk x.name∧(0≤x.kind∧x.kind≤255)∧strOk x.src∧(0≤x.born∧x.born≤18446744073709551615)∧u32Ok x.root∧jd7 x.hash
 len x h:=by simp[hashV,h.2.2.2.2.2.1]
 one x _ u hu:=by
  rcases List.mem_append.1 hu with hu|hu
  ·simp at hu;rcases hu with rfl|rfl|rfl|rfl|rfl <;>rfl
  ·exact je2 _ u hu
 pos:=by decide
def celE:Enc Cel where
 sz:=3
 enc x:=[.int .u32 x.num, .string x.data, .int .i64 x.refs]
 wf x:=u32Ok x.num∧strOk x.data∧(-9223372036854775808≤x.refs∧x.refs≤9223372036854775807)
 len _ _:=rfl
 one x _ u hu:=by simp at hu;rcases hu with rfl|rfl|rfl <;>rfl
 pos:=by decide
def u32E:Enc Int where
 sz:=1
 enc x:=[.int .u32 x]
 wf x:=u32Ok x
 len _ _:=rfl
 one x _ u hu:=by simp at hu;subst hu;rfl
 pos:=by decide
/-! Order of texts. -/
def bl(a b:ByteArray):Bool:=Op.bytesLess a.toList b.toList
theorem bl_eq(a b:ByteArray):bl a b=decide (a.data.toList < b.data.toList):=by
 unfold bl;rw[Go.Proofs.bytesLess_eq,ByteArray.toList_eq,ByteArray.toList_eq]
theorem bl_irrefl(a:ByteArray):bl a a=false:=by
 rw[bl_eq];exact decide_eq_false (List.lt_irrefl _)
theorem bl_trans{a b c:ByteArray}(h:bl a b=true)(k:bl b c=true):bl a c=true:=by
 rw[bl_eq,decide_eq_true_eq]at *;exact List.lt_trans h k
theorem jgq{a b:ByteArray}(h:a.data.toList=b.data.toList):a=b:=by
 cases a;cases b;simp at h;subst h;rfl
theorem bl_total{a b:ByteArray}(h:bl a b=false)(k:bl b a=false):a=b:=by
 rw[bl_eq,decide_eq_false_iff_not]at *;exact jgq (List.le_antisymm (List.not_lt.1 k) (List.not_lt.1 h))
theorem bl_asymm{a b:ByteArray}(h:bl a b=true):bl b a=false:=by
 cases hb:bl b a with
 |false=>rfl
 |true=>have:=bl_trans h hb;rw[bl_irrefl]at this;cases this
def beqB(a b:ByteArray):Bool:=a.toList==b.toList
theorem jga(a b:ByteArray):beqB a b=true ↔ a=b:=by
 unfold beqB;rw[beq_iff_eq,ByteArray.toList_eq,ByteArray.toList_eq];exact⟨fun h=>jgq h,fun h=>by rw[h]⟩
/-! What is asked of items. -/
def jdx(k v:ByteArray):Bool:= !k.toList.isEmpty && (decide (k.size≤48) && decide (v.size≤160))
def okAt(xs:List Item)(k:Nat):Prop:=∀h:k < xs.length,jdx xs[k].key xs[k].val=true∧(0 < k→∀h':k - 1 < xs.length,bl xs[k - 1].key xs[k].key=true)
def jjc:List Item→Bool
 |[]=>true
 |[_]=>true
 |a::b::r=>bl a.key b.key && jjc (b::r)
def jfr(xs:List Item):Bool:=xs.all (fun x=>jdx x.key x.val) && jjc xs
theorem jk8:∀xs:List Item,jjc xs=true ↔ ∀k (h:k + 1 < xs.length),bl xs[k].key xs[k + 1].key=true
 |[]=>by simp[jjc]
 |[_]=>by simp[jjc]
 |a::b::r=>by
  rw[jjc,Bool.and_eq_true,jk8 (b::r)];constructor
  ·rintro⟨h,k⟩ i hi;cases i with
   |zero=>exact h
   |succ i=>exact k i (by simpa using hi)
  ·intro h;exact⟨h 0 (by simp),fun k hk=>h (k + 1) (by simpa using hk)⟩
theorem jk9(xs:List Item):jfr xs=true ↔ ∀k,k < xs.length→okAt xs k:=by
 unfold jfr;rw[Bool.and_eq_true,List.all_eq_true,jk8];constructor
 ·rintro⟨h,k⟩ i hi _;refine⟨h _ (List.getElem_mem _),fun h0 h'=>?_⟩;have:=k (i - 1) (by omega);simp only[show i - 1 + 1=i by omega]at this;exact this
 ·intro h;refine⟨fun x hx=>?_,fun k hk=>?_⟩
  ·obtain⟨i,hi,rfl⟩:=List.getElem_of_mem hx;exact(h i hi hi).1
  ·have:=(h (k + 1) hk hk).2 (by omega) (by omega);simpa using this
theorem jjd{xs:List Item}{k:Nat}(hk:k < xs.length)(h:¬okAt xs k):jfr xs=false:=by
 rw[←Bool.not_eq_true];intro hh;exact h ((jk9 xs).1 hh k hk)
theorem ja2{w:World}{g:Nat}{t:TypeId}{cs:Array Value}(h:w.heap[g]? =some (.cells cs t (0,0)))(i:Nat)(u:Value):(w.setCell ⟨g,i,none⟩ u).heap[g]? =some (.cells (cs.setIfInBounds i u) t (0,0)):=heap_setCell_same w g i cs t u h
theorem jap{w w1:World}{g:Nat}(h:w.grownBy w1 (some g))(i:Nat)(u:Value):w.grownBy (w1.setCell ⟨g,i,none⟩ u) (some g):=
 ⟨h.os,h.tape,h.output,by simpa[World.setCell]using h.size,fun k hk hne=>by rw[heap_setCell_other _ _ _ _ (by intro e;exact hne (by rw[e]))];exact h.block k hk hne⟩
theorem jec{w w1:World}{r:Option Nat}(h:w.grownBy w1 r):w.grownBy w1.drew r:=⟨h.os,h.tape,h.output,h.size,h.block⟩
theorem jag{w w1 w2:World}{r:Option Nat}(h:w.grownBy w1 r)(k:w1.grownBy w2 r):w.grownBy w2 r:=
 ⟨k.os.trans h.os,k.tape.trans h.tape,k.output.trans h.output,Nat.le_trans h.size k.size,fun i hi hne=>(k.block i (Nat.lt_of_lt_of_le hi h.size) hne).trans (h.block i hi hne)⟩
theorem take_snoc(s:ByteArray)(k:Nat)(h:k < s.size):s.data.toList.take (k + 1)=s.data.toList.take k ++ [s[k]]:=by
 rw[List.take_succ_eq_append_getElem (by simpa using h)];rfl
theorem add64(w:World)(b o:Nat)(c d:Int)(h:w.cell? ⟨b,o,none⟩=some (.int .u64 c))(hf:w.frozen? ⟨b,o,none⟩=false):
 (callFunc 226 #[.pointer (some ⟨b,o,none⟩), .int .u64 d]).run Tryz.prog w= .ok (.value (.int .u64 (IntKind.u64.wrap (c + d)))) (w.setCell ⟨b,o,none⟩ (.int .u64 (IntKind.u64.wrap (c + d)))):=
 run_call_add (fn:=Tryz.f226) Tryz.func226 (by kernel_rfl) (by kernel_rfl) (by kernel_rfl) .u64 (by kernel_rfl) h hf (by rfl)
theorem meter_add(w:World)(b o:Nat)(c d:Int)(h:w.cell? ⟨b,o,none⟩=some (.int .u64 c))(hf:w.frozen? ⟨b,o,none⟩=false):
 Calls Tryz.prog 116 #[.pointer (some ⟨b,o,none⟩), .int .i64 d] w fun e w'=>∃v u,e= .returned v∧w'=w.setCell ⟨b,o,none⟩ (.int .u64 u):=by
 have ha:=fun d=>add64 w b o c d h hf
 go_enter Tryz.func116,Tryz.ntmps116;go_wp2;go_ret;exact⟨_,_,rfl,rfl⟩
/-! The check sum. -/
def jlu(s:Int):Int:=bits BinOp.xor IntKind.u32 (s * 2 % 4294967296) (bits BinOp.and IntKind.u32 2168537515 (-(s / 2147483648) % 4294967296))
def jcp:Nat→Int→Int
 |0,s=>s
 |k + 1,s=>jcp k (jlu s)
theorem crcRounds_succ(k:Nat):∀s,jcp (k + 1) s=jlu (jcp k s):=by
 induction k with
 |zero=>intro s;rfl
 |succ k ih=>intro s;rw[jcp,ih,jcp]
def crcByte(s x:Int):Int:=jcp 8 (bits BinOp.xor IntKind.u32 s (x % 4294967296 * 16777216 % 4294967296))
def crcOf(l:List UInt8):Int:=l.foldl (fun s b=>crcByte s b.toNat) 0
theorem crcOf_snoc(l:List UInt8)(b:UInt8):crcOf (l ++ [b])=crcByte (crcOf l) b.toNat:=by simp[crcOf]
theorem put_any(w:World)(g:Nat)(s c x:Int)(hg:w.heap[g]? =some (.cells #[.int .u32 s, .int .u64 c] 313 (0,0))):
 Calls Tryz.prog 212 #[.pointer (some ⟨g,0,none⟩), .int .u8 x] w fun e w'=>e= .returned (.tuple #[])∧w.grownBy w' (some g)∧∃c',w'.heap[g]? =some (.cells #[.int .u32 (crcByte s x), .int .u64 c'] 313 (0,0)):=by
 have c0:w.cell? ⟨g,0,none⟩=some (.int .u32 s):=by rw[cell_of_row w g 0 _ _ _ hg];rfl
 have c1:w.cell? ⟨g,1,none⟩=some (.int .u64 c):=by rw[cell_of_row w g 1 _ _ _ hg];rfl
 have f0:w.frozen? ⟨g,0,none⟩=false:=frozen_of_row w g 0 _ _ hg;have f1:w.frozen? ⟨g,1,none⟩=false:=frozen_of_row w g 1 _ _ hg;go_enter Tryz.func212,Tryz.ntmps212;go_wp2_with (go_at_call 116;refine(meter_add _ _ _ _ _ c1 f1).mono ?_;rintro e w' ⟨v,u,rfl,rfl⟩);have h0:=ja2 (ja2 hg 1 (.int .u64 u)) 0 (.int .u32 (bits BinOp.xor IntKind.u32 s (x % 4294967296 * 16777216 % 4294967296)));have g0:=jap (jap (World.grownBy.refl w (some g)) 1 (.int .u64 u)) 0 (.int .u32 (bits BinOp.xor IntKind.u32 s (x % 4294967296 * 16777216 % 4294967296)));have H0:=Lib.hid h0;clear h0;go_loopw [18] (fun i wr=>∃k:Nat,k≤8∧i= .int .i64 k∧w.grownBy wr (some g)∧∃c',wr.heap[g]? =some (.cells #[.int .u32 (jcp k (bits BinOp.xor IntKind.u32 s (x % 4294967296 * 16777216 % 4294967296))), .int .u64 c'] 313 (0,0))) (fun i _=>8 - (intOf i).toNat)
 case atStart=>exact⟨0,by omega,rfl,g0,_,H0.out⟩
 case round=>
  obtain⟨k,hk,rfl,hG,c',hW⟩:=hrel;have HG:=Lib.hid hG;have d0:wr.cell? ⟨g,0,none⟩=some (.int .u32 (jcp k (bits BinOp.xor IntKind.u32 s (x % 4294967296 * 16777216 % 4294967296)))):=by rw[cell_of_row wr g 0 _ _ _ hW];rfl
  have e0:wr.frozen? ⟨g,0,none⟩=false:=frozen_of_row wr g 0 _ _ hW;have HW:=Lib.hid hW;clear hW hG c0 c1 f0 f1 g0;generalize hr:jcp k (bits BinOp.xor IntKind.u32 s (x % 4294967296 * 16777216 % 4294967296))=r at *;have HR:=Lib.hid hr;clear hr;by_cases hlt:k < 8
  ·go_wp2;go_region;go_wp2;refine⟨⟨k + 1,by omega,by go_num,jec (jap HG.out 0 _),c',?_⟩,by simp[intOf];omega⟩;have:=ja2 HW.out 0 (.int .u32 (bits BinOp.xor IntKind.u32 (r * 2 % 4294967296) (bits BinOp.and IntKind.u32 2168537515 (-(r / 2147483648) % 4294967296))));rw[crcRounds_succ,HR.out];exact this
  ·go_wp2;obtain rfl:k=8:=by omega
   go_end0;exact⟨rfl,HG.out,c',by rw[crcByte,HR.out];exact HW.out⟩
theorem sum_any(w:World)(s:ByteArray)(hs:s.size≤9223372036854775807):
 Calls Tryz.prog 146 #[.string s] w fun e w'=>e= .returned (.int .u32 (crcOf s.data.toList))∧Below w.heap.size w w':=by
 go_enter Tryz.func146,Tryz.ntmps146;go_wp2;go_loopw [4,7] (fun _ i wr=>∃k:Nat,k≤s.size∧i= .int .i64 k∧(w.alloc (.cells #[.int .u32 0, .int .u64 0] 313)).grownBy wr (some w.heap.size)∧∃c',wr.heap[w.heap.size]? =some (.cells #[.int .u32 (crcOf (s.data.toList.take k)), .int .u64 c'] 313 (0,0))) (fun _ i _=>s.size - (intOf i).toNat)
 case atStart=>exact⟨0,Nat.zero_le _,rfl,World.grownBy.refl _ _,0,heap_alloc_new _ _⟩
 case round=>
  obtain⟨k,hk,rfl,hG,c',hW⟩:=hrel;have HG:=Lib.hid hG;have HW:=Lib.hid hW;have d0:wr.cell? ⟨w.heap.size,0,none⟩=some (.int .u32 (crcOf (s.data.toList.take k))):=by rw[cell_of_row wr _ 0 _ _ _ hW];rfl
  clear hG hW;by_cases hlt:k < s.size
  ·have hsn:=crcOf_snoc (s.data.toList.take k) s[k];have hts:=take_snoc s k hlt;rw[←hts]at hsn;have HS:=Lib.hid hsn;clear hsn hts;go_wp2_with (go_at_call 212;refine(put_any _ _ _ _ _ HW.out).mono ?_;rintro e w' ⟨rfl,hg1,c1,hw1⟩);refine⟨⟨k + 1,by omega,by go_num,jag HG.out hg1,c1,?_⟩,by simp[intOf];omega⟩;rw[HS.out];exact hw1
  ·obtain rfl:k=s.size:=by omega
   go_wp2;go_ret;refine⟨?_,?_⟩
   ·first|rfl|(rw[List.take_of_length_le (by simp)];rfl)
   ·have h1:Below w.heap.size w (w.alloc (.cells #[.int .u32 0, .int .u64 0] 313)):=(Below.refl _ _).alloc (Nat.le_refl _) _;exact h1.grown HG.out (by simp) (fun k hk=>by injection hk with hk;omega)
#print axioms sum_any
def numL(n:Int)(w:Nat):List Int:=(List.range w).map fun i=>n / 2 ^ (8 * (w - 1 - i)) % 256
def numB(n:Int)(w:Nat):ByteArray:=strOfNums (numL n w)
def jdi(l:List Int):List Value:=l.map (Value.int .u8)
theorem jc0(n:Int)(k:Nat):(numL n k).length=k:=by simp[numL]
theorem numL_get(n:Int)(k i:Nat)(h:i < k):(numL n k)[i]? =some (n / 2 ^ (8 * (k - 1 - i)) % 256):=by
 unfold numL;rw[List.getElem?_map,List.getElem?_range h];rfl
def jc9(n:Int)(k j:Nat):List Int:=List.replicate (k - j) 0 ++ (numL n k).drop (k - j)
theorem numPart_get0(n:Int)(k j:Nat)(h:j < k):(jc9 n k j)[k - 1 - j]? =some 0:=by
 unfold jc9;rw[List.getElem?_append_left (by simp;omega),List.getElem?_replicate,if_pos (by omega)]
theorem jlv(n:Int)(k j:Nat)(h:j < k):(jdi (jc9 n k j)).set (k - 1 - j) (.int .u8 (n / 2 ^ (8 * j) % 256))=jdi (jc9 n k (j + 1)):=by
 unfold jdi;rw[←List.map_set];congr 1
 apply List.ext_getElem?;intro i;rw[List.getElem?_set];have hl:(jc9 n k j).length=k:=by unfold jc9;simp[jc0]
 rw[hl];by_cases hi:k - 1 - j=i
 ·subst hi;rw[if_pos rfl,if_pos (by omega)];unfold jc9;rw[List.getElem?_append_right (by simp;omega),List.length_replicate,List.getElem?_drop,numL_get _ _ _ (by omega),show k - 1 - (k - (j + 1) + (k - 1 - j - (k - (j + 1))))=j by omega]
 ·rw[if_neg hi];unfold jc9;by_cases h2:i < k - (j + 1)
  ·rw[List.getElem?_append_left (by simp;omega),List.getElem?_append_left (by simp;omega),List.getElem?_replicate,List.getElem?_replicate,if_pos (by omega),if_pos (by omega)]
  ·rw[List.getElem?_append_right (by simp;omega),List.getElem?_append_right (by simp;omega),List.length_replicate,List.length_replicate,List.getElem?_drop,List.getElem?_drop];congr 1;omega
theorem u8_info:(Tryz.prog.info? 5).map (fun i=>(i.zero,i.size,i.bytes))=some (some (.int .u8 0),1,1):=by kernel_rfl
theorem len64(x:Int)(w:World)(h0:0≤x)(h1:x≤18446744073709551615):Calls Tryz.prog 206 #[.int .u64 x] w fun e w'=>e= .returned (.int .i64 (Lib.bitLen x.toNat))∧w=w':=
 (Tryz.bits_Len64 x w h0 h1).mono fun _ _ h=>⟨h.1,h.2.symm⟩
theorem jim(s:ByteArray)(w:World)(hs:s.size≤9223372036854775807):Calls Tryz.prog 137 #[.string s, .string ⟨#[0]⟩] w fun e w'=>e= .returned (.string ⟨(Lib.trimRightB s.data.toList 0).toArray⟩)∧w=w':=
 (Tryz.strings_TrimRight_one s 0 (by decide) w hs).mono fun _ _ h=>⟨h.1,h.2.symm⟩
theorem jhd(w:World)(n:Int)(k:Nat)(h0:0≤n)(h1:n≤18446744073709551615)(hk:1≤k)(hk8:k≤8)(hfit:Lib.bitLen n.toNat≤8 * k):
 Calls Tryz.prog 142 #[.int .u64 n, .int .i64 k] w fun e w'=>e= .returned (.tuple #[.string (numB n k), .int .i64 0])∧Below w.heap.size w w':=by
 obtain⟨i0,hi,hz0,hz1,hz2⟩:=info_parts u8_info;go_enter Tryz.func142,Tryz.ntmps142;go_wp2_with (first|(go_at_call 206;refine(len64 _ _ h0 h1).mono ?_;rintro e w' ⟨rfl,rfl⟩)|(at_make;refine wpList_make_full _ rfl (.tmp 21) (.tmp 21) 167 rfl w.heap.size 5 i0 (.int .u8 0) 1 Tryz.underlying167 hi hz0 hz1 .i64 .i64 k k k rfl rfl rfl rfl (by rw[hz2];omega) (by unfold maxLen;omega) (Nat.le_refl _) ?_;intro w1 hown hgr));go_loopw [7,25] (fun _ i wr=>∃j:Nat,j≤k∧i= .int .i64 j∧Below w.heap.size w wr∧wr.ownsRow w.heap.size 5 1 (.slice (some ⟨w.heap.size,0,none⟩) k k) k (jdi (jc9 n k j))) (fun _ i _=>k - (intOf i).toNat)
 case atStart=>
  refine⟨0,Nat.zero_le _,rfl,(Below.refl _ _).grown hgr (Nat.le_refl _) (fun _ h=>by cases h),?_⟩;have:(madeCells (Value.int IntKind.u8 0).cells (k * 1)).toList=jdi (jc9 n k 0):=by
   rw[show(Value.int IntKind.u8 0).cells= #[Value.int IntKind.u8 0]from rfl,toList_madeCells_one];unfold jdi jc9;rw[Nat.mul_one,Nat.sub_zero,List.drop_of_length_le (by rw[jc0];omega)];simp
  rw[this]at hown;exact hown
 case round=>
  obtain⟨j,hj,rfl,hB,hO⟩:=hrel;have HB:=Lib.hid hB;have HO:=Lib.hid hO;have hfz:=fun i=>World.ownsRow.frozenAt hO i
  have hc:=fun i hi=>World.ownsRow.cellAt hO i hi
  clear hB hO;by_cases hlt:j < k
  ·have e1:(k:Int) - 1 - j=((k - 1 - j:Nat):Int):=by omega
   have c1:wr.cell? ⟨w.heap.size,k - 1 - j,none⟩=some (.int .u8 0):=by
    rw[hc _ (by omega),jdi,List.getElem?_map,numPart_get0 n k j hlt];rfl
   have f1:=hfz (k - 1 - j);clear hfz hc;have HE:=Lib.hid e1;clear e1;go_wp2;refine⟨⟨j + 1,by omega,by go_num,HB.out.setCell (Nat.le_refl _) _,?_⟩,by simp[intOf];omega⟩;rw[←jlv n k j hlt];exact(HO.out.stored _ _).1
  ·obtain rfl:j=k:=by omega
   have hst:∀W,W=wr→(convert 167 9 (.slice (some ⟨w.heap.size,0,none⟩) j j)).run Tryz.prog W= .ok (.string (numB n j)) W:=by
    rintro W rfl;refine run_convert_bytes_arg W 167 5 Tryz.underlying167 Tryz.underlying5 w.heap.size 0 j j (numL n j) (jc0 _ _) (fun i hi=>?_) 9 Tryz.underlying9;rw[Nat.zero_add,hc _ (by omega)];unfold jdi jc9;rw[Nat.sub_self,List.replicate_zero,List.nil_append,List.drop_zero,List.getElem?_map,numL_get _ _ _ hi];simp[numL_get _ _ _ hi]
   have hst:=hst wr rfl;clear hfz hc;go_wp2;go_ret2;exact⟨rfl,HB.out⟩
#print axioms jhd
end Go.Proofs.YtpaohkkhejpgjaaGreatDoor
