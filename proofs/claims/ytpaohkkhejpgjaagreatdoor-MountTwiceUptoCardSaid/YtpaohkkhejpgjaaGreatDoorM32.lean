/- Texts of the proof: U1 U2 U3 U4 U5. -/
import Derived.Test.YtpaohkkhejpgjaaGreatDoorM25
import Derived.Test.YtpaohkkhejpgjaaGreatDoorM17
import Derived.Laws.IdiomStrings
import Derived.Test.YtpaohkkhejpgjaaGreatDoorM9
import Derived.Test.YtpaohkkhejpgjaaGreatDoorSortS
import Derived.Test.YtpaohkkhejpgjaaGreatDoorShelf
set_option linter.all false
set_option maxRecDepth 100000
set_option maxHeartbeats 8000000
namespace Go.Proofs.YtpaohkkhejpgjaaGreatDoor
open Go Go.RowKit
def supA(s:Sup):Array Value:=([Value.int .u32 s.size, .int .u64 s.gen, .int .u32 s.table] ++ hashV s.hash).toArray
def supWf(s:Sup):Prop:=u32Ok s.size∧(0≤s.gen∧s.gen≤18446744073709551615)∧u32Ok s.table∧jd7 s.hash
theorem jbn{s:Sup}(h:supWf s):(supA s).size=35:=by unfold supA;simp[hashV,h.2.2.2.1]
def jb3(s:Sup):Int:=if supB s then 0 else 4
theorem supA_0(s:Sup):(supA s)[0]? =some (.int .u32 s.size):=rfl
theorem supA_1(s:Sup):(supA s)[1]? =some (.int .u64 s.gen):=rfl
theorem supA_2(s:Sup):(supA s)[2]? =some (.int .u32 s.table):=rfl
theorem supA_hash(s:Sup)(k:Nat):(supA s)[3 + k]? =(hashV s.hash)[k]? :=by unfold supA;rw[List.getElem?_toArray,List.getElem?_append_right (by simp)];simp
theorem jca(w:World)(s:Sup):Calls Tryz.prog 87 #[.agg (supA s)] w fun e w'=>e= .returned (.int .i64 (jb3 s))∧Below w.heap.size w w':=by
 have hb:=heap_alloc_new w (.cells (supA s) 36);have HB:=Lib.hid (jb2 w (supA s) 36);have k0:=supA_0 s;have k1:=supA_1 s;have k2:=supA_2 s;obtain⟨cs,hcs⟩:∃cs,supA s=cs:=⟨_,rfl⟩
 rw[hcs]at hb HB k0 k1 k2 ⊢;clear hcs;obtain⟨size,gen,table,hash⟩:=s;simp only at k0 k1 k2;go_enter Tryz.func87,Tryz.ntmps87;go_upto_region 1 with(fail);generalize w.alloc (.cells cs 36)=wa at *;have a0:wa.cell? ⟨w.heap.size,0,none⟩=some (.int .u32 size):=by rw[cell_of_row _ _ _ _ _ _ hb];exact k0
 have a1:wa.cell? ⟨w.heap.size,1,none⟩=some (.int .u64 gen):=by rw[cell_of_row _ _ _ _ _ _ hb];exact k1
 have a2:wa.cell? ⟨w.heap.size,2,none⟩=some (.int .u32 table):=by rw[cell_of_row _ _ _ _ _ _ hb];exact k2
 clear hb k0 k1 k2;by_cases h1:size < 16
 ·have HR:=Lib.hid (show jb3 ⟨size,gen,table,hash⟩=4 by unfold jb3;rw[if_neg];unfold supB;simp only[Bool.and_eq_true,decide_eq_true_eq,not_and];omega);have qh1:decide (size < 16)=true:=decide_eq_true h1;go_wp2_with (fail);go_ret;exact⟨by rw[HR.out];rfl,HB.out⟩
 ·have qh1:decide (size < 16)=false:=decide_eq_false h1;by_cases h2:size>65536
  ·have HR:=Lib.hid (show jb3 ⟨size,gen,table,hash⟩=4 by unfold jb3;rw[if_neg];unfold supB;simp only[Bool.and_eq_true,decide_eq_true_eq,not_and];omega);have qh2:decide (size>65536)=true:=decide_eq_true h2;have qh2':decide (65536 < size)=true:=decide_eq_true h2;go_wp2_with (fail);go_ret;exact⟨by rw[HR.out];rfl,HB.out⟩
  ·have qh2:decide (size>65536)=false:=decide_eq_false h2;have qh2':decide (65536 < size)=false:=decide_eq_false h2;by_cases h3:gen < 1
   ·have HR:=Lib.hid (show jb3 ⟨size,gen,table,hash⟩=4 by unfold jb3;rw[if_neg];unfold supB;simp only[Bool.and_eq_true,decide_eq_true_eq,not_and];omega);have qh3:decide (gen < 1)=true:=decide_eq_true h3;go_wp2_with (fail);go_ret;exact⟨by rw[HR.out];rfl,HB.out⟩
   ·have qh3:decide (gen < 1)=false:=decide_eq_false h3;by_cases h4:gen>4611686018427387904
    ·have HR:=Lib.hid (show jb3 ⟨size,gen,table,hash⟩=4 by unfold jb3;rw[if_neg];unfold supB;simp only[Bool.and_eq_true,decide_eq_true_eq,not_and];omega);have qh4:decide (gen>4611686018427387904)=true:=decide_eq_true h4;have qh4':decide (4611686018427387904 < gen)=true:=decide_eq_true h4;go_wp2_with (fail);go_ret;exact⟨by rw[HR.out];rfl,HB.out⟩
    ·have qh4:decide (gen>4611686018427387904)=false:=decide_eq_false h4;have qh4':decide (4611686018427387904 < gen)=false:=decide_eq_false h4;cases hbk:jd1 table with
     |false=>
      have HR:=Lib.hid (show jb3 ⟨size,gen,table,hash⟩=4 by unfold jb3 supB;simp[hbk]);go_wp2_with (go_at_call 107;refine(ja7 _ _).mono ?_;rintro e _ ⟨rfl,rfl⟩;rw[hbk]);go_ret;exact⟨by rw[HR.out];rfl,HB.out⟩
     |true=>
      by_cases h5:table≥size
      ·have HR:=Lib.hid (show jb3 ⟨size,gen,table,hash⟩=4 by unfold jb3;rw[if_neg];unfold supB;simp only[Bool.and_eq_true,decide_eq_true_eq,not_and];omega);have qh5:decide (table≥size)=true:=decide_eq_true h5;have qh5':decide (size≤table)=true:=decide_eq_true h5;go_wp2_with (go_at_call 107;refine(ja7 _ _).mono ?_;rintro e _ ⟨rfl,rfl⟩;rw[hbk]);go_ret;exact⟨by rw[HR.out];rfl,HB.out⟩
      ·have HR:=Lib.hid (show jb3 ⟨size,gen,table,hash⟩=0 by unfold jb3;rw[if_pos];unfold supB;rw[hbk];simp only[Bool.and_eq_true,decide_eq_true_eq];exact⟨⟨by omega,by omega⟩,⟨by omega,by omega⟩,trivial,by omega⟩);have qh5:decide (table≥size)=false:=decide_eq_false h5;have qh5':decide (size≤table)=false:=decide_eq_false h5;go_wp2_with (go_at_call 107;refine(ja7 _ _).mono ?_;rintro e _ ⟨rfl,rfl⟩;rw[hbk]);go_ret;exact⟨by rw[HR.out];rfl,HB.out⟩
theorem jfa(w:World)(n:Int)(k:Nat)(h0:0≤n)(h1:n≤18446744073709551615)(hk:1≤k)(hk8:k≤8)(hfit:Lib.bitLen n.toNat≤8 * k):
 Calls Tryz.prog 88 #[.int .u64 n, .int .i64 k] w fun e w'=>e= .returned (.string (numB n k))∧Below w.heap.size w w':=by
 go_enter Tryz.func88,Tryz.ntmps88;go_wp2_with (go_at_call 142;refine(jhd w n k h0 h1 hk hk8 hfit).mono ?_;rintro e w1 ⟨rfl,hb1⟩);go_ret;exact⟨rfl,hb1⟩
theorem jbo(w:World)(s:Sup)(h:0≤s.gen)(h1:s.gen≤18446744073709551615):Calls Tryz.prog 47 #[.agg (supA s)] w fun e w'=>e= .returned (.int .i64 (s.gen % 2))∧Below w.heap.size w w':=by
 have hb:=heap_alloc_new w (.cells (supA s) 36);have HB:=Lib.hid (jb2 w (supA s) 36);have k1:=supA_1 s;obtain⟨cs,hcs⟩:∃cs,supA s=cs:=⟨_,rfl⟩
 rw[hcs]at hb HB k1 ⊢;clear hcs;obtain⟨size,gen,table,hash⟩:=s;simp only at k1 h h1;go_enter Tryz.func47,Tryz.ntmps47;go_upto_region 1 with(fail);generalize w.alloc (.cells cs 36)=wa at *;have a1:wa.cell? ⟨w.heap.size,1,none⟩=some (.int .u64 gen):=by rw[cell_of_row _ _ _ _ _ _ hb];exact k1
 clear hb k1;go_wp2;go_ret;exact⟨rfl,HB.out⟩
theorem jbx{s:Sup}(h:supWf s):(Tryz.prog.info? 36).map (·.size)=some (supA s).toList.length:=by
 have hq:(Tryz.prog.info? 36).map (·.size)=some 35:=by kernel_rfl
 rw[hq,Array.length_toList,jbn h]
def jg0(s:Sup):ByteArray:=if supB s then jbl s else ByteArray.empty
theorem hash_cell{s:Sup}{w:World}{b:Nat}{t:TypeId}(hw:supWf s)(h:w.heap[b]? =some (.cells (supA s) t (0,0)))(j:Nat)(hj:j < (hashU s.hash).length):w.cell? ((⟨b,3,none⟩:Addr).add j)=some (.int .u8 ((hashU s.hash)[j].toNat:Int)):=by
 rw[jcl,cell_of_row _ _ _ _ _ _ h,supA_hash,←jhw hw.2.2.2,Lib.byteCells,List.getElem?_map,List.getElem?_eq_getElem hj];rfl
theorem jis(n:Int)(k:Nat):(numB n k).size=k:=by
 have h:=jaw n k;unfold numU at h;rw[Array.length_toList]at h;exact h
theorem jfb(w:World)(s:Sup)(hw:supWf s):Calls Tryz.prog 32 #[.agg (supA s)] w fun e w'=>e= .returned (.tuple #[.string (jg0 s), .int .i64 (jb3 s)])∧Below w.heap.size w w':=by
 have hb:=heap_alloc_new w (.cells (supA s) 36);have hbb:=jb2 w (supA s) 36;have hat:At (w.alloc (.cells (supA s) 36)) w.heap.size 0 (supA s).toList:=by
  intro i hi;rw[cell_of_row _ _ _ _ _ _ hb];simp at hi;simp[hi]
 have hsl:=jbx hw;have HCK:=Lib.hid (fun w=>jca w s);have k0:=supA_0 s;have k1:=supA_1 s;have k2:=supA_2 s;have HH:=Lib.hid (fun(w':World) (h:w'.heap[w.heap.size]? =some (.cells (supA s) 36 (0,0)))=>hash_cell hw h);obtain⟨cs,hcs⟩:∃cs,supA s=cs:=⟨_,rfl⟩
 rw[hcs]at hb hbb k0 k1 k2 hat hsl HCK HH ⊢;clear hcs;go_enter Tryz.func32,Tryz.ntmps32;go_upto_region 1 with(fail);generalize w.alloc (.cells cs 36)=wa at *;have hlb:=lt_of_block hb;go_wp2_with ((with_reducible refine jao ?_);refine jai rfl 36 (.tmp 1) rfl w.heap.size 0 rfl cs.toList _ hat Tryz.underlying36 rfl hsl ?_);go_at_call 87;refine(HCK.out wa).mono ?_;rintro e w1 ⟨rfl,hb1⟩;have hx1:=(hb1.block _ hlb).trans hb;have hbb1:=hbb.trans (hb1.mono hbb.size);clear hat hb hbb hb1;have a0:w1.cell? ⟨w.heap.size,0,none⟩=some (.int .u32 s.size):=by rw[cell_of_row _ _ _ _ _ _ hx1];exact k0
 have a1:w1.cell? ⟨w.heap.size,1,none⟩=some (.int .u64 s.gen):=by rw[cell_of_row _ _ _ _ _ _ hx1];exact k1
 have a2:w1.cell? ⟨w.heap.size,2,none⟩=some (.int .u32 s.table):=by rw[cell_of_row _ _ _ _ _ _ hx1];exact k2
 have HB:=Lib.hid hbb1;cases hsb:supB s with
 |false=>
  have he:jb3 s=4:=by unfold jb3;rw[hsb];rfl
  have HS:=Lib.hid (show jg0 s=ByteArray.empty by unfold jg0;rw[hsb];rfl);have HE:=Lib.hid he;rw[he];clear hsb he;go_wp2_with (fail);go_ret2;exact⟨by rw[HS.out,HE.out];rfl,HB.out⟩
 |true=>
  have he:jb3 s=0:=by unfold jb3;rw[hsb];rfl
  have HS:=Lib.hid (show jg0 s=jbl s by unfold jg0;rw[hsb];rfl);have HE:=Lib.hid he;rw[he];have hbnd:=hsb;unfold supB jd1 at hbnd;simp only[Bool.and_eq_true,decide_eq_true_eq]at hbnd;obtain⟨⟨b1,b2⟩,⟨b3,b4⟩,⟨b5,b6⟩,b7⟩:=hbnd;clear hsb he;have f0:=fun g:Grown w1=>g.fact a0
  have f1:=fun g:Grown w1=>g.fact a1
  have f2:=fun g:Grown w1=>g.fact a2
  have hhl:(hashU s.hash).length=32:=by unfold hashU;rw[List.length_map];exact hw.2.2.2.1
  have f3:=fun g:Grown w1=>run_convert_bytes_back (P:=Tryz.prog) g.val 167 9 5 ⟨w.heap.size,3,none⟩ 32 (hashU s.hash) Tryz.underlying167 Tryz.underlying5 Tryz.underlying9 (HH.out g.val ((g.prop.block _ (lt_of_block hx1)).trans hx1))
  rw[hhl]at f3;have hhl2:(hashU s.hash).toArray.size=32:=by rw[List.size_toArray];exact hhl
  have r1:(0:Int)≤s.size:=by omega
  have r2:s.size≤18446744073709551615:=by omega
  have r5:(0:Int)≤s.table:=by omega
  have r6:s.table≤18446744073709551615:=by omega
  have r3:(0:Int)≤s.gen:=by omega
  have r4:s.gen≤18446744073709551615:=by omega
  have q1:Lib.bitLen s.size.toNat≤8 * 4:=jdf 32 (by omega) (by omega);have q2:Lib.bitLen s.gen.toNat≤8 * 8:=jdf 64 (by omega) (by omega);have q3:Lib.bitLen s.table.toNat≤8 * 4:=jdf 32 (by omega) (by omega);have nz1:=jis s.size 4;have nz2:=jis s.gen 8;have nz3:=jis s.table 4;have nz4:(ByteArray.mk (hashU s.hash).toArray).size=32:=hhl2;have z1:IntKind.u64.wrap s.size=s.size:=by rw[IntKind.wrap_u64];omega
  have z3:IntKind.u64.wrap s.table=s.table:=by rw[IntKind.wrap_u64];omega
  go_wp2_with (fail);refine jak (by kernel_rfl) (by kernel_rfl) ?_;iterate 3 (
   with_reducible refine wpQuiet_step (fun K hK=>?_);go_simp;generalize hZ:(Act.mk _ _:Act)=zz;refine hK _ ?_;subst hZ;clear hK K)
  with_reducible refine wpQuiet_step (fun K hK=>?_);go_simp;apply Exists.intro;refine⟨fun g=>?_,hK _ ?_⟩
  ·go_at_call 88;refine(jfa g.val s.size 4 r1 r2 (by decide) (by decide) q1).mono ?_;rintro e wk ⟨rfl,hbk⟩;exact⟨rfl,⟨wk,g.prop.trans (hbk.mono g.prop.size)⟩,rfl⟩
  clear hK K;iterate 3 (
   with_reducible refine wpQuiet_step (fun K hK=>?_);go_simp;generalize hZ:(Act.mk _ _:Act)=zz;refine hK _ ?_;subst hZ;clear hK K)
  with_reducible refine wpQuiet_step (fun K hK=>?_);go_simp;apply Exists.intro;refine⟨fun g=>?_,hK _ ?_⟩
  ·go_at_call 88;refine(jfa g.val s.gen 8 r3 r4 (by decide) (by decide) q2).mono ?_;rintro e wk ⟨rfl,hbk⟩;exact⟨rfl,⟨wk,g.prop.trans (hbk.mono g.prop.size)⟩,rfl⟩
  clear hK K;iterate 4 (
   with_reducible refine wpQuiet_step (fun K hK=>?_);go_simp;generalize hZ:(Act.mk _ _:Act)=zz;refine hK _ ?_;subst hZ;clear hK K)
  with_reducible refine wpQuiet_step (fun K hK=>?_);go_simp;apply Exists.intro;refine⟨fun g=>?_,hK _ ?_⟩
  ·go_at_call 88;refine(jfa g.val s.table 4 r5 r6 (by decide) (by decide) q3).mono ?_;rintro e wk ⟨rfl,hbk⟩;exact⟨rfl,⟨wk,g.prop.trans (hbk.mono g.prop.size)⟩,rfl⟩
  clear hK K;iterate 5 (
   with_reducible refine wpQuiet_step (fun K hK=>?_);go_simp;generalize hZ:(Act.mk _ _:Act)=zz;refine hK _ ?_;subst hZ;clear hK K)
  with_reducible refine wpQuiet_step (fun K hK=>?_);go_simp;apply Exists.intro;refine⟨fun g=>?_,hK _ ?_⟩
  ·go_at_call 85;refine(whole_any g.val _ (by simp only[ByteArray.size_append,jis];rw[show(ByteArray.mk (hashU s.hash).toArray).size=32 from hhl2];decide)).mono ?_;rintro e wk ⟨rfl,hbk⟩;exact⟨rfl,⟨wk,g.prop.trans (hbk.mono g.prop.size)⟩,rfl⟩
  clear hK K;iterate 2 (
   with_reducible refine wpQuiet_step (fun K hK=>?_);go_simp;generalize hZ:(Act.mk _ _:Act)=zz;refine hK _ ?_;subst hZ;clear hK K)
  refine wpQuiet_nil ?_;intro _ hwq;obtain⟨wq,hwq⟩:=hwq;subst hwq;go_wp2_with (fail);go_ret2;refine⟨?_,HB.out.trans (wq.prop.mono HB.out.size)⟩;rw[HS.out,HE.out];unfold jbl supL numU;simp
theorem ja9{P:Program}{ops:Array Oper}{rest:List Oper}{o:Oper}{a:Act}{w:World}{Q:Exit→Act→World→Prop}(hgd:o.guard=none)(ty:TypeId)(x v:Operand)(ho:o.op= .store ty x v)
 (g:Nat) (hx:a.eval x= .pointer (some ⟨g,0,none⟩)) (vs:List Value) (hv:a.eval v= .agg vs.toArray) (t:TypeId) (z:Array Value) (hg:w.heap[g]? =some (.cells z t (0,0))) (hz:z.size=vs.length) (h1:∀v∈vs,v.oneCell'=true)
 (hi:(P.info? ty).map (·.size)=some vs.length) (h:wpList P ops Q rest (a.put o.dst undef) (w.setRow g vs.toArray)):wpList P ops Q (o::rest) a w:=by
 refine jaf hgd ty x v ho g 0 hx vs hv t z hg (by omega) h1 hi ?_;have:(z.toList.take 0 ++ vs ++ z.toList.drop (0 + vs.length)).toArray=vs.toArray:=by
  rw[List.drop_of_length_le (by simp;omega)];simp
 rw[this];exact h
theorem pow4:(256:Int) ^ 4=4294967296:=rfl
theorem pow8:(256:Int) ^ 8=18446744073709551616:=rfl
def decV(s:ByteArray):Sup:=(jcj s).getD noSup
def decEr(s:ByteArray):Int:=if(jcj s).isSome then 0 else 9
theorem jbt(s:Sup):∀u∈(supA s).toList,u.oneCell'=true:=by
 intro u hu;unfold supA at hu;simp only[List.toList_toArray]at hu;rcases List.mem_append.1 hu with hu|hu
 ·simp at hu;rcases hu with rfl|rfl|rfl <;>rfl
 ·exact je2 _ u hu
theorem jcb:supWf noSup:=⟨by unfold u32Ok;decide,by decide,by unfold u32Ok;decide,⟨rfl,fun x hx=>by rw[List.eq_of_mem_replicate (show x∈List.replicate 32 (0:Int)from hx)];decide⟩⟩
theorem sup_info(s:Sup)(h:supWf s):(Tryz.prog.info? 36).map (·.size)=some (supA s).size:=by
 have:=jbx h
 rwa[Array.length_toList]at this
theorem jgg{fn:Func}{t u:Tmp}(h:fn.results= #[.cell t 36, .tmp u])(tmps:Array Value)(g:Nat)(s:Sup)(hs:supWf s)(fr:Nat×Nat)(w:World)(ht:tmps.getD t undef= .pointer (some ⟨g,0,none⟩))
 (hg:w.heap[g]? =some (.cells (supA s) 36 fr)):
 (results fn tmps).run Tryz.prog w= .ok (.tuple #[.agg (supA s),tmps.getD u undef]) w:=by
 have hp':tmps[t]?.getD undef= .pointer (some ⟨g,0,none⟩):=by simpa using ht
 have hl:=run_loadVar_row (P:=Tryz.prog) w g 36 36 (supA s) fr _ hg Tryz.underlying36 rfl (sup_info s hs);simp[results,h,hp',asAddr,hl]
theorem copy_sup{w:World}(g:Nat)(s:ByteArray)(a b c:Int)(hg:w.heap[g]? =some (.cells (supA ⟨a,b,c,jbm⟩) 36 (0,0)))(hs:s.size=32∨s.size=0):
 (Builtin.copy_ #[167,9] 3 #[.slice (some ⟨g,3,none⟩) 32 32, .string s]).run Tryz.prog w= .ok (goInt s.size) (w.setRow g (supA ⟨a,b,c,if s.size=32 then jfx s else jbm⟩)):=by
 have hrun:=Lib.run_copy_row_string w 167 9 3 5 g 3 32 32 s _ 36 Tryz.underlying167 size1u8 hg (by omega) (by simp[supA,hashV,jbm];omega);have e:((supA ⟨a,b,c,jbm⟩).toList.take 3 ++ Lib.byteCells s.data.toList ++ (supA ⟨a,b,c,jbm⟩).toList.drop (3 + s.size)).toArray=supA ⟨a,b,c,if s.size=32 then jfx s else jbm⟩:=by
  rcases hs with h|h
  ·rw[if_pos h,h,jkd];simp[supA,hashV,jbm]
  ·have h32:¬s.size=32:=by omega
   have hnil:s.data.toList=[]:=List.length_eq_zero_iff.1 (by simpa using h);rw[if_neg h32,h,hnil];simp[Lib.byteCells,supA]
 rw[e]at hrun;exact hrun
theorem supTk_size(s:ByteArray):(supTk s).left.size≤506:=by
 unfold supTk;simp;omega
theorem supOf_wf(s:ByteArray):supWf (supOf s):=by
 have r1:=jce (supTk s) 4 (by omega);have e:supOf s=⟨(numT (supTk s) 4).1,(numT (numT (supTk s) 4).2 8).1,(numT (numT (numT (supTk s) 4).2 8).2 4).1,(hashT (numT (numT (numT (supTk s) 4).2 8).2 4).2).1⟩:=rfl;rw[e];generalize numT (supTk s) 4=p1 at *;obtain⟨x1,t1⟩:=p1;have r2:=jce t1 8 (by omega);simp only;generalize numT t1 8=p2 at *;obtain⟨x2,t2⟩:=p2;have r3:=jce t2 4 (by omega);simp only;generalize numT t2 4=p3 at *;obtain⟨x3,t3⟩:=p3;have r4:=hashT_ok t3;simp only at r1 r2 r3 ⊢;rw[pow4]at r1 r3;rw[pow8]at r2;exact⟨⟨r1.1,Int.le_of_lt_add_one r1.2⟩,⟨r2.1,Int.le_of_lt_add_one r2.2⟩,⟨r3.1,Int.le_of_lt_add_one r3.2⟩,r4⟩
theorem jh1(s:ByteArray):supWf (decV s):=by
 unfold decV;cases h:jcj s with
 |none=>exact jcb
 |some x=>rw[(jl3 h).2];exact supOf_wf s
theorem jit(w:World)(s:ByteArray)(hs:s.size≤140737488355328):
 Calls Tryz.prog 159 #[.string s] w fun e w'=>e= .returned (.tuple #[.agg (supA (decV s)), .int .i64 (decEr s)])∧Below w.heap.size w w':=by
 have hzv:supA noSup= #[.int .u32 0, .int .u64 0, .int .u32 0, .int .u8 0, .int .u8 0, .int .u8 0, .int .u8 0, .int .u8 0, .int .u8 0, .int .u8 0, .int .u8 0, .int .u8 0, .int .u8 0, .int .u8 0, .int .u8 0, .int .u8 0, .int .u8 0, .int .u8 0, .int .u8 0, .int .u8 0, .int .u8 0, .int .u8 0, .int .u8 0, .int .u8 0, .int .u8 0, .int .u8 0, .int .u8 0, .int .u8 0, .int .u8 0, .int .u8 0, .int .u8 0, .int .u8 0, .int .u8 0, .int .u8 0, .int .u8 0]:=rfl;have hrb0:(w.alloc (.cells (supA noSup) 36)).heap[w.heap.size]? =some (.cells (supA noSup) 36 (0,0)):=heap_alloc_new _ _;have hB0:=(Below.refl w.heap.size w).alloc (Nat.le_refl _) (.cells (supA noSup) 36);have H0:=Lib.hid (And.intro hrb0 hB0);clear hrb0 hB0;have hz1:=jbt noSup;have hz2:=jbx jcb;have HZ:=Lib.hid hzv;clear hzv;by_cases hlen:s.size≤512
 ·have hd:decide (512 < (s.size:Int))=false:=decide_eq_false (by omega);have hfs:=fillB_size s hlen;have hsx:(fillB s).extract 6 512=(supTk s).left:=rfl;have hbad:supTk s=⟨(supTk s).left,false⟩:=rfl;have htl:=supTk_size s;obtain⟨x1,t1,e1⟩:∃x t,numT (supTk s) 4=(x,t):=⟨_,_,rfl⟩
  obtain⟨x2,t2,e2⟩:∃x t,numT t1 8=(x,t):=⟨_,_,rfl⟩
  obtain⟨x3,t3,e3⟩:∃x t,numT t2 4=(x,t):=⟨_,_,rfl⟩
  obtain⟨hl,t4,e4⟩:∃x t,hashT t3=(x,t):=⟨_,_,rfl⟩
  have hof:supOf s=⟨x1,x2,x3,hl⟩:=by unfold supOf;simp only[e1,e2,e3,e4]
  have hwf:=supOf_wf s;rw[hof]at hwf;have HWF:=Lib.hid hwf;clear hwf;have HD:=Lib.hid (show jcj s=if supB ⟨x1,x2,x3,hl⟩=true∧beqB (jbl ⟨x1,x2,x3,hl⟩) s=true then some ⟨x1,x2,x3,hl⟩else none by unfold jcj;rw[if_neg (by omega),hof]);clear hof;have hn1:=jce (supTk s) 4 (by omega);have hn2:=jce t1 8 (by omega);have hn3:=jce t2 4 (by omega);have hm1:=jed (supTk s) 4 506 htl;rw[e1]at hn1 hm1;have hm2:=jed t1 8 506 hm1;rw[e2]at hn2 hm2;have hm3:=jed t2 4 506 hm2;rw[e3]at hn3 hm3;simp only[pow4,pow8]at hn1 hn2 hn3;obtain⟨hn1a,hn1b⟩:=hn1;obtain⟨hn2a,hn2b⟩:=hn2;obtain⟨hn3a,hn3b⟩:=hn3;have hn1c:x1≤4294967295:=by omega
  have hn3c:x3≤4294967295:=by omega
  clear hn1b hn3b;have hm1:t1.left.size≤506:=hm1;have hm2:t2.left.size≤506:=hm2;have hm3:t3.left.size≤506:=hm3;have hsz:=someF_size t3 32;have e5:(if(someF t3 32).1.size=32 then jfx (someF t3 32).1 else jbm)=hl:=congrArg Prod.fst e4;generalize supTk s=t0 at *;obtain⟨tl,tb0⟩:=t0;simp only[Tk.mk.injEq,true_and]at hbad;subst hbad;simp only at hsx htl;go_enter Tryz.func159,Tryz.ntmps159;go_wp2_with (go_at_call 163;refine(filled_any _ s hlen).mono ?_;rintro e w1 ⟨rfl,hb1⟩);rw[←HZ.out]at hb1;have hB1:=Below.step H0.out.2 hb1;have hrb1:=(hb1.block w.heap.size (by simp)).trans H0.out.1;have htk0:TkAt (w1.alloc (.cells #[.string tl, .bool false] 262)) w1.heap.size ⟨tl,false⟩:=heap_alloc_new _ _;have hB1':=hB1.alloc hB1.size (.cells #[.string tl, .bool false] 262);have hrb1':=(Lib.alloc_old w1 (.cells #[.string tl, .bool false] 262) _ (lt_of_block hrb1)).trans hrb1;have hne:w.heap.size≠w1.heap.size:=by have:=lt_of_block hrb1;omega
  have htbl:=hB1.size;clear hB1 hrb1 hb1 hsx hfs;generalize w1.heap.size=tb at *;generalize w1.alloc (.cells #[.string tl, .bool false] 262)=w1a at *;have c1:=jch w1a tb ⟨tl,false⟩ 4 (by decide) (by decide) htk0 (by simp only;omega);simp only[e1]at c1;refine c1.mono ?_;rintro e w2 ⟨rfl,hg2,htk2⟩;clear c1;have c2:=jch w2 tb t1 8 (by decide) (by decide) htk2 (by omega);simp only[e2]at c2;go_wp2_with (fail);refine c2.mono ?_;rintro e w3 ⟨rfl,hg3,htk3⟩;clear c2;have c3:=jch w3 tb t2 4 (by decide) (by decide) htk3 (by omega);simp only[e3]at c3;go_wp2_with (fail);refine c3.mono ?_;rintro e w4 ⟨rfl,hg4,htk4⟩;clear c3;have hgr:=jag (jag hg2 hg3) hg4;have hrb4:=(hgr.block _ (lt_of_block hrb1') (fun h=>hne (by injection h))).trans hrb1';have hB4:Below w.heap.size w w4:=hB1'.grown hgr hB1'.size (fun k hk=>by injection hk with hk;omega);clear hg2 hg3 hg4 hgr htk2 htk3 htk0 hrb1' hB1';have hs1:=jbt ⟨x1,x2,x3,jbm⟩;have hs2:=jbx (s:=⟨x1,x2,x3,jbm⟩) ⟨⟨hn1a,hn1c⟩,⟨hn2a,Int.le_of_lt_add_one hn2b⟩,⟨hn3a,hn3c⟩,jcb.2.2.2⟩;go_wp2_with ((with_reducible refine jab ?_);refine jaa rfl 36 (.tmp 5) (.tmp 25) rfl 36 _ rfl (supA ⟨x1,x2,x3,jbm⟩).toList rfl rfl hs1 hs2 ?_);have hg5:(w4.alloc (.cells (supA ⟨x1,x2,x3,jbm⟩) 36)).heap[w4.heap.size]? =some (.cells (supA ⟨x1,x2,x3,jbm⟩) 36 (0,0)):=heap_alloc_new _ _;have hB5:=hB4.alloc hB4.size (.cells (supA ⟨x1,x2,x3,jbm⟩) 36);have hrb5:=(Lib.alloc_old w4 (.cells (supA ⟨x1,x2,x3,jbm⟩) 36) _ (lt_of_block hrb4)).trans hrb4
  have htk5:TkAt (w4.alloc (.cells (supA ⟨x1,x2,x3,jbm⟩) 36)) tb t3:=(Lib.alloc_old w4 (.cells (supA ⟨x1,x2,x3,jbm⟩) 36) _ (lt_of_block htk4)).trans htk4;have hne5:w.heap.size≠w4.heap.size∧tb≠w4.heap.size:=⟨by have:=lt_of_block hrb4;omega,by have:=lt_of_block htk4;omega⟩
  have hg2l:=hB4.size;have H5:=Lib.hid (And.intro hg5 (And.intro hB5 (And.intro hrb5 (And.intro htk5 (And.intro hne5 hsz)))));clear hg5 hB5 hrb5 htk5 hne5 hsz hB4 hrb4 htk4;generalize w4.heap.size=g5 at *;have HTL:=Lib.hid (And.intro hm3 htbl);have e35:(supA ⟨x1,x2,x3,jbm⟩).toList.toArray=supA ⟨x1,x2,x3,jbm⟩:=by simp
  first|rw[e35]|skip
  generalize w4.alloc (.cells (supA ⟨x1,x2,x3,jbm⟩) 36)=w5 at *;go_region_held3 (fun _=>True) (first|trivial) (first|(go_at_call 217;refine(jiq _ tb t3 32 (show TkAt w5.drew tb t3 from H5.out.2.2.2.1) (by have:=HTL.out.1;omega)).mono ?_;rintro e w6 ⟨rfl,hg6,ht6⟩;have hcp:=copy_sup g5 (someF t3 32).1 x1 x2 x3 ((hg6.block _ (lt_of_block H5.out.1) (H5.out.2.2.2.2.1.2.symm ∘ fun h=>by injection h)).trans H5.out.1) H5.out.2.2.2.2.2));have hB6:Below w.heap.size w w6:=(H5.out.2.1.drew).grown hg6 (by have:=H5.out.2.1.size;simpa using this) (fun k hk=>by injection hk with hk;have:=HTL.out.2;omega);have hg5b:=(hg6.block _ (lt_of_block H5.out.1) (fun h=>H5.out.2.2.2.2.1.2 (by injection h with h;exact h.symm))).trans H5.out.1;have hrb6:=(hg6.block _ (lt_of_block H5.out.2.2.1) (fun h=>hne (by injection h))).trans H5.out.2.2.1;have hnew:(w6.setRow g5 (supA ⟨x1,x2,x3,hl⟩)).heap[g5]? =some (.cells (supA ⟨x1,x2,x3,hl⟩) 36 (0,0)):=jad _ _ _ _ _ hg5b;have hrb7:(w6.setRow g5 (supA ⟨x1,x2,x3,hl⟩)).heap[w.heap.size]? =some (.cells (supA noSup) 36 (0,0)):=(jac _ _ _ _ H5.out.2.2.2.2.1.1).trans hrb6;have hB7:Below w.heap.size w (w6.setRow g5 (supA ⟨x1,x2,x3,hl⟩)):=⟨hB6.os,hB6.tape,hB6.output,by simpa[World.setRow]using hB6.size,fun k hk=>(jac _ _ _ _ (by omega)).trans (hB6.block k hk)⟩
  have H7:=Lib.hid (And.intro hnew (And.intro hrb7 hB7));have hsi:=sup_info _ HWF.out;clear hcp hg6 ht6 hB6 hg5b hrb6 hnew hrb7 hB7 H5 HTL;generalize w6.setRow g5 (supA ⟨x1,x2,x3,hl⟩)=w7 at *;go_wp2_with (refine wpList_load_row rfl 36 _ rfl g5 rfl 36 _ (0,0) _ H7.out.1 Tryz.underlying36 rfl hsi ?_);go_at_call 32;refine(jfb w7 _ HWF.out).mono ?_;rintro e w8 ⟨rfl,hb8⟩;have hB8:=H7.out.2.2.trans (hb8.mono H7.out.2.2.size);have hg8:=(hb8.block _ (lt_of_block H7.out.1)).trans H7.out.1;have hrb8:=(hb8.block _ (lt_of_block H7.out.2.1)).trans H7.out.2.1;have H8:=Lib.hid (And.intro hg8 (And.intro hrb8 hB8));have hsx1:=jbt ⟨x1,x2,x3,hl⟩;have hsx2:=jbx HWF.out;clear hb8 hB8 hg8 hrb8 H7 hsi;cases hsb:supB ⟨x1,x2,x3,hl⟩with
  |false=>
   have he:jb3 ⟨x1,x2,x3,hl⟩=4:=by unfold jb3;rw[hsb];rfl
   have HN:=Lib.hid (show jcj s=none by rw[HD.out,if_neg (by rw[hsb];simp)]);rw[he];clear he hsb;go_wp2_with ((with_reducible refine jab ?_);refine ja9 rfl 36 _ _ rfl w.heap.size rfl (supA noSup).toList rfl 36 (supA noSup) H8.out.2.1 (by simp) hz1 hz2 ?_);have hfd:=jci H8.out.2.2 (supA noSup) _ _ H8.out.2.1;refine bodyPost_ret (jgg rfl _ w.heap.size noSup jcb (0,0) _ rfl hfd.1) rfl ⟨?_,hfd.2⟩;unfold decV decEr;rw[HN.out];rfl
  |true=>
   have he:jb3 ⟨x1,x2,x3,hl⟩=0:=by unfold jb3;rw[hsb];rfl
   have hq:jg0 ⟨x1,x2,x3,hl⟩=jbl ⟨x1,x2,x3,hl⟩:=by unfold jg0;rw[hsb];rfl
   rw[he,hq];clear he hq;by_cases heq:jbl ⟨x1,x2,x3,hl⟩=s
   ·have HN:=Lib.hid (show jcj s=some ⟨x1,x2,x3,hl⟩ by rw[HD.out,if_pos ⟨hsb,(jga _ _).2 heq⟩]);rw[heq];have hbq:(s.toList==s.toList)=true:=by simp
    clear hsb heq;go_wp2_with (first|(refine wpList_load_row rfl 36 _ rfl g5 rfl 36 _ (0,0) _ H8.out.1 Tryz.underlying36 rfl (sup_info _ HWF.out) ?_)|((with_reducible refine jab ?_);refine ja9 rfl 36 _ _ rfl w.heap.size rfl (supA ⟨x1,x2,x3,hl⟩).toList rfl 36 (supA noSup) H8.out.2.1 (by rw[Array.length_toList,jbn HWF.out,jbn jcb]) hsx1 hsx2 ?_));have hfd:=jci H8.out.2.2 (supA ⟨x1,x2,x3,hl⟩) _ _ H8.out.2.1;refine bodyPost_ret (jgg rfl _ w.heap.size _ HWF.out (0,0) _ rfl hfd.1) rfl ⟨?_,hfd.2⟩;unfold decV decEr;rw[HN.out];rfl
   ·have hbf:beqB (jbl ⟨x1,x2,x3,hl⟩) s=false:=by
     rw[←Bool.not_eq_true,jga];exact heq
    have HN:=Lib.hid (show jcj s=none by rw[HD.out,if_neg (by rw[hbf];simp)]);generalize jbl ⟨x1,x2,x3,hl⟩=q at *;have hbq:(q.toList==s.toList)=false:=hbf;clear hsb heq hbf;go_wp2_with ((with_reducible refine jab ?_);refine ja9 rfl 36 _ _ rfl w.heap.size rfl (supA noSup).toList rfl 36 (supA noSup) H8.out.2.1 (by simp) hz1 hz2 ?_);have hfd:=jci H8.out.2.2 (supA noSup) _ _ H8.out.2.1;refine bodyPost_ret (jgg rfl _ w.heap.size noSup jcb (0,0) _ rfl hfd.1) rfl ⟨?_,hfd.2⟩;unfold decV decEr;rw[HN.out];rfl
 ·have hd:decide (512 < (s.size:Int))=true:=decide_eq_true (by omega);have HD:=Lib.hid (show jcj s=none by unfold jcj;rw[if_pos (by omega)]);go_enter Tryz.func159,Tryz.ntmps159;go_wp2_with ((with_reducible refine jab ?_);refine ja9 rfl 36 _ _ rfl w.heap.size rfl (supA noSup).toList rfl 36 (supA noSup) H0.out.1 (by simp) hz1 hz2 ?_);have hfd:=jci H0.out.2 (supA noSup) _ _ H0.out.1;refine bodyPost_ret (jgg rfl _ w.heap.size noSup jcb (0,0) _ rfl hfd.1) rfl ⟨?_,hfd.2⟩;unfold decV decEr;rw[HD.out];rfl
end Go.Proofs.YtpaohkkhejpgjaaGreatDoor
namespace Go.Proofs.YtpaohkkhejpgjaaGreatDoor
open Go Go.RowKit Go.Sort
theorem cmpU64_any(w:World)(a b:Int):
 Calls Tryz.prog 162 #[.int .u64 a, .int .u64 b] w fun e w'=>e= .returned (.int .i64 (cmpI a b))∧w=w':=by
 by_cases h1:a < b
 ·have HC:=Lib.hid (show cmpI a b= -1 by simp[cmpI,h1]);go_enter Tryz.func162,Tryz.ntmps162;go_wp2;go_ret;exact⟨by rw[HC.out];rfl,rfl⟩
 ·by_cases h2:b < a
  ·have HC:=Lib.hid (show cmpI a b=1 by simp[cmpI,h1,h2]);go_enter Tryz.func162,Tryz.ntmps162;go_wp2;go_ret;exact⟨by rw[HC.out];rfl,rfl⟩
  ·have HC:=Lib.hid (show cmpI a b=0 by simp[cmpI,h1,h2]);go_enter Tryz.func162,Tryz.ntmps162;go_wp2;go_ret;exact⟨by rw[HC.out];rfl,rfl⟩
abbrev SupW:={s:Sup // supWf s}
instance:Inhabited SupW:=⟨⟨noSup,jcb⟩⟩
def jby(s:SupW):List Value:=(supA s.1).toList
theorem jfz(s:SupW):(jby s).length=35:=by unfold jby;rw[Array.length_toList];exact jbn s.2
def supE:Enc Sup where
 sz:=35
 enc s:=(supA s).toList
 wf s:=supWf s
 len s h:=by rw[Array.length_toList];exact jbn h
 one s _ u hu:=jbt s u hu
 pos:=by decide
def supCf(x y:SupW):Int:=cmpI y.1.gen x.1.gen
theorem supCmp_any(x y:SupW)(w:World):Calls Tryz.prog 161 #[.agg (jby x).toArray, .agg (jby y).toArray] w fun e w'=>e= .returned (.int .i64 (supCf x y))∧∃q os',w'=grow (w.drewN q) os':=by
 have ha:=heap_alloc_new w (.cells (jby x).toArray 36);have hb:=heap_alloc_new (w.alloc (.cells (jby x).toArray 36)) (.cells (jby y).toArray 36);have ha':((w.alloc (.cells (jby x).toArray 36)).alloc (.cells (jby y).toArray 36)).heap[w.heap.size]? =some (.cells (jby x).toArray 36 (0,0)):=(Lib.alloc_old _ _ _ (by simp)).trans ha;have k1:(jby x).toArray[1]? =some (.int .u64 x.1.gen):=by unfold jby;rw[Array.toArray_toList];exact supA_1 x.1
 have k2:(jby y).toArray[1]? =some (.int .u64 y.1.gen):=by unfold jby;rw[Array.toArray_toList];exact supA_1 y.1
 have HC:=Lib.hid (show supCf x y=cmpI y.1.gen x.1.gen from rfl);have HG:=Lib.hid (show ∃q os',(w.alloc (.cells (jby x).toArray 36)).alloc (.cells (jby y).toArray 36)=grow (w.drewN q) os' from⟨0,_,by rw[alloc_eq_grow,alloc_eq_grow,grow_grow];rfl⟩);clear ha;generalize(jby x).toArray=ca at *;generalize(jby y).toArray=cb at *;generalize x.1.gen=gx at *;generalize y.1.gen=gy at *;go_enter Tryz.func161,Tryz.ntmps161;go_upto_region 1 with(fail);have hsz:(w.alloc (.cells ca 36)).heap.size=w.heap.size + 1:=by simp
 rw[hsz]at hb;generalize(w.alloc (.cells ca 36)).alloc (.cells cb 36)=wa at *;have a1:wa.cell? ⟨w.heap.size,1,none⟩=some (.int .u64 gx):=by rw[cell_of_row _ _ _ _ _ _ ha'];exact k1
 have a2:wa.cell? ⟨w.heap.size + 1,1,none⟩=some (.int .u64 gy):=by rw[cell_of_row _ _ _ _ _ _ hb];exact k2
 clear ha' hb k1 k2 hsz;go_wp2_with (go_at_call 162;refine(cmpU64_any _ _ _).mono ?_;rintro e w' ⟨rfl,hww⟩;rw[←hww];clear hww);go_ret;exact⟨by rw[HC.out];rfl,HG.out⟩
theorem supCmp_lays(blk off size:Nat)(w:World):CmpLays Tryz.prog 161 #[] jby 35 supCf blk off size w:=
 fun _ _ _ _ x y=>supCmp_any x y _
theorem ins2_one(v fv:Value)(n:Nat)(hn:n≤1)(w:World):Calls Tryz.prog 252 #[v, .int .i64 0, .int .i64 n,fv] w fun e w'=>e= .returned (.tuple #[])∧w=w':=by
 go_enter Tryz.func252,Tryz.ntmps252;go_wp2;go_loop [8] (fun u=>u= .int .i64 1) (fun _=>0)
 case atStart=>rfl
 case round=>
  subst hrel;go_wp2;go_end0;exact⟨rfl,rfl⟩
theorem pdq2_one(v fv:Value)(n:Nat)(l:Int)(hn:n≤1)(w:World):Calls Tryz.prog 218 #[v, .int .i64 0, .int .i64 n, .int .i64 l,fv] w fun e w'=>e= .returned (.tuple #[])∧w=w':=by
 have h12:(n:Int)≤12:=by omega
 have h12':n≤12:=by omega
 go_enter Tryz.func218,Tryz.ntmps218;go_wp2;go_loop [1,2] (fun a b=>a= .int .i64 0∧b= .int .i64 n) (fun _ _=>0)
 case atStart=>exact⟨rfl,rfl⟩
 case round=>
  obtain⟨rfl,rfl⟩:=hrel;go_wp2_with (go_at_call 252;refine(ins2_one _ _ n hn _).mono ?_;rintro e w' ⟨rfl,rfl⟩);exact bodyPost_ret (v:= .tuple #[]) (by simp[results,Tryz.results218,go_sem]) rfl ⟨rfl,rfl⟩
theorem sort2_one(A:Option Addr)(n c:Nat)(fv:Value)(hn:n≤1)(w:World):Calls Tryz.prog 160 #[.slice A n c,fv] w fun e w'=>e= .returned (.tuple #[])∧w=w':=by
 have wr:IntKind.u64.wrap (n:Int)=n:=by simp[IntKind.wrap,IntKind.bits,IntKind.signed];omega
 go_enter Tryz.func160,Tryz.ntmps160;go_wp2_with (first|(go_at_call 219;refine(Tryz.bits_Len _ _ (by omega) (by omega)).mono ?_;rintro e w' ⟨rfl,rfl⟩)|(go_at_call 218;refine(pdq2_one _ _ n _ hn _).mono ?_;rintro e w' ⟨rfl,rfl⟩));go_end0;exact⟨rfl,rfl⟩
def jl4:List Sup→List Sup
 |[s,t]=>if s.gen < t.gen then[t,s]else[s,t]
 |l=>l
end Go.Proofs.YtpaohkkhejpgjaaGreatDoor
namespace Go.Proofs.YtpaohkkhejpgjaaGreatDoor
open Go Go.RowKit Go.Sort Go.Shelf
theorem ins_two(lt:SupW→SupW→Bool)(x y:SupW):Sort.insertionSort lt #[x,y] 0 2=if lt y x then #[y,x]else #[x,y]:=by
 unfold Sort.insertionSort;rw[insOuter,if_pos (by decide),insOuter,if_neg (by decide)];show insInner lt 0 1 #[x,y]=_
 unfold insInner;have e1:(#[x,y]:Array SupW)[0 + 1]! =y:=rfl;have e2:(#[x,y]:Array SupW)[0]! =x:=rfl;rw[e1,e2];cases lt y x with
 |true=>rfl
 |false=>rfl
theorem jbi{w:World}{g:Nat}{cs:Array Value}{t:TypeId}(h:w.heap[g]? =some (.cells cs t (0,0)))(j:Nat):w.frozen? ⟨g,j,none⟩=false:=by
 unfold World.frozen?;rw[h];simp
theorem holds_two{w:World}{g:Nat}{cur:Array Value}(x y:SupW)(hg:w.heap[g]? =some (.cells cur 36 (0,0)))(hc:cur.toList.take 70=jby x ++ jby y):HoldsK jby 35 w g 0 #[x,y]:=by
 intro j hj;rw[size_flatK]at hj;have hj':j < 70:=hj;refine⟨?_,by rw[Nat.zero_add];exact jbi hg j⟩;rw[Nat.zero_add,cell_of_row _ _ _ _ _ _ hg,get_flatK _ _ _ _ hj];have hx:=jfz x;have hy:=jfz y;have h1:cur[j]? =(jby x ++ jby y)[j]? :=by rw[←hc,List.getElem?_take,if_pos hj',Array.getElem?_toList]
 rw[h1];by_cases hl:j < 35
 ·have e1:j / 35=0:=by omega
  have e2:j % 35=j:=by omega
  rw[e1,e2,List.getElem?_append_left (by omega)];show(jby x)[j]? =some ((jby x)[j]!)
  rw[List.getElem!_eq_getElem?_getD,List.getElem?_eq_getElem (by omega)];rfl
 ·have e1:j / 35=1:=by omega
  have e2:j % 35=j - 35:=by omega
  rw[e1,e2,List.getElem?_append_right (by omega),hx];show(jby y)[j - 35]? =some ((jby y)[j - 35]!)
  rw[List.getElem!_eq_getElem?_getD,List.getElem?_eq_getElem (by omega)];rfl
theorem jke{w:World}{g:Nat}(x y:SupW)(h:HoldsK jby 35 w g 0 #[x,y]):Row supE w (some ⟨g,0,none⟩) [x.1,y.1]:=by
 have hx:=jfz x;have hy:=jfz y;intro k hk;refine⟨g,0,rfl,fun i hi=>?_,?_⟩
 ·rcases(show k=0∨k=1 by simp at hk;omega)with rfl|rfl
  ·have hi':i < 35:=by rw[←hx];exact hi
   have:=(h.cell (i:=0) (c:=i) (by simp) hi').1;rw[show(0 + 0 * supE.sz + i)=0 + 0 * 35 + i from rfl,this];show some ((jby x)[i]!)=some ((jby x)[i]'hi)
   rw[List.getElem!_eq_getElem?_getD,List.getElem?_eq_getElem (by omega)];rfl
  ·have hi':i < 35:=by rw[←hy];exact hi
   have:=(h.cell (i:=1) (c:=i) (by simp) hi').1;rw[show(0 + 1 * supE.sz + i)=0 + 1 * 35 + i from rfl,this];show some ((jby y)[i]!)=some ((jby y)[i]'hi)
   rw[List.getElem!_eq_getElem?_getD,List.getElem?_eq_getElem (by omega)];rfl
 ·rcases(show k=0∨k=1 by simp at hk;omega)with rfl|rfl
  ·exact x.2
  ·exact y.2
theorem jh2(w:World)(b k:Nat)(f:Array Value→Array Value)(h:k≠b):(mapBlock w b f).heap[k]? =w.heap[k]? :=by
 unfold mapBlock;simp only[Array.getElem?_modify];rw[if_neg (fun e=>h e.symm)]
theorem jl5(w:World)(g n:Nat)(d:Array SupW)(os:Array Obj):w.grownBy (sortWorldK jby 35 w g 0 n d os) (some g):=by
 refine⟨rfl,rfl,rfl,size_sortWorldK_c jby 35 w g 0 n d os,fun k hk hne=>?_⟩;unfold sortWorldK;rw[heap_grow_old _ _ (by rw[size_putRowK];exact hk)];exact jh2 _ _ _ _ (fun e=>hne (by rw[e]))
theorem hlenS(n:Nat)(W:World)(h:n≤12):Calls Tryz.prog 219 #[.int .u64 n] W fun e w'=>(∃l:Int,e= .returned (.int .i64 l))∧w'=W:=
 (Tryz.bits_Len n W (by omega) (by omega)).mono fun _ _ ⟨he,hw⟩=>⟨⟨_,he⟩,hw⟩
theorem sort2_two(w:World)(g cap:Nat)(s t:Sup)(hs:supWf s)(ht:supWf t)(cur:Array Value)(hg:w.heap[g]? =some (.cells cur 36 (0,0)))(hc:cur.toList.take 70=supE.enc s ++ supE.enc t):
 Calls Tryz.prog 160 #[.slice (some ⟨g,0,none⟩) 2 cap, .func (.func 161) #[] #[]] w fun e w'=>
  e= .returned (.tuple #[])∧Row supE w' (some ⟨g,0,none⟩) (jl4 [s,t])∧w.grownBy w' (some g):=by
 have hH:=holds_two ⟨s,hs⟩ ⟨t,ht⟩ hg hc;have hb:=lt_of_block hg;have hcon:=AnyQ.slices_SortFunc_small Tryz.sortSup 35 Tryz.isAgg36 Tryz.sizeOf36 jby jfz (fun x v hv=>jbt x.1 v hv) supCf 161 #[] g 0 cap #[⟨s,hs⟩,⟨t,ht⟩] w (enters_of Tryz.func161 (by kernel_rfl) rfl) (supCmp_lays g 0 _ w) hH hb (show 2≤12 by decide) hlenS;refine Calls.mono hcon ?_;rintro e w' ⟨rfl,n,os,rfl⟩;refine⟨rfl,?_,jl5 _ _ _ _ _⟩;have e1:Sort.insertionSort (ltOf supCf) #[⟨s,hs⟩,⟨t,ht⟩] 0 2=if s.gen < t.gen then #[⟨t,ht⟩,⟨s,hs⟩]else #[⟨s,hs⟩,⟨t,ht⟩]:=by
  rw[ins_two];have:ltOf supCf (⟨t,ht⟩:SupW) ⟨s,hs⟩=decide (s.gen < t.gen):=by
   unfold ltOf supCf cmpI;simp only;by_cases h1:s.gen < t.gen
   ·rw[if_pos h1];simp[h1]
   ·rw[if_neg h1];by_cases h2:t.gen < s.gen
    ·rw[if_pos h2];simp[h1]
    ·rw[if_neg h2];simp[h1]
  rw[this];by_cases h1:s.gen < t.gen
  ·rw[if_pos h1,if_pos (by simpa using h1)]
  ·rw[if_neg h1,if_neg (by simpa using h1)]
 show Row supE (sortWorldK jby 35 w g 0 n (Sort.insertionSort (ltOf supCf) #[⟨s,hs⟩,⟨t,ht⟩] 0 2) os) _ _
 rw[e1];show Row supE _ _ (if s.gen < t.gen then[t,s]else[s,t])
 by_cases h1:s.gen < t.gen
 ·rw[if_pos h1,if_pos h1];exact jke ⟨t,ht⟩ ⟨s,hs⟩ (holdsK_sortWorldK_c jby 35 w g 0 #[⟨s,hs⟩,⟨t,ht⟩] _ n os hH hb rfl)
 ·rw[if_neg h1,if_neg h1];exact jke ⟨s,hs⟩ ⟨t,ht⟩ (holdsK_sortWorldK_c jby 35 w g 0 #[⟨s,hs⟩,⟨t,ht⟩] _ n os hH hb rfl)
end Go.Proofs.YtpaohkkhejpgjaaGreatDoor
