/- Texts of the proof: On U6. -/
import Derived.Test.YtpaohkkhejpgjaaGreatDoorM17
import Derived.Tactics2
import Derived.Defers
import Derived.Laws.Pointers
import Derived.Laws.LoneSync
import Derived.RegionTactic
import Derived.RegionCalls
import Derived.Test.YtpaohkkhejpgjaaGreatDoorM32
import Derived.Test.YtpaohkkhejpgjaaGreatDoorM19
set_option linter.all false
set_option maxRecDepth 100000
set_option maxHeartbeats 8000000
namespace Go.Proofs.YtpaohkkhejpgjaaGreatDoor
open Go Go.RowKit
theorem onDisable(w:World):(callFunc 289 #[]).run Tryz.prog w= .ok (.value (.tuple #[])) w:=run_call_mark0 Tryz.func289 (by kernel_rfl) (by kernel_rfl) (by kernel_rfl) .disable (by kernel_rfl) w
theorem onEnable(w:World):(callFunc 291 #[]).run Tryz.prog w= .ok (.value (.tuple #[])) w:=run_call_mark0 Tryz.func291 (by kernel_rfl) (by kernel_rfl) (by kernel_rfl) .enable (by kernel_rfl) w
theorem onAcquire(a:Addr)(w:World):(callFunc 292 #[.pointer (some a)]).run Tryz.prog w= .ok (.value (.tuple #[])) w:=run_call_marked Tryz.func292 (by kernel_rfl) (by kernel_rfl) (by kernel_rfl) .acquire (by kernel_rfl) a w
theorem onRelease(a:Addr)(w:World):(callFunc 294 #[.pointer (some a)]).run Tryz.prog w= .ok (.value (.tuple #[])) w:=run_call_marked Tryz.func294 (by kernel_rfl) (by kernel_rfl) (by kernel_rfl) .releaseMerge (by kernel_rfl) a w
theorem jko(a:Addr)(x:Value)(u:FrameMode)(w:World)(hc:w.cell? a=some x)(hz:w.frozen? a=false):
 CallsD Tryz.prog 230 #[.pointer (some a), .bool true] u w fun e u' w'=>u'=u∧(e= .returned (.tuple #[])∧w'=w.drew.setCell a (.int .u32 1)):=by
 have hc':w.drew.cell? a=some x:=by go_simp
 have hz':w.drew.frozen? a=false:=by go_simp
 have hst:=run_call_store (P:=Tryz.prog) Tryz.func266 (by kernel_rfl) (by kernel_rfl) (by kernel_rfl) (by kernel_rfl) (k:= .u32) (y:=1) hc' hz';go_enter_d Tryz.func230,Tryz.ntmps230;go_wp2;go_region_calls;all_goals(go_end0;exact⟨rfl,rfl⟩)
theorem jjt(a:Addr)(u:FrameMode)(w:World)(hc:w.cell? a=some (.int .i32 1))(hz:w.frozen? a=false):
 CallsD Tryz.prog 229 #[.pointer (some a)] u w fun e u' w'=>u'=u∧(e= .returned (.tuple #[])∧w'=w.setCell a (.int .i32 0)):=by
 have hd:=onDisable;have he:=onEnable;have hr:=onRelease;have hadd:=run_call_add (P:=Tryz.prog) Tryz.func295 (by kernel_rfl) (by kernel_rfl) (by kernel_rfl) .i32 (by kernel_rfl) (y:= -1) (s:=0) hc hz (by simp[go_sem];rfl);have hcv:=run_convert_to_unsafe (P:=Tryz.prog) (src:=379) (dst:=307) Tryz.underlying379 Tryz.underlying307 (by kernel_rfl) hc;go_enter_d Tryz.func229,Tryz.ntmps229;go_wp2;go_end0;go_wp2
theorem onLock_free(a:Addr)(w:World)(hc:w.cell? a=some (.int .i32 0))(hz:w.frozen? a=false):
 Calls Tryz.prog 228 #[.pointer (some a)] w fun e w'=>e= .returned (.tuple #[])∧w'=w.setCell a (.int .i32 1):=by
 have hd:=onDisable;have he:=onEnable;have ha:=onAcquire;have hcas:=run_call_cas_hit (P:=Tryz.prog) Tryz.func290 (by kernel_rfl) (by kernel_rfl) (by kernel_rfl) .i32 (by kernel_rfl) (y:=1) hc hz;have hc':(w.setCell a (.int .i32 1)).cell? a=some (.int .i32 1):=World.cell?_setCell_same w a _ hc;have hcv:=run_convert_to_unsafe (P:=Tryz.prog) (src:=379) (dst:=307) Tryz.underlying379 Tryz.underlying307 (by kernel_rfl) hc';go_enter Tryz.func228,Tryz.ntmps228;go_wp2;first|go_end0|(simp only[Exit.inBlock,Exit.then];refine bodyPost_ret (results_none rfl _ _ _) rfl ?_)|refine bodyPost_ret (results_none rfl _ _ _) rfl ?_
 go_wp2
def OnceMid(b off:Nat)(w2:World):Prop:=(w2.cell? ⟨b,off,none⟩=some (.int .u32 0)∧w2.cell? ⟨b,off + 1,none⟩=some (.int .i32 1))∧(w2.frozen? ⟨b,off,none⟩=false∧w2.frozen? ⟨b,off + 1,none⟩=false)
def jgy(b off:Nat)(w2:World):World:=(w2.drew.setCell ⟨b,off,none⟩ (.int .u32 1)).setCell ⟨b,off + 1,none⟩ (.int .i32 0)
theorem onceSlow_any(b off f:Nat)(caps:Array Value)(w:World)(R:World→Prop)(hen:∀args w,(callFunc f args).run Tryz.prog w= .ok (.enter f args) w)
 (h0:w.cell? ⟨b,off,none⟩=some (.int .u32 0)) (h1:w.cell? ⟨b,off + 1,none⟩=some (.int .i32 0)) (f1:w.frozen? ⟨b,off + 1,none⟩=false)
 (hcl:Calls Tryz.prog f caps (w.setCell ⟨b,off + 1,none⟩ (.int .i32 1)) fun e w2=>e= .returned (.tuple #[])∧R w2) (hR:∀w2,R w2→OnceMid b off w2):
 Calls Tryz.prog 179 #[.pointer (some ⟨b,off,none⟩), .func (.func f) #[] caps] w fun e w'=>e= .returned (.tuple #[])∧∃w2,R w2∧w'=jgy b off w2:=by
 have hl:=run_call_load (P:=Tryz.prog) Tryz.func227 (by kernel_rfl) (by kernel_rfl) (by kernel_rfl) .u32 (by kernel_rfl) (w:=w.setCell ⟨b,off + 1,none⟩ (.int .i32 1)) (a:=⟨b,off,none⟩) (x:=0) ((World.cell?_setCell_other _ ⟨b,off + 1,none⟩ ⟨b,off,none⟩ _ (by simp)).trans h0);have hnot:∀(x:Bool) (w:World),(Op.unary .not (.bool x)).run Tryz.prog w= .ok (.bool (!x)) w:=fun _ _=>rfl
 have HC:=Lib.hid hcl;have HR:=Lib.hid hR;clear hcl hR;go_enter_defers Tryz.func179,Tryz.ntmps179;go_wp2_with (first|(go_at_call 228;refine(onLock_free ⟨b,off + 1,none⟩ _ (by go_simp) (by go_simp)).mono ?_;rintro e w' ⟨rfl,rfl⟩)|(go_at_call 178;go_in));refine HC.out.mono ?_;rintro e w2 ⟨rfl,hw2⟩;obtain⟨⟨c0,c1⟩,z0,z1⟩:=HR.out w2 hw2;have HW:=Lib.hid hw2;clear hw2;go_wp2;refine leaves_cons (f:=230) (args:= #[.pointer (some ⟨b,off,none⟩), .bool true]) (by simp) (by simp[go_sem]) ?_;refine(jko ⟨b,off,none⟩ (.int .u32 0) .returning _ c0 z0).mono ?_;rintro e u' w'' ⟨rfl,rfl,rfl⟩;refine leaves_cons (f:=229) (args:= #[.pointer (some ⟨b,off + 1,none⟩)]) (by simp[settle]) (by simp[go_sem]) ?_;refine(jjt ⟨b,off + 1,none⟩ _ _ ?_ (by simp[z1])).mono ?_
 ·refine(World.cell?_setCell_other _ ⟨b,off,none⟩ ⟨b,off + 1,none⟩ _ (by simp)).trans ?_;rw[World.cell?_drew];exact c1
 rintro e u' w'' ⟨rfl,rfl,rfl⟩;simp[Leaves,settle,results,Tryz.results179];exact⟨w2,HW.out,rfl⟩
theorem jka(b off f:Nat)(caps:Array Value)(w:World)(R:World→Prop)(hen:∀args w,(callFunc f args).run Tryz.prog w= .ok (.enter f args) w)
 (h0:w.cell? ⟨b,off,none⟩=some (.int .u32 0)) (h1:w.cell? ⟨b,off + 1,none⟩=some (.int .i32 0)) (f1:w.frozen? ⟨b,off + 1,none⟩=false)
 (hcl:Calls Tryz.prog f caps (w.setCell ⟨b,off + 1,none⟩ (.int .i32 1)) fun e w2=>e= .returned (.tuple #[])∧R w2) (hR:∀w2,R w2→OnceMid b off w2):
 Calls Tryz.prog 119 #[.pointer (some ⟨b,off,none⟩), .func (.func f) #[] caps] w fun e w'=>e= .returned (.tuple #[])∧∃w2,R w2∧w'=jgy b off w2:=by
 have hl:=run_call_load (P:=Tryz.prog) Tryz.func227 (by kernel_rfl) (by kernel_rfl) (by kernel_rfl) .u32 (by kernel_rfl) h0;have hnot:∀(x:Bool) (w:World),(Op.unary .not (.bool x)).run Tryz.prog w= .ok (.bool (!x)) w:=fun _ _=>rfl
 have HC:=Lib.hid (onceSlow_any b off f caps w R hen h0 h1 f1 hcl hR);clear hcl hR hen;go_enter Tryz.func119,Tryz.ntmps119;go_wp2_with (first|(go_at_call 179;refine HC.out.mono ?_;rintro e w' ⟨rfl,hw'⟩)|(go_at_call 178;go_in));go_end0;exact⟨rfl,hw'⟩
theorem onceDo_done(a:Addr)(d:Int)(hd:¬d=0)(fv:Value)(w:World)(h0:w.cell? a=some (.int .u32 d)):
 Calls Tryz.prog 119 #[.pointer (some a),fv] w fun e w'=>e= .returned (.tuple #[])∧w'=w:=by
 have hl:=run_call_load (P:=Tryz.prog) Tryz.func227 (by kernel_rfl) (by kernel_rfl) (by kernel_rfl) .u32 (by kernel_rfl) h0;have hnot:∀(x:Bool) (w:World),(Op.unary .not (.bool x)).run Tryz.prog w= .ok (.bool (!x)) w:=fun _ _=>rfl
 have hd':(d !=0)=true:=by simp[hd]
 go_enter Tryz.func119,Tryz.ntmps119;go_wp2;go_end0;exact⟨rfl,rfl⟩
def pickS(i:Int)(data:ByteArray):List Sup:=match (jcj data).bind (fun s=>if slotS s=i then some s else none)with
 |some s=>[s]
 |none=>[]
theorem jf0(i:Int)(data:ByteArray):(decEr data=9∧pickS i data=[])∨(decEr data=0∧slotS (decV data)≠i∧pickS i data=[])∨(decEr data=0∧slotS (decV data)=i∧pickS i data=[decV data]):=by
 unfold decEr decV pickS;cases h:jcj data with
 |none=>exact Or.inl ⟨rfl,rfl⟩
 |some s=>
  right;by_cases hs:slotS s=i
  ·right;refine⟨rfl,hs,?_⟩;show(match (if slotS s=i then some s else none)with|some s=>[s]|none=>[])=[s]
   rw[if_pos hs]
  ·left;refine⟨rfl,hs,?_⟩;show(match (if slotS s=i then some s else none)with|some s=>[s]|none=>[])=[]
   rw[if_neg hs]
theorem order_eq(a b:ByteArray):jcm a b=jl4 (pickS 0 a ++ pickS 1 b):=by
 unfold jcm pickS;cases ha:(jcj a).bind (fun s=>if slotS s=0 then some s else none)with
 |none=>
  cases hb:(jcj b).bind (fun s=>if slotS s=1 then some s else none)with
  |none=>rfl
  |some t=>rfl
 |some s=>
  cases hb:(jcj b).bind (fun s=>if slotS s=1 then some s else none)with
  |none=>rfl
  |some t=>
   have h0:slotS s=0:=by
    cases h:jcj a with
    |none=>rw[h]at ha;cases ha
    |some x=>
     rw[h]at ha;have ha':(if slotS x=0 then some x else none)=some s:=ha;by_cases hx:slotS x=0
     ·rw[if_pos hx]at ha';injection ha' with e;rw[←e];exact hx
     ·rw[if_neg hx]at ha';cases ha'
   have h1:slotS t=1:=by
    cases h:jcj b with
    |none=>rw[h]at hb;cases hb
    |some x=>
     rw[h]at hb;have hb':(if slotS x=1 then some x else none)=some t:=hb;by_cases hx:slotS x=1
     ·rw[if_pos hx]at hb';injection hb' with e;rw[←e];exact hx
     ·rw[if_neg hx]at hb';cases hb'
   unfold slotS at h0 h1;show(if t.gen < s.gen then[s,t]else[t,s])=if s.gen < t.gen then[t,s]else[s,t]
   by_cases h2:t.gen < s.gen
   ·rw[if_pos h2,if_neg (by omega)]
   ·rw[if_neg h2,if_pos (by omega)]
def jd8(w:World)(p:Nat)(a b:ByteArray)(st:Int)(ov:Value):Prop:=w.heap[p]? =some (.cells #[.string a, .string b, .int .u32 0, .int .i32 st, .int .u32 0,ov] 203 (0,0))
def BoxAt(w:World)(q p:Nat):Prop:=w.heap[q]? =some (.cells #[.pointer (some ⟨p,0,none⟩)] 200 (0,0))
theorem jc4{w w':World}{B:Nat}{e:TypeId}{s n:Nat}{v:Value}{xs:List Value}(h:w.ownsRow B e s v n xs)(hb:Below w.heap.size w w'):w'.ownsRow B e s v n xs:=by
 obtain⟨h1,h2⟩:=h;refine⟨h1,?_⟩;rcases h2 with h2|⟨g,cap,cur,e1,e2,e3,e4⟩
 ·exact Or.inl h2
 ·exact Or.inr ⟨g,cap,cur,e1,e2,(hb.block _ (lt_of_block e3)).trans e3,e4⟩
theorem jiu:(Tryz.prog.info? 36).map (fun i=>(i.zero.map (fun z=>z.cells.size),i.size,i.bytes))=some (some 35,35,56):=by kernel_rfl
theorem ix_zero(a b:ByteArray)(W:World):(Instr.index 201 (.agg #[.string a, .string b]) (.int .i64 0)).run Tryz.prog W= .ok (.string a) W:=by
 have hz:(sizeOf 9).run Tryz.prog W= .ok 1 W:=Tryz.sizeOf9 W;simp[Instr.index,asIntOf,run_underlying Tryz.underlying201,hz,part]
theorem ix_one(a b:ByteArray)(W:World):(Instr.index 201 (.agg #[.string a, .string b]) (.int .i64 1)).run Tryz.prog W= .ok (.string b) W:=by
 have hz:(sizeOf 9).run Tryz.prog W= .ok 1 W:=Tryz.sizeOf9 W;simp[Instr.index,asIntOf,run_underlying Tryz.underlying201,hz,part]
def ordL(a b:ByteArray)(k:Nat):List Sup:=if k=0 then[]else if k=1 then pickS 0 a else pickS 0 a ++ pickS 1 b
theorem jiv(i:Int)(d:ByteArray):(pickS i d).length≤1:=by
 rcases jf0 i d with⟨_,h⟩|⟨_,_,h⟩|⟨_,_,h⟩ <;>rw[h] <;>simp
theorem pick_wf(i:Int)(d:ByteArray):∀x∈pickS i d,supWf x:=by
 intro x hx;rcases jf0 i d with⟨_,h⟩|⟨_,_,h⟩|⟨_,_,h⟩ <;>rw[h]at hx
 ·simp at hx
 ·simp at hx
 ·rw[List.mem_singleton.1 hx];exact jh1 d
def RoundV(w:World)(q p:Nat)(a b:ByteArray)(l:List Sup)(hv:Value)(wr:World):Prop:=jd8 wr p a b 1 hv∧BoxAt wr q p∧wr.ownsRow w.heap.size 36 35 hv l.length (l.flatMap supE.enc)∧w.grownBy wr (some p)
def RoundU(w:World)(q p:Nat)(a b:ByteArray)(l:List Sup)(wr:World):Prop:=∃hv,RoundV w q p a b l hv wr
theorem fold_laidk:∀(vs:List Value) (k:Nat) (zs:Array Value),k + vs.length≤zs.size→List.foldl (fun(cs:Array Value) (x:Value×Nat)=>cs.setIfInBounds x.snd x.fst) zs (vs.zipIdx k)=(zs.toList.take k ++ vs ++ zs.toList.drop (k + vs.length)).toArray
 |[],k,zs,_=>by simp
 |v::r,k,zs,h=>by
  rw[List.length_cons]at h;rw[List.zipIdx_cons,List.foldl_cons,fold_laidk r (k + 1) _ (by rw[Array.size_setIfInBounds];omega)];congr 1
  rw[Array.toList_setIfInBounds];have h1:(zs.toList.set k v).take (k + 1)=zs.toList.take k ++ [v]:=by
   rw[List.take_succ_eq_append_getElem (by simp;omega),List.getElem_set_self,List.take_set_of_le (Nat.le_refl _)]
  have h2:(zs.toList.set k v).drop (k + 1 + r.length)=zs.toList.drop (k + (v::r).length):=by
   rw[List.drop_set_of_lt (by omega),List.length_cons,show k + 1 + r.length=k + (r.length + 1) by omega]
  rw[h1,h2];simp
theorem fold_laid(vs:List Value)(zs:Array Value)(h:zs.size=vs.length):List.foldl (fun(cs:Array Value) (x:Value×Nat)=>cs.setIfInBounds x.snd x.fst) zs vs.zipIdx=vs.toArray:=by
 rw[fold_laidk vs 0 zs (by omega),List.drop_of_length_le (by simp;omega)];simp
theorem jkx{w:World}{p q:Nat}{a b:ByteArray}{st:Int}{ov:Value}(h:jd8 w p a b st ov)(k:BoxAt w q p):¬q=p:=fun e=>by
 subst e;unfold jd8 at h;unfold BoxAt at k;rw[h]at k;injection k with k;injection k with _ k _;exact absurd k (by decide)
theorem pair_sup{w:World}{p g:Nat}{a b:ByteArray}{st:Int}{ov:Value}{cs:Array Value}(h:jd8 w p a b st ov)(k:w.heap[g]? =some (.cells cs 36 (0,0))):g≠p:=fun e=>by
 subst e;unfold jd8 at h;rw[h]at k;injection k with k;injection k with _ k _;exact absurd k (by decide)
theorem box_sup{w:World}{p q g:Nat}{cs:Array Value}(h:BoxAt w q p)(k:w.heap[g]? =some (.cells cs 36 (0,0))):g≠q:=fun e=>by
 subst e;unfold BoxAt at h;rw[h]at k;injection k with k;injection k with _ k _;exact absurd k (by decide)
theorem jl6(l:List Sup):(jl4 l).length=l.length:=by
 unfold jl4;split
 ·split <;>rfl
 ·rfl
theorem jg1(w:World)(cs:Array Value):At (w.alloc (.cells cs 36)) w.heap.size 0 cs.toList:=by
 intro i hi;rw[cell_of_row _ _ _ _ _ _ (heap_alloc_new w _)];simp at hi;simp[hi]
theorem RoundV.below{w wr wz:World}{q p:Nat}{a b:ByteArray}{l:List Sup}{hv:Value}(h:RoundV w q p a b l hv wr)(hb:Below wr.heap.size wr wz):RoundV w q p a b l hv wz:=by
 obtain⟨h1,h2,h3,h4⟩:=h;exact⟨(hb.block _ (lt_of_block h1)).trans h1,(hb.block _ (lt_of_block h2)).trans h2,jc4 h3 hb,⟨hb.os.trans h4.os,hb.tape.trans h4.tape,hb.output.trans h4.output,Nat.le_trans h4.size hb.size,fun j hj hne=>(hb.block j (Nat.lt_of_lt_of_le hj h4.size)).trans (h4.block j hj hne)⟩⟩
theorem jfp{w:World}{b o p i:Nat}{cs:List Value}{v:Value}(h:w.rangeAt b o cs)(hne:b≠p):(w.setCell ⟨p,i,none⟩ v).rangeAt b o cs:=fun j u hj=>by
 rw[World.cell?_setCell_other _ _ _ _ (fun e=>hne (congrArg Addr.block e).symm)];exact h j u hj
theorem pairFn_any(w:World)(q p:Nat)(a b:ByteArray)(ha:a.size≤140737488355328)(hbz:b.size≤140737488355328)(hp:jd8 w p a b 1 (.slice none 0 0))(hq:BoxAt w q p):
 Calls Tryz.prog 158 #[.pointer (some ⟨q,0,none⟩)] w fun e w'=>e= .returned (.tuple #[])∧∃ov,jd8 w' p a b 1 ov∧BoxAt w' q p∧Sl supE w' ov (jcm a b)∧w.grownBy w' (some p)∧ov.ownBlock≠some p∧(∀g,ov.ownBlock=some g→w.heap.size≤g):=by
 have q0:w.cell? ⟨q,0,none⟩=some (.pointer (some ⟨p,0,none⟩)):=by rw[cell_of_row _ _ _ _ _ _ hq];rfl
 have p0:w.cell? ⟨p,0,none⟩=some (.string a):=by rw[cell_of_row _ _ _ _ _ _ hp];rfl
 have p1:w.cell? ⟨p,1,none⟩=some (.string b):=by rw[cell_of_row _ _ _ _ _ _ hp];rfl
 have HPQ:=Lib.hid (And.intro hp hq);have ix0:=ix_zero a b;have ix1:=ix_one a b;clear hp hq;go_enter Tryz.func158,Tryz.ntmps158;go_wp2_with (fail);go_loopw [1,2,3,4,9,10,11,12,13,14,15,16,17,18,19,20,21,22,23,24,25,26,27,28,29,30,31,32,33,34,35,36] (fun _ _ _ _ i _ _ _ _ _ _ _ _ _ _ _ _ _ _ _ _ _ _ _ _ _ _ _ _ _ _ _ wr=>∃k:Nat,k≤2∧i= .int .i64 k∧RoundU w q p a b (ordL a b k) wr) (fun _ _ _ _ i _ _ _ _ _ _ _ _ _ _ _ _ _ _ _ _ _ _ _ _ _ _ _ _ _ _ _ _=>2 - (intOf i).toNat)
 case atStart=>exact⟨0,by omega,rfl, .slice none 0 0,HPQ.out.1,HPQ.out.2,⟨rfl,Or.inl ⟨rfl,rfl⟩⟩,World.grownBy.refl _ _⟩
 case round=>
  obtain⟨k,hk,rfl,hv,hpr,hqr,hown,hgr⟩:=hrel;rcases(show k=0∨k=1∨k=2 by omega)with rfl|rfl|rfl
  ·go_wp2_with (fail);refine(jit wr a ha).mono ?_;rintro e w1 ⟨rfl,hb1⟩;have hlp:=lt_of_block hpr;have hp1:jd8 w1 p a b 1 hv:=(hb1.block _ hlp).trans hpr;have hq1:BoxAt w1 q p:=(hb1.block _ (lt_of_block hqr)).trans hqr;have ho1:=jc4 hown hb1;have hg1:w.grownBy w1 (some p):=⟨hb1.os.trans hgr.os,hb1.tape.trans hgr.tape,hb1.output.trans hgr.output,Nat.le_trans hgr.size hb1.size,fun j hj hne=>(hb1.block j (Nat.lt_of_lt_of_le hj hgr.size)).trans (hgr.block j hj hne)⟩
   have H1:=Lib.hid (And.intro hp1 (And.intro hq1 (And.intro ho1 hg1)));have HL:=Lib.hid (show ordL a b 1=ordL a b 0 ++ pickS 0 a from rfl);have HLL:=Lib.hid (show(ordL a b 0).length≤0 from Nat.le_refl _);have s1:=jbt (decV a);have s2:=jbx (jh1 a);have s3:=jbn (jh1 a);clear hpr hqr hown hgr hb1 hlp hp1 hq1 ho1 hg1;have HW:=Lib.hid (jh1 a);have HP:=Lib.hid (jf0 0 a);have HEQ:=Lib.hid (show ∀wz,wz=w1.alloc (.cells (supA (decV a)) 36)→(RoundV w q p a b (ordL a b 0) hv wz)from by
    rintro _ rfl;have hl1:=lt_of_block H1.out.1;refine⟨(Lib.alloc_old w1 _ _ hl1).trans H1.out.1,(Lib.alloc_old w1 _ _ (lt_of_block H1.out.2.1)).trans H1.out.2.1,H1.out.2.2.1.alloc _,?_⟩;exact⟨H1.out.2.2.2.os,H1.out.2.2.2.tape,H1.out.2.2.2.output,Nat.le_trans H1.out.2.2.2.size (by simp),fun j hj hne=>(Lib.alloc_old w1 _ j (Nat.lt_of_lt_of_le hj H1.out.2.2.2.size)).trans (H1.out.2.2.2.block j hj hne)⟩)
   rcases HP.out with⟨hde,hpk⟩|⟨hde,hsl,hpk⟩|⟨hde,hsl,hpk⟩
   ·rw[hde];have HR:=Lib.hid (show ordL a b 1=ordL a b 0 by rw[HL.out,hpk,List.append_nil]);clear hde hpk;go_wp2_with ((with_reducible refine jab ?_);refine jaa rfl 36 (.tmp 3) (.tmp 16) rfl 36 _ rfl (supA (decV a)).toList rfl (by rw[Array.length_toList,s3];rfl) s1 s2 ?_);exact⟨⟨1,by omega,by go_num,by rw[HR.out];exact⟨hv,HEQ.out _ rfl⟩⟩,by simp[intOf]⟩
   ·rw[hde];have HR:=Lib.hid (show ordL a b 1=ordL a b 0 by rw[HL.out,hpk,List.append_nil]);have hsb:((decV a).gen % 2==0)=false:=beq_eq_false_iff_ne.2 hsl;have hat:At (w1.alloc (.cells (supA (decV a)) 36)) w1.heap.size 0 (supA (decV a)).toList:=jg1 _ _;have HS:=Lib.hid (fun wz=>jbo wz (decV a) HW.out.2.1.1 HW.out.2.1.2);have HE:=Lib.hid (HEQ.out _ rfl);clear hde hpk hsl;obtain⟨cs,hcs⟩:∃cs,supA (decV a)=cs:=⟨_,rfl⟩
    rw[hcs]at s1 s2 s3 hat HS HE ⊢;generalize(decV a).gen % 2=sv at *;go_wp2_with (first|((with_reducible refine jab ?_);refine jaa rfl 36 (.tmp 3) (.tmp 16) rfl 36 _ rfl cs.toList rfl (by rw[Array.length_toList,s3];rfl) s1 s2 ?_)|(refine jau rfl 36 (.tmp 3) rfl w1.heap.size 0 rfl cs.toList _ hat Tryz.underlying36 rfl s2 ?_)|(go_at_call 47;refine(HS.out _).mono ?_;rintro e wS ⟨rfl,hbS⟩));exact⟨⟨1,by omega,by go_num,by rw[HR.out];exact⟨hv,HE.out.below hbS⟩⟩,by simp[intOf]⟩
   ·rw[hde];have HR:=Lib.hid (show ordL a b 1=ordL a b 0 ++ [decV a] by rw[HL.out,hpk]);have hsb:((decV a).gen % 2==0)=true:=by rw[beq_iff_eq];exact hsl
    have hat:At (w1.alloc (.cells (supA (decV a)) 36)) w1.heap.size 0 (supA (decV a)).toList:=jg1 _ _;have hnb:=heap_alloc_new w1 (.cells (supA (decV a)) 36);have HS:=Lib.hid (fun wz=>jbo wz (decV a) HW.out.2.1.1 HW.out.2.1.2);have HE:=Lib.hid (HEQ.out _ rfl);have HG3L:=Lib.hid (show hv.ownBlock≠some w1.heap.size from fun e=>by have:=(H1.out.2.2.1.lt _ e).2;omega);have HFL:=Lib.hid (show ∀l:List Sup,(l ++ [decV a]).flatMap supE.enc=l.flatMap supE.enc ++ (supA (decV a)).toList from fun l=>by simp[supE]);clear hde hpk hsl;obtain⟨vs,hvs⟩:∃vs,(supA (decV a)).toList=vs:=⟨_,rfl⟩
    have hcs:supA (decV a)=vs.toArray:=by rw[←hvs]
    have s3:vs.length=35:=by rw[←hvs,Array.length_toList,s3]
    rw[hvs]at s1 s2 hat HFL;rw[hcs]at HS HE hnb hat ⊢;have hsu:=Tryz.underlying36;generalize(decV a).gen % 2=sv at *;go_wp2_with (first|((with_reducible refine jab ?_);refine jaa rfl 36 (.tmp 3) (.tmp 16) rfl 36 _ rfl vs rfl (by rw[s3];rfl) s1 s2 ?_)|(refine jau rfl 36 (.tmp 3) rfl w1.heap.size 0 rfl vs _ hat Tryz.underlying36 rfl s2 ?_)|(go_at_call 47;refine(HS.out _).mono ?_;rintro e wS ⟨rfl,hbS⟩));have hnS:=(hbS.block _ (by simp)).trans hnb;obtain⟨x1,x2,x3,x4⟩:=HE.out.below hbS;have HNE:=Lib.hid (And.intro (jkx x1 x2) trivial);have HN3:=Lib.hid (And.intro (pair_sup x1 hnS) trivial);have HG3:=HG3L;have y0:wS.cell? ⟨q,0,none⟩=some (.pointer (some ⟨p,0,none⟩)):=by rw[cell_of_row _ _ _ _ _ _ x2];rfl
    have y5:wS.cell? ⟨p,5,none⟩=some hv:=by rw[cell_of_row _ _ _ _ _ _ x1];rfl
    have y6:wS.rangeAt w1.heap.size 0 vs:=fun j u hj=>by rw[Nat.zero_add,cell_of_row _ _ _ _ _ _ hnS];simpa using hj
    have HX:=Lib.hid (And.intro x1 (And.intro x2 (And.intro x3 x4)));have hgz:w1.heap.size < wS.heap.size:=lt_of_block hnS;have hqz:q < wS.heap.size:=lt_of_block x2;have hpz:p < wS.heap.size:=lt_of_block x1;generalize w1.heap.size=g3 at *;clear hnb hat hbS H1 HEQ;have HJ:=Lib.hid (show ∀(wd:World) (o1:Obj),((wS.alloc o1).drew).grownBy wd hv.ownBlock→(jd8 wd p a b 1 hv∧BoxAt wd q p∧w.grownBy wd (some p))∧wd.rangeAt g3 0 vs from by
     intro wd o1 hg;have hold:∀t,t < wS.heap.size→some t≠hv.ownBlock→wd.heap[t]? =wS.heap[t]? :=fun t ht hne=>(hg.block t (by simp[World.drew];omega) hne).trans (Lib.alloc_old wS o1 t ht)
     refine⟨⟨(hold _ hpz (fun e=>jb8 x3 x1 (by decide) e.symm)).trans x1,(hold _ hqz (fun e=>jb8 x3 x2 (by decide) e.symm)).trans x2,?_⟩,fun j u hj=>(World.cell?_of_block (hold _ hgz (fun e=>HG3.out e.symm))).trans (y6 j u hj)⟩;refine⟨hg.os.trans x4.os,hg.tape.trans x4.tape,hg.output.trans x4.output,Nat.le_trans x4.size (Nat.le_trans (by simp[World.drew]) hg.size),fun j hj hne=>(hold j (Nat.lt_of_lt_of_le hj x4.size) (fun e=>?_)).trans (x4.block j hj hne)⟩;have h9:w.heap.size≤j:=(x3.lt _ e.symm).1;omega)
    clear hnS x1 x2 x3 x4 HE;have ne1:¬q=p:=HNE.out.1;have ne2:¬p=q:=fun e=>ne1 e.symm
    have ne3:g3≠p:=HN3.out.1;obtain⟨i0,z0,hi,hz0,hz1,hz2,hzs⟩:=jbw jiu;have hn1:(ordL a b 0).length≤2:=Nat.le_trans HLL.out (by decide);have hlcs:vs.length=1 * 35:=s3;have hS0:wS.drew.cell? ⟨q,0,none⟩=some (.pointer (some ⟨p,0,none⟩))∧wS.drew.rangeAt g3 0 vs:=⟨y0,y6⟩
    refine wp_region_held_drew (S:=fun x=>x.cell? ⟨q,0,none⟩=some (.pointer (some ⟨p,0,none⟩))∧x.rangeAt g3 0 vs) (by kernel_rfl) hS0 (fun hHeld=>?_);refine wpAnyH_take (i:=0) (v:= .pointer (some ⟨p,0,none⟩)) rfl (by kernel_rfl) (by kernel_rfl) (by kernel_rfl) (fun _ _ _ h=>h) (Or.inl ⟨by rfl,fun x hx=>by have hx1:=hx.1;go_simp⟩) hHeld ?_;try simp only[Act.put,jy1,jy2,jy3]
    refine wpAnyH_take (i:=1) (v:= .pointer (some ⟨p,0,none⟩)) rfl (by kernel_rfl) (by kernel_rfl) (by kernel_rfl) (fun _ _ _ h=>h) (Or.inl ⟨by rfl,fun x hx=>by have hx1:=hx.1;go_simp⟩) hHeld ?_;try simp only[Act.put,jy1,jy2,jy3]
    refine wpAnyH_take (i:=2) (v:= .pointer (some ⟨p,0,none⟩)) rfl (by kernel_rfl) (by kernel_rfl) (by kernel_rfl) (fun _ _ _ h=>h) (Or.inl ⟨by rfl,fun x hx=>by go_simp⟩) hHeld ?_;try simp only[Act.put,jy1,jy2,jy3]
    refine wpAnyH_take (i:=3) (v:= .pointer (some ⟨p,5,none⟩)) rfl (by kernel_rfl) (by kernel_rfl) (by kernel_rfl) (fun _ _ _ h=>h) (Or.inl ⟨by rfl,fun x hx=>by go_simp⟩) hHeld ?_;try simp only[Act.put,jy1,jy2,jy3]
    refine wpAnyH_take (i:=5) (v:= .agg vs.toArray) rfl (by kernel_rfl) (by kernel_rfl) (by kernel_rfl) (fun _ _ _ h=>h) (yieldsIf_load_mid (by rfl) 36 (.tmp 3) rfl g3 0 rfl vs _ (fun x hx=>hx.2) Tryz.underlying36 rfl s2) hHeld ?_;try simp only[Act.put,jy1,jy2,jy3]
    refine wpAnyH_ready (rs:=[4,6]) (by kernel_rfl) (by simp) ?_;have hfold:=fold_laid vs (#[.int .u32 0, .int .u64 0, .int .u32 0, .int .u8 0, .int .u8 0, .int .u8 0, .int .u8 0, .int .u8 0, .int .u8 0, .int .u8 0, .int .u8 0, .int .u8 0, .int .u8 0, .int .u8 0, .int .u8 0, .int .u8 0, .int .u8 0, .int .u8 0, .int .u8 0, .int .u8 0, .int .u8 0, .int .u8 0, .int .u8 0, .int .u8 0, .int .u8 0, .int .u8 0, .int .u8 0, .int .u8 0, .int .u8 0, .int .u8 0, .int .u8 0, .int .u8 0, .int .u8 0, .int .u8 0, .int .u8 0]:Array Value) (by rw[s3];rfl);have y5d:wS.drew.cell? ⟨p,5,none⟩=some hv:=y5;have hS1:((wS.alloc (.cells vs.toArray 36)).drew).cell? ⟨q,0,none⟩=some (.pointer (some ⟨p,0,none⟩))∧((wS.alloc (.cells vs.toArray 36)).drew).rangeAt g3 0 vs:=⟨(World.cell?_alloc_some wS _ _ (by rw[y0];rfl)).trans y0,World.rangeAt_alloc y6 _⟩
    have y5a:((wS.alloc (.cells vs.toArray 36)).drew).cell? ⟨p,5,none⟩=some hv:=(World.cell?_alloc_some wS _ _ (by rw[y5];rfl)).trans y5;have hSd:∀(wd:World) (u:Value),(jd8 wd p a b 1 hv∧BoxAt wd q p∧w.grownBy wd (some p))∧wd.rangeAt g3 0 vs→(wd.setCell ⟨p,5,none⟩ u).cell? ⟨q,0,none⟩=some (.pointer (some ⟨p,0,none⟩))∧(wd.setCell ⟨p,5,none⟩ u).rangeAt g3 0 vs:=fun wd u h=>
     ⟨(World.cell?_setCell_other _ _ _ _ (fun e=>ne2 (congrArg Addr.block e))).trans (by rw[cell_of_row _ _ _ _ _ _ h.1.2.1];rfl),jfp h.2 ne3⟩
    have HSD:=Lib.hid hSd;clear hSd;refine AllReadyH.cons rfl (fun K hK=>?_) (AllReadyH.cons rfl (fun K hK=>?_) AllReadyH.nil)
    ·go_simp;refine hK.out _ _ hHeld (fun hHeld=>?_);clear hK K;try simp only[Act.put,jy1,jy2,jy3]
     refine wpAnyH_ready (rs:=[6]) (by kernel_rfl) (by simp) ?_;refine AllReadyH.cons rfl (fun K hK=>?_) AllReadyH.nil;go_simp;refine hK.out _ _ hS1 (fun hHeld=>?_);clear hK K;try simp only[Act.put,jy1,jy2,jy3]
     refine wpAnyH_ready (rs:=[7]) (by kernel_rfl) (by simp) ?_;refine AllReadyH.cons rfl (fun K hK=>?_) AllReadyH.nil;refine jgr (w:=(wS.alloc (.cells vs.toArray 36)).drew) rfl (.tmp 30) (.tmp 32) 86 rfl w.heap.size 36 i0 z0 35 56 Tryz.underlying86 hi hz0 hz1 hz2 hzs (by decide) hv (ordL a b 0).length ((ordL a b 0).flatMap supE.enc) rfl ((HX.out.2.2.1.alloc _).drew) ⟨wS.heap.size,0,none⟩ 1 1 vs rfl hlcs (fun j u hj=>by rw[jcl,Nat.zero_add];exact jay (w:=wS) (vs:=vs) (t:=36) j u hj) s1 (by decide) (by unfold maxLen;omega) (by omega) (by have:=HX.out.2.2.2.size;simp[World.drew];omega) ?_;intro g cap wd ho2 hg2;have hj:=HJ.out wd _ hg2;have hk1:wd.cell? ⟨q,0,none⟩=some (.pointer (some ⟨p,0,none⟩)):=(by rw[cell_of_row _ _ _ _ _ _ hj.1.2.1];rfl)
     have hcd:wd.cell? ⟨p,5,none⟩=some hv:=(by rw[cell_of_row _ _ _ _ _ _ hj.1.1];rfl)
     have hfd:wd.frozen? ⟨p,5,none⟩=false:=frozen_of_row _ _ _ _ _ hj.1.1;have HD:=Lib.hid (And.intro ho2 hj);clear ho2 hg2;refine hK.out _ _ ⟨hk1,hj.2⟩ (fun hHeld=>?_);clear hK K hj;try simp only[Act.put,jy1,jy2,jy3]
     refine wpAnyH_take (i:=8) (v:= .pointer (some ⟨p,0,none⟩)) rfl (by kernel_rfl) (by kernel_rfl) (by kernel_rfl) (fun _ _ _ h=>h) (Or.inl ⟨by rfl,fun x hx=>by go_simp⟩) hHeld ?_;try simp only[Act.put,jy1,jy2,jy3]
     refine wpAnyH_take (i:=9) (v:= .pointer (some ⟨p,5,none⟩)) rfl (by kernel_rfl) (by kernel_rfl) (by kernel_rfl) (fun _ _ _ h=>h) (Or.inl ⟨by rfl,fun x hx=>by go_simp⟩) hHeld ?_;try simp only[Act.put,jy1,jy2,jy3]
     refine wpAnyH_ready (rs:=[10]) (by kernel_rfl) (by simp) ?_;refine AllReadyH.cons rfl (fun K hK=>?_) AllReadyH.nil;go_simp;refine hK.out _ _ (HSD.out wd _ HD.out.2) (fun hHeld=>?_);clear hK K;try simp only[Act.put,jy1,jy2,jy3]
     refine wpAnyH_done (by kernel_rfl) ?_ _;have hset:=ja2 HD.out.2.1.1 5 (.slice (some ⟨g,0,none⟩) ((ordL a b 0).length + 1) cap);have hgs:=jap (World.grownBy.refl wd (some p)) 5 (.slice (some ⟨g,0,none⟩) ((ordL a b 0).length + 1) cap);have hw1:=jat HD.out.1 hgs HD.out.2.1.1 (by decide);have hw0:=(hgs.block q (lt_of_block HD.out.2.1.2.1) (fun e=>ne1 (by injection e))).trans HD.out.2.1.2.1;have HF:=Lib.hid (show RoundU w q p a b (ordL a b 1) (wd.setCell ⟨p,5,none⟩ (.slice (some ⟨g,0,none⟩) ((ordL a b 0).length + 1) cap))from
      ⟨_,hset,hw0,by rw[HR.out,HFL.out,List.length_append];exact hw1,jag HD.out.2.1.2.2 hgs⟩)
     clear hset hgs hw1 hw0 hk1 hcd hfd hHeld;go_wp2_with (fail);exact⟨⟨1,by omega,by go_num,HF.out⟩,by simp[intOf]⟩
    ·go_simp;refine hK.out _ _ hS1 (fun hHeld=>?_);clear hK K;try simp only[Act.put,jy1,jy2,jy3]
     refine wpAnyH_ready (rs:=[4]) (by kernel_rfl) (by simp) ?_;refine AllReadyH.cons rfl (fun K hK=>?_) AllReadyH.nil;go_simp;refine hK.out _ _ hHeld (fun hHeld=>?_);clear hK K;try simp only[Act.put,jy1,jy2,jy3]
     refine wpAnyH_ready (rs:=[7]) (by kernel_rfl) (by simp) ?_;refine AllReadyH.cons rfl (fun K hK=>?_) AllReadyH.nil;refine jgr (w:=(wS.alloc (.cells vs.toArray 36)).drew) rfl (.tmp 30) (.tmp 32) 86 rfl w.heap.size 36 i0 z0 35 56 Tryz.underlying86 hi hz0 hz1 hz2 hzs (by decide) hv (ordL a b 0).length ((ordL a b 0).flatMap supE.enc) rfl ((HX.out.2.2.1.alloc _).drew) ⟨wS.heap.size,0,none⟩ 1 1 vs rfl hlcs (fun j u hj=>by rw[jcl,Nat.zero_add];exact jay (w:=wS) (vs:=vs) (t:=36) j u hj) s1 (by decide) (by unfold maxLen;omega) (by omega) (by have:=HX.out.2.2.2.size;simp[World.drew];omega) ?_;intro g cap wd ho2 hg2;have hj:=HJ.out wd _ hg2;have hk1:wd.cell? ⟨q,0,none⟩=some (.pointer (some ⟨p,0,none⟩)):=(by rw[cell_of_row _ _ _ _ _ _ hj.1.2.1];rfl)
     have hcd:wd.cell? ⟨p,5,none⟩=some hv:=(by rw[cell_of_row _ _ _ _ _ _ hj.1.1];rfl)
     have hfd:wd.frozen? ⟨p,5,none⟩=false:=frozen_of_row _ _ _ _ _ hj.1.1;have HD:=Lib.hid (And.intro ho2 hj);clear ho2 hg2;refine hK.out _ _ ⟨hk1,hj.2⟩ (fun hHeld=>?_);clear hK K hj;try simp only[Act.put,jy1,jy2,jy3]
     refine wpAnyH_take (i:=8) (v:= .pointer (some ⟨p,0,none⟩)) rfl (by kernel_rfl) (by kernel_rfl) (by kernel_rfl) (fun _ _ _ h=>h) (Or.inl ⟨by rfl,fun x hx=>by go_simp⟩) hHeld ?_;try simp only[Act.put,jy1,jy2,jy3]
     refine wpAnyH_take (i:=9) (v:= .pointer (some ⟨p,5,none⟩)) rfl (by kernel_rfl) (by kernel_rfl) (by kernel_rfl) (fun _ _ _ h=>h) (Or.inl ⟨by rfl,fun x hx=>by go_simp⟩) hHeld ?_;try simp only[Act.put,jy1,jy2,jy3]
     refine wpAnyH_ready (rs:=[10]) (by kernel_rfl) (by simp) ?_;refine AllReadyH.cons rfl (fun K hK=>?_) AllReadyH.nil;go_simp;refine hK.out _ _ (HSD.out wd _ HD.out.2) (fun hHeld=>?_);clear hK K;try simp only[Act.put,jy1,jy2,jy3]
     refine wpAnyH_done (by kernel_rfl) ?_ _;have hset:=ja2 HD.out.2.1.1 5 (.slice (some ⟨g,0,none⟩) ((ordL a b 0).length + 1) cap);have hgs:=jap (World.grownBy.refl wd (some p)) 5 (.slice (some ⟨g,0,none⟩) ((ordL a b 0).length + 1) cap);have hw1:=jat HD.out.1 hgs HD.out.2.1.1 (by decide);have hw0:=(hgs.block q (lt_of_block HD.out.2.1.2.1) (fun e=>ne1 (by injection e))).trans HD.out.2.1.2.1;have HF:=Lib.hid (show RoundU w q p a b (ordL a b 1) (wd.setCell ⟨p,5,none⟩ (.slice (some ⟨g,0,none⟩) ((ordL a b 0).length + 1) cap))from
      ⟨_,hset,hw0,by rw[HR.out,HFL.out,List.length_append];exact hw1,jag HD.out.2.1.2.2 hgs⟩)
     clear hset hgs hw1 hw0 hk1 hcd hfd hHeld;go_wp2_with (fail);exact⟨⟨1,by omega,by go_num,HF.out⟩,by simp[intOf]⟩
  ·go_wp2_with (fail);refine(jit wr b hbz).mono ?_;rintro e w1 ⟨rfl,hb1⟩;have hlp:=lt_of_block hpr;have hp1:jd8 w1 p a b 1 hv:=(hb1.block _ hlp).trans hpr;have hq1:BoxAt w1 q p:=(hb1.block _ (lt_of_block hqr)).trans hqr;have ho1:=jc4 hown hb1;have hg1:w.grownBy w1 (some p):=⟨hb1.os.trans hgr.os,hb1.tape.trans hgr.tape,hb1.output.trans hgr.output,Nat.le_trans hgr.size hb1.size,fun j hj hne=>(hb1.block j (Nat.lt_of_lt_of_le hj hgr.size)).trans (hgr.block j hj hne)⟩
   have H1:=Lib.hid (And.intro hp1 (And.intro hq1 (And.intro ho1 hg1)));have HL:=Lib.hid (show ordL a b 2=ordL a b 1 ++ pickS 1 b from rfl);have HLL:=Lib.hid (show(ordL a b 1).length≤1 from jiv 0 a);have s1:=jbt (decV b);have s2:=jbx (jh1 b);have s3:=jbn (jh1 b);clear hpr hqr hown hgr hb1 hlp hp1 hq1 ho1 hg1;have HW:=Lib.hid (jh1 b);have HP:=Lib.hid (jf0 1 b);have HEQ:=Lib.hid (show ∀wz,wz=w1.alloc (.cells (supA (decV b)) 36)→(RoundV w q p a b (ordL a b 1) hv wz)from by
    rintro _ rfl;have hl1:=lt_of_block H1.out.1;refine⟨(Lib.alloc_old w1 _ _ hl1).trans H1.out.1,(Lib.alloc_old w1 _ _ (lt_of_block H1.out.2.1)).trans H1.out.2.1,H1.out.2.2.1.alloc _,?_⟩;exact⟨H1.out.2.2.2.os,H1.out.2.2.2.tape,H1.out.2.2.2.output,Nat.le_trans H1.out.2.2.2.size (by simp),fun j hj hne=>(Lib.alloc_old w1 _ j (Nat.lt_of_lt_of_le hj H1.out.2.2.2.size)).trans (H1.out.2.2.2.block j hj hne)⟩)
   rcases HP.out with⟨hde,hpk⟩|⟨hde,hsl,hpk⟩|⟨hde,hsl,hpk⟩
   ·rw[hde];have HR:=Lib.hid (show ordL a b 2=ordL a b 1 by rw[HL.out,hpk,List.append_nil]);clear hde hpk;go_wp2_with ((with_reducible refine jab ?_);refine jaa rfl 36 (.tmp 3) (.tmp 16) rfl 36 _ rfl (supA (decV b)).toList rfl (by rw[Array.length_toList,s3];rfl) s1 s2 ?_);exact⟨⟨2,by omega,by go_num,by rw[HR.out];exact⟨hv,HEQ.out _ rfl⟩⟩,by simp[intOf]⟩
   ·rw[hde];have HR:=Lib.hid (show ordL a b 2=ordL a b 1 by rw[HL.out,hpk,List.append_nil]);have hsb:((decV b).gen % 2==1)=false:=beq_eq_false_iff_ne.2 hsl;have hat:At (w1.alloc (.cells (supA (decV b)) 36)) w1.heap.size 0 (supA (decV b)).toList:=jg1 _ _;have HS:=Lib.hid (fun wz=>jbo wz (decV b) HW.out.2.1.1 HW.out.2.1.2);have HE:=Lib.hid (HEQ.out _ rfl);clear hde hpk hsl;obtain⟨cs,hcs⟩:∃cs,supA (decV b)=cs:=⟨_,rfl⟩
    rw[hcs]at s1 s2 s3 hat HS HE ⊢;generalize(decV b).gen % 2=sv at *;go_wp2_with (first|((with_reducible refine jab ?_);refine jaa rfl 36 (.tmp 3) (.tmp 16) rfl 36 _ rfl cs.toList rfl (by rw[Array.length_toList,s3];rfl) s1 s2 ?_)|(refine jau rfl 36 (.tmp 3) rfl w1.heap.size 0 rfl cs.toList _ hat Tryz.underlying36 rfl s2 ?_)|(go_at_call 47;refine(HS.out _).mono ?_;rintro e wS ⟨rfl,hbS⟩));exact⟨⟨2,by omega,by go_num,by rw[HR.out];exact⟨hv,HE.out.below hbS⟩⟩,by simp[intOf]⟩
   ·rw[hde];have HR:=Lib.hid (show ordL a b 2=ordL a b 1 ++ [decV b] by rw[HL.out,hpk]);have hsb:((decV b).gen % 2==1)=true:=by rw[beq_iff_eq];exact hsl
    have hat:At (w1.alloc (.cells (supA (decV b)) 36)) w1.heap.size 0 (supA (decV b)).toList:=jg1 _ _;have hnb:=heap_alloc_new w1 (.cells (supA (decV b)) 36);have HS:=Lib.hid (fun wz=>jbo wz (decV b) HW.out.2.1.1 HW.out.2.1.2);have HE:=Lib.hid (HEQ.out _ rfl);have HG3L:=Lib.hid (show hv.ownBlock≠some w1.heap.size from fun e=>by have:=(H1.out.2.2.1.lt _ e).2;omega);have HFL:=Lib.hid (show ∀l:List Sup,(l ++ [decV b]).flatMap supE.enc=l.flatMap supE.enc ++ (supA (decV b)).toList from fun l=>by simp[supE]);clear hde hpk hsl;obtain⟨vs,hvs⟩:∃vs,(supA (decV b)).toList=vs:=⟨_,rfl⟩
    have hcs:supA (decV b)=vs.toArray:=by rw[←hvs]
    have s3:vs.length=35:=by rw[←hvs,Array.length_toList,s3]
    rw[hvs]at s1 s2 hat HFL;rw[hcs]at HS HE hnb hat ⊢;have hsu:=Tryz.underlying36;generalize(decV b).gen % 2=sv at *;go_wp2_with (first|((with_reducible refine jab ?_);refine jaa rfl 36 (.tmp 3) (.tmp 16) rfl 36 _ rfl vs rfl (by rw[s3];rfl) s1 s2 ?_)|(refine jau rfl 36 (.tmp 3) rfl w1.heap.size 0 rfl vs _ hat Tryz.underlying36 rfl s2 ?_)|(go_at_call 47;refine(HS.out _).mono ?_;rintro e wS ⟨rfl,hbS⟩));have hnS:=(hbS.block _ (by simp)).trans hnb;obtain⟨x1,x2,x3,x4⟩:=HE.out.below hbS;have HNE:=Lib.hid (And.intro (jkx x1 x2) trivial);have HN3:=Lib.hid (And.intro (pair_sup x1 hnS) trivial);have HG3:=HG3L;have y0:wS.cell? ⟨q,0,none⟩=some (.pointer (some ⟨p,0,none⟩)):=by rw[cell_of_row _ _ _ _ _ _ x2];rfl
    have y5:wS.cell? ⟨p,5,none⟩=some hv:=by rw[cell_of_row _ _ _ _ _ _ x1];rfl
    have y6:wS.rangeAt w1.heap.size 0 vs:=fun j u hj=>by rw[Nat.zero_add,cell_of_row _ _ _ _ _ _ hnS];simpa using hj
    have HX:=Lib.hid (And.intro x1 (And.intro x2 (And.intro x3 x4)));have hgz:w1.heap.size < wS.heap.size:=lt_of_block hnS;have hqz:q < wS.heap.size:=lt_of_block x2;have hpz:p < wS.heap.size:=lt_of_block x1;generalize w1.heap.size=g3 at *;clear hnb hat hbS H1 HEQ;have HJ:=Lib.hid (show ∀(wd:World) (o1:Obj),((wS.alloc o1).drew).grownBy wd hv.ownBlock→(jd8 wd p a b 1 hv∧BoxAt wd q p∧w.grownBy wd (some p))∧wd.rangeAt g3 0 vs from by
     intro wd o1 hg;have hold:∀t,t < wS.heap.size→some t≠hv.ownBlock→wd.heap[t]? =wS.heap[t]? :=fun t ht hne=>(hg.block t (by simp[World.drew];omega) hne).trans (Lib.alloc_old wS o1 t ht)
     refine⟨⟨(hold _ hpz (fun e=>jb8 x3 x1 (by decide) e.symm)).trans x1,(hold _ hqz (fun e=>jb8 x3 x2 (by decide) e.symm)).trans x2,?_⟩,fun j u hj=>(World.cell?_of_block (hold _ hgz (fun e=>HG3.out e.symm))).trans (y6 j u hj)⟩;refine⟨hg.os.trans x4.os,hg.tape.trans x4.tape,hg.output.trans x4.output,Nat.le_trans x4.size (Nat.le_trans (by simp[World.drew]) hg.size),fun j hj hne=>(hold j (Nat.lt_of_lt_of_le hj x4.size) (fun e=>?_)).trans (x4.block j hj hne)⟩;have h9:w.heap.size≤j:=(x3.lt _ e.symm).1;omega)
    clear hnS x1 x2 x3 x4 HE;have ne1:¬q=p:=HNE.out.1;have ne2:¬p=q:=fun e=>ne1 e.symm
    have ne3:g3≠p:=HN3.out.1;obtain⟨i0,z0,hi,hz0,hz1,hz2,hzs⟩:=jbw jiu;have hn1:(ordL a b 1).length≤2:=Nat.le_trans HLL.out (by decide);have hlcs:vs.length=1 * 35:=s3;have hS0:wS.drew.cell? ⟨q,0,none⟩=some (.pointer (some ⟨p,0,none⟩))∧wS.drew.rangeAt g3 0 vs:=⟨y0,y6⟩
    refine wp_region_held_drew (S:=fun x=>x.cell? ⟨q,0,none⟩=some (.pointer (some ⟨p,0,none⟩))∧x.rangeAt g3 0 vs) (by kernel_rfl) hS0 (fun hHeld=>?_);refine wpAnyH_take (i:=0) (v:= .pointer (some ⟨p,0,none⟩)) rfl (by kernel_rfl) (by kernel_rfl) (by kernel_rfl) (fun _ _ _ h=>h) (Or.inl ⟨by rfl,fun x hx=>by have hx1:=hx.1;go_simp⟩) hHeld ?_;try simp only[Act.put,jy1,jy2,jy3]
    refine wpAnyH_take (i:=1) (v:= .pointer (some ⟨p,0,none⟩)) rfl (by kernel_rfl) (by kernel_rfl) (by kernel_rfl) (fun _ _ _ h=>h) (Or.inl ⟨by rfl,fun x hx=>by have hx1:=hx.1;go_simp⟩) hHeld ?_;try simp only[Act.put,jy1,jy2,jy3]
    refine wpAnyH_take (i:=2) (v:= .pointer (some ⟨p,0,none⟩)) rfl (by kernel_rfl) (by kernel_rfl) (by kernel_rfl) (fun _ _ _ h=>h) (Or.inl ⟨by rfl,fun x hx=>by go_simp⟩) hHeld ?_;try simp only[Act.put,jy1,jy2,jy3]
    refine wpAnyH_take (i:=3) (v:= .pointer (some ⟨p,5,none⟩)) rfl (by kernel_rfl) (by kernel_rfl) (by kernel_rfl) (fun _ _ _ h=>h) (Or.inl ⟨by rfl,fun x hx=>by go_simp⟩) hHeld ?_;try simp only[Act.put,jy1,jy2,jy3]
    refine wpAnyH_take (i:=5) (v:= .agg vs.toArray) rfl (by kernel_rfl) (by kernel_rfl) (by kernel_rfl) (fun _ _ _ h=>h) (yieldsIf_load_mid (by rfl) 36 (.tmp 3) rfl g3 0 rfl vs _ (fun x hx=>hx.2) Tryz.underlying36 rfl s2) hHeld ?_;try simp only[Act.put,jy1,jy2,jy3]
    refine wpAnyH_ready (rs:=[4,6]) (by kernel_rfl) (by simp) ?_;have hfold:=fold_laid vs (#[.int .u32 0, .int .u64 0, .int .u32 0, .int .u8 0, .int .u8 0, .int .u8 0, .int .u8 0, .int .u8 0, .int .u8 0, .int .u8 0, .int .u8 0, .int .u8 0, .int .u8 0, .int .u8 0, .int .u8 0, .int .u8 0, .int .u8 0, .int .u8 0, .int .u8 0, .int .u8 0, .int .u8 0, .int .u8 0, .int .u8 0, .int .u8 0, .int .u8 0, .int .u8 0, .int .u8 0, .int .u8 0, .int .u8 0, .int .u8 0, .int .u8 0, .int .u8 0, .int .u8 0, .int .u8 0, .int .u8 0]:Array Value) (by rw[s3];rfl);have y5d:wS.drew.cell? ⟨p,5,none⟩=some hv:=y5;have hS1:((wS.alloc (.cells vs.toArray 36)).drew).cell? ⟨q,0,none⟩=some (.pointer (some ⟨p,0,none⟩))∧((wS.alloc (.cells vs.toArray 36)).drew).rangeAt g3 0 vs:=⟨(World.cell?_alloc_some wS _ _ (by rw[y0];rfl)).trans y0,World.rangeAt_alloc y6 _⟩
    have y5a:((wS.alloc (.cells vs.toArray 36)).drew).cell? ⟨p,5,none⟩=some hv:=(World.cell?_alloc_some wS _ _ (by rw[y5];rfl)).trans y5;have hSd:∀(wd:World) (u:Value),(jd8 wd p a b 1 hv∧BoxAt wd q p∧w.grownBy wd (some p))∧wd.rangeAt g3 0 vs→(wd.setCell ⟨p,5,none⟩ u).cell? ⟨q,0,none⟩=some (.pointer (some ⟨p,0,none⟩))∧(wd.setCell ⟨p,5,none⟩ u).rangeAt g3 0 vs:=fun wd u h=>
     ⟨(World.cell?_setCell_other _ _ _ _ (fun e=>ne2 (congrArg Addr.block e))).trans (by rw[cell_of_row _ _ _ _ _ _ h.1.2.1];rfl),jfp h.2 ne3⟩
    have HSD:=Lib.hid hSd;clear hSd;refine AllReadyH.cons rfl (fun K hK=>?_) (AllReadyH.cons rfl (fun K hK=>?_) AllReadyH.nil)
    ·go_simp;refine hK.out _ _ hHeld (fun hHeld=>?_);clear hK K;try simp only[Act.put,jy1,jy2,jy3]
     refine wpAnyH_ready (rs:=[6]) (by kernel_rfl) (by simp) ?_;refine AllReadyH.cons rfl (fun K hK=>?_) AllReadyH.nil;go_simp;refine hK.out _ _ hS1 (fun hHeld=>?_);clear hK K;try simp only[Act.put,jy1,jy2,jy3]
     refine wpAnyH_ready (rs:=[7]) (by kernel_rfl) (by simp) ?_;refine AllReadyH.cons rfl (fun K hK=>?_) AllReadyH.nil;refine jgr (w:=(wS.alloc (.cells vs.toArray 36)).drew) rfl (.tmp 30) (.tmp 32) 86 rfl w.heap.size 36 i0 z0 35 56 Tryz.underlying86 hi hz0 hz1 hz2 hzs (by decide) hv (ordL a b 1).length ((ordL a b 1).flatMap supE.enc) rfl ((HX.out.2.2.1.alloc _).drew) ⟨wS.heap.size,0,none⟩ 1 1 vs rfl hlcs (fun j u hj=>by rw[jcl,Nat.zero_add];exact jay (w:=wS) (vs:=vs) (t:=36) j u hj) s1 (by decide) (by unfold maxLen;omega) (by omega) (by have:=HX.out.2.2.2.size;simp[World.drew];omega) ?_;intro g cap wd ho2 hg2;have hj:=HJ.out wd _ hg2;have hk1:wd.cell? ⟨q,0,none⟩=some (.pointer (some ⟨p,0,none⟩)):=(by rw[cell_of_row _ _ _ _ _ _ hj.1.2.1];rfl)
     have hcd:wd.cell? ⟨p,5,none⟩=some hv:=(by rw[cell_of_row _ _ _ _ _ _ hj.1.1];rfl)
     have hfd:wd.frozen? ⟨p,5,none⟩=false:=frozen_of_row _ _ _ _ _ hj.1.1;have HD:=Lib.hid (And.intro ho2 hj);clear ho2 hg2;refine hK.out _ _ ⟨hk1,hj.2⟩ (fun hHeld=>?_);clear hK K hj;try simp only[Act.put,jy1,jy2,jy3]
     refine wpAnyH_take (i:=8) (v:= .pointer (some ⟨p,0,none⟩)) rfl (by kernel_rfl) (by kernel_rfl) (by kernel_rfl) (fun _ _ _ h=>h) (Or.inl ⟨by rfl,fun x hx=>by go_simp⟩) hHeld ?_;try simp only[Act.put,jy1,jy2,jy3]
     refine wpAnyH_take (i:=9) (v:= .pointer (some ⟨p,5,none⟩)) rfl (by kernel_rfl) (by kernel_rfl) (by kernel_rfl) (fun _ _ _ h=>h) (Or.inl ⟨by rfl,fun x hx=>by go_simp⟩) hHeld ?_;try simp only[Act.put,jy1,jy2,jy3]
     refine wpAnyH_ready (rs:=[10]) (by kernel_rfl) (by simp) ?_;refine AllReadyH.cons rfl (fun K hK=>?_) AllReadyH.nil;go_simp;refine hK.out _ _ (HSD.out wd _ HD.out.2) (fun hHeld=>?_);clear hK K;try simp only[Act.put,jy1,jy2,jy3]
     refine wpAnyH_done (by kernel_rfl) ?_ _;have hset:=ja2 HD.out.2.1.1 5 (.slice (some ⟨g,0,none⟩) ((ordL a b 1).length + 1) cap);have hgs:=jap (World.grownBy.refl wd (some p)) 5 (.slice (some ⟨g,0,none⟩) ((ordL a b 1).length + 1) cap);have hw1:=jat HD.out.1 hgs HD.out.2.1.1 (by decide);have hw0:=(hgs.block q (lt_of_block HD.out.2.1.2.1) (fun e=>ne1 (by injection e))).trans HD.out.2.1.2.1;have HF:=Lib.hid (show RoundU w q p a b (ordL a b 2) (wd.setCell ⟨p,5,none⟩ (.slice (some ⟨g,0,none⟩) ((ordL a b 1).length + 1) cap))from
      ⟨_,hset,hw0,by rw[HR.out,HFL.out,List.length_append];exact hw1,jag HD.out.2.1.2.2 hgs⟩)
     clear hset hgs hw1 hw0 hk1 hcd hfd hHeld;go_wp2_with (fail);exact⟨⟨2,by omega,by go_num,HF.out⟩,by simp[intOf]⟩
    ·go_simp;refine hK.out _ _ hS1 (fun hHeld=>?_);clear hK K;try simp only[Act.put,jy1,jy2,jy3]
     refine wpAnyH_ready (rs:=[4]) (by kernel_rfl) (by simp) ?_;refine AllReadyH.cons rfl (fun K hK=>?_) AllReadyH.nil;go_simp;refine hK.out _ _ hHeld (fun hHeld=>?_);clear hK K;try simp only[Act.put,jy1,jy2,jy3]
     refine wpAnyH_ready (rs:=[7]) (by kernel_rfl) (by simp) ?_;refine AllReadyH.cons rfl (fun K hK=>?_) AllReadyH.nil;refine jgr (w:=(wS.alloc (.cells vs.toArray 36)).drew) rfl (.tmp 30) (.tmp 32) 86 rfl w.heap.size 36 i0 z0 35 56 Tryz.underlying86 hi hz0 hz1 hz2 hzs (by decide) hv (ordL a b 1).length ((ordL a b 1).flatMap supE.enc) rfl ((HX.out.2.2.1.alloc _).drew) ⟨wS.heap.size,0,none⟩ 1 1 vs rfl hlcs (fun j u hj=>by rw[jcl,Nat.zero_add];exact jay (w:=wS) (vs:=vs) (t:=36) j u hj) s1 (by decide) (by unfold maxLen;omega) (by omega) (by have:=HX.out.2.2.2.size;simp[World.drew];omega) ?_;intro g cap wd ho2 hg2;have hj:=HJ.out wd _ hg2;have hk1:wd.cell? ⟨q,0,none⟩=some (.pointer (some ⟨p,0,none⟩)):=(by rw[cell_of_row _ _ _ _ _ _ hj.1.2.1];rfl)
     have hcd:wd.cell? ⟨p,5,none⟩=some hv:=(by rw[cell_of_row _ _ _ _ _ _ hj.1.1];rfl)
     have hfd:wd.frozen? ⟨p,5,none⟩=false:=frozen_of_row _ _ _ _ _ hj.1.1;have HD:=Lib.hid (And.intro ho2 hj);clear ho2 hg2;refine hK.out _ _ ⟨hk1,hj.2⟩ (fun hHeld=>?_);clear hK K hj;try simp only[Act.put,jy1,jy2,jy3]
     refine wpAnyH_take (i:=8) (v:= .pointer (some ⟨p,0,none⟩)) rfl (by kernel_rfl) (by kernel_rfl) (by kernel_rfl) (fun _ _ _ h=>h) (Or.inl ⟨by rfl,fun x hx=>by go_simp⟩) hHeld ?_;try simp only[Act.put,jy1,jy2,jy3]
     refine wpAnyH_take (i:=9) (v:= .pointer (some ⟨p,5,none⟩)) rfl (by kernel_rfl) (by kernel_rfl) (by kernel_rfl) (fun _ _ _ h=>h) (Or.inl ⟨by rfl,fun x hx=>by go_simp⟩) hHeld ?_;try simp only[Act.put,jy1,jy2,jy3]
     refine wpAnyH_ready (rs:=[10]) (by kernel_rfl) (by simp) ?_;refine AllReadyH.cons rfl (fun K hK=>?_) AllReadyH.nil;go_simp;refine hK.out _ _ (HSD.out wd _ HD.out.2) (fun hHeld=>?_);clear hK K;try simp only[Act.put,jy1,jy2,jy3]
     refine wpAnyH_done (by kernel_rfl) ?_ _;have hset:=ja2 HD.out.2.1.1 5 (.slice (some ⟨g,0,none⟩) ((ordL a b 1).length + 1) cap);have hgs:=jap (World.grownBy.refl wd (some p)) 5 (.slice (some ⟨g,0,none⟩) ((ordL a b 1).length + 1) cap);have hw1:=jat HD.out.1 hgs HD.out.2.1.1 (by decide);have hw0:=(hgs.block q (lt_of_block HD.out.2.1.2.1) (fun e=>ne1 (by injection e))).trans HD.out.2.1.2.1;have HF:=Lib.hid (show RoundU w q p a b (ordL a b 2) (wd.setCell ⟨p,5,none⟩ (.slice (some ⟨g,0,none⟩) ((ordL a b 1).length + 1) cap))from
      ⟨_,hset,hw0,by rw[HR.out,HFL.out,List.length_append];exact hw1,jag HD.out.2.1.2.2 hgs⟩)
     clear hset hgs hw1 hw0 hk1 hcd hfd hHeld;go_wp2_with (fail);exact⟨⟨2,by omega,by go_num,HF.out⟩,by simp[intOf]⟩
  ·have hOR:=Lib.hid (order_eq a b);have hL:ordL a b 2=pickS 0 a ++ pickS 1 b:=rfl;rw[hL]at hown;have hwf:∀x∈pickS 0 a ++ pickS 1 b,supWf x:=fun x hx=>by
    rcases List.mem_append.1 hx with hx|hx
    ·exact pick_wf 0 a x hx
    ·exact pick_wf 1 b x hx
   have hlen:(pickS 0 a ++ pickS 1 b).length≤2:=by rw[List.length_append];have:=jiv 0 a;have:=jiv 1 b;omega
   have y0:wr.cell? ⟨q,0,none⟩=some (.pointer (some ⟨p,0,none⟩)):=by rw[cell_of_row _ _ _ _ _ _ hqr];rfl
   have y5:wr.cell? ⟨p,5,none⟩=some hv:=by rw[cell_of_row _ _ _ _ _ _ hpr];rfl
   have HX:=Lib.hid (And.intro hpr (And.intro hqr (And.intro hown hgr)));generalize pickS 0 a ++ pickS 1 b=l at *;by_cases h1:l.length≤1
   ·have hsl:=jct (E:=supE) hown rfl hwf;obtain⟨A,n,c,rfl⟩:=jax hsl;have hn:n=l.length:=by obtain⟨_,_,e,_⟩:=hsl;injection e
    have hs:jl4 l=l:=by
     match l,h1 with
     |[],_=>rfl
     |[x],_=>rfl
    have HS:=Lib.hid (And.intro hsl hs);clear hpr hqr hown hgr hsl hs hL;go_wp2_with (go_at_call 160;refine(sort2_one A l.length c _ h1 _).mono ?_;rintro e w' ⟨rfl,hww⟩;rw[←hww];clear hww);go_end0;exact⟨rfl,_,HX.out.1,HX.out.2.1,by rw[hOR.out,HS.out.2];exact HS.out.1,HX.out.2.2.2,jb8 HX.out.2.2.1 HX.out.1 (by decide),fun g hg=>(HX.out.2.2.1.lt g hg).1⟩
   ·obtain⟨x,y,rfl⟩:∃x y,l=[x,y]:=by
     match l,h1,hlen with
     |[],h,_=>exact absurd (Nat.zero_le _) h
     |[_],h,_=>exact absurd (Nat.le_refl _) h
     |[x,y],_,_=>exact⟨x,y,rfl⟩
     |_::_::_::_,_,h=>simp at h
    obtain⟨ho1,ho2⟩:=hown;rcases ho2 with⟨_,h0⟩|⟨g,cap,cur,rfl,hgB,hgb,hnc,hcm,hcs,htk⟩
    ·simp at h0
    ·have hfl:[x,y].flatMap supE.enc=supE.enc x ++ supE.enc y:=by rw[List.flatMap_cons,List.flatMap_cons,List.flatMap_nil,List.append_nil]
     rw[hfl]at htk;have htk2:cur.toList.take 70=supE.enc x ++ supE.enc y:=htk;have hsort:=sort2_two wr g cap x y (hwf x (List.mem_cons_self ..)) (hwf y (List.mem_cons_of_mem _ (List.mem_cons_self ..))) cur hgb htk2;have HSO:=Lib.hid hsort;have HC:=Lib.hid (And.intro hgB (And.intro hnc (And.intro hcm (And.intro (pair_sup hpr hgb) (box_sup hqr hgb)))));clear hpr hqr hgr hL ho1 htk htk2 hfl hsort hgb hcs hgB hnc hcm;go_wp2_with (fail);refine HSO.out.mono ?_;rintro e w' ⟨rfl,hrow,hgr⟩;have HF:=Lib.hid (And.intro hrow hgr);clear hrow hgr;go_wp2_with (fail);go_end0;obtain⟨hrow,hgr⟩:=HF.out;obtain⟨hgB,hnc,hcm,hne,hne2⟩:=HC.out;obtain⟨hpr,hqr,_,hg0⟩:=HX.out;refine⟨rfl,_,(hgr.block p (lt_of_block hpr) (fun e=>hne (by injection e with e;exact e.symm))).trans hpr,(hgr.block q (lt_of_block hqr) (fun e=>hne2 (by injection e with e;exact e.symm))).trans hqr,?_,?_,fun e=>hne (by injection e),fun g' e=>(show g=g' from by injection e) ▸ hgB⟩
     ·rw[hOR.out];exact⟨_,cap,by rw[jl6],Nat.le_trans (by rw[jl6];exact Nat.le_refl _) hnc,Nat.le_trans hcm (by unfold maxLen;omega),hrow⟩
     ·exact⟨hgr.os.trans hg0.os,hgr.tape.trans hg0.tape,hgr.output.trans hg0.output,Nat.le_trans hg0.size hgr.size,fun j hj hn=>(hgr.block j (Nat.lt_of_lt_of_le hj hg0.size) (fun e=>by injection e with e;omega)).trans (hg0.block j hj hn)⟩
end Go.Proofs.YtpaohkkhejpgjaaGreatDoor
