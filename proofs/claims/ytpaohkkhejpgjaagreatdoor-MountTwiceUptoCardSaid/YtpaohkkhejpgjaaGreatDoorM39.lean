/- Texts of the proof: Y8 Y9. -/
import Derived.Test.YtpaohkkhejpgjaaGreatDoorM38
import Derived.Test.YtpaohkkhejpgjaaGreatDoorM10
import Derived.Test.YtpaohkkhejpgjaaGreatDoorM5
set_option linter.all false
set_option maxRecDepth 100000
set_option maxHeartbeats 8000000
namespace Go.Proofs.YtpaohkkhejpgjaaGreatDoor
open Go Go.RowKit
theorem slots_size:(Tryz.prog.info? 37).map (·.size)=some 70:=by kernel_rfl
theorem ixs_zero(sa sb:List Value)(h:sa.length=35)(h2:sb.length=35)(W:World):(Instr.index 37 (.agg (sa ++ sb).toArray) (.int .i64 0)).run Tryz.prog W= .ok (.agg sa.toArray) W:=by
 have hz:(sizeOf 36).run Tryz.prog W= .ok 35 W:=Tryz.sizeOf36 W;simp[Instr.index,asIntOf,run_underlying Tryz.underlying37,hz,part,Tryz.underlying36,h,h2,run_underlying Tryz.underlying36]
theorem ixs_one(sa sb:List Value)(h:sa.length=35)(h2:sb.length=35)(W:World):(Instr.index 37 (.agg (sa ++ sb).toArray) (.int .i64 1)).run Tryz.prog W= .ok (.agg sb.toArray) W:=by
 have hz:(sizeOf 36).run Tryz.prog W= .ok 35 W:=Tryz.sizeOf36 W;simp[Instr.index,asIntOf,run_underlying Tryz.underlying37,hz,part,Tryz.underlying36,h,h2,run_underlying Tryz.underlying36];exact List.take_of_length_le (by omega)
theorem sto_slots{w:World}{g:Nat}{dv hp a b v k:List Value}{fr:Nat×Nat}{t:TypeId}(h:w.heap[g]? =some (.cells (stoL dv hp a b v k).toArray t fr))(hl:StoLen dv hp a b v k):At w g 7 (a ++ b):=by
 have h0:At w g 0 ((dv ++ hp) ++ ((a ++ b) ++ (v ++ k))):=by
  have e:(dv ++ hp) ++ ((a ++ b) ++ (v ++ k))=stoL dv hp a b v k:=by unfold stoL;simp only[List.append_assoc]
  rw[e];intro i hi;rw[cell_of_row _ _ _ _ _ _ h,Nat.zero_add];simp[hi]
 have h1:=h0.right;rw[List.length_append,hl.dv,hl.hp]at h1;exact h1.left
def vAt(s:Sto)(k:Nat):List Sup:=if k=0 then[]else if k=1 then(if s.v0 then[s.s0]else[])else jbh s
theorem vAt_len(s:Sto)(k:Nat):(vAt s k).length≤k:=by
 unfold vAt jbh;rcases k with _|_|k <;>cases s.v0 <;>cases s.v1 <;>simp <;>omega
structure VR(w wr:World)(p:Nat)(st:List Value)(ov:Value)(l:List Sup):Prop where
 sto:wr.heap[p]? =some (.cells st.toArray 42 (0,0))
 own:wr.ownsRow w.heap.size 36 35 ov l.length (l.flatMap supE.enc)
 below:Below w.heap.size w wr
theorem ji7(w:World)(v:Value)(s:Sto)(hv:StoV w v s):
 Calls Tryz.prog 62 #[v] w fun e w'=>∃r,e= .returned r∧w'.ownsRow w.heap.size 36 35 r (jbh s).length ((jbh s).flatMap supE.enc)∧Below w.heap.size w w':=by
 obtain⟨bv,wv,cv,rfl,hdv,hhv,hw0,hw1,hkw⟩:=hv;have HSL:=Lib.hid (ja4 (d:=s.dev) (bv:=bv) (wv:=wv) (x:= .int .u32 s.heap.size) (cv:=cv) (p:=s.v0) (q:=s.v1) hw0 hw1 hkw);have HSW:=Lib.hid (And.intro trivial (And.intro hw0 hw1));have IX0:=Lib.hid (ixs_zero (supA s.s0).toList (supA s.s1).toList HSL.out.a HSL.out.b);have IX1:=Lib.hid (ixs_one (supA s.s0).toList (supA s.s1).toList HSL.out.a HSL.out.b);have hb:=heap_alloc_new w (.cells (stoL (devL s.dev bv wv) [.int .u32 s.heap.size,cv] (supA s.s0).toList (supA s.s1).toList [.bool s.v0, .bool s.v1] (kidE.enc s.table)).toArray 42);have hB:=(Below.refl w.heap.size w).alloc (Nat.le_refl _) (.cells (stoL (devL s.dev bv wv) [.int .u32 s.heap.size,cv] (supA s.s0).toList (supA s.s1).toList [.bool s.v0, .bool s.v1] (kidE.enc s.table)).toArray 42);have has:=sto_slots hb HSL.out;have hssl:((supA s.s0).toList ++ (supA s.s1).toList).length=70:=by rw[List.length_append,HSL.out.a,HSL.out.b]
 clear hdv hhv hw0 hw1 hkw;have hst:∃st,stoL (devL s.dev bv wv) [.int .u32 s.heap.size,cv] (supA s.s0).toList (supA s.s1).toList [.bool s.v0, .bool s.v1] (kidE.enc s.table)=st:=⟨_,rfl⟩
 obtain⟨sl,hsl⟩:∃sl,((supA s.s0).toList ++ (supA s.s1).toList).toArray=sl:=⟨_,rfl⟩
 rw[hsl]at IX0 IX1;obtain⟨ss,hss⟩:∃ss,((supA s.s0).toList ++ (supA s.s1).toList)=ss:=⟨_,rfl⟩
 rw[hss]at hsl has hssl;clear hss;have HSS:=Lib.hid hsl;clear hsl;obtain⟨st,hst⟩:=hst;rw[hst]at hb hB has ⊢;have HST:=Lib.hid hst;clear hst;have h70:(Tryz.prog.info? 37).map (·.size)=some ss.length:=by rw[hssl];exact slots_size
 go_enter Tryz.func62,Tryz.ntmps62;go_upto_region 1 with(fail);obtain⟨sta,hsta⟩:∃sta,st.toArray=sta:=⟨_,rfl⟩
 generalize w.alloc (.cells st.toArray 42)=wa at *;clear hsta;go_wp2_with (first
  |((with_reducible refine jbv 37 ?_);refine jae rfl 37 (.tmp 6) rfl w.heap.size 7 rfl ss _ has Tryz.underlying37 rfl h70 sl HSS.out ?_))
 have H0:=Lib.hid (And.intro hb hB);clear hb hB has;go_loopw [3,4,5,8,9,10,11,12,13,14,15,16,17,18,19,20] (fun ov _ _ i _ _ _ _ _ _ _ _ _ _ _ _ wr=>∃k:Nat,k≤2∧i= .int .i64 k∧VR w wr w.heap.size st ov (vAt s k)) (fun _ _ _ i _ _ _ _ _ _ _ _ _ _ _ _ _=>2 - (intOf i).toNat)
 case atStart=>exact⟨0,by omega,rfl,H0.out.1,World.ownsRow_nil _ _ _ _,H0.out.2⟩
 case round=>
  obtain⟨k,hk,rfl,hvr⟩:=hrel;rcases(show k=0∨k=1∨k=2 by omega)with rfl|rfl|rfl
  ·-- round 0
   obtain⟨vs,hvs⟩:∃vs,(supA s.s0).toList=vs:=⟨_,rfl⟩
   have hvl:vs.length=35:=by rw[←hvs,Array.length_toList];exact jbn HSW.out.2.1
   have hv1:∀u∈vs,u.oneCell'=true:=by rw[←hvs];exact jbt _
   have hvi:(Tryz.prog.info? 36).map (·.size)=some vs.length:=by rw[←hvs];exact jbx HSW.out.2.1
   have hix:=IX0.out;rw[hvs]at hix;have y7:wr.cell? ⟨w.heap.size,77,none⟩=some (.bool s.v0):=by
    have:=(jcr (by rw[HST.out];exact hvr.sto) HSL.out).2.2.2.2.1.cell 0 _ rfl;simpa using this
   have HVR:=Lib.hid hvr;have HVS:=Lib.hid hvs;clear hvr;have hat:At (wr.alloc (.cells vs.toArray 36)) wr.heap.size 0 vs:=by have h9:=jg1 wr vs.toArray;simpa using h9
   have y7a:∀o,(wr.alloc o).cell? ⟨w.heap.size,77,none⟩=some (.bool s.v0):=fun o=>(World.cell?_alloc_some wr _ o (by rw[y7];rfl)).trans y7
   have y7:=y7a (.cells vs.toArray 36);clear y7a;have hst2:=(Lib.alloc_old wr (.cells vs.toArray 36) _ (lt_of_block HVR.out.sto)).trans HVR.out.sto;have hown2:=HVR.out.own.alloc (.cells vs.toArray 36);have hb2:=HVR.out.below.alloc HVR.out.below.size (.cells vs.toArray 36);have HNB:=Lib.hid (heap_alloc_new wr (.cells vs.toArray 36));obtain⟨va,hva⟩:∃va,vs.toArray=va:=⟨_,rfl⟩
   have HVA:=Lib.hid hva;rw[hva]at hix;clear hva;cases hvv:s.v0 with
   |false=>
    rw[hvv]at y7;have HV:=Lib.hid (show VR w (wr.alloc (.cells vs.toArray 36)) w.heap.size st u3 (vAt s 1)from by
     rw[show vAt s 1=vAt s 0 by unfold vAt jbh;simp[hvv]];exact⟨hst2,hown2,hb2⟩)
    clear hst2 hown2 hb2 hvs hvv;go_wp2_with (first
     |((with_reducible refine jab ?_);refine jaa rfl 36 (.tmp 5) (.tmp 11) rfl 36 _ rfl vs (by rw[HVA.out];rfl) (by rw[hvl];rfl) hv1 hvi ?_))
    exact⟨⟨1,by omega,by go_num,HV.out⟩,by simp[intOf]⟩
   |true=>
    rw[hvv]at y7;have HVQ:=Lib.hid (show vAt s 1=vAt s 0 ++ [s.s0] by unfold vAt jbh;simp[hvv]);have HX:=Lib.hid (And.intro hst2 (And.intro hown2 hb2));have hlen:=vAt_len s 0;obtain⟨i0,z0,hi,hz0,hz1,hz2,hzs⟩:=jbw jiu;have hn0:=HVR.out.below.size;clear hst2 hown2 hb2 hvs hvv;generalize hxs:(vAt s 0).length=nx at *;have HXS:=Lib.hid hxs;clear hxs;go_wp2_with (first
     |((with_reducible refine jab ?_);refine jaa rfl 36 (.tmp 5) (.tmp 11) rfl 36 _ rfl vs (by rw[HVA.out];rfl) (by rw[hvl];rfl) hv1 hvi ?_)
     |(refine jae rfl 36 (.tmp 5) rfl wr.heap.size 0 rfl vs _ hat Tryz.underlying36 rfl hvi va HVA.out ?_)
     |(refine je1 rfl 86 36 (.tmp 17) rfl vs (by rw[HVA.out];rfl) 35 Tryz.underlying86 ⟨i0,z0,hi,hz0,hz1,hzs⟩ hvl (by decide) (by decide) ?_)
     |(refine wpList_append_lies (w:=(wr.alloc (.cells vs.toArray 36)).alloc (.cells vs.toArray 36)) rfl (.tmp 16) (.tmp 18) 86 rfl w.heap.size 36 i0 z0 35 56 Tryz.underlying86 hi hz0 hz1 hz2 hzs (by decide) u3 nx ((vAt s 0).flatMap supE.enc) rfl (HX.out.2.1.alloc _) ⟨wr.heap.size + 1,0,none⟩ 1 1 vs (by simp;rfl) (by rw[hvl]) (fun j u hj=>by rw[jcl,Nat.zero_add];have h9:=jay (w:=wr.alloc (.cells vs.toArray 36)) (t:=36) j u hj;simpa using h9) hv1 (by decide) (by unfold maxLen;omega) (by omega) (by simp;omega) _ rfl ?_;intro g cap wd ho2 hg2 _ _))
    have hb3:=HX.out.2.2.alloc (by simp;omega) (.cells vs.toArray 36);have hst3:=(Lib.alloc_old (wr.alloc (.cells vs.toArray 36)) (.cells vs.toArray 36) _ (lt_of_block HX.out.1)).trans HX.out.1;have hnb:∀g,u3.ownBlock=some g→w.heap.size≤g∧g≠w.heap.size:=fun g hg=>⟨(HX.out.2.1.lt g hg).1,fun e=>by subst e;exact jb8 HX.out.2.1 HX.out.1 (by decide) hg⟩
    refine⟨⟨1,by omega,by go_num,?_⟩,by simp[intOf]⟩;rw[HVQ.out];refine⟨(hg2.block _ (lt_of_block hst3) (fun e=>(hnb _ e.symm).2 rfl)).trans hst3,?_,hb3.grown hg2 hb3.size (fun g hg=>(hnb g hg).1)⟩;rw[List.length_append,HXS.out,List.flatMap_append,show[s.s0].flatMap supE.enc=vs by rw[←HVS.out];simp[supE]];exact ho2
  ·-- round 1
   obtain⟨vs,hvs⟩:∃vs,(supA s.s1).toList=vs:=⟨_,rfl⟩
   have hvl:vs.length=35:=by rw[←hvs,Array.length_toList];exact jbn HSW.out.2.2
   have hv1:∀u∈vs,u.oneCell'=true:=by rw[←hvs];exact jbt _
   have hvi:(Tryz.prog.info? 36).map (·.size)=some vs.length:=by rw[←hvs];exact jbx HSW.out.2.2
   have hix:=IX1.out;rw[hvs]at hix;have y7:wr.cell? ⟨w.heap.size,78,none⟩=some (.bool s.v1):=by
    have:=(jcr (by rw[HST.out];exact hvr.sto) HSL.out).2.2.2.2.1.cell 1 _ rfl;simpa using this
   have HVR:=Lib.hid hvr;have HVS:=Lib.hid hvs;clear hvr;have hat:At (wr.alloc (.cells vs.toArray 36)) wr.heap.size 0 vs:=by have h9:=jg1 wr vs.toArray;simpa using h9
   have y7a:∀o,(wr.alloc o).cell? ⟨w.heap.size,78,none⟩=some (.bool s.v1):=fun o=>(World.cell?_alloc_some wr _ o (by rw[y7];rfl)).trans y7
   have y7:=y7a (.cells vs.toArray 36);clear y7a;have hst2:=(Lib.alloc_old wr (.cells vs.toArray 36) _ (lt_of_block HVR.out.sto)).trans HVR.out.sto;have hown2:=HVR.out.own.alloc (.cells vs.toArray 36);have hb2:=HVR.out.below.alloc HVR.out.below.size (.cells vs.toArray 36);have HNB:=Lib.hid (heap_alloc_new wr (.cells vs.toArray 36));obtain⟨va,hva⟩:∃va,vs.toArray=va:=⟨_,rfl⟩
   have HVA:=Lib.hid hva;rw[hva]at hix;clear hva;cases hvv:s.v1 with
   |false=>
    rw[hvv]at y7;have HV:=Lib.hid (show VR w (wr.alloc (.cells vs.toArray 36)) w.heap.size st u3 (vAt s 2)from by
     rw[show vAt s 2=vAt s 1 by unfold vAt jbh;simp[hvv]];exact⟨hst2,hown2,hb2⟩)
    clear hst2 hown2 hb2 hvs hvv;go_wp2_with (first
     |((with_reducible refine jab ?_);refine jaa rfl 36 (.tmp 5) (.tmp 11) rfl 36 _ rfl vs (by rw[HVA.out];rfl) (by rw[hvl];rfl) hv1 hvi ?_))
    exact⟨⟨2,by omega,by go_num,HV.out⟩,by simp[intOf]⟩
   |true=>
    rw[hvv]at y7;have HVQ:=Lib.hid (show vAt s 2=vAt s 1 ++ [s.s1] by unfold vAt jbh;simp[hvv]);have HX:=Lib.hid (And.intro hst2 (And.intro hown2 hb2));have hlen:=vAt_len s 1;obtain⟨i0,z0,hi,hz0,hz1,hz2,hzs⟩:=jbw jiu;have hn0:=HVR.out.below.size;clear hst2 hown2 hb2 hvs hvv;generalize hxs:(vAt s 1).length=nx at *;have HXS:=Lib.hid hxs;clear hxs;go_wp2_with (first
     |((with_reducible refine jab ?_);refine jaa rfl 36 (.tmp 5) (.tmp 11) rfl 36 _ rfl vs (by rw[HVA.out];rfl) (by rw[hvl];rfl) hv1 hvi ?_)
     |(refine jae rfl 36 (.tmp 5) rfl wr.heap.size 0 rfl vs _ hat Tryz.underlying36 rfl hvi va HVA.out ?_)
     |(refine je1 rfl 86 36 (.tmp 17) rfl vs (by rw[HVA.out];rfl) 35 Tryz.underlying86 ⟨i0,z0,hi,hz0,hz1,hzs⟩ hvl (by decide) (by decide) ?_)
     |(refine wpList_append_lies (w:=(wr.alloc (.cells vs.toArray 36)).alloc (.cells vs.toArray 36)) rfl (.tmp 16) (.tmp 18) 86 rfl w.heap.size 36 i0 z0 35 56 Tryz.underlying86 hi hz0 hz1 hz2 hzs (by decide) u3 nx ((vAt s 1).flatMap supE.enc) rfl (HX.out.2.1.alloc _) ⟨wr.heap.size + 1,0,none⟩ 1 1 vs (by simp;rfl) (by rw[hvl]) (fun j u hj=>by rw[jcl,Nat.zero_add];have h9:=jay (w:=wr.alloc (.cells vs.toArray 36)) (t:=36) j u hj;simpa using h9) hv1 (by decide) (by unfold maxLen;omega) (by omega) (by simp;omega) _ rfl ?_;intro g cap wd ho2 hg2 _ _))
    have hb3:=HX.out.2.2.alloc (by simp;omega) (.cells vs.toArray 36);have hst3:=(Lib.alloc_old (wr.alloc (.cells vs.toArray 36)) (.cells vs.toArray 36) _ (lt_of_block HX.out.1)).trans HX.out.1;have hnb:∀g,u3.ownBlock=some g→w.heap.size≤g∧g≠w.heap.size:=fun g hg=>⟨(HX.out.2.1.lt g hg).1,fun e=>by subst e;exact jb8 HX.out.2.1 HX.out.1 (by decide) hg⟩
    refine⟨⟨2,by omega,by go_num,?_⟩,by simp[intOf]⟩;rw[HVQ.out];refine⟨(hg2.block _ (lt_of_block hst3) (fun e=>(hnb _ e.symm).2 rfl)).trans hst3,?_,hb3.grown hg2 hb3.size (fun g hg=>(hnb g hg).1)⟩;rw[List.length_append,HXS.out,List.flatMap_append,show[s.s1].flatMap supE.enc=vs by rw[←HVS.out];simp[supE]];exact ho2
  ·have HV:=Lib.hid hvr;clear hvr;go_wp2_with (fail);go_ret;exact⟨_,rfl,HV.out.own,HV.out.below⟩
theorem eqHash_two(d:Nat)(a b:List Int)(w:World)(ha:a.length=32)(hb:b.length=32):
 (Op.equalIn (d + 2) 34 (.agg (hashV a).toArray) (.agg (hashV b).toArray)).run Tryz.prog w= .ok (a==b) w:=by
 obtain⟨i,hi⟩:=Option.isSome_iff_exists.1 u8_infos;have key:((List.range 32).all fun j=>a.getD j 0==b.getD j 0)=(a==b):=by
  rw[Bool.eq_iff_iff,List.all_eq_true,beq_iff_eq];constructor
  ·intro h;apply List.ext_getElem (by omega);intro k h1 h2;have:=h k (by rw[List.mem_range];omega);simpa[List.getD_eq_getElem?_getD,h1,h2]using this
  ·rintro rfl k _;simp
 rw[←key,←jjf d a b w (List.range 32) (fun j hj=>by rw[List.mem_range]at hj;omega)];have h:=run_equalIn_array (P:=Tryz.prog) w (d + 1) (hashV a).toArray (hashV b).toArray Tryz.underlying34 hi;rw[cells_u8]at h;exact h
theorem sup_parts(s:Sup)(hk:s.hash.length=32)(w:World):(part 22 (supA s) 0).run Tryz.prog w= .ok (.int .u32 s.size) w∧(part 33 (supA s) 1).run Tryz.prog w= .ok (.int .u64 s.gen) w∧(part 22 (supA s) 2).run Tryz.prog w= .ok (.int .u32 s.table) w∧
 (part 34 (supA s) 3).run Tryz.prog w= .ok (.agg (hashV s.hash).toArray) w:=by
 obtain⟨a,b,c,hash⟩:=s;obtain⟨x0,x1,x2,x3,x4,x5,x6,x7,x8,x9,x10,x11,x12,x13,x14,x15,x16,x17,x18,x19,x20,x21,x22,x23,x24,x25,x26,x27,x28,x29,x30,x31,rfl⟩:=lit32a hash hk;refine⟨by kernel_rfl,by kernel_rfl,by kernel_rfl,by kernel_rfl⟩
theorem sup_fieldsY:(Tryz.prog.fieldsOf 36).toList.map (fun f=>(f.type,f.offset,f.name != "_"))=[(22,0,true),(33,1,true),(22,2,true),(34,3,true)]:=by kernel_rfl
theorem sup_hS:Tryz.prog.underlying 36=some (.struct (Tryz.prog.fieldsOf 36)):=by kernel_rfl
theorem sup_hp:Tryz.prog.stoodInHeld 36=false:=by kernel_rfl
theorem fields_four{xs ys:Array Value}{a b c a' b' c':Int}{hs hs':List Int}(w:World)(d:Nat)(fs:List Field)(hf:fs.map (fun f=>(f.type,f.offset,f.name != "_"))=[(22,0,true),(33,1,true),(22,2,true),(34,3,true)])
 (p0:(part 22 xs 0).run Tryz.prog w= .ok (.int .u32 a) w) (p1:(part 33 xs 1).run Tryz.prog w= .ok (.int .u64 b) w) (p2:(part 22 xs 2).run Tryz.prog w= .ok (.int .u32 c) w) (p3:(part 34 xs 3).run Tryz.prog w= .ok (.agg (hashV hs).toArray) w) (hk:hs.length=32)
 (q0:(part 22 ys 0).run Tryz.prog w= .ok (.int .u32 a') w) (q1:(part 33 ys 1).run Tryz.prog w= .ok (.int .u64 b') w) (q2:(part 22 ys 2).run Tryz.prog w= .ok (.int .u32 c') w) (q3:(part 34 ys 3).run Tryz.prog w= .ok (.agg (hashV hs').toArray) w) (hk':hs'.length=32):
 (Op.eqFields (d + 2) xs ys fs).run Tryz.prog w= .ok ((a==a') && ((b==b') && ((c==c') && (hs==hs')))) w:=by
 obtain⟨f0,f1,f2,f3,rfl⟩:∃f0 f1 f2 f3,fs=[f0,f1,f2,f3]:=by
  have hl:fs.length=4:=by have:=congrArg List.length hf;simpa using this
  rcases fs with _|⟨f0,_|⟨f1,_|⟨f2,_|⟨f3,_|⟨f4,r⟩⟩⟩⟩⟩
  ·simp at hl
  ·simp at hl
  ·simp at hl
  ·simp at hl
  ·exact⟨f0,f1,f2,f3,rfl⟩
  ·simp at hl
 simp only[List.map_cons,List.map_nil,List.cons.injEq,Prod.mk.injEq,and_true]at hf;obtain⟨⟨a0,b0,c0⟩,⟨a1,b1,c1⟩,⟨a2,b2,c2⟩,⟨a3,b3,c3⟩⟩:=hf;have e0:=run_equalIn_int (P:=Tryz.prog) w (d + 1) 22 .u32 .u32 a a' Tryz.underlying22;have e1:=run_equalIn_int (P:=Tryz.prog) w (d + 1) 33 .u64 .u64 b b' Tryz.underlying33;have e2:=run_equalIn_int (P:=Tryz.prog) w (d + 1) 22 .u32 .u32 c c' Tryz.underlying22;have e3:=eqHash_two d hs hs' w hk hk';simp only[bne_iff_ne,ne_eq]at c0 c1 c2 c3;rw[←a0]at e0 p0 q0;rw[←a1]at e1 p1 q1;rw[←a2]at e2 p2 q2;rw[←a3]at e3 p3 q3;rw[←b0]at p0 q0;rw[←b1]at p1 q1;rw[←b2]at p2 q2;rw[←b3]at p3 q3;generalize Tryz.prog=Q at *;generalize(a==a')=r0 at *;generalize(b==b')=r1 at *;generalize(c==c')=r2 at *;generalize(hs==hs')=r3 at *;cases r0 <;>cases r1 <;>cases r2 <;>cases r3 <;>
  simp only[Op.eqFields,c0,c1,c2,c3,ne_eq,not_false_eq_true,if_true,Sem.run_bind,p0,p1,p2,p3,q0,q1,q2,q3,e0,e1,e2,e3,Result.andThen_ok,Bool.not_true,Bool.not_false,Bool.false_eq_true,if_false,Sem.run_pure,Bool.and_true,Bool.and_false,Bool.true_and,Bool.false_and]
theorem ji8(s t:Sup)(hs:s.hash.length=32)(ht:t.hash.length=32)(w:World)(d:Nat):(Op.equalIn (d + 3) 36 (.agg (supA s)) (.agg (supA t))).run Tryz.prog w= .ok (supEq s t) w:=by
 obtain⟨p0,p1,p2,p3⟩:=sup_parts s hs w;obtain⟨q0,q1,q2,q3⟩:=sup_parts t ht w;have e:((s.size==t.size) && ((s.gen==t.gen) && ((s.table==t.table) && (s.hash==t.hash))))=supEq s t:=by
  unfold supEq;rw[Bool.eq_iff_iff];simp
 rw[run_equalIn_agg w (d + 2) 36 _ _ sup_hS sup_hp,fields_four w d _ sup_fieldsY p0 p1 p2 p3 hs q0 q1 q2 q3 ht,e]
theorem kid_partsY(k:Kid)(hk:k.hash.length=32)(w:World):(part 9 (kidE.enc k).toArray 0).run Tryz.prog w= .ok (.string k.key) w∧(part 22 (kidE.enc k).toArray 1).run Tryz.prog w= .ok (.int .u32 k.num) w∧(part 34 (kidE.enc k).toArray 2).run Tryz.prog w= .ok (.agg (hashV k.hash).toArray) w:=by
 obtain⟨key,num,hash⟩:=k;obtain⟨x0,x1,x2,x3,x4,x5,x6,x7,x8,x9,x10,x11,x12,x13,x14,x15,x16,x17,x18,x19,x20,x21,x22,x23,x24,x25,x26,x27,x28,x29,x30,x31,rfl⟩:=lit32a hash hk;refine⟨by kernel_rfl,by kernel_rfl,by kernel_rfl⟩
theorem kid_fieldsY:(Tryz.prog.fieldsOf 40).toList.map (fun f=>(f.type,f.offset,f.name != "_"))=[(9,0,true),(22,1,true),(34,2,true)]:=by kernel_rfl
theorem kid_hSY:Tryz.prog.underlying 40=some (.struct (Tryz.prog.fieldsOf 40)):=by kernel_rfl
theorem kid_hpY:Tryz.prog.stoodInHeld 40=false:=by kernel_rfl
theorem fields_threeY{xs:Array Value}{k:ByteArray}{n:Int}{hs:List Int}(w:World)(d:Nat)(fs:List Field)(hf:fs.map (fun f=>(f.type,f.offset,f.name != "_"))=[(9,0,true),(22,1,true),(34,2,true)])
 (p0:(part 9 xs 0).run Tryz.prog w= .ok (.string k) w) (p1:(part 22 xs 1).run Tryz.prog w= .ok (.int .u32 n) w) (p2:(part 34 xs 2).run Tryz.prog w= .ok (.agg (hashV hs).toArray) w) (hk:hs.length=32):
 (Op.eqFields (d + 2) xs xs fs).run Tryz.prog w= .ok true w:=by
 obtain⟨f0,f1,f2,rfl⟩:∃f0 f1 f2,fs=[f0,f1,f2]:=by
  have hl:fs.length=3:=by have:=congrArg List.length hf;simpa using this
  rcases fs with _|⟨f0,_|⟨f1,_|⟨f2,_|⟨f3,r⟩⟩⟩⟩
  ·simp at hl
  ·simp at hl
  ·simp at hl
  ·exact⟨f0,f1,f2,rfl⟩
  ·simp at hl
 simp only[List.map_cons,List.map_nil,List.cons.injEq,Prod.mk.injEq,and_true]at hf;obtain⟨⟨a0,b0,c0⟩,⟨a1,b1,c1⟩,⟨a2,b2,c2⟩⟩:=hf;have e0:=run_equalIn_string (P:=Tryz.prog) w (d + 1) 9 k k Tryz.underlying9;have e1:=run_equalIn_int (P:=Tryz.prog) w (d + 1) 22 .u32 .u32 n n Tryz.underlying22;have e2:=(eqHash_two d hs hs w hk hk)
 simp only[bne_iff_ne,ne_eq]at c0 c1 c2;rw[beq_self_eq_true]at e0 e1 e2;rw[←a0]at e0 p0;rw[←a1]at e1 p1;rw[←a2]at e2 p2;rw[←b0]at p0;rw[←b1]at p1;rw[←b2]at p2;generalize Tryz.prog=Q at *;simp only[Op.eqFields,c0,c1,c2,ne_eq,not_false_eq_true,if_true,Sem.run_bind,p0,p1,p2,e0,e1,e2,Result.andThen_ok,Bool.not_true,Bool.false_eq_true,if_false,Sem.run_pure]
theorem kid_eq_atY(k:Kid)(hk:k.hash.length=32)(w:World)(d:Nat):(Op.equalIn (d + 3) 40 (.agg (kidE.enc k).toArray) (.agg (kidE.enc k).toArray)).run Tryz.prog w= .ok true w:=by
 obtain⟨p0,p1,p2⟩:=kid_partsY k hk w;rw[run_equalIn_agg w (d + 2) 40 _ _ kid_hSY kid_hpY];exact fields_threeY w d _ kid_fieldsY p0 p1 p2 hk
theorem jew{P:Program}{ops:Array Oper}{rest:List Oper}{o:Oper}{a:Act}{w:World}{Q:Exit→Act→World→Prop}(hgd:o.guard=none)(t rt:TypeId)(x y:Operand)(ho:o.op= .binOp .neq t x y rt)
 (xs ys:Array Value) (hx:a.eval x= .agg xs) (hy:a.eval y= .agg ys) (hm:P.eqGuardType P.depth t=false) (b:Bool) (hq:(Op.equalIn 10000 t (.agg xs) (.agg ys)).run P w= .ok b w)
 (h:wpList P ops Q rest (a.put o.dst (.bool (!b))) w):wpList P ops Q (o::rest) a w:=
 wpList_plain hgd fun _ hK=>by
  have h1:=run_eqGuard_agg (P:=P) w .neq t x y xs ys hm;have h2:=run_neq_struct (P:=P) w t xs ys;rw[hq]at h2;unfold Oper.wp execOp;simp only[ho,hx,hy,Sem.run_bind,h1,h2,Result.andThen_ok,Sem.run_pure];exact hK _ _ h
theorem jfq{P:Program}{K:Act→Prop}{o:Oper}{a:Act}{w:World}(t rt:TypeId)(x y:Operand)(ho:o.op= .binOp .eql t x y rt)
 (xs ys:Array Value) (hx:a.eval x= .agg xs) (hy:a.eval y= .agg ys) (hm:P.eqGuardType P.depth t=false) (b:Bool) (hq:∀g:World,(Op.equalIn 10000 t (.agg xs) (.agg ys)).run P g= .ok b g)
 (h:K (a.put o.dst (.bool b))):o.quiet P a (fun w'=>∃g:Grown w,w'=g.val) K:=by
 refine⟨.bool b,?_,h⟩;rintro _ ⟨g,rfl⟩;have h1:=run_eqGuard_agg (P:=P) g.val .eql t x y xs ys hm;have h2:=run_eql_struct (P:=P) g.val t xs ys;rw[hq]at h2;unfold Oper.quietAt execOp;simp only[ho,hx,hy,Sem.run_bind,h1,h2,Result.andThen_ok,Sem.run_pure];exact⟨rfl,rfl⟩
theorem ji9:Tryz.prog.eqGuardType Tryz.prog.depth 36=false:=by kernel_rfl
end Go.Proofs.YtpaohkkhejpgjaaGreatDoor
