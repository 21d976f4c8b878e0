/- Texts of the proof: W8 W9 Wb. -/
import Derived.Test.YtpaohkkhejpgjaaGreatDoorM48
import Derived.Test.YtpaohkkhejpgjaaGreatDoorM34
import Derived.Test.YtpaohkkhejpgjaaGreatDoorM50
set_option linter.all false
set_option maxRecDepth 100000
set_option maxHeartbeats 8000000
namespace Go.Proofs.YtpaohkkhejpgjaaGreatDoor
open Go Go.RowKit
structure Stl(d:Dv)(size:Int)(dn:Bool):Prop where
 ok:DevOk d
 fuse:d.fuse= -1
 size:d.size=size
 down:d.down=dn
theorem Stl.write{d:Dv}{size:Int}{dn:Bool}(h:Stl d size dn)(num:Int)(data:ByteArray):Stl (jbg d num data).1 size dn∧(dn=true→(jbg d num data).2=17)∧(dn=false→num < size→data.size≤512→(jbg d num data).2=0∨(jbg d num data).2=8):=by
 obtain⟨h1,h2,h3,h4⟩:=h;subst h3;subst h4;have hd:=(jcq d).2 h1;cases hdn:d.down with
 |true=>
  have he:jes d num data=17:=by unfold jes;rw[if_pos hdn]
  have hw:jbg d num data=(d,17):=by unfold jbg;rw[if_neg (by rw[hd];simp),he,if_pos (by decide)]
  rw[hw];exact⟨⟨h1,h2,rfl,hdn⟩,fun _=>rfl,fun h=>by cases h⟩
 |false=>
  by_cases h5:d.size≤num
  ·have he:jes d num data=1:=by unfold jes;rw[if_neg (by rw[hdn];simp),if_pos h5]
   have hw:jbg d num data=(d,1):=by unfold jbg;rw[if_neg (by rw[hd];simp),he,if_pos (by decide)]
   rw[hw];exact⟨⟨h1,h2,rfl,hdn⟩,fun h=>(by cases h),fun _ h=>by omega⟩
  ·by_cases h6:512 < data.size
   ·have he:jes d num data=2:=by unfold jes;rw[if_neg (by rw[hdn];simp),if_neg h5,if_pos h6]
    have hw:jbg d num data=(d,2):=by unfold jbg;rw[if_neg (by rw[hd];simp),he,if_pos (by decide)]
    rw[hw];exact⟨⟨h1,h2,rfl,hdn⟩,fun h=>(by cases h),fun _ _ h=>by omega⟩
   ·by_cases h7:16384≤d.waits.length
    ·have he:jes d num data=8:=by unfold jes;rw[if_neg (by rw[hdn];simp),if_neg h5,if_neg h6,if_pos h7]
     have hw:jbg d num data=(d,8):=by unfold jbg;rw[if_neg (by rw[hd];simp),he,if_pos (by decide)]
     rw[hw];exact⟨⟨h1,h2,rfl,hdn⟩,fun h=>(by cases h),fun _ _ _=>Or.inr rfl⟩
    ·rw[write_ok h1 hdn (by rw[h2];decide) (by omega) (by omega) (by omega),burn_still (d:={d with waits:=d.waits ++ [⟨num,cutB data⟩]}) h2 hdn];exact⟨⟨h1.write (by omega) (by omega) (by omega),h2,rfl,hdn⟩,fun h=>(by cases h),fun _ _ _=>Or.inl rfl⟩
theorem Stl.flush{d:Dv}{size:Int}{dn:Bool}(h:Stl d size dn):Stl (jbs d).1 size dn∧(jbs d).2=if dn then 17 else 0:=by
 obtain⟨h1,h2,h3,h4⟩:=h;subst h3;subst h4;have hd:=(jcq d).2 h1;cases hdn:d.down with
 |true=>
  have hw:jbs d=(d,17):=by unfold jbs;rw[if_neg (by rw[hd];simp),if_pos hdn]
  rw[hw];exact⟨⟨h1,h2,rfl,hdn⟩,rfl⟩
 |false=>
  rw[flush_ok h1 hdn (by rw[h2];decide),burn_still h2 hdn];exact⟨⟨h1.flush,h2,rfl,hdn⟩,rfl⟩
def WOk(w:Wt)(size:Int)(dn:Bool):Prop:=Stl w.dev size dn∧(dn=false→w.why=0∨w.why=8)
theorem WOk.write{w:Wt}{size:Int}{dn:Bool}(h:WOk w size dn){num:Int}{data:ByteArray}(hn:num < size)(hd:data.size≤512):WOk (jdc w num data) size dn:=by
 unfold jdc;split
 ·obtain⟨a,b,c⟩:=h.1.write num data;exact⟨a,fun e=>c e hn hd⟩
 ·exact h
theorem WOk.flush{w:Wt}{size:Int}{dn:Bool}(h:WOk w size dn):WOk (jd6 w) size dn∧(dn=true→(jd6 w).why≠0):=by
 unfold jd6;split
 ·obtain⟨a,b⟩:=h.1.flush;refine⟨⟨a,fun e=>Or.inl ?_⟩,fun e=>?_⟩
  ·rw[b,e];rfl
  ·show(jbs w.dev).2≠0
   rw[b,e];decide
 ·rename_i h0;exact⟨h,fun _=>h0⟩
theorem WOk.all(H:Int→Bool){size:Int}{dn:Bool}:∀(cs:List Cel) (w:Wt),WOk w size dn→(∀c∈cs,c.num < size∧c.data.size≤512)→WOk (jdo H w cs) size dn
 |[],w,h,_=>h
 |c::cs,w,h,hc=>by
  show WOk (jdo H (if H c.num then w else jdc w c.num c.data) cs) size dn
  refine WOk.all H cs _ ?_ (fun x hx=>hc x (List.mem_cons_of_mem _ hx));split
  ·exact h
  ·exact h.write (hc c List.mem_cons_self).1 (hc c List.mem_cons_self).2
def IsT(cs:List CC)(k:Kid):Prop:=∃c∈cs,c.num=k.num∧c.node.kind=3∧c.hash=k.hash
theorem isT_iff{h:Hp}(hr:(jaj (jav h)).Pairwise (· < ·))(k:Kid):jdb h k=true ↔ IsT (jav h) k:=by
 unfold jdb;constructor
 ·intro e;cases hf:(jav h).find? (fun c=>c.num==k.num)with
  |none=>rw[hf]at e;cases e
  |some c=>
   rw[hf]at e;simp only[Bool.and_eq_true,decide_eq_true_eq]at e;obtain⟨h1,h2⟩:=(jc2 hr).1 hf;exact⟨c,h1,h2,e.1,e.2⟩
 ·rintro⟨c,h1,h2,h3,h4⟩;have hf:=(jc2 hr).2 ⟨h1,h2⟩;unfold jc6 at hf;rw[hf];simp[h3,h4]
theorem heapOf_openedW(h:Hp):jfi h.size (jav h)=h:=by
 unfold jfi;rw[jb5,List.map_map,List.map_map];cases h with
 |mk sz cells=>
  simp only;congr 1
  conv=>rhs;rw[←List.map_id cells]
  exact List.map_congr_left fun c _=>rfl
structure RtS(s:Sto)(cs:List CC):Prop where
 dev:DevOk s.dev
 heap:s.heap=jfi s.dev.size cs
 good:Good s.dev.size cs
 t0:s.v0=true→supB s.s0=true∧slotS s.s0=0∧s.s0.size=s.dev.size∧IsT cs (tabOf s.s0)
 t1:s.v1=true→supB s.s1=true∧slotS s.s1=1∧s.s1.size=s.dev.size∧IsT cs (tabOf s.s1)
 n0:s.v0=false→supEq s.s0 noSup=true
 n1:s.v1=false→supEq s.s1 noSup=true
 any:(s.v0||s.v1)=true
 key:s.table.key.toList.isEmpty=true
 tab:IsT cs s.table
 held:∀c∈cs,c.refs - c.led=wantS s c.num∧c.refs≠0
theorem RtS.of{s:Sto}(h:jdm s=true):RtS s (jav s.heap):=by
 unfold jdm at h;simp only[Bool.and_eq_true,decide_eq_true_eq]at h;obtain⟨h1,h2,h3,⟨h4,h5,h6⟩,h7,h8,h9⟩:=h;have hg:=je4 _ h2;have hi:=fun k=>isT_iff hg.ris k
 refine⟨(jcq _).1 h1,by rw[←h3,heapOf_openedW],by rw[←h3];exact hg,fun hv=>?_,fun hv=>?_,fun hv=>?_,fun hv=>?_,by simpa using h6,h7,(hi _).1 h8,fun c hc=>?_⟩
 ·unfold slotB at h4;rw[if_pos hv]at h4;simp only[Bool.and_eq_true,decide_eq_true_eq]at h4;exact⟨h4.1,h4.2.1,h4.2.2.1,(hi _).1 h4.2.2.2⟩
 ·unfold slotB at h5;rw[if_pos hv]at h5;simp only[Bool.and_eq_true,decide_eq_true_eq]at h5;exact⟨h5.1,h5.2.1,h5.2.2.1,(hi _).1 h5.2.2.2⟩
 ·unfold slotB at h4;rw[if_neg (by rw[hv];simp)]at h4;exact h4
 ·unfold slotB at h5;rw[if_neg (by rw[hv];simp)]at h5;exact h5
 ·have:=List.all_eq_true.1 h9 c hc;simpa using this
theorem RtS.chk{s:Sto}{cs:List CC}(h:RtS s cs):jdm s=true:=by
 obtain⟨eo,ob⟩:=open_good h.good;have hh:jav s.heap=cs:=by rw[h.heap,eo]
 have hi:=fun k=>isT_iff (h:=s.heap) (by rw[hh];exact h.good.ris) k
 rw[hh]at hi;unfold jdm;simp only[Bool.and_eq_true,decide_eq_true_eq];refine⟨(jcq _).2 h.dev,by rw[h.heap];exact ob,by rw[h.heap];rfl,⟨?_,?_,by have:=h.any;simpa using this⟩,h.key,(hi _).2 h.tab,?_⟩
 ·unfold slotB;cases hv:s.v0 with
  |true=>
   obtain⟨a1,a2,a3,a4⟩:=h.t0 hv;rw[if_pos rfl];simp only[Bool.and_eq_true,decide_eq_true_eq];exact⟨a1,a2,a3,(hi _).2 a4⟩
  |false=>rw[if_neg (by simp)];exact h.n0 hv
 ·unfold slotB;cases hv:s.v1 with
  |true=>
   obtain⟨a1,a2,a3,a4⟩:=h.t1 hv;rw[if_pos rfl];simp only[Bool.and_eq_true,decide_eq_true_eq];exact⟨a1,a2,a3,(hi _).2 a4⟩
  |false=>rw[if_neg (by simp)];exact h.n1 hv
 ·rw[hh];refine List.all_eq_true.2 fun c hc=>?_
  have:=h.held c hc;simpa using this
theorem Good.len{sz:Int}{cs:List CC}(h:Good sz cs):cs.length≤65534:=by
 have h1:=jg2 (jaj cs) 2 65536 h.ris (fun x hx=>by
  obtain⟨c,hc,rfl⟩:=List.mem_map.1 hx;have:=h.dec c hc;have:=h.hi;omega) (by omega)
 unfold jaj at h1;rw[List.length_map]at h1;omega
theorem want_le(s:Sto)(n:Int):0≤wantS s n∧wantS s n≤3:=by
 unfold wantS;split <;>split <;>split <;>omega
theorem RtS.room{s:Sto}{cs:List CC}(h:RtS s cs){c:CC}(hc:c∈cs):c.refs≤16711173:=by
 have h1:=(h.held c hc).1;have h2:=h.good.cnt c hc;have h3:=countL_leW (jaz cs) c.num;have h4:=jg3 cs (fun c hc=>by rw[(h.good.dec c hc).2.1];exact jev (h.good.dec c hc).1);have h5:=h.good.len;have h6:=want_le s c.num;omega
theorem Good.up{sz:Int}{cs:List CC}(h:Good sz cs)(t:Int)(hr:∀c∈cs,c.refs≤16777215):Good sz (cs.map (rUp t)):=by
 refine⟨h.lo,h.hi,fun c hc=>?_,by rw[jib (jgi t)];exact h.ris,fun c hc k hk=>?_,fun c hc=>?_⟩
 ·obtain⟨e,he,rfl⟩:=List.mem_map.1 hc;rw[rUp_data,jk0,rUp_hash,jgi];exact h.dec e he
 ·obtain⟨e,he,rfl⟩:=List.mem_map.1 hc;rw[jk0]at hk;exact(has_map (fun c=>⟨jgi t c,rUp_hash t c⟩) cs _ _).2 (h.lds e he k hk)
 ·obtain⟨e,he,rfl⟩:=List.mem_map.1 hc;have h1:=h.cnt e he;have h2:=hr e he;rw[jhr (jk0 t),jgi];unfold rUp;split
  ·exact⟨h1.1,by show e.led≤e.refs + 1;omega,by show e.refs + 1≤16777216;omega⟩
  ·exact h1
theorem rUp_refsW(t:Int)(c:CC):(rUp t c).refs=c.refs + unit1 t c.num∧(rUp t c).led=c.led:=by
 unfold rUp unit1;split
 ·exact⟨rfl,rfl⟩
 ·exact⟨by simp,rfl⟩
theorem Good.let_{sz:Int}{cs:List CC}(h:Good sz cs){t:Int}{f:Nat}(hf:cs.length < f)(hc:∃c∈cs,c.num=t∧c.led≤c.refs - 1):Good sz (letS f t cs)∧Dp (unit1 t) cs (letS f t cs):=by
 obtain⟨l1,l2,_⟩:=let_law f t cs [] h.lt hf hc;refine⟨⟨h.lo,h.hi,fun c hc=>?_,l1.ris,l1.lds,fun c hc=>?_⟩,l2⟩
 ·obtain⟨e,he,⟨a1,a2,a3,a4,_⟩,_⟩:=l2.sub c hc;rw[a1,a2,a3,a4];exact h.dec e he
 ·have:=l1.cnt c hc;refine⟨?_,this.2⟩;rw[this.1];show _ + ((jbp [] c.num:Nat):Int)=_
  unfold jbp;simp
def lessS(s:Sto)(i n:Int):Int:=if validAt s i=true∧(slotAt s i).table=n then 1 else 0
theorem less_want(s:Sto)(i n:Int):0≤lessS s i n∧lessS s i n≤1∧lessS s i n≤wantS s n:=by
 unfold lessS wantS validAt slotAt;by_cases h:i=0
 ·rw[if_pos h,if_pos h];split <;>split <;>split <;>omega
 ·rw[if_neg h,if_neg h];split <;>split <;>split <;>omega
def InD(c:CC)(cs:List CC):Prop:=∃e∈cs,e.num=c.num∧e.data=c.data
theorem RtS.cells{s:Sto}{cs:List CC}(h:RtS s cs):∃cs',commitH s=jfi s.dev.size cs'∧Good s.dev.size cs'∧
 (∀c∈cs',c.refs≠0∧c.refs - c.led=wantS s c.num + unit1 s.table.num c.num - lessS s (slotS (ja1 s)) c.num)∧
 (∀k,IsT cs k→1≤wantS s k.num + unit1 s.table.num k.num - lessS s (slotS (ja1 s)) k.num→IsT cs' k)∧(∀c∈cs',InD c cs):=by
 obtain⟨ct,hct,hctn,_⟩:=h.tab;obtain⟨eo,ob⟩:=open_good h.good;have hz:s.heap.size=s.dev.size:=by rw[h.heap];rfl
 have g1:=h.good.up s.table.num (fun c hc=>by have:=h.room hc;omega);obtain⟨eo1,ob1⟩:=open_good g1;have hfc:=(jc2 h.good.ris).2 ⟨hct,hctn⟩;have hhold:holdS s.heap s.table.num=(jfi s.dev.size (cs.map (rUp s.table.num)),0):=by
  have hE:holdE cs s.table.num=0:=by
   unfold holdE;rw[hfc];have:=h.room hct;show(if ct.refs=16777216 then(1:Int)else 0)=0
   rw[if_neg (by omega)]
  unfold holdS;rw[hz,h.heap,eo,ob,hE,if_neg (by simp),if_neg (by simp)]
 have hc1:∀c∈cs,(rUp s.table.num c).refs≠0∧(rUp s.table.num c).refs - (rUp s.table.num c).led=wantS s c.num + unit1 s.table.num c.num:=by
  intro c hc;have h1:=h.held c hc;have h2:=h.good.cnt c hc;obtain⟨e1,e2⟩:=rUp_refsW s.table.num c;have h3:0≤unit1 s.table.num c.num:=by unfold unit1;split <;>omega
  rw[e1,e2];exact⟨by omega,by omega⟩
 have ht1:∀k,IsT cs k→IsT (cs.map (rUp s.table.num)) k:=by
  rintro k ⟨c,hc,a1,a2,a3⟩;exact⟨_,List.mem_map.2 ⟨c,hc,rfl⟩,by rw[jgi];exact a1,by rw[jk0];exact a2,by rw[rUp_hash];exact a3⟩
 cases hv:validAt s (slotS (ja1 s))with
 |false=>
  have hl:∀n,lessS s (slotS (ja1 s)) n=0:=fun n=>by unfold lessS;rw[if_neg (by rw[hv];simp)]
  refine⟨_,by unfold commitH;rw[if_neg (by rw[hv];simp),hhold],g1,fun c hc=>?_,fun k hk _=>ht1 k hk,fun c hc=>by
   obtain⟨e,he,rfl⟩:=List.mem_map.1 hc;exact⟨e,he,(jgi _ e).symm,(rUp_data _ e).symm⟩⟩
  obtain⟨e,he,rfl⟩:=List.mem_map.1 hc;rw[hl,jgi];have:=hc1 e he;exact⟨this.1,by omega⟩
 |true=>
  obtain⟨x,hx⟩:∃x,slotAt s (slotS (ja1 s))=x:=⟨_,rfl⟩
  have hxt:IsT cs (tabOf x):=by
   rw[←hx];unfold validAt at hv;unfold slotAt;split at hv
   ·rename_i e;rw[if_pos e];exact(h.t0 hv).2.2.2
   ·rename_i e;rw[if_neg e];exact(h.t1 hv).2.2.2
  obtain⟨cx,hcx,hcxn,_⟩:=hxt;have hcxn:cx.num=x.table:=hcxn;have hlx:lessS s (slotS (ja1 s)) cx.num=1:=by unfold lessS;rw[if_pos ⟨hv,by rw[hx,hcxn]⟩]
  have hwx:=(less_want s (slotS (ja1 s)) cx.num).2.2;have hux:∀n,0≤unit1 s.table.num n:=fun n=>by unfold unit1;split <;>omega
  have hcx1:=hc1 cx hcx;have hxm:rUp s.table.num cx∈cs.map (rUp s.table.num):=List.mem_map.2 ⟨cx,hcx,rfl⟩;have hux1:=hux cx.num;obtain⟨g2,d2⟩:=g1.let_ (t:=x.table) (f:=(cs.map (rUp s.table.num)).length + 1) (Nat.lt_succ_self _) ⟨_,hxm,by rw[jgi];exact hcxn,by omega⟩;have hls:∀n,lessS s (slotS (ja1 s)) n=unit1 x.table n:=by
   intro n;unfold lessS unit1;rw[hx];by_cases e:x.table=n
   ·rw[if_pos ⟨hv,e⟩,if_pos e.symm]
   ·rw[if_neg (fun e'=>e e'.2),if_neg (fun e'=>e e'.symm)]
  have hdrop:dropS (jfi s.dev.size (cs.map (rUp s.table.num))) x.table=(jfi s.dev.size (letS ((cs.map (rUp s.table.num)).length + 1) x.table (cs.map (rUp s.table.num))),0):=by
   have hE:dropE (cs.map (rUp s.table.num)) x.table=0:=by
    unfold dropE;rw[(jc2 g1.ris).2 ⟨hxm,by rw[jgi];exact hcxn⟩];show(if(rUp s.table.num cx).refs=(rUp s.table.num cx).led then(7:Int)else 0)=0
    rw[if_neg (by omega)]
   have hcl:(jfi s.dev.size (cs.map (rUp s.table.num))).cells.length=(cs.map (rUp s.table.num)).length:=List.length_map _;unfold dropS;rw[eo1,ob1,hE,hcl,if_neg (by simp),if_neg (by simp)];rfl
  refine⟨_,by unfold commitH;rw[if_pos hv,hhold,hx,hdrop],g2,fun c hc=>?_,fun k hk hle=>?_,fun c hc=>by
   obtain⟨e,he,⟨a1,a2,_⟩,_⟩:=d2.sub c hc;obtain⟨e0,he0,rfl⟩:=List.mem_map.1 he;rw[jgi]at a1;rw[rUp_data]at a2;exact⟨e0,he0,a1.symm,a2.symm⟩⟩
  ·obtain⟨e,he,⟨a1,_,_,_,a5⟩,a6⟩:=d2.sub c hc;obtain⟨e0,he0,rfl⟩:=List.mem_map.1 he;have h1:=hc1 e0 he0;rw[jgi]at a1 a5;rw[hls,a1];exact⟨a6 h1.1,by omega⟩
  ·obtain⟨c,hc,b1,b2,b3⟩:=hk;have h1:=hc1 c hc;rw[hls]at hle;obtain⟨c',hc',⟨a1,_,a3,a4,_⟩⟩:=d2.keep (rUp s.table.num c) (List.mem_map.2 ⟨c,hc,rfl⟩) (by rw[jgi,h1.2,b1];omega);exact⟨c',hc',by rw[a1,jgi];exact b1,by rw[a3,jk0];exact b2,by rw[a4,rUp_hash];exact b3⟩
theorem decB_small{s:ByteArray}(h:decB s=true):s.size≤512:=by
 unfold decB at h;simp only[Bool.and_eq_true,decide_eq_true_eq]at h;exact h.1
theorem RtS.writes{s:Sto}{cs:List CC}(h:RtS s cs)(hf:s.dev.fuse= -1)(hx:supB (ja1 s)=true)(hh:jd7 (ja1 s).hash)(H:Int→Bool):
 Stl (jg4 s H).dev s.dev.size s.dev.down∧(s.dev.down=false→(jg4 s H).why=0∨(jg4 s H).why=8)∧(s.dev.down=true→(jg4 s H).why≠0):=by
 have h0:WOk ⟨s.dev,0⟩ s.dev.size s.dev.down:=⟨⟨h.dev,hf,rfl,rfl⟩,fun _=>Or.inl rfl⟩
 have hlo:=h.dev.lo;have h1:=WOk.all H s.heap.cells _ h0 (fun c hc=>by
  rw[h.heap]at hc;obtain⟨e,he,rfl⟩:=List.mem_map.1 hc;have h1:=h.good.dec e he;exact⟨h1.2.2.2.2,decB_small h1.1⟩)
 have h2:=h1.flush;have h3:=h2.1.write (num:=slotS (ja1 s)) (data:=jbl (ja1 s)) (by unfold slotS;omega) (ji1 _ hx hh);have h4:=h3.flush;exact⟨h4.1.1,h4.1.2,h4.2⟩
theorem slot_two(x:Sup):slotS x=0∨slotS x=1:=by unfold slotS;omega
theorem RtS.commit{s:Sto}{cs:List CC}(h:RtS s cs)(hf:s.dev.fuse= -1)(hx:supB (ja1 s)=true)(hh:jd7 (ja1 s).hash){H:Int→Bool}(hw:(jg4 s H).why=0):
 ∃cs',RtS (jhh s (jg4 s H).dev (commitH s) (ja1 s)) cs'∧Stl (jg4 s H).dev s.dev.size false∧∀c∈cs',InD c cs:=by
 obtain⟨hd,_,hdn⟩:=h.writes hf hx hh H;have hdf:s.dev.down=false:=by
  cases e:s.dev.down with
  |false=>rfl
  |true=>exact absurd hw (hdn e)
 rw[hdf]at hd;obtain⟨cs',hch,hg,hc,hk,hin⟩:=h.cells;have hnt:(ja1 s).table=s.table.num:=rfl;have htt:IsT cs' s.table:=hk _ h.tab (by
  have h1:=less_want s (slotS (ja1 s)) s.table.num;have h2:unit1 s.table.num s.table.num=1:=by unfold unit1;rw[if_pos rfl]
  omega)
 have htx:IsT cs' (tabOf (ja1 s)):=htt;refine⟨cs',?_,hd,hin⟩;have hds:=hd.size;generalize hcw:(jg4 s H).dev=d at *;rcases slot_two (ja1 s)with hs|hs
 ·have hw:jhh s d (commitH s) (ja1 s)=⟨d,commitH s,ja1 s,s.s1,true,s.v1,s.table⟩:=by unfold jhh;rw[hs];simp
  have hwn:∀n,wantS ⟨d,commitH s,ja1 s,s.s1,true,s.v1,s.table⟩ n=wantS s n + unit1 s.table.num n - lessS s (slotS (ja1 s)) n:=by
   intro n;unfold lessS wantS unit1 validAt slotAt;rw[hs,if_pos rfl,if_pos rfl];simp only[true_and,hnt];by_cases e:n=s.table.num
   ·rw[if_pos e,if_pos (show s.table.num=n from e.symm)];omega
   ·rw[if_neg e,if_neg (show ¬s.table.num=n from fun e'=>e e'.symm)];omega
  rw[hw];refine⟨hd.ok,by rw[hch,←hds],by show Good d.size cs';rw[hds];exact hg,fun _=>⟨hx,hs,hds.symm,htx⟩,fun hv=>?_,fun hv=>(by cases hv),h.n1,rfl,h.key,htt,fun c hc'=>?_⟩
  ·obtain⟨a1,a2,a3,a4⟩:=h.t1 hv;refine⟨a1,a2,by show s.s1.size=d.size;rw[hds];exact a3,hk _ a4 ?_⟩;rw[←hwn];unfold wantS;simp only;rw[if_pos (show s.v1=true∧s.s1.table=(tabOf s.s1).num from⟨hv,rfl⟩)];split <;>split <;>omega
  ·rw[hwn];exact⟨(hc c hc').2,(hc c hc').1⟩
 ·have hw:jhh s d (commitH s) (ja1 s)=⟨d,commitH s,s.s0,ja1 s,s.v0,true,s.table⟩:=by unfold jhh;rw[hs];simp
  have hwn:∀n,wantS ⟨d,commitH s,s.s0,ja1 s,s.v0,true,s.table⟩ n=wantS s n + unit1 s.table.num n - lessS s (slotS (ja1 s)) n:=by
   intro n;unfold lessS wantS unit1 validAt slotAt;rw[hs,if_neg (show ¬(1:Int)=0 by decide),if_neg (show ¬(1:Int)=0 by decide)];simp only[true_and,hnt];by_cases e:n=s.table.num
   ·rw[if_pos e,if_pos (show s.table.num=n from e.symm)];omega
   ·rw[if_neg e,if_neg (show ¬s.table.num=n from fun e'=>e e'.symm)];omega
  rw[hw];refine⟨hd.ok,by rw[hch,←hds],by show Good d.size cs';rw[hds];exact hg,fun hv=>?_,fun _=>⟨hx,hs,hds.symm,htx⟩,h.n0,fun hv=>(by cases hv),by simp,h.key,htt,fun c hc'=>?_⟩
  ·obtain⟨a1,a2,a3,a4⟩:=h.t0 hv;refine⟨a1,a2,by show s.s0.size=d.size;rw[hds];exact a3,hk _ a4 ?_⟩;rw[←hwn];unfold wantS;simp only;rw[if_pos (show s.v0=true∧s.s0.table=(tabOf s.s0).num from⟨hv,rfl⟩)];split <;>split <;>omega
  ·rw[hwn];exact⟨(hc c hc').2,(hc c hc').1⟩
theorem commit_law{s:Sto}(h:jdm s=true)(hf:s.dev.fuse= -1)(hk:kidE.wf s.table)(H:Int→Bool):
 jep s H=(s,1)∨(genS s≠4611686018427387904∧
  ((∃d,jep s H=({noSto with dev:=d},8))∨(s.dev.down=true∧(jep s H).2≠0)∨
   (∃d,jep s H=(jhh s d (commitH s) (ja1 s),0)∧jdm (jhh s d (commitH s) (ja1 s))=true∧Stl d s.dev.size false))):=by
 have hr:=RtS.of h;by_cases hg:genS s=4611686018427387904
 ·left;unfold jep;rw[if_neg (by rw[h];simp),if_pos hg]
 ·right;refine⟨hg,?_⟩;obtain⟨p1,p2,_⟩:=commit_pre h hg hk;have hw:=hr.writes hf p1 p2.2.2.2 H;have he:jep s H=if(jg4 s H).why≠0 then({noSto with dev:=(jg4 s H).dev},(jg4 s H).why)else(jhh s (jg4 s H).dev (commitH s) (ja1 s),0):=by
   unfold jep;rw[if_neg (by rw[h];simp),if_neg hg]
  by_cases h0:(jg4 s H).why=0
  ·right;right;obtain⟨cs',hc,hd,_⟩:=hr.commit hf p1 p2.2.2.2 h0;exact⟨_,by rw[he,if_neg (by simp[h0])],hc.chk,hd⟩
  ·rw[if_pos h0]at he;cases hdn:s.dev.down with
   |false=>
    left;rcases hw.2.1 hdn with e|e
    ·exact absurd e h0
    ·exact⟨_,by rw[he,e]⟩
   |true=>
    right;left;exact⟨rfl,by rw[he];exact h0⟩
theorem gen_next{s:Sto}(h:0≤genS s)(d:Dv)(hp:Hp):genS (jhh s d hp (ja1 s))=genS s + 1:=by
 have hg:(ja1 s).gen=genS s + 1:=rfl;rcases slot_two (ja1 s)with hs|hs
 ·have hw:jhh s d hp (ja1 s)=⟨d,hp,ja1 s,s.s1,true,s.v1,s.table⟩:=by unfold jhh;rw[hs];simp
  rw[hw];generalize hx:ja1 s=x at *;revert hg h;unfold genS jbh;cases s.v0 <;>cases s.v1 <;>simp <;>omega
 ·have hw:jhh s d hp (ja1 s)=⟨d,hp,s.s0,ja1 s,s.v0,true,s.table⟩:=by unfold jhh;rw[hs];simp
  rw[hw];generalize hx:ja1 s=x at *;revert hg h;unfold genS jbh;cases s.v0 <;>cases s.v1 <;>simp <;>omega
theorem twice_law{s:Sto}(h:jdm s=true)(hf:s.dev.fuse= -1)(hk:kidE.wf s.table)(H1 H2:Int→Bool)(h1:(jep s H1).2=0):
 ((jep (jep s H1).1 H2).2=1∨(jep (jep s H1).1 H2).2=8)∨
 ((jep (jep s H1).1 H2).2=0∧jdm (jep (jep s H1).1 H2).1=true∧(jep (jep s H1).1 H2).1.v0=true∧(jep (jep s H1).1 H2).1.v1=true∧
  (jep (jep s H1).1 H2).1.s0.table=(jep (jep s H1).1 H2).1.s1.table∧(jep (jep s H1).1 H2).1.table=(jep s H1).1.table):=by
 rcases commit_law h hf hk H1 with e|⟨hg,⟨d,e⟩|⟨_,e⟩|⟨d,e,hc,hd⟩⟩
 ·rw[e]at h1;exact absurd h1 (by show ¬(1:Int)=0;decide)
 ·rw[e]at h1;exact absurd h1 (by show ¬(8:Int)=0;decide)
 ·exact absurd h1 e
 ·rw[e];have hgb:=gen_bound (jmt h).2.2.2.1;have hgn:=gen_next hgb.1 d (commitH s);have hs1:slotS (ja1 s)=(genS s + 1) % 2:=rfl;have hs2:slotS (ja1 (jhh s d (commitH s) (ja1 s)))=(genS s + 1 + 1) % 2:=by
   show(genS (jhh s d (commitH s) (ja1 s)) + 1) % 2=_
   rw[hgn]
  have hat:(jhh s d (commitH s) (ja1 s)).table=s.table:=rfl;have hx1:(ja1 s).table=s.table.num:=rfl;have hx2:(ja1 (jhh s d (commitH s) (ja1 s))).table=s.table.num:=rfl;rcases commit_law (s:=jhh s d (commitH s) (ja1 s)) hc hd.fuse hk H2 with e2|⟨hg2,⟨d2,e2⟩|⟨e2,_⟩|⟨d2,e2,hc2,hd2⟩⟩
  ·left;left;rw[e2]
  ·left;right;rw[e2]
  ·have h9:=hd.down;exact absurd (h9.symm.trans e2) (by decide)
  ·right;simp only;rw[e2];refine⟨rfl,hc2,?_⟩;generalize ja1 (jhh s d (commitH s) (ja1 s))=y at *;generalize ja1 s=x at *;rcases slot_two x with hs|hs
   ·have hy:slotS y=1:=by omega
    unfold jhh;simp[hs,hy,hx1,hx2]
   ·have hy:slotS y=0:=by omega
    unfold jhh;simp[hs,hy,hx1,hx2]
end Go.Proofs.YtpaohkkhejpgjaaGreatDoor
