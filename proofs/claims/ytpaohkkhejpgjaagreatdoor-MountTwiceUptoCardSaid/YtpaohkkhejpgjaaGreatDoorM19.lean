/- Texts of the proof: Hs4 Op Fc He. -/
import Derived.Test.YtpaohkkhejpgjaaGreatDoorM11
import Derived.Lib.Strings
import Derived.Test.YtpaohkkhejpgjaaGreatDoorM12
import Derived.Test.YtpaohkkhejpgjaaGreatDoorM17
import Derived.Test.YtpaohkkhejpgjaaGreatDoorM16
import Derived.Test.YtpaohkkhejpgjaaGreatDoorM9
import Derived.Deep.DeepCutAuto
import Derived.Deep.CutRange
set_option linter.all false
set_option maxRecDepth 100000
set_option maxHeartbeats 8000000
namespace Go.Proofs.YtpaohkkhejpgjaaGreatDoor
open Go Go.RowKit
theorem jj5(n:Nat):(tailL n).length=9 + tailZ n:=by rw[←jj4,jdz]
theorem padL_length(l:List UInt8):(padL l).length=l.length + 9 + tailZ l.length:=by simp[padL,jj5];omega
theorem padL_mod(l:List UInt8):(padL l).length % 64=0:=by rw[padL_length];unfold tailZ;omega
theorem tail_size(n:Nat):(strOfNums (tailL n)).size=9 + tailZ n:=by rw[strOfNums_size,jj5]
theorem pad_data(s:ByteArray):(s ++ strOfNums (tailL s.size)).data.toList=padL s.data.toList:=by
 simp[padL,strOfNums_data]
theorem u8s_size(l:List Int):(u8s l).size=l.length:=by simp[u8s,jdi]
theorem u8s_one(l:List Int):∀v∈(u8s l).toList,v.oneCell'=true:=by
 intro v hv;simp only[u8s,jdi,List.mem_map]at hv;obtain⟨x,_,rfl⟩:=hv;rfl
theorem size32{n:Nat}(h:n=32):(Tryz.prog.info? 34).map (·.size)=some n:=by subst h;kernel_rfl
theorem out_cell{w:World}{g:Nat}{st:S8}{j:Nat}{t:TypeId}(h:w.heap[g]? =some (.cells (u8s ((outL st).take j ++ List.replicate (32 - j) 0)) t (0,0)))(hj:j < 32):w.cell? ⟨g,j,none⟩=some (.int .u8 0):=by
 rw[cell_of_row w g j _ _ _ h];unfold u8s jdi;rw[List.getElem?_toArray,List.getElem?_map,List.getElem?_append_right (by simp[jcs];omega),List.getElem?_replicate,if_pos (by simp[jcs];omega)];rfl
theorem out_store{w:World}{g:Nat}{st:S8}{j:Nat}{t:TypeId}(h:w.heap[g]? =some (.cells (u8s ((outL st).take j ++ List.replicate (32 - j) 0)) t (0,0)))(hj:j < 32):(w.setCell ⟨g,j,none⟩ (.int .u8 ((outL st).getD j 0))).heap[g]? =some (.cells (u8s ((outL st).take (j + 1) ++ List.replicate (32 - (j + 1)) 0)) t (0,0)):=by
 rw[ja2 h j];congr 2
 have hl:j < (outL st).length:=by rw[jcs];exact hj
 unfold u8s jdi;rw[List.setIfInBounds_toArray,←List.map_set];congr 2
 rw[List.take_succ_eq_append_getElem hl,List.set_append_right _ _ (by simp[jcs];omega),show j - (List.take j (outL st)).length=0 by simp[jcs];omega,show 32 - j=(32 - (j + 1)) + 1 by omega,List.replicate_succ,List.set_cons_zero,List.append_assoc];simp[List.getD_eq_getElem?_getD,hl]
def jgt(w w1:World)(st:S8):Prop:=Below w.heap.size w w1∧w1.heap[w.heap.size]? =some (.cells (u8s (List.replicate 32 0)) 34 (0,0))∧w1.heap[w.heap.size + 1]? =some (.cells (u32s st.list) 188 (0,0))∧w1.heap[w.heap.size + 1 + 1]? =some (.cells (u32s k64) 250 (0,0))
theorem jlf(w w1:World)(hb:Below (((w.alloc (.cells (u8s (List.replicate 32 0)) 34)).alloc (.cells (u32s h0S.list) 188)).alloc (.cells (u32s k64) 250)).heap.size (((w.alloc (.cells (u8s (List.replicate 32 0)) 34)).alloc (.cells (u32s h0S.list) 188)).alloc (.cells (u32s k64) 250)) w1):jgt w w1 h0S:=by
 refine⟨?_,?_,?_,?_⟩
 ·refine Below.trans ?_ (hb.mono (by simp;omega));exact(((Below.refl _ _).alloc (Nat.le_refl _) _).alloc (by simp) _).alloc (by simp;omega) _
 ·rw[hb.block _ (by simp;omega),Below.heap_alloc _ _ _ (by simp;omega),Below.heap_alloc _ _ _ (by simp)];exact heap_alloc_new _ _
 ·rw[hb.block _ (by simp),Below.heap_alloc _ _ _ (by simp)];have:=heap_alloc_new (w.alloc (.cells (u8s (List.replicate 32 0)) 34)) (.cells (u32s h0S.list) 188);rw[World.size_alloc]at this;exact this
 ·rw[hb.block _ (by simp)];have:=heap_alloc_new ((w.alloc (.cells (u8s (List.replicate 32 0)) 34)).alloc (.cells (u32s h0S.list) 188)) (.cells (u32s k64) 250);rw[World.size_alloc,World.size_alloc]at this;exact this
theorem tail_facts(s:ByteArray)(w w1:World)(hb:Below (((w.alloc (.cells (u8s (List.replicate 32 0)) 34)).alloc (.cells (u32s h0S.list) 188)).alloc (.cells (u32s k64) 250)).heap.size (((w.alloc (.cells (u8s (List.replicate 32 0)) 34)).alloc (.cells (u32s h0S.list) 188)).alloc (.cells (u32s k64) 250)) w1):(strOfNums (tailL s.size)).size≤72∧Hid (jgt w w1 h0S):=by
 have hts:=tail_size s.size;have htz:tailZ s.size < 64:=by unfold tailZ;omega
 exact⟨by omega,jlf w w1 hb⟩
theorem hashBelow_step{w w1 w2:World}{st st2:S8}(h:jgt w w1 st)(hg:w1.grownBy w2 (some (w.heap.size + 1)))(h2:w2.heap[w.heap.size + 1]? =some (.cells (u32s st2.list) 188 (0,0))):jgt w w2 st2:=by
 obtain⟨h0,ha,hb,hc⟩:=h;refine⟨h0.grown hg h0.size (fun k hk=>by injection hk with hk;omega),?_,h2,?_⟩
 ·rw[hg.block _ (lt_of_block ha) (by intro e;injection e with e;omega)];exact ha
 ·rw[hg.block _ (lt_of_block hc) (by intro e;injection e with e;omega)];exact hc
theorem jfj(w:World)(s:ByteArray)(hs:s.size≤140737488355328):
 Calls Tryz.prog 33 #[.string s] w fun e w'=>e= .returned (.agg (u8s (shaOf s.data.toList)))∧Below w.heap.size w w':=by
 go_enter Tryz.func33,Tryz.ntmps33;go_wp2_with (first|(go_at_call 89;refine(rounds_any _).mono ?_;rintro e _ ⟨rfl,rfl⟩)|(go_at_call 91;refine(tail_any _ s.size (by omega)).mono ?_;rintro e w1 ⟨rfl,hb1⟩;obtain⟨ht72,HP⟩:=tail_facts s w w1 hb1;clear hb1));have hpd:=pad_data s;have hpm:=padL_mod s.data.toList;generalize hp:s ++ strOfNums (tailL s.size)=p at *;generalize hl:padL s.data.toList=l at *;have HPD:=Lib.hid (And.intro hpd (And.intro hpm (And.intro hp hl)));clear hpd hpm hp hl;go_loopw [0,14,15,16,17,18,19,20,21,22] (fun v _ _ _ _ _ _ _ _ _ wr=>∃(k:Nat) (r:ByteArray),v= .string r∧64 * k≤l.length∧r.data.toList=l.drop (64 * k)∧jgt w wr (shaN l k)) (fun v _ _ _ _ _ _ _ _ _ _=>match v with| .string r=>r.size|_=>0)
 case atStart=>exact⟨0,p,rfl,by omega,by rw[HPD.out.1];rfl,HP.out⟩
 case round=>
  obtain⟨k,r,rfl,hk,hr,hW⟩:=hrel;have hrs:r.size=l.length - 64 * k:=by have:=congrArg List.length hr;simpa using this
  have hm:=HPD.out.2.1;by_cases hlt:r.size=0
  ·have hne:r.toList.isEmpty=true:=by
    rw[List.isEmpty_iff_length_eq_zero,←hlt,ByteArray.toList_eq];simp
   have hkl:64 * k=l.length:=by omega
   have hk2:l.length / 64=k:=by omega
   have HW:=Lib.hid hW;have HK:=Lib.hid hk2;have hst:shaOf s.data.toList=outL (shaN l k):=by rw[shaOf,HPD.out.2.2.2,hk2]
   have HST:=Lib.hid hst;clear hr hrs hm hW hkl hk2 hst hlt;generalize hrl:shaN l k=st at *;clear hrl;go_wp2;go_loopw [6,23] (fun _ i wx=>∃j:Nat,j≤32∧i= .int .i64 j∧Below w.heap.size w wx∧wx.heap[w.heap.size]? =some (.cells (u8s ((outL st).take j ++ List.replicate (32 - j) 0)) 34 (0,0))∧wx.heap[w.heap.size + 1]? =some (.cells (u32s st.list) 188 (0,0))) (fun _ i _=>32 - (intOf i).toNat)
   case atStart=>exact⟨0,by omega,rfl,HW.out.1,HW.out.2.1,HW.out.2.2.1⟩
   case round=>
    obtain⟨j,hj,rfl,hB,hO,hS⟩:=hrel;by_cases hl2:j < 32
    ·have hc:=jcc hS (j / 4) (by simp[S8.list];omega);have hoc:=out_cell hO hl2;have hof:=frozen_of_row wr _ j _ _ hO;have hset:=out_store hO hl2;have hss:=hS;have HH:=Lib.hid (And.intro hB (And.intro hset hss));clear hB hO hS hset hss;have hx:st.list.getD (j / 4) 0 / 2 ^ (24 - 8 * (j % 4)) % 256=(outL st).getD j 0:=by
      unfold outL;simp[List.getD_eq_getElem?_getD,hl2]
     have HX:=Lib.hid hx;clear hx;generalize st.list.getD (j / 4) 0=y at *;go_wp2;rw[HX.out];exact⟨⟨j + 1,by omega,by go_num,HH.out.1.setCell (Nat.le_refl _) _,HH.out.2.1,by rw[heap_setCell_other _ _ _ _ (by simp)];exact HH.out.2.2⟩,by simp[intOf];omega⟩
    ·obtain rfl:j=32:=by omega
     have HH:=Lib.hid (And.intro hB hO);clear hB hO hS;go_wp2_with (first|(refine wpList_load_row rfl 34 _ rfl w.heap.size rfl 34 _ (0,0) _ HH.out.2 Tryz.underlying34 rfl (by rw[u8s_size];exact size32 (by simp[jcs])) ?_)|(refine jd9 rfl 34 _ _ rfl w.heap.size rfl _ rfl 34 HH.out.2 (u8s_one _) (by rw[u8s_size];exact size32 (by simp[jcs])) ?_));have hfin:u8s (List.take 32 (outL st) ++ List.replicate (32 - 32) 0)=u8s (shaOf s.data.toList):=by
      rw[HST.out,List.take_of_length_le (by rw[jcs];omega)];simp
     exact bodyPost_ret (results_cell_row rfl _ _ w.heap.size 34 _ (0,0) _ rfl HH.out.2 Tryz.underlying34 rfl (by rw[u8s_size];exact size32 (by simp[jcs]))) rfl ⟨by rw[hfin],HH.out.1⟩
  ·have h64:64≤r.size:=by omega
   have HR:=Lib.hid (And.intro hr (And.intro hrs (And.intro hm hW)));have hs64:(r.extract 0 64).size=64:=by simp;omega
   have hne:r.toList.isEmpty=false:=by
    rw[←Bool.not_eq_true,List.isEmpty_iff_length_eq_zero,ByteArray.toList_eq];simpa using hlt
   have HR64:=Lib.hid hs64;clear hr hrs hm hW hs64;go_wp2_with (go_at_call 90;refine(hashTake_any _ _ HR64.out _ _ _ _ rfl HR.out.2.2.2.2.2.1 HR.out.2.2.2.2.2.2).mono ?_;rintro e w2 ⟨rfl,hg2,hw2⟩);go_roundw
   case rel=>
    refine⟨k + 1,_,rfl,by have:=HR.out.2.1;have:=HR.out.2.2.1;omega,?_,?_⟩
    ·rw[Lib.extract_data,HR.out.1,List.take_of_length_le (by have h1:=HR.out.2.1;simp;omega),List.drop_drop,Nat.mul_succ]
    ·refine hashBelow_step HR.out.2.2.2 hg2 ?_;rw[hw2,Lib.extract_data,HR.out.1];rfl
   case measure=>simp;omega
#print axioms jfj
def HeapV(w:World)(v:Value)(h:Hp):Prop:=∃c,v= .agg #[.int .u32 h.size,c]∧Sl celE w c h.cells∧u32Ok h.size
theorem HeapV.below{B:Nat}{w w':World}{v:Value}{h:Hp}(hv:HeapV w v h)(hb:Below B w w')(hB:w.heap.size≤B):HeapV w' v h:=by
 obtain⟨c,e,h1,h2⟩:=hv;exact⟨c,e,h1.below hb hB,h2⟩
def jkb(h:Hp)(k:Nat)(c:Cel):Bool:=okCel h.size c && (decide (k=0)||(match h.cells[k - 1]? with|some d=>decide (d.num < c.num)|none=>true))
theorem jkc:∀(l:List Int) (x:Int),jeb (l ++ [x])=(jeb l && (match l.getLast? with|some y=>decide (y < x)|none=>true))
 |[],x=>by simp[jeb]
 |[a],x=>by simp[jeb]
 |a::b::r,x=>by
  have ih:=jkc (b::r) x;simp only[List.cons_append,jeb]at ih ⊢;rw[ih,Bool.and_assoc];simp
theorem okH_next(h:Hp)(k:Nat)(hk:k < h.cells.length):okH ⟨h.size,h.cells.take (k + 1)⟩=(okH ⟨h.size,h.cells.take k⟩ && jkb h k h.cells[k]):=by
 unfold okH jkb;simp only;rw[List.take_succ_eq_append_getElem hk,List.all_append,List.map_append,List.map_cons,List.map_nil,jkc];have:(match ((h.cells.take k).map (·.num)).getLast? with|some y=>decide (y < h.cells[k].num)|none=>true)=(decide (k=0)||(match h.cells[k - 1]? with|some d=>decide (d.num < h.cells[k].num)|none=>true)):=by
  by_cases h0:k=0
  ·subst h0;simp
  ·rw[List.getLast?_map,List.getLast?_take,if_neg h0,List.getElem?_eq_getElem (by omega)];simp[h0]
 rw[this];simp only[List.all_cons,List.all_nil,Bool.and_true];cases decide (16≤h.size) <;>cases decide (h.size≤65536) <;>cases (h.cells.take k).all (okCel h.size) <;>cases okCel h.size h.cells[k] <;>cases jeb ((h.cells.take k).map (·.num)) <;>simp
theorem jfv(s:ByteArray):(decN s).items.length≤255∧(decN s).kids.length≤255∧(decN s).vols.length≤255:=by
 unfold decN;split
 ·exact jhv _
 ·simp[jdh]
theorem zero32_ok:jd7 jbm:=⟨by decide,fun x hx=>by have:=List.eq_of_mem_replicate hx;omega⟩
theorem cc0_wf{c:Cel}(h:celE.wf c)(hk:0≤(decN c.data).kind∧(decN c.data).kind≤255):ccWf (cc0 c):=⟨zero32_ok,h,jfv _,hk⟩
theorem open_any(w:World)(v:Value)(h:Hp)(hv:HeapV w v h)(hmax:h.cells.length≤1073741824):
 Calls Tryz.prog 68 #[v] w fun e w'=>Below w.heap.size w w'∧
  ((openB h=true∧∃p pcs,e= .returned (.tuple #[.pointer (some ⟨p,0,none⟩), .int .i64 0])∧St w.heap.size w' p h.size pcs∧pcs.map (·.2)=jav h)∨
   (openB h=false∧e= .returned (.tuple #[.pointer none, .int .i64 7]))):=by
 obtain⟨cv,rfl,hsl,hsz⟩:=hv;have HSL:=Lib.hid (And.intro hsl hsz);obtain⟨C,cc,rfl,hc1,hc2,hrow⟩:=hsl;have HR:=Lib.hid hrow;obtain⟨hs0,hs1⟩:=hsz;clear hrow;have hB0:=((Below.refl w.heap.size w).alloc (Nat.le_refl _) (.cells #[.int .u32 h.size, .slice C h.cells.length cc] 32)).alloc (by simp) (.cells #[.int .u32 h.size, .slice none 0 0, .int .i64 0] 150);have HB0:=Lib.hid hB0;clear hB0;have hd1:=Lib.hid (show okH ⟨h.size,h.cells.take 0⟩=(decide (16≤h.size) && decide (h.size≤65536)) by simp[okH,jeb]);obtain⟨W0,hW0⟩:∃W0,W0=(w.alloc (.cells #[.int .u32 h.size, .slice C h.cells.length cc] 32)).alloc (.cells #[.int .u32 h.size, .slice none 0 0, .int .i64 0] 150):=⟨_,rfl⟩
 have hbx0:W0.heap[w.heap.size]? =some (.cells #[.int .u32 h.size, .slice C h.cells.length cc] 32 (0,0)):=by
  rw[hW0,Lib.alloc_old _ _ _ (by simp)];exact heap_alloc_new _ _
 have hst0:W0.heap[w.heap.size + 1]? =some (.cells #[.int .u32 h.size, .slice none 0 0, .int .i64 0] 150 (0,0)):=by
  rw[hW0];have:=heap_alloc_new (w.alloc (.cells #[.int .u32 h.size, .slice C h.cells.length cc] 32)) (.cells #[.int .u32 h.size, .slice none 0 0, .int .i64 0] 150);simpa using this
 rw[←hW0]at HB0;have HST0:=Lib.hid (show St w.heap.size W0 (w.heap.size + 1) h.size []from⟨by omega,⟨.slice none 0 0,0,hst0,⟨rfl,Or.inl ⟨rfl,rfl⟩⟩⟩,fun x hx=>by simp at hx,List.nodup_nil,fun x hx=>by simp at hx,fun v' g cs t fr hc ho _=>by rw[cell_of_row _ _ _ _ _ _ hst0]at hc;simp at hc;subst hc;cases ho⟩);have HBX0:=Lib.hid (And.intro hbx0 hst0);have HW0:=Lib.hid hW0;have b0:W0.cell? ⟨w.heap.size,0,none⟩=some (.int .u32 h.size):=by rw[cell_of_row _ _ _ _ _ _ hbx0];rfl
 have b1:W0.cell? ⟨w.heap.size,1,none⟩=some (.slice C h.cells.length cc):=by rw[cell_of_row _ _ _ _ _ _ hbx0];rfl
 clear hbx0 hst0 hW0;go_enter Tryz.func68,Tryz.ntmps68;go_upto_region 2 with(fail);go_cut [5] (fun c wx=>c= .bool (okH ⟨h.size,h.cells.take 0⟩)∧wx=W0)
 case first=>
  rw[←HW0.out];by_cases h16:16≤h.size
  ·have h16b:decide (h.size≥16)=true:=decide_eq_true h16;have HD:=Lib.hid (show okH ⟨h.size,h.cells.take 0⟩=decide (h.size≤65536) by rw[hd1.out,decide_eq_true h16];rfl);go_wp2_with (fail);go_meet;exact⟨by rw[HD.out],rfl⟩
  ·have h16b:decide (h.size≥16)=false:=decide_eq_false h16;have HD:=Lib.hid (show okH ⟨h.size,h.cells.take 0⟩=false by rw[hd1.out,decide_eq_false h16];rfl);go_wp2_with (fail);go_meet;exact⟨by rw[HD.out],rfl⟩
 case rest=>
  obtain⟨rfl,rfl⟩:=hcut;clear HW0;have HPL:=Lib.hid (show w.heap.size < w.heap.size + 1 by omega);generalize w.heap.size + 1=p at *;go_wp2_with (fail);go_loopw [5,6,7,8,9,33,34,35,36,37,38,39,40,41,42,43,44,45,46,47,48,49,50,51,52,53,54,55,56,57,58,59,60,61,62,63,64,65,66,67,68,69,70,71,72,73,74,75,76,77,78,79,80,81,82,83,84,85,86,87,88,89,90] (fun ok _ _ _ _ i _ _ _ _ _ _ _ _ _ _ _ _ _ _ _ _ _ _ _ _ _ _ _ _ _ _ _ _ _ _ _ _ _ _ _ _ _ _ _ _ _ _ _ _ _ _ _ _ _ _ _ _ _ _ _ _ _ wr=>∃(k:Nat) (pcs:List (Nat×CC)),k≤h.cells.length∧i= .int .i64 k∧ok= .bool (okH ⟨h.size,h.cells.take k⟩)∧St w.heap.size wr p h.size pcs∧pcs.map (·.2)=(h.cells.take k).map cc0∧Below w.heap.size w wr∧wr.heap[w.heap.size]? =some (.cells #[.int .u32 h.size, .slice C h.cells.length cc] 32 (0,0))) (fun _ _ _ _ _ i _ _ _ _ _ _ _ _ _ _ _ _ _ _ _ _ _ _ _ _ _ _ _ _ _ _ _ _ _ _ _ _ _ _ _ _ _ _ _ _ _ _ _ _ _ _ _ _ _ _ _ _ _ _ _ _ _ _=>h.cells.length - (intOf i).toNat)
  case atStart=>exact⟨0,[],Nat.zero_le _,rfl,rfl,HST0.out,by simp,HB0.out,HBX0.out.1⟩
  case round=>
   obtain⟨k,pcs,hk,rfl,rfl,hst,hpc,hB,hbx⟩:=hrel;by_cases hlt:k < h.cells.length
   ·-- BEGIN 2
    have hpl:pcs.length=k:=by have:=congrArg List.length hpc;simpa[Nat.min_eq_left hk]using this
    obtain⟨b,o,rfl,hat,hwf⟩:=HR.out k hlt;have hb:b < w.heap.size:=hat.lt (by simp[celE]);have hatr:=hat.below hB (Nat.le_refl _);have hbr:b < wr.heap.size:=Nat.lt_of_lt_of_le hb hB.size;have hokn:=okH_next h k hlt;have hpn:pcs.map (·.2) ++ [cc0 h.cells[k]]=(h.cells.take (k + 1)).map cc0:=by rw[hpc,List.take_succ_eq_append_getElem hlt,List.map_append];rfl
    have hprev:∀j (hj:j < h.cells.length),wr.cell? ⟨b,o + j * 3,none⟩=some (.int .u32 h.cells[j].num):=by
     intro j hj;obtain⟨b',o',e,hat',_⟩:=HR.out j hj;injection e with e;injection e with e1 e2 _;subst e1 e2;have:=(hat'.below hB (Nat.le_refl _)).cell 0 (.int .u32 h.cells[j].num) rfl;simpa[celE]using this
    have HP:=Lib.hid hprev;have hbw:=hB.size;have hbl:=lt_of_block hbx;have HG:=Lib.hid (And.intro hst (And.intro hpn (And.intro hB hbx)));have HOK:=Lib.hid (And.intro hokn hpl);clear hst hpc hB hbx hat hprev hokn hpn hpl;have e0:=(hatr.cell 0 (.int .u32 h.cells[k].num) rfl)
    have e1:=(hatr.cell 1 (.string h.cells[k].data) rfl)
    have e2:=(hatr.cell 2 (.int .i64 h.cells[k].refs) rfl)
    simp only[celE,Nat.add_zero]at e0 e1 e2;have HWF:=Lib.hid hwf;clear hatr hwf;obtain⟨c,hc⟩:∃c,h.cells[k]=c:=⟨_,rfl⟩
    have HC:=Lib.hid hc;rw[hc]at HG HOK HWF e0 e1 e2;clear hc;obtain⟨num,data,refs⟩:=c;generalize hokb:okH ⟨h.size,h.cells.take k⟩=okb at *;have HKB:=Lib.hid hokb;clear hokb;go_wp2_with (fail);go_at_call 106;refine(decode_any _ data HWF.out.2.1).mono ?_;rintro e w2 ⟨v,rfl,hnv,hnwf,hb2⟩;have HNW:=Lib.hid hnwf;clear hnwf;obtain⟨vi,vk,vv,rfl,hvi,hvk,hvv,hkd0,hkd1⟩:=hnv;have HV:=Lib.hid (And.intro hvi (And.intro hvk hvv));obtain⟨A1,n1,c1,rfl⟩:=jax hvi;obtain⟨A2,n2,c2,rfl⟩:=jax hvk;obtain⟨A3,n3,c3,rfl⟩:=jax hvv;clear hvi hvk hvv;obtain⟨kd,hkd⟩:∃kd,(decN data).kind=kd:=⟨_,rfl⟩
    have HKD:=Lib.hid hkd;rw[hkd]at hkd0 hkd1 ⊢;clear hkd;obtain⟨w3,hw3⟩:∃w3,w3=w2.alloc (.cells #[.int .u8 kd, .slice A1 n1 c1, .slice A2 n2 c2, .slice A3 n3 c3] 59):=⟨_,rfl⟩
    have hb23:Below wr.heap.size wr w2:=((Below.refl wr.heap.size wr).alloc (Nat.le_refl _) _).trans (hb2.mono (by simp));have hb33:Below wr.heap.size wr w3:=by rw[hw3];exact hb23.alloc hb23.size _
    have hcb2:w2.heap[wr.heap.size]? =some (.cells #[.int .u32 num, .string data, .int .i64 refs] 91 (0,0)):=(hb2.block _ (by simp)).trans (heap_alloc_new _ _);have hcb3:w3.heap[wr.heap.size]? =some (.cells #[.int .u32 num, .string data, .int .i64 refs] 91 (0,0)):=by rw[hw3,Lib.alloc_old _ _ _ (lt_of_block hcb2)];exact hcb2
    have hnb3:w3.heap[w2.heap.size]? =some (.cells #[.int .u8 kd, .slice A1 n1 c1, .slice A2 n2 c2, .slice A3 n3 c3] 59 (0,0)):=by rw[hw3];exact heap_alloc_new _ _
    have hb3B:Below w.heap.size w w3:=HG.out.2.2.1.trans (hb33.mono hbw);have hbx3:w3.heap[w.heap.size]? =some (.cells #[.int .u32 h.size, .slice (some ⟨b,o,none⟩) h.cells.length cc] 32 (0,0)):=(hb33.block _ hbl).trans HG.out.2.2.2;have hst3:St w.heap.size w3 p h.size pcs:=HG.out.1.below hb33;have hw23:w2.heap.size < w3.heap.size:=lt_of_block hnb3;have q0:w3.cell? ⟨w.heap.size,0,none⟩=some (.int .u32 h.size):=by rw[cell_of_row _ _ _ _ _ _ hbx3];rfl
    have q1:w3.cell? ⟨w.heap.size,1,none⟩=some (.slice (some ⟨b,o,none⟩) h.cells.length cc):=by rw[cell_of_row _ _ _ _ _ _ hbx3];rfl
    have q2:w3.cell? ⟨wr.heap.size,0,none⟩=some (.int .u32 num):=by rw[cell_of_row _ _ _ _ _ _ hcb3];rfl
    have HVV:=Lib.hid (And.intro (HV.out.1.below ((Below.refl _ w2).alloc (Nat.le_refl _) (.cells #[.int .u8 kd, .slice A1 n1 c1, .slice A2 n2 c2, .slice A3 n3 c3] 59)) (Nat.le_refl _)) (And.intro (HV.out.2.1.below ((Below.refl _ w2).alloc (Nat.le_refl _) (.cells #[.int .u8 kd, .slice A1 n1 c1, .slice A2 n2 c2, .slice A3 n3 c3] 59)) (Nat.le_refl _)) (HV.out.2.2.below ((Below.refl _ w2).alloc (Nat.le_refl _) (.cells #[.int .u8 kd, .slice A1 n1 c1, .slice A2 n2 c2, .slice A3 n3 c3] 59)) (Nat.le_refl _))));rw[←hw3]at HVV;have H3:=Lib.hid (And.intro hb3B (And.intro hst3 (And.intro hbx3 (And.intro hcb3 (And.intro hnb3 hb33)))));have hsz23:=hb23.size;clear hb2 hb23 hb33 hcb2 hcb3 hnb3 hb3B hbx3 hst3;go_upto_region 7 with(fail);rw[←hw3];go_cut [5] (fun c wx=>c= .bool (okH ⟨h.size,h.cells.take (k + 1)⟩)∧∃nq,wx=w3.drewN nq)
    case first=>
     clear hw3;cases okb with
     |false=>
      have HD:=Lib.hid (show okH ⟨h.size,h.cells.take (k + 1)⟩=false by rw[HOK.out.1];rfl);go_quiet (fail);go_wp2_with (fail);go_meet;exact⟨by rw[HD.out],_,rfl⟩
     |true=>
      have HOK1:=Lib.hid (show okH ⟨h.size,h.cells.take (k + 1)⟩=jkb h k ⟨num,data,refs⟩ by rw[HOK.out.1];simp);cases hdb:decB data with
      |false=>
       have hdeb:(decE data==0)=false:=by unfold decE;rw[hdb];rfl
       have HD:=Lib.hid (show okH ⟨h.size,h.cells.take (k + 1)⟩=false by rw[HOK1.out];simp[jkb,okCel,hdb]);clear hdb;go_quiet (fail);go_wp2_with (fail);go_meet;exact⟨by rw[HD.out],_,rfl⟩
      |true=>
       have hdeb:(decE data==0)=true:=by unfold decE;rw[hdb];rfl
       have HDB:=Lib.hid hdb;clear hdb;by_cases h2:2≤num
       ·have h2b:decide (num≥2)=true:=decide_eq_true h2;by_cases hsz':num < h.size
        ·have hszb:decide (num < h.size)=true:=decide_eq_true hsz';by_cases hk0:k=0
         ·have HD:=Lib.hid (show okH ⟨h.size,h.cells.take (k + 1)⟩=true by rw[HOK1.out];simp[jkb,okCel,HDB.out,h2,hsz',hk0]);have hkb:((k:Int)==0)=true:=by simp[hk0]
          go_quiet (fail);go_wp2_with (fail);go_meet;exact⟨by rw[HD.out],_,rfl⟩
         ·have hkb:((k:Int)==0)=false:=by simp[hk0]
          have hkm:k - 1 < h.cells.length:=by omega
          have q3:w3.cell? ⟨b,o + (k - 1) * 3,none⟩=some (.int .u32 h.cells[k - 1].num):=(H3.out.2.2.2.2.2.cell (p:=⟨b,o + (k - 1) * 3,none⟩) hbr).trans (HP.out (k - 1) hkm);have HD0:=Lib.hid (show okH ⟨h.size,h.cells.take (k + 1)⟩=decide (h.cells[k - 1].num < num) by rw[HOK1.out];simp[jkb,okCel,HDB.out,h2,hsz',hk0,hkm]);generalize h.cells[k - 1].num=pn at *;by_cases hpn:pn < num
          ·have hpb:decide (pn < num)=true:=decide_eq_true hpn;have HD:=Lib.hid (show okH ⟨h.size,h.cells.take (k + 1)⟩=true by rw[HD0.out,hpb]);go_quiet (fail);go_wp2_with (fail);go_meet;exact⟨by rw[HD.out],_,rfl⟩
          ·have hpb:decide (pn < num)=false:=decide_eq_false hpn;have HD:=Lib.hid (show okH ⟨h.size,h.cells.take (k + 1)⟩=false by rw[HD0.out,hpb]);go_quiet (fail);go_wp2_with (fail);go_meet;exact⟨by rw[HD.out],_,rfl⟩
        ·have hszb:decide (num < h.size)=false:=decide_eq_false hsz';have HD:=Lib.hid (show okH ⟨h.size,h.cells.take (k + 1)⟩=false by rw[HOK1.out];simp[jkb,okCel,hsz']);go_quiet (fail);go_wp2_with (fail);go_meet;exact⟨by rw[HD.out],_,rfl⟩
       ·have h2b:decide (num≥2)=false:=decide_eq_false h2;have HD:=Lib.hid (show okH ⟨h.size,h.cells.take (k + 1)⟩=false by rw[HOK1.out];simp[jkb,okCel,h2]);go_quiet (fail);go_wp2_with (fail);go_meet;exact⟨by rw[HD.out],_,rfl⟩
    case rest=>
     obtain⟨rfl,nq,hwc⟩:=hcut;have hbq:Below w3.heap.size w3 wc:=by rw[hwc];exact Below.drewN' (Below.refl _ w3) nq
     have hws:wc.heap.size=w3.heap.size:=by rw[hwc];rfl
     have hstW:St w.heap.size wc p h.size pcs:=H3.out.2.1.below hbq;have hBW:Below w.heap.size w wc:=H3.out.1.trans (hbq.mono (by have:=H3.out.1.size;omega));have hbxW:wc.heap[w.heap.size]? =some (.cells #[.int .u32 h.size, .slice (some ⟨b,o,none⟩) h.cells.length cc] 32 (0,0)):=(hbq.block _ (lt_of_block H3.out.2.2.1)).trans H3.out.2.2.1;have hcbW:wc.heap[wr.heap.size]? =some (.cells #[.int .u32 num, .string data, .int .i64 refs] 91 (0,0)):=(hbq.block _ (lt_of_block H3.out.2.2.2.1)).trans H3.out.2.2.2.1;have hnbW:wc.heap[w2.heap.size]? =some (.cells #[.int .u8 kd, .slice A1 n1 c1, .slice A2 n2 c2, .slice A3 n3 c3] 59 (0,0)):=(hbq.block _ (lt_of_block H3.out.2.2.2.2.1)).trans H3.out.2.2.2.2.1;have HVW:=Lib.hid (And.intro (HVV.out.1.below hbq (Nat.le_refl _)) (And.intro (HVV.out.2.1.below hbq (Nat.le_refl _)) (HVV.out.2.2.below hbq (Nat.le_refl _))));obtain⟨sv,sa,hsp,hsown⟩:=hstW.row;have s1:wc.cell? ⟨p,1,none⟩=some sv:=by rw[cell_of_row _ _ _ _ _ _ hsp];rfl
     have t0:wc.cell? ⟨wr.heap.size,0,none⟩=some (.int .u32 num):=by rw[cell_of_row _ _ _ _ _ _ hcbW];rfl
     have t1:wc.cell? ⟨wr.heap.size,1,none⟩=some (.string data):=by rw[cell_of_row _ _ _ _ _ _ hcbW];rfl
     have t2:wc.cell? ⟨wr.heap.size,2,none⟩=some (.int .i64 refs):=by rw[cell_of_row _ _ _ _ _ _ hcbW];rfl
     have m0:wc.cell? ⟨w2.heap.size,0,none⟩=some (.int .u8 kd):=by rw[cell_of_row _ _ _ _ _ _ hnbW];rfl
     have m1:wc.cell? ⟨w2.heap.size,1,none⟩=some (.slice A1 n1 c1):=by rw[cell_of_row _ _ _ _ _ _ hnbW];rfl
     have m2:wc.cell? ⟨w2.heap.size,2,none⟩=some (.slice A2 n2 c2):=by rw[cell_of_row _ _ _ _ _ _ hnbW];rfl
     have m3:wc.cell? ⟨w2.heap.size,3,none⟩=some (.slice A3 n3 c3):=by rw[cell_of_row _ _ _ _ _ _ hnbW];rfl
     have hwl1:wr.heap.size < wc.heap.size:=lt_of_block hcbW;have hwl2:w2.heap.size < wc.heap.size:=lt_of_block hnbW;have hwl3:p < wc.heap.size:=lt_of_block hsp;have hns:=hstW.noStr s1;have HW:=Lib.hid (And.intro hstW (And.intro hBW (And.intro hbxW (And.intro hsp (And.intro hsown hns)))));have HNE:=Lib.hid (show(¬p=wr.heap.size)∧(¬p=w2.heap.size)from⟨fun e=>by rw[e,hcbW]at hsp;injection hsp with hsp;injection hsp with _ hsp _;exact absurd hsp (by decide),fun e=>by rw[e,hnbW]at hsp;injection hsp with hsp;injection hsp with _ hsp _;exact absurd hsp (by decide)⟩);have HJ:=Lib.hid (show(∀(wd:World) (o1 o2:Obj),(∀q,q < wc.heap.size + 2→some q≠sv.ownBlock→wd.heap[q]? =((wc.alloc o1).alloc o2).heap[q]?)→∀i,wd.cell? ⟨wr.heap.size,i,none⟩=wc.cell? ⟨wr.heap.size,i,none⟩)∧(∀(wd:World) (o1 o2:Obj),(∀q,q < wc.heap.size + 2→some q≠sv.ownBlock→wd.heap[q]? =((wc.alloc o1).alloc o2).heap[q]?)→∀i,wd.cell? ⟨w2.heap.size,i,none⟩=wc.cell? ⟨w2.heap.size,i,none⟩)from
      ⟨fun wd o1 o2 hh i=>World.cell?_of_block (by have h1:=hh wr.heap.size (by omega) (fun e=>jb8 hsown hcbW (by decide) e.symm);rw[show(⟨wr.heap.size,i,none⟩:Addr).block=wr.heap.size from rfl,h1];exact jin wc o1 o2 _ hwl1),
       fun wd o1 o2 hh i=>World.cell?_of_block (by have h1:=hh w2.heap.size (by omega) (fun e=>jb8 hsown hnbW (by decide) e.symm);rw[show(⟨w2.heap.size,i,none⟩:Addr).block=w2.heap.size from rfl,h1];exact jin wc o1 o2 _ hwl2)⟩)
     clear q0 q1 q2 hw3 hwc hbq hws hstW hBW hbxW hcbW hnbW hsp hsown hns;have hmx:pcs.length + 1≤1073741825:=by have:=HOK.out.2;omega
     have hne1:¬p=wr.heap.size:=fun e=>HNE.out.1 e
     have hne2:¬p=w2.heap.size:=fun e=>HNE.out.2 e
     go_wp2_with (fail);rw[jjl 146 (.tmp 80)];go_region_held3 (fun x=> x.cell? ⟨wr.heap.size,0,none⟩=some (.int .u32 num)∧x.cell? ⟨wr.heap.size,1,none⟩=some (.string data)∧x.cell? ⟨wr.heap.size,2,none⟩=some (.int .i64 refs)∧x.cell? ⟨w2.heap.size,0,none⟩=some (.int .u8 kd)∧x.cell? ⟨w2.heap.size,1,none⟩=some (.slice A1 n1 c1)∧x.cell? ⟨w2.heap.size,2,none⟩=some (.slice A2 n2 c2)∧x.cell? ⟨w2.heap.size,3,none⟩=some (.slice A3 n3 c3)) (go_keep) (first
      |(go_loud (refine step_push2 (B:=w.heap.size) (w:=wc) rfl (.tmp 81) (.tmp 86) rfl rfl sv pcs.length (ptrsV pcs) HW.out.2.2.2.2.1 HW.out.2.2.2.2.2 (ptrs_noStr pcs) (p) _ HW.out.2.2.2.1 s1 hmx (by omega) rfl rfl ?_);intro g cap wd hcd hfd hpd ho2 hns2 hbk hfr2 hbl2 hgt2;have hk1:=HJ.out.1 wd _ _ hbk;have hk2:=HJ.out.2 wd _ _ hbk;have HD:=Lib.hid (And.intro hpd (And.intro ho2 (And.intro hns2 (And.intro hbk (And.intro hfr2 (And.intro hbl2 hgt2))))));clear hpd ho2 hns2 hbk hfr2 hbl2 hgt2))
     all_goals(
      have hfin:=St.pushed HW.out.1 HD.out.1 HW.out.2.2.2.2.1 HD.out.2.1 HD.out.2.2.1 HD.out.2.2.2.1 HD.out.2.2.2.2.1 HD.out.2.2.2.2.2.1 (by have:=HW.out.2.1.size;exact this) (cc0 ⟨num,data,refs⟩) (by unfold cc0 ccRow;simp only;rw[HKD.out];rfl) HVW.out.1 HVW.out.2.1 HVW.out.2.2 (cc0_wf HWF.out (by rw[show(decN (Cel.mk num data refs).data).kind=kd from HKD.out];exact⟨hkd0,hkd1⟩));have hbxf:=hfin.2.1.keep HW.out.2.2.1 (by unfold BadT;decide);have HF:=Lib.hid (And.intro hfin.1 (And.intro (HW.out.2.1.trans hfin.2.2) hbxf));clear hfin hbxf hk1 hk2 hcd hfd;go_wp2_with (fail);go_roundw
      case rel=>
       exact⟨k + 1,pcs ++ [(wc.heap.size,cc0 ⟨num,data,refs⟩)],by omega,by go_num,rfl,HF.out.1,by rw[List.map_append];exact HG.out.2.1,HF.out.2.1,HF.out.2.2⟩
      case measure=>simp[intOf];omega)
   ·obtain rfl:k=h.cells.length:=by omega
    rw[List.take_length]at hpc;have hokE:okH ⟨h.size,h.cells.take h.cells.length⟩=okH h:=by rw[List.take_length]
    rw[hokE];have hpl:pcs.length=h.cells.length:=by have:=congrArg List.length hpc;simpa using this
    have HE:=Lib.hid (And.intro hst (And.intro hpc (And.intro hB hpl)));clear hst hpc hB hbx hokE hpl;cases hok:okH h with
    |false=>
     have HF:=Lib.hid (show openB h=false by unfold openB;rw[hok];rfl);clear hok;go_wp2_with (fail);go_ret2;exact⟨HE.out.2.2.1,Or.inr ⟨HF.out,rfl⟩⟩
    |true=>
     have HOK:=Lib.hid hok;clear hok;obtain⟨sv,s1,hsown⟩:=HE.out.1.field;obtain⟨A,cp,rfl,hcp1,hcp2,_⟩:=St.sl hsown;rw[List.length_map]at s1 hcp1;have hplt:=HE.out.1.plt;clear hsown;go_wp2_with (fail);go_loopw [11,98,99,100,101,102,103,104,105,106,107,108,109,110,111] (fun _ i _ _ _ _ _ _ _ _ _ _ _ _ _ wr=>∃k:Nat,k≤pcs.length∧i= .int .i64 k∧St w.heap.size wr p h.size (jdt k pcs)∧Below w.heap.size w wr∧wr.cell? ⟨p,1,none⟩=some (.slice A pcs.length cp)) (fun _ i _ _ _ _ _ _ _ _ _ _ _ _ _ _=>pcs.length - (intOf i).toNat)
     case atStart=>exact⟨0,Nat.zero_le _,rfl,by rw[hashed_zero];exact HE.out.1,HE.out.2.2.1,s1⟩
     case round=>
      obtain⟨k,hk,rfl,hst,hB,hsv⟩:=hrel;by_cases hlt:k < pcs.length
      ·-- BEGIN 3
       have hown:=hst.own hsv;have hrow:=(St.sl hown).len_eq.2.2.2;have hpl:=hst.plt;obtain⟨b,o,rfl,hat,_⟩:=hrow k (by rw[List.length_map,jjs];exact hlt);have d0:wr.cell? ⟨b,o + k,none⟩=some (.pointer (some ⟨pcs[k].1,0,none⟩)):=by
        have:=hat.cell 0 _ rfl;have e:((jdt k pcs).map (·.1))[k]'(by rw[List.length_map,jjs];exact hlt)=pcs[k].1:=by simp only[hashed_ptr,List.getElem_map]
        rw[e]at this;simpa[ptrE]using this
       have hbr:b < wr.heap.size:=block_lt_of_cell d0;have hm:=hashed_mem hlt;have e1:wr.cell? ⟨pcs[k].1,1,none⟩=some (.string pcs[k].2.data):=(hst.cells _ hm).1.data;have hstep:=hashed_step HE.out.1.nodup k hlt;have HG:=Lib.hid (And.intro hst (And.intro hB (And.intro hsv (And.intro hm hstep))));have hdl:=(hst.wf _ hm).cel.2.1;clear hst hB hsv hat hown hrow hm hstep;generalize hx:pcs[k]=x at *;obtain⟨q,c⟩:=x;simp only at d0 e1 HG hdl;go_wp2_with (fail);go_at_call 33;refine(jfj _ c.data hdl).mono ?_;rintro e w2 ⟨rfl,hb2⟩;have hst2:=HG.out.1.below hb2;obtain⟨vi,vk,vv,hcur,_⟩:=(hst2.cells _ HG.out.2.2.2.1).1;have hset:=hst2.setHash HG.out.2.2.2.1 (shaOf c.data.data.toList) (jgc _) hcur;rw[HG.out.2.2.2.2]at hset;have hp1:w2.cell? ⟨p,1,none⟩=some (.slice (some ⟨b,o,none⟩) pcs.length cp):=(hb2.cell (p:=⟨p,1,none⟩) hpl).trans HG.out.2.2.1;have hnq:q≠p:=by
        intro e;obtain⟨v',a',hpp,_⟩:=hst2.row;exact jly (hst2.cells _ HG.out.2.2.2.1).1 hpp (by decide) e
       have hl32:=jfh (jgc c.data.data.toList);have hone:=je2 (shaOf c.data.data.toList);have H2:=Lib.hid (And.intro hset.1 (And.intro ((HG.out.2.1.trans (hb2.mono HG.out.2.1.size)).trans hset.2.2) (show(w2.setRow q ((ccRow c vi vk vv).toArray.toList.take 7 ++ hashV (shaOf c.data.data.toList) ++ (ccRow c vi vk vv).toArray.toList.drop (7 + (hashV (shaOf c.data.data.toList)).length)).toArray).cell? ⟨p,1,none⟩=some (.slice (some ⟨b,o,none⟩) pcs.length cp)from(World.cell?_of_block (jac _ _ _ _ (fun e=>hnq e.symm))).trans hp1)));have hl40:(ccRow c vi vk vv).toArray.size=40:=by simpa using (ccRow_get c vi vk vv (hst2.wf _ HG.out.2.2.2.1).hash.1).1
       have HL:=Lib.hid (And.intro hl40 (show(hashV (shaOf c.data.data.toList)).length=32 by simp[hashV,jgs]));clear hst2 hset hp1 hb2 hl40;rw[show u8s (shaOf c.data.data.toList)=(hashV (shaOf c.data.data.toList)).toArray from rfl];generalize hashV (shaOf c.data.data.toList)=hs at *;generalize(ccRow c vi vk vv).toArray=cur at *;go_wp2_with ((with_reducible refine jam 34 ?_);go_loud (refine jaf rfl 34 (.tmp 110) (.tmp 108) rfl q 7 rfl hs rfl 145 cur hcur (by rw[HL.out.1,HL.out.2];decide) hone hl32 ?_));go_roundw
       case rel=>
        have H3:=H2.out;simp only[List.append_assoc]at H3;exact⟨k + 1,by omega,by go_num,H3.1,H3.2.1,H3.2.2⟩
       case measure=>simp[intOf];omega
      ·obtain rfl:k=pcs.length:=by omega
       rw[hashed_all]at hst;have hcc:=hashed_cc1 HE.out.2.1;have hrl:(pcs.map jil).length=pcs.length:=by simp
       have hn1:jaj (h.cells.map cc1)=h.cells.map (·.num):=by unfold jaj;rw[List.map_map];rfl
       have hpw:(jaj (h.cells.map cc1)).Pairwise (· < ·):=by
        rw[hn1];have hk:=HOK.out;unfold okH at hk;simp only[Bool.and_eq_true]at hk;exact(jge _).1 hk.2.2
       have hsm:∀c∈h.cells.map cc1,c.node.kids.length≤255∧c.node.vols.length≤255:=by
        intro c hc;obtain⟨e,_,rfl⟩:=List.mem_map.1 hc;exact⟨(jfv e.data).2.1,(jfv e.data).2.2⟩
       have hOB:openB h=(jgd (h.cells.map cc1) && jld (jav h)):=by unfold openB;rw[HOK.out];rfl
       have hOD:jav h=bumps (jaz (h.cells.map cc1)) (h.cells.map cc1):=rfl;rw[←hrl]at hsv;have hpn:=HE.out.2.2.2;generalize hrc:pcs.map jil=rcs at *;generalize hc1:h.cells.map cc1=cs1 at *;have hcl:cs1.length=rcs.length:=by rw[←hcc,List.length_map]
       have hl0:∀c∈h.cells.map cc1,c.led=0:=by
        intro c hc;obtain⟨e,_,rfl⟩:=List.mem_map.1 hc;rfl
       rw[hc1]at hl0;have HX:=Lib.hid (And.intro hst (And.intro hcc (And.intro hB (And.intro hpw (And.intro hsm (And.intro hOB (And.intro hOD (And.intro hcl hl0))))))));have hmr:rcs.length≤1073741824:=by omega
       clear hst hcc hB hn1 hpw hsm hOB hOD hcl hl0 hrc hc1 HE HOK hrl hpn s1 hcp1;obtain⟨wx,hwx⟩:∃wx,wx=wr:=⟨wr,rfl⟩
       subst hwx;have hcp1:rcs.length≤cp:=by
        obtain⟨_,e,_⟩:=(St.sl (HX.out.1.own hsv)).len_eq;simpa using e
       have hpx:=HX.out.1.plt;go_wp2_with (fail);go_loopw [13,15,117,118,119,120,121,122,123,124,125,126,127,128,129,130,131,132,133,134,135,136,137,138,139,140,141,142,143,144,145,146,147,148] (fun _ _ i _ _ _ _ _ _ _ _ _ _ _ _ _ _ _ _ _ _ _ _ _ _ _ _ _ _ _ _ _ _ _ wr=>∃(k:Nat) (qcs:List (Nat×CC)),k≤rcs.length∧i= .int .i64 k∧St w.heap.size wr p h.size qcs∧qcs.map (·.1)=rcs.map (·.1)∧qcs.map (·.2)=bumps (jaz (cs1.take k)) cs1∧(∀c∈cs1.take k,jdr cs1 c.node=0)∧Below w.heap.size w wr∧wr.cell? ⟨p,1,none⟩=some (.slice A rcs.length cp)) (fun _ _ i _ _ _ _ _ _ _ _ _ _ _ _ _ _ _ _ _ _ _ _ _ _ _ _ _ _ _ _ _ _ _ _=>rcs.length - (intOf i).toNat)
       case atStart=>exact⟨0,rcs,Nat.zero_le _,rfl,HX.out.1,rfl,by rw[List.take_zero];exact HX.out.2.1,by simp,HX.out.2.2.1,hsv⟩
       case round=>
        obtain⟨k,qcs,hk,rfl,hst,hptr,hcs,hld,hB,hsv'⟩:=hrel;have hql:qcs.length=rcs.length:=by have:=congrArg List.length hptr;simpa using this
        by_cases hlt:k < rcs.length
        ·-- BEGIN 4
         have hrow:=(St.sl (hst.own hsv')).len_eq.2.2.2;have hkq:k < qcs.length:=by omega
         have hpl:=hst.plt;obtain⟨b,o,rfl,hat,_⟩:=hrow k (by rw[List.length_map];exact hkq);have d0:wr.cell? ⟨b,o + k,none⟩=some (.pointer (some ⟨qcs[k].1,0,none⟩)):=by
          have:=hat.cell 0 _ rfl;simpa[ptrE]using this
         have hbr:b < wr.heap.size:=block_lt_of_cell d0;have hm:qcs[k]∈qcs:=List.getElem_mem hkq;have hck:k < cs1.length:=by have:=HX.out.2.2.2.2.2.2.2.1;omega
         have hnode:qcs[k].2.node=cs1[k].node:=by
          have h1:(qcs.map (·.2))[k]'(by rw[List.length_map];exact hkq)=(bumps (jaz (cs1.take k)) cs1)[k]'(by rw[bumps_len];exact hck):=by simp only[hcs]
          rw[List.getElem_map]at h1;rw[h1];exact(bumps_get _ _ k _ hck).2.1
         have hris:jdk (nums qcs):=by rw[nums_cc,hcs,bumps_nums];exact jc3 HX.out.2.2.2.1
         have hlq:jdr (qcs.map (·.2)) cs1[k].node=jdr cs1 cs1[k].node:=by rw[hcs,leadsE_bumps]
         have htk:cs1.take (k + 1)=cs1.take k ++ [cs1[k]]:=List.take_succ_eq_append_getElem hck;have hcm:cs1[k]∈cs1:=List.getElem_mem hck;have hsmk:=HX.out.2.2.2.2.1 _ hcm;have HG:=Lib.hid (And.intro hst (And.intro hptr (And.intro hcs (And.intro hld (And.intro hB (And.intro hsv' (And.intro hql (And.intro hm (And.intro hris (And.intro htk (And.intro hcm hsmk)))))))))));have HLQ:=Lib.hid hlq;have HND:=Lib.hid hnode;obtain⟨A1,n1,c1,A2,n2,c2,A3,n3,c3,y3,y4,y5,y6,hnv⟩:=hst.node hm;rw[hnode]at y3 hnv;have HNV:=Lib.hid hnv;clear hst hptr hcs hld hB hsv' hql hm hris htk hcm hsmk hlq hnv hrow hat hnode;generalize hxq:qcs[k]=x at *;generalize hnn:cs1[k]=cn at *;generalize hkd:cn.node.kind=kd at *;have HKD:=Lib.hid (And.intro hxq (And.intro hnn hkd));clear hxq hnn hkd;go_wp2_with (fail);go_at_call 124;refine(leads_any w.heap.size wr p h.size qcs _ cn.node HG.out.1 HG.out.2.2.2.2.1.size HG.out.2.2.2.2.2.2.2.2.1 (by have:=HG.out.2.2.2.2.2.2.1;omega) HNV.out (by have:=HG.out.2.2.2.2.2.2.2.2.2.2.2;omega)).mono ?_;rintro e w2 ⟨rfl,hst2,hB2,hF2,hcp2'⟩;rw[HLQ.out];rw[HG.out.2.2.2.2.2.1]at hcp2';have hld1:=HG.out.2.2.2.1;by_cases h0:jdr cs1 cn.node=0
         ·rw[h0];have H0:=Lib.hid h0;clear h0;obtain⟨B1,m1,d1,B2,m2,d2,B3,m3,d3,z3,z4,z5,z6,hnv2⟩:=hst2.node HG.out.2.2.2.2.2.2.2.1;have hxn:x.2.node=cn.node:=HND.out;rw[hxn]at z3 hnv2;rw[HKD.out.2.2]at z3 hnv2;have HN2:=Lib.hid hnv2;have H2:=Lib.hid (And.intro hst2 (And.intro (HG.out.2.2.2.2.1.trans hB2) hF2));clear hst2 hB2 hF2 hnv2 hxn hld1;go_wp2_with (fail);go_at_call 125;refine(jj8 w2 _ cn.node HN2.out (by have:=HG.out.2.2.2.2.2.2.2.2.2.2.2;omega)).mono ?_;rintro e wk ⟨r,rfl,⟨hsl,hown⟩,hbk⟩;have hstk:=H2.out.1.below hbk;have hsvk:wk.cell? ⟨p,1,none⟩=some (.slice (some ⟨b,o,none⟩) rcs.length cp):=(hbk.cell (p:=⟨p,1,none⟩) H2.out.1.plt).trans hcp2';have hBk:Below w.heap.size w wk:=H2.out.2.1.trans (hbk.mono H2.out.2.1.size);have hld2:∀t∈jbk cn.node,∃c,jc6 cs1 t=some c:=by
           intro t ht;obtain⟨kd',hkd',rfl⟩:=kidNums_named cn.node t ht;obtain⟨c,hc,hcn,_⟩:=(jjg HX.out.2.2.2.1 cn.node).1 H0.out kd' hkd';exact⟨c,(jc2 HX.out.2.2.2.1).2 ⟨hc,hcn⟩⟩
          have htl:=jlp cn.node HG.out.2.2.2.2.2.2.2.2.2.2.2;have hkn:jbk cn.node=jbk cn.node:=rfl;have HTS:=Lib.hid (And.intro hld2 htl);have hak:jaz (cs1.take (k + 1))=jaz (cs1.take k) ++ jbk cn.node:=by
           rw[HG.out.2.2.2.2.2.2.2.2.2.1];unfold jaz;rw[List.flatMap_append];simp
          have HAK:=Lib.hid hak;have hakl:(jaz (cs1.take k)).length≤255 * k:=by
           have:=jlq (cs1.take k) (fun c hc=>HX.out.2.2.2.2.1 c ((List.take_sublist _ _).subset hc));rw[List.length_take]at this;omega
          have HAL:=Lib.hid hakl;have HW32:=Lib.hid hsl.wf;obtain⟨ra,rc,rfl,hrc1,hrc2,_⟩:=hsl;have HK:=Lib.hid (And.intro hstk (And.intro hBk hown));have hplk:=hstk.plt;have HSVK:=Lib.hid hsvk;clear hstk hsvk hld2 htl hkn hak hakl hbk hcp2' hown y3 y4 y5 y6 z3 z4 z5 z6;have hsvk:wk.cell? ⟨p,1,none⟩=some (.slice (some ⟨b,o,none⟩) rcs.length cp):=HSVK.out;generalize hts:jbk cn.node=ts at *;clear hts hBk;go_wp2_with (fail);go_loopw [15,134,135,136,137,138,139,140,141,142,143,144,145,146,147] (fun _ i _ _ _ _ _ _ _ _ _ _ _ _ _ wr=>∃(j:Nat) (scs:List (Nat×CC)),j≤ts.length∧i= .int .i64 j∧St w.heap.size wr p h.size scs∧scs.map (·.1)=rcs.map (·.1)∧scs.map (·.2)=bumps (jaz (cs1.take k) ++ ts.take j) cs1∧Below w.heap.size w wr∧Fr wk wr∧wr.cell? ⟨p,1,none⟩=some (.slice (some ⟨b,o,none⟩) rcs.length cp)) (fun _ i _ _ _ _ _ _ _ _ _ _ _ _ _ _=>ts.length - (intOf i).toNat)
          case atStart=>exact⟨0,qcs,Nat.zero_le _,rfl,HK.out.1,HG.out.2.1,by rw[List.take_zero,List.append_nil];exact HG.out.2.2.1,HK.out.2.1,Fr.refl _,hsvk⟩
          case round=>
           obtain⟨j,scs,hj,rfl,hst,hptr,hcs,hB,hF,hsv'⟩:=hrel;by_cases hjt:j < ts.length
           ·-- BEGIN 5
            have hrow:=(u32_sl (hF.own HK.out.2.2 (by unfold BadT;decide)) rfl HW32.out).len_eq.2.2.2;obtain⟨b2,o2,rfl,hat2,hw2⟩:=hrow j hjt;have e0:wr.cell? ⟨b2,o2 + j,none⟩=some (.int .u32 ts[j]):=by have:=hat2.cell 0 _ rfl;simpa[u32E]using this
            have hbr2:b2 < wr.heap.size:=block_lt_of_cell e0;have hsl2:scs.length=rcs.length:=by have:=congrArg List.length hptr;simpa using this
            have hris:jdk (nums scs):=by rw[nums_cc,hcs,bumps_nums];exact jc3 HX.out.2.2.2.1
            obtain⟨c0,hc0⟩:=HTS.out.1 ts[j] (List.getElem_mem hjt);have hcf:jc6 (scs.map (·.2)) ts[j]≠none:=by
             rw[hcs,jeh,ccFind_map (f:=fun c=>{c with led:=c.led + jbp (jaz (cs1.take k) ++ ts.take j) c.num}) (fun _=>rfl),hc0];simp
            obtain⟨y,hco⟩:∃y,je8 scs ts[j]=some y:=by
             cases hq:je8 scs ts[j]with
             |none=>exact absurd (jht hris hq) hcf
             |some y=>exact⟨y,rfl⟩
            obtain⟨hym,hyn⟩:=jjk hco;have htj:(scs.map (·.2)).map (ledUp ts[j])=bumps (jaz (cs1.take k) ++ ts.take (j + 1)) cs1:=by
             rw[hcs,bumps_one,List.append_assoc,←List.take_succ_eq_append_getElem hjt]
            have hledb:0≤y.2.led∧y.2.led≤1000000000000:=by
             have hyc:y.2∈bumps (jaz (cs1.take k) ++ ts.take j) cs1:=by rw[←hcs];exact List.mem_map.2 ⟨y,hym,rfl⟩
             obtain⟨d,hd,e⟩:=bumps_mem hyc;have h1:y.2.led=d.led + jbp (jaz (cs1.take k) ++ ts.take j) d.num:=by rw[e]
             have h2:=HX.out.2.2.2.2.2.2.2.2 d hd;have h3:=countL_le (jaz (cs1.take k) ++ ts.take j) d.num;rw[List.length_append,List.length_take]at h3;have h4:=HAL.out;have h5:=HTS.out.2;omega
            have hstep:=led_step hst.nodup hris hym hyn;rw[htj]at hstep;have HG5:=Lib.hid (And.intro hst (And.intro hptr (And.intro hB (And.intro hF (And.intro hsv' (And.intro hris (And.intro hym hstep)))))));have HCO:=Lib.hid hco;have hmx2:scs.length≤1073741824:=by omega
            have hpl5:=hst.plt;clear hst hptr hcs hB hF hsv' hris hym hstep hco hyn htj hcf hc0 hat2 hrow hsl2 hw2;generalize ts[j]=t at *;go_wp2_with (fail);go_at_call 69;refine(at_any w.heap.size wr p h.size scs t HG5.out.1 HG5.out.2.2.2.2.2.1 hmx2).mono ?_;rintro e _ ⟨rfl,a,rfl⟩;have hask:=HG5.out.1.asked a;have hfa:=Fr.asked HG5.out.1 a;rw[HCO.out];have hlc:=hask.1.led_cell HG5.out.2.2.2.2.2.2.1;have hfz:=hask.1.froz HG5.out.2.2.2.2.2.2.1 39;have hyb:=hask.1.blt HG5.out.2.2.2.2.2.2.1;have hset:=hask.1.setLed HG5.out.2.2.2.2.2.2.1 (y.2.led + 1);have hyp:¬y.1=p:=by
             intro e;obtain⟨v',a',hpp,_⟩:=hask.1.row;exact jly (hask.1.cells _ HG5.out.2.2.2.2.2.2.1).1 hpp (by decide) e
            have hp1:((wr.setCell ⟨p,2,none⟩ (.int .i64 a)).setCell ⟨y.1,39,none⟩ (.int .i64 (y.2.led + 1))).cell? ⟨p,1,none⟩=some (.slice (some ⟨b,o,none⟩) rcs.length cp):=by
             rw[World.cell?_of_block (w:=wr.setCell ⟨p,2,none⟩ (.int .i64 a)) (Below.heap_setCell _ _ _ _ (fun e=>hyp e.symm))];rw[←HG5.out.2.2.2.2.1];obtain⟨v9,a9,hp9,_⟩:=HG5.out.1.row;rw[cell_of_row _ _ _ _ _ _ (ja2 hp9 2 _),cell_of_row _ _ _ _ _ _ hp9];rfl
            have HF5:=Lib.hid (And.intro hset.1 (And.intro ((HG5.out.2.2.1.trans hask.2.2).trans hset.2.2) (And.intro ((HG5.out.2.2.2.1.trans hfa).trans hset.2.1) hp1)));clear hask hfa hset hp1 hyp;go_wp2_with (fail);exact⟨⟨j + 1,_,by omega,by go_num,HF5.out.1,HG5.out.2.2.2.2.2.2.2.2.trans HG5.out.2.1,HG5.out.2.2.2.2.2.2.2.1,HF5.out.2.1,HF5.out.2.2.1,HF5.out.2.2.2⟩,by simp[intOf];omega⟩
           ·obtain rfl:j=ts.length:=by omega
            rw[List.take_length,←HAK.out]at hcs;have HF:=Lib.hid (And.intro hst (And.intro hptr (And.intro hcs (And.intro hB hsv'))));have hld3:∀c∈cs1.take (k + 1),jdr cs1 c.node=0:=by
             intro c hc;rw[HG.out.2.2.2.2.2.2.2.2.2.1]at hc;rcases List.mem_append.1 hc with hc|hc
             ·exact HG.out.2.2.2.1 c hc
             ·simp at hc;subst hc;exact H0.out
            have HL3:=Lib.hid hld3;clear hst hptr hcs hB hF hsv' hld3 hsvk;go_wp2_with (fail);exact⟨⟨k + 1,scs,by omega,by go_num,HF.out.1,HF.out.2.1,HF.out.2.2.1,HL3.out,HF.out.2.2.2.1,HF.out.2.2.2.2⟩,by simp[intOf];omega⟩
         ·have HF:=Lib.hid (show openB h=false by
           rw[HX.out.2.2.2.2.2.1];have:jgd cs1=false:=by
            unfold jgd;rw[List.all_eq_false];exact⟨cn,HG.out.2.2.2.2.2.2.2.2.2.2.1,by simpa using h0⟩
           rw[this];rfl)
          have h0b:(jdr cs1 cn.node !=0)=true:=by simpa using h0
          have H2:=Lib.hid (HG.out.2.2.2.2.1.trans hB2);clear h0 hst2 hB2 hF2 hld1;go_wp2_with (fail);go_ret2;exact⟨H2.out,Or.inr ⟨HF.out,rfl⟩⟩
        ·obtain rfl:k=rcs.length:=by omega
         have hcl:=HX.out.2.2.2.2.2.2.2.1;rw[List.take_of_length_le (by omega)]at hcs hld;rw[←HX.out.2.2.2.2.2.2.1]at hcs;have hOB:openB h=jld (jav h):=by
          rw[HX.out.2.2.2.2.2.1];have:jgd cs1=true:=by
           unfold jgd;rw[List.all_eq_true];intro c hc;simpa using hld c hc
          rw[this];rfl
         rw[←hql]at hsv';have HZ:=Lib.hid (And.intro hst (And.intro hB (And.intro hcs (And.intro hOB hsv'))));have hcp4:qcs.length≤cp:=by omega
         have hmq:qcs.length≤1073741824:=by omega
         have hplz:=hst.plt;obtain⟨wz,hwz⟩:∃wz,wz=wr:=⟨wr,rfl⟩
         rw[←hwz]at HZ hplz hsv' ⊢;clear hst hptr hcs hld hB hwz hOB hql hcl hsv;go_wp2_with (fail);go_loopw [17,154,155,156,157,158,159,160,161,162,163,164,165,166,167,168,169,170,171,172,173,174,175,176] (fun _ i _ _ _ _ _ _ _ _ _ _ _ _ _ _ _ _ _ _ _ _ _ _ wr=>∃k:Nat,k≤qcs.length∧i= .int .i64 k∧(∀c∈(qcs.map (·.2)).take k,c.led≤c.refs∧c.refs≤16777216)∧∃nq,wr=wz.drewN nq) (fun _ i _ _ _ _ _ _ _ _ _ _ _ _ _ _ _ _ _ _ _ _ _ _ _=>qcs.length - (intOf i).toNat)
         case atStart=>exact⟨0,Nat.zero_le _,rfl,by simp,0,rfl⟩
         case round=>
          obtain⟨k,hk,rfl,hok,nq,rfl⟩:=hrel;by_cases hkt:k < qcs.length
          ·have hrow:=(St.sl (HZ.out.1.own HZ.out.2.2.2.2)).len_eq.2.2.2;obtain⟨b,o,rfl,hat,_⟩:=hrow k (by rw[List.length_map];exact hkt);have d0:(wz.drewN nq).cell? ⟨b,o + k,none⟩=some (.pointer (some ⟨qcs[k].1,0,none⟩)):=by
            have:=hat.cell 0 _ rfl;simpa[ptrE]using this
           have hbr:b < (wz.drewN nq).heap.size:=block_lt_of_cell d0;have hm:qcs[k]∈qcs:=List.getElem_mem hkt;have d1:(wz.drewN nq).cell? ⟨qcs[k].1,2,none⟩=some (.int .i64 qcs[k].2.refs):=HZ.out.1.refs_cell hm;have d2:(wz.drewN nq).cell? ⟨qcs[k].1,39,none⟩=some (.int .i64 qcs[k].2.led):=HZ.out.1.led_cell hm;have d3:wz.cell? ⟨qcs[k].1,2,none⟩=some (.int .i64 qcs[k].2.refs):=HZ.out.1.refs_cell hm;have d4:wz.cell? ⟨qcs[k].1,39,none⟩=some (.int .i64 qcs[k].2.led):=HZ.out.1.led_cell hm;have hmo:qcs[k].2∈jav h:=by rw[←HZ.out.2.2.1];exact List.mem_map.2 ⟨_,hm,rfl⟩
           have htk:(qcs.map (·.2)).take (k + 1)=(qcs.map (·.2)).take k ++ [qcs[k].2]:=by rw[List.take_succ_eq_append_getElem (by simpa using hkt)];simp
           have HG:=Lib.hid (And.intro hok (And.intro hmo htk));clear hok hat hrow hm hmo htk;generalize qcs[k]=x at *;obtain⟨q,c⟩:=x;simp only at d0 d1 d2 d3 d4 HG;by_cases h1:c.refs < c.led
           ·have HF:=Lib.hid (show openB h=false by
             rw[HZ.out.2.2.2.1];unfold jld;rw[List.all_eq_false];exact⟨c,HG.out.2.1,by simp;omega⟩)
            have h1b:decide (c.refs < c.led)=true:=decide_eq_true h1;clear h1;generalize c.refs=rf at *;generalize c.led=ld at *;go_wp2_with (fail);go_quiet (fail);go_wp2_with (fail);go_ret2;exact⟨Below.drewN' (Below.drewN' HZ.out.2.1 _) _,Or.inr ⟨HF.out,rfl⟩⟩
           ·have h1b:decide (c.refs < c.led)=false:=decide_eq_false h1;by_cases h2:c.refs>16777216
            ·have HF:=Lib.hid (show openB h=false by
              rw[HZ.out.2.2.2.1];unfold jld;rw[List.all_eq_false];exact⟨c,HG.out.2.1,by simp;omega⟩)
             have h2b:decide (c.refs>16777216)=true:=decide_eq_true h2;clear h1 h2;generalize c.refs=rf at *;generalize c.led=ld at *;go_wp2_with (fail);go_quiet (fail);go_wp2_with (fail);go_ret2;exact⟨Below.drewN' (Below.drewN' HZ.out.2.1 _) _,Or.inr ⟨HF.out,rfl⟩⟩
            ·have h2b:decide (c.refs>16777216)=false:=decide_eq_false h2;have HH:=Lib.hid (And.intro h1 h2);clear h1 h2;go_wp2_with (fail);go_quiet (fail);go_wp2_with (fail);refine⟨⟨k + 1,by omega,by go_num,?_,_,rfl⟩,by simp[intOf];omega⟩;intro c' hc';rw[HG.out.2.2]at hc';rcases List.mem_append.1 hc' with hc'|hc'
             ·exact HG.out.1 c' hc'
             ·simp at hc';subst hc';have:=HH.out;omega
          ·obtain rfl:k=qcs.length:=by omega
           rw[List.take_of_length_le (by simp)]at hok;have HF:=Lib.hid (show openB h=true by
            rw[HZ.out.2.2.2.1];unfold jld;rw[List.all_eq_true];intro c hc;rw[←HZ.out.2.2.1]at hc;have:=hok c hc;simp;omega)
           clear hok;go_wp2_with (fail);go_ret2;exact⟨Below.drewN' HZ.out.2.1 _,Or.inl ⟨HF.out,p,qcs,rfl,HZ.out.1.below (Below.drewN' (Below.refl _ wz) _),HZ.out.2.2.1⟩⟩
theorem St.lower{B B':Nat}{w:World}{p:Nat}{sz:Int}{pcs:List (Nat×CC)}(h:St B w p sz pcs)(hB:B'≤B):St B' w p sz pcs:=by
 obtain⟨v,a,hp,hown⟩:=h.row;refine⟨Nat.le_trans hB h.low,⟨v,a,hp,hown.1,hown.2.imp id ?_⟩,fun x hx=>⟨(h.cells x hx).1,Nat.le_trans hB (h.cells x hx).2⟩,h.nodup,h.wf,h.spare⟩;rintro⟨g,cap,cur,h1,h2,h3⟩;exact⟨g,cap,cur,h1,Nat.le_trans hB h2,h3⟩
def chkE(h:Hp):Int:=if openB h then 0 else 7
theorem box_heapV{w:World}{c:Value}{h:Hp}(hsl:Sl celE w c h.cells)(hs:u32Ok h.size):HeapV (w.alloc (.cells #[.int .u32 h.size,c] 32)) (.agg #[.int .u32 h.size,c]) h:=
 ⟨c,rfl,hsl.below ((Below.refl _ w).alloc (Nat.le_refl _) _) (Nat.le_refl _),hs⟩
theorem jfs(w:World)(o:Obj):Below w.heap.size w (w.alloc o):=(Below.refl _ w).alloc (Nat.le_refl _) o
theorem below_box2{w w':World}{o:Obj}(h:Below (w.alloc o).heap.size (w.alloc o) w'):Below w.heap.size w w':=(jfs w o).trans (h.mono (by simp))
theorem check_any(w:World)(v:Value)(h:Hp)(hv:HeapV w v h)(hmax:h.cells.length≤1073741824):
 Calls Tryz.prog 58 #[v] w fun e w'=>e= .returned (.int .i64 (chkE h))∧Below w.heap.size w w':=by
 obtain⟨cv,rfl,hsl,hsz⟩:=hv;have HV:=Lib.hid (box_heapV hsl hsz);obtain⟨C,cc,rfl,_⟩:=hsl;go_enter Tryz.func58,Tryz.ntmps58;go_wp2_with (fail);go_at_call 68;refine(open_any _ _ h HV.out hmax).mono ?_;rintro e w1 ⟨hb,h1⟩;have HB:=Lib.hid (below_box2 hb);clear hb;rcases h1 with⟨ho,p,pcs,rfl,_,_⟩|⟨ho,rfl⟩
 ·have HO:=Lib.hid (show chkE h=0 by unfold chkE;rw[ho];rfl);clear ho;go_wp2_with (fail);go_ret;exact⟨by rw[HO.out];rfl,HB.out⟩
 ·have HO:=Lib.hid (show chkE h=7 by unfold chkE;rw[ho];rfl);clear ho;go_wp2_with (fail);go_ret;exact⟨by rw[HO.out];rfl,HB.out⟩
theorem jks:(Tryz.prog.info? 91).map (fun i=>(i.zero.map (fun z=>z.cells.size),i.size,i.bytes))=some (some 3,3,32):=by kernel_rfl
theorem jcu:(Tryz.prog.info? 32).map (·.size)=some 2:=by kernel_rfl
theorem jgr{ops:Array Oper}{o:Oper}{a:Act}{K:Act→World→Prop}{Q:Exit→Act→World→Prop}{E:Prop}{w:World}(hgd:o.guard=none)(s y:Operand)(t:TypeId)
 (ho:o.op= .call {callee:= .builtin .append,args:= #[s,y],argTypes:= #[t,t]})
 (base:Nat) (e:TypeId) (i:TypeInfo) (z:Value) (size bytes:Nat) (ht:Tryz.prog.underlying t=some (.slice e)) (hi:Tryz.prog.info? e=some i) (hz:i.zero=some z)
 (hsize:i.size=size) (hby:i.bytes=bytes) (hzs:z.cells.size=size) (hsz:0 < size)
 (v:Value) (n:Nat) (xs:List Value) (hs:a.eval s=v) (hown:w.ownsRow base e size v n xs)
 (ad:Addr) (m c:Nat) (news:List Value) (hx:a.eval y= .slice (some ad) m c) (hl:news.length=m * size) (hnews:∀j u,news[j]? =some u→w.cell? (ad.add j)=some u) (h1:∀u∈news,u.oneCell'=true)
 (hm:0 < m) (h63:n + m≤maxLen) (hbytes:(n + m) * bytes≤140737488355328) (hbase:base≤w.heap.size)
 (hK:∀g cap w',w'.ownsRow base e size (.slice (some ⟨g,0,none⟩) (n + m) cap) (n + m) (xs ++ news)→w.grownBy w' v.ownBlock→K (a.put o.dst (.slice (some ⟨g,0,none⟩) (n + m) cap)) w'):
 if Region.wanted o (yielded ops a.tmps)=true then Oper.wp Tryz.prog o a w K Q else E:=by
 have hw:Region.wanted o (yielded ops a.tmps)=true:=by simp[Region.wanted,hgd]
 rw[if_pos hw];obtain⟨g,cap,w',hr,h2,h3,_⟩:=run_append_lies (P:=Tryz.prog) (w:=w) t o.type base e i z size bytes ht hi hz hsize hby hzs hsz v n xs hown ad m c news hl hnews h1 hm h63 hbytes hbase _ rfl;unfold Oper.wp execOp;simp only[ho,resolve,invoke,builtin,Sem.run_bind,Sem.run_pure,Result.andThen_ok,List.map_toArray,List.map_cons,List.map_nil,hs,hx,hr];exact hK g cap w' h2 h3
theorem below_store{w wr:World}(hB:Below w.heap.size w wr){z0:Value}(h0:wr.heap[w.heap.size]? =some (.cells #[z0, .slice none 0 0] 32 (0,0)))(v u:Value):
 (wr.setRow w.heap.size ((#[z0, .slice none 0 0]:Array Value).toList.take 0 ++ [u,v] ++ (#[z0, .slice none 0 0]:Array Value).toList.drop (0 + [u,v].length)).toArray).heap[w.heap.size]? =some (.cells #[u,v] 32 (0,0))∧
  Below w.heap.size w (wr.setRow w.heap.size ((#[z0, .slice none 0 0]:Array Value).toList.take 0 ++ [u,v] ++ (#[z0, .slice none 0 0]:Array Value).toList.drop (0 + [u,v].length)).toArray)∧
  (∀{c:Value} {cs:List Cel},Sl celE wr c cs→Sl celE (wr.setRow w.heap.size ((#[z0, .slice none 0 0]:Array Value).toList.take 0 ++ [u,v] ++ (#[z0, .slice none 0 0]:Array Value).toList.drop (0 + [u,v].length)).toArray) c cs):=by
 refine⟨by rw[jad _ _ _ _ _ h0];rfl,hB.trans ⟨rfl,rfl,rfl,by simp[World.setRow],fun k hk=>jac _ _ _ _ (by omega)⟩,?_⟩;intro c cs hs;obtain⟨A,cp,e,h1,h2,h3⟩:=hs;refine⟨A,cp,e,h1,h2,fun k hk=>?_⟩;obtain⟨b,o,eA,hat,hwf⟩:=h3 k hk;refine⟨b,o,eA,hat.heap ?_,hwf⟩;refine jac _ _ _ _ fun e=>?_
 subst e;have c0:=hat.cell 0 (.int .u32 cs[k].num) rfl;have c1:=hat.cell 1 (.string cs[k].data) rfl;rw[cell_of_row _ _ _ _ _ _ h0]at c0 c1;generalize o + k * celE.sz=i at c0 c1
 match i with
 |0=>simp at c1
 |1=>simp at c0
 |i + 2=>simp at c0
theorem jlc(B:Nat)(w:World)(p:Nat)(sz:Int)(pcs:List (Nat×CC))(h:St B w p sz pcs)(hmax:pcs.length≤1073741824)(hsz:u32Ok sz):
 Calls Tryz.prog 122 #[.pointer (some ⟨p,0,none⟩)] w fun e w'=>∃v,e= .returned v∧HeapV w' v (jfi sz (pcs.map (·.2)))∧Below w.heap.size w w':=by
 obtain⟨i0,z0,hi,hz0,hz1,hz2,hzs⟩:=jbw jks;have s0:=h.size_cell;obtain⟨sv,s1,hsown⟩:=h.field;obtain⟨A,cp,rfl,hcp1,hcp2,_⟩:=St.sl hsown;rw[List.length_map]at s1 hcp1;have hpl:=h.plt;have HS:=Lib.hid (And.intro h hsown);clear hsown h;have hrb0:(w.alloc (.cells #[.int .u32 0, .slice none 0 0] 32)).heap[w.heap.size]? =some (.cells #[.int .u32 0, .slice none 0 0] 32 (0,0)):=heap_alloc_new _ _;have HR:=Lib.hid (And.intro (jfs w (.cells #[.int .u32 0, .slice none 0 0] 32)) hrb0);clear hrb0;go_enter Tryz.func122,Tryz.ntmps122;go_wp2_with (fail);go_loopw [5,16,17,18,19,20,21,22,23,24,25,26,27,28,29] (fun _ i _ _ _ _ _ _ _ _ _ _ _ _ _ wr=>∃(k:Nat) (hv:Value),k≤pcs.length∧i= .int .i64 k∧wr.heap[w.heap.size + 1]? =some (.cells #[.int .u32 sz,hv] 32 (0,0))∧wr.heap[w.heap.size]? =some (.cells #[.int .u32 0, .slice none 0 0] 32 (0,0))∧wr.ownsRow w.heap.size 91 3 hv k (((pcs.take k).map fun x=>celOf x.2).flatMap celE.enc)∧Below w.heap.size w wr) (fun _ i _ _ _ _ _ _ _ _ _ _ _ _ _ _=>pcs.length - (intOf i).toNat)
 case atStart=>
  refine⟨0, .slice none 0 0,Nat.zero_le _,rfl,?_,?_,⟨rfl,Or.inl ⟨rfl,rfl⟩⟩,HR.out.1.alloc HR.out.1.size _⟩
  ·have:=heap_alloc_new (w.alloc (.cells #[.int .u32 0, .slice none 0 0] 32)) (.cells #[.int .u32 sz, .slice none 0 0] 32);simpa using this
  ·rw[Lib.alloc_old _ _ _ (by simp)];exact HR.out.2
 case round=>
  obtain⟨k,hv,hk,rfl,hb1,hb0,hown,hB⟩:=hrel;by_cases hlt:k < pcs.length
  ·have hps:St B wr p sz pcs:=HS.out.1.below hB;have hsvr:wr.cell? ⟨p,1,none⟩=some (.slice A pcs.length cp):=(hB.cell (p:=⟨p,1,none⟩) hpl).trans s1;have hrow:=(St.sl (hps.own hsvr)).len_eq.2.2.2;obtain⟨b,o,rfl,hat,_⟩:=hrow k (by rw[List.length_map];exact hlt);have d0:wr.cell? ⟨b,o + k,none⟩=some (.pointer (some ⟨pcs[k].1,0,none⟩)):=by
    have:=hat.cell 0 _ rfl;simpa[ptrE]using this
   have hbr:b < wr.heap.size:=block_lt_of_cell d0;have hm:pcs[k]∈pcs:=List.getElem_mem hlt;have d1:wr.cell? ⟨pcs[k].1,0,none⟩=some (.int .u32 pcs[k].2.num):=(hps.cells _ hm).1.num;have d2:wr.cell? ⟨pcs[k].1,1,none⟩=some (.string pcs[k].2.data):=(hps.cells _ hm).1.data;have d3:wr.cell? ⟨pcs[k].1,2,none⟩=some (.int .i64 pcs[k].2.refs):=hps.refs_cell hm;have hqw:=HS.out.1.blt hm;have hqr:=hps.blt hm;have c1:wr.cell? ⟨w.heap.size + 1,1,none⟩=some hv:=by rw[cell_of_row _ _ _ _ _ _ hb1];rfl
   have htk:((pcs.take (k + 1)).map fun x=>celOf x.2).flatMap celE.enc=((pcs.take k).map fun x=>celOf x.2).flatMap celE.enc ++ [.int .u32 pcs[k].2.num, .string pcs[k].2.data, .int .i64 pcs[k].2.refs]:=by
    rw[List.take_succ_eq_append_getElem hlt,List.map_append,List.flatMap_append];simp[celOf,celE]
   have hbl1:=lt_of_block hb1;have hbl0:=lt_of_block hb0;have HJ:=Lib.hid (show ∀(wd:World) (o1:Obj),((wr.alloc o1).drew).grownBy wd hv.ownBlock→(wd.heap[w.heap.size + 1]? =some (.cells #[.int .u32 sz,hv] 32 (0,0))∧wd.heap[w.heap.size]? =some (.cells #[.int .u32 0, .slice none 0 0] 32 (0,0))∧Below w.heap.size w wd)∧∀i,wd.cell? ⟨pcs[k].1,i,none⟩=wr.cell? ⟨pcs[k].1,i,none⟩from by
    intro wd o1 hg;have hold:∀q,q < wr.heap.size→some q≠hv.ownBlock→wd.heap[q]? =wr.heap[q]? :=fun q hq hne=>(hg.block q (by simp[World.drew];omega) hne).trans (Lib.alloc_old wr o1 q hq)
    refine⟨⟨(hold _ hbl1 (fun e=>jb8 hown hb1 (by decide) e.symm)).trans hb1,(hold _ hbl0 (fun e=>jb8 hown hb0 (by decide) e.symm)).trans hb0,?_⟩,fun i=>World.cell?_of_block (hold _ hqr (fun e=>?_))⟩
    ·exact((hB.alloc hB.size o1).drew).grown hg (by have:=hB.size;simp[World.drew];omega) (fun q hq=>(hown.lt q hq).1)
    ·have h9:w.heap.size≤pcs[k].1:=(hown.lt _ e.symm).1;omega)
   have hne1:¬pcs[k].1=w.heap.size + 1:=by omega
   have hne2:¬w.heap.size + 1=pcs[k].1:=by omega
   have HG:=Lib.hid (And.intro htk (And.intro hown hB));have hbs:=hB.size;have HW:=Lib.hid hm;clear hps hsvr hrow hat hm htk hown hB hb1 hb0;generalize pcs[k].1=q at *;generalize pcs[k].2.num=num at *;generalize pcs[k].2.data=data at *;generalize pcs[k].2.refs=refs at *;generalize hzs':((pcs.take k).map fun x=>celOf x.2).flatMap celE.enc=zs at *;clear hzs';have HHB:=Lib.hid (show ¬w.heap.size + 1=w.heap.size∧w.heap.size≤w.heap.size + 1 by omega);generalize w.heap.size + 1=hb at *;go_wp2_with (fail);rw[jjl 30 (.tmp 20)];go_region_held3 (fun x=>x.cell? ⟨q,0,none⟩=some (.int .u32 num)∧x.cell? ⟨q,1,none⟩=some (.string data)∧x.cell? ⟨q,2,none⟩=some (.int .i64 refs)) (go_keep) (first
    |(go_loud (refine jgr (w:=(wr.alloc (.cells #[.int .u32 num, .string data, .int .i64 refs] 91)).drew) rfl (.tmp 21) (.tmp 26) 30 rfl w.heap.size 91 i0 z0 3 32 Tryz.underlying30 hi hz0 hz1 hz2 hzs (by decide) hv k zs rfl ((HG.out.2.1.alloc _).drew) ⟨wr.heap.size,0,none⟩ 1 1 [.int .u32 num, .string data, .int .i64 refs] rfl rfl (fun j u hj=>by rw[jcl,Nat.zero_add];exact jay (w:=wr) (t:=91) j u hj) (fun u hu=>by simp at hu;rcases hu with rfl|rfl|rfl <;>rfl) (by decide) (by unfold maxLen;omega) (by omega) (by simp[World.drew];omega) ?_);intro g cap wd ho2 hg2;have hj:=HJ.out wd _ hg2;have hk1:=hj.2;have hcd:wd.cell? ⟨hb,1,none⟩=some hv:=(by rw[cell_of_row _ _ _ _ _ _ hj.1.1];rfl);have hfd:wd.frozen? ⟨hb,1,none⟩=false:=frozen_of_row _ _ _ _ _ hj.1.1;have HD:=Lib.hid (And.intro ho2 hj.1);clear ho2 hg2 hj))
   all_goals(
    have hset:=ja2 HD.out.2.1 1 (.slice (some ⟨g,0,none⟩) (k + 1) cap);have hgs:=jap (World.grownBy.refl wd (some hb)) 1 (.slice (some ⟨g,0,none⟩) (k + 1) cap);have hw1:=jat HD.out.1 hgs HD.out.2.1 (by decide);have hw0:=(hgs.block w.heap.size (lt_of_block HD.out.2.2.1) (by have:=HHB.out.1;simpa using fun e=>this e.symm)).trans HD.out.2.2.1;have HF:=Lib.hid (And.intro hset (And.intro hw0 (And.intro hw1 (HD.out.2.2.2.setCell (p:=⟨hb,1,none⟩) HHB.out.2 (.slice (some ⟨g,0,none⟩) (k + 1) cap)))));clear hset hgs hw1 hw0 hk1 hcd hfd;go_wp2_with (fail);exact⟨⟨k + 1,_,by omega,by go_num,HF.out.1,HF.out.2.1,by rw[HG.out.1];exact HF.out.2.2.1,HF.out.2.2.2⟩,by simp[intOf];omega⟩)
  ·obtain rfl:k=pcs.length:=by omega
   rw[List.take_length]at hown;have hwf:∀x∈pcs.map (fun x=>celOf x.2),celE.wf x:=by
    intro x hx;obtain⟨y,hy,rfl⟩:=List.mem_map.1 hx;exact(HS.out.1.wf y hy).cel
   have hsl:=jct (E:=celE) hown (by simp) hwf;obtain⟨A1,n1,c1,rfl⟩:=jax hsl;have HF:=Lib.hid (And.intro hb1 (And.intro hb0 (And.intro hsl hB)));have HBW:=Lib.hid (below_store HF.out.2.2.2 HF.out.2.1 (.slice A1 n1 c1) (.int .u32 sz));clear hb1 hb0 hown hB hwf hsl;go_wp2_with (first|(refine wpList_load_row rfl 32 _ rfl (w.heap.size + 1) rfl 32 _ (0,0) _ HF.out.1 Tryz.underlying32 rfl jcu ?_)|(refine jaf rfl 32 _ _ rfl w.heap.size 0 rfl [_,_] rfl 32 _ HF.out.2.1 (by simp) (by intro v hv;simp at hv;rcases hv with rfl|rfl <;>rfl) jcu ?_));refine bodyPost_ret (results_cell_row rfl _ _ w.heap.size 32 _ (0,0) _ rfl HBW.out.1 Tryz.underlying32 rfl jcu) rfl ⟨_,rfl,⟨_,rfl,?_,hsz⟩,HBW.out.2.1⟩;have h9:=HBW.out.2.2 HF.out.2.2.1;rw[show(jfi sz (pcs.map (·.2))).cells=pcs.map (fun x=>celOf x.2) by unfold jfi;rw[List.map_map];rfl];exact h9
end Go.Proofs.YtpaohkkhejpgjaaGreatDoor
