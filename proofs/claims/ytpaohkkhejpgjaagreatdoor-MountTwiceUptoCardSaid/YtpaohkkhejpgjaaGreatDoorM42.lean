/- Texts of the proof: Zf. -/
import Derived.Test.YtpaohkkhejpgjaaGreatDoorM19
import Derived.Test.YtpaohkkhejpgjaaGreatDoorM20
import Derived.Test.YtpaohkkhejpgjaaGreatDoorM17
import Derived.Test.YtpaohkkhejpgjaaGreatDoorM36
import Derived.Test.YtpaohkkhejpgjaaGreatDoorM27
set_option linter.all false
set_option maxRecDepth 100000
set_option maxHeartbeats 8000000
namespace Go.Proofs.YtpaohkkhejpgjaaGreatDoor
open Go Go.RowKit
theorem built_heapY:Tryz.prog.built 32 []=some #[.int .u32 0, .slice none 0 0]:=by kernel_rfl
theorem jex{fn:Func}{t u:Tmp}(h:fn.results= #[.cell t 32, .tmp u])(tmps:Array Value)(g:Nat)(cs:Array Value)(hs:cs.size=2)(fr:Nat×Nat)(w:World)(ht:tmps.getD t undef= .pointer (some ⟨g,0,none⟩))
 (hg:w.heap[g]? =some (.cells cs 32 fr)):
 (results fn tmps).run Tryz.prog w= .ok (.tuple #[.agg cs,tmps.getD u undef]) w:=by
 have hp':tmps[t]?.getD undef= .pointer (some ⟨g,0,none⟩):=by simpa using ht
 have hl:=run_loadVar_row (P:=Tryz.prog) w g 32 32 cs fr _ hg Tryz.underlying32 rfl (by rw[hs];exact jcu);simp[results,h,hp',asAddr,hl]
theorem hold_map{pcs:List (Nat×CC)}(hnd:(pcs.map (·.1)).Nodup)(hso:jdk (nums pcs)){x:Nat×CC}(hx:x∈pcs){t:Int}(ht:x.2.num=t):
 (pcs.map fun y=>if y.1=x.1 then(y.1,{x.2 with refs:=x.2.refs + 1})else y).map (·.2)=(pcs.map (·.2)).map (rUp t):=by
 rw[map_one hnd hx {x.2 with refs:=x.2.refs + 1} (fun y=>(y.1,rUp t y.2)) (by unfold rUp;rw[if_pos ht]) (fun y hy hne=>by
  have:¬y.2.num=t:=fun e=>hne (jhu hso hy hx (by rw[e,ht]))
  unfold rUp;rw[if_neg this])]
 rw[List.map_map,List.map_map];rfl
theorem jk6{w wf:World}{B g:Nat}{cs:Array Value}{v:Value}{h:Hp}(hv:HeapV wf v h)(hg:wf.heap[g]? =some (.cells #[.int .u32 0, .slice none 0 0] 32 (0,0)))(hB:Below B w wf)(hBg:B≤g)(e:v= .agg cs):
 (wf.setRow g cs).heap[g]? =some (.cells cs 32 (0,0))∧HeapV (wf.setRow g cs) (.agg cs) h∧Below B w (wf.setRow g cs):=by
 subst e;obtain⟨c,e,h1,h2⟩:=hv;exact⟨jad _ _ _ _ _ hg,⟨c,e,sl_cel_keep hg (fun b _ hne=>jac _ _ _ _ hne) h1,h2⟩,hB.trans ⟨rfl,rfl,rfl,by simp[World.setRow],fun k hk=>jac _ _ _ _ (by omega)⟩⟩
theorem jg8{w:World}{v:Value}{h:Hp}(hv:HeapV w v h):∃A n c,v= .agg #[.int .u32 h.size, .slice A n c]:=by
 obtain⟨c,e,h1,h2⟩:=hv;obtain⟨A,n,k,rfl⟩:=jax h1;exact⟨A,n,k,e⟩
theorem hold_any(w:World)(v:Value)(h:Hp)(num:Int)(hv:HeapV w v h)(hmax:h.cells.length≤1073741824):
 Calls Tryz.prog 66 #[v, .int .u32 num] w fun e w'=>∃r,e= .returned (.tuple #[r, .int .i64 (holdS h num).2])∧HeapV w' r (holdS h num).1∧Below w.heap.size w w':=by
 obtain⟨cv,rfl,hsl,hsz⟩:=hv;have HSL:=Lib.hid (And.intro hsl hsz);obtain⟨C,n,cc,rfl⟩:=jax hsl;have hn1:((w.alloc (.cells #[.int .u32 h.size, .slice C n cc] 32)).alloc (.cells #[.int .u32 0, .slice none 0 0] 32)).heap[w.heap.size]? =some (.cells #[.int .u32 h.size, .slice C n cc] 32 (0,0)):=(Lib.alloc_old _ _ _ (by simp)).trans (heap_alloc_new _ _);have hn2:((w.alloc (.cells #[.int .u32 h.size, .slice C n cc] 32)).alloc (.cells #[.int .u32 0, .slice none 0 0] 32)).heap[w.heap.size + 1]? =some (.cells #[.int .u32 0, .slice none 0 0] 32 (0,0)):=by
  have:=heap_alloc_new (w.alloc (.cells #[.int .u32 h.size, .slice C n cc] 32)) (.cells #[.int .u32 0, .slice none 0 0] 32);rw[show(w.alloc (.cells #[.int .u32 h.size, .slice C n cc] 32)).heap.size=w.heap.size + 1 by simp]at this;exact this
 have hnb:Below w.heap.size w ((w.alloc (.cells #[.int .u32 h.size, .slice C n cc] 32)).alloc (.cells #[.int .u32 0, .slice none 0 0] 32)):=((Below.refl _ w).alloc (Nat.le_refl _) _).alloc (by simp) _;clear hsl;go_enter Tryz.func66,Tryz.ntmps66;go_upto_region 1 with(fail);generalize(w.alloc (.cells #[.int .u32 h.size, .slice C n cc] 32)).alloc (.cells #[.int .u32 0, .slice none 0 0] 32)=wa at *;have x0:wa.cell? ⟨w.heap.size,0,none⟩=some (.int .u32 h.size):=by rw[cell_of_row _ _ _ _ _ _ hn1];rfl
 have x1:wa.cell? ⟨w.heap.size,1,none⟩=some (.slice C n cc):=by rw[cell_of_row _ _ _ _ _ _ hn1];rfl
 have H0:=Lib.hid (And.intro hnb hn2);have HV:=Lib.hid (show HeapV wa (.agg #[.int .u32 h.size, .slice C n cc]) h from⟨_,rfl,HSL.out.1.below hnb (Nat.le_refl _),HSL.out.2⟩);clear hn1 hn2 hnb;go_wp2_with (fail);refine(open_any wa _ h HV.out hmax).mono ?_;rintro e w1 ⟨hb,h1⟩;have H1:=Lib.hid (And.intro (H0.out.1.trans (hb.mono H0.out.1.size)) ((hb.block _ (lt_of_block H0.out.2)).trans H0.out.2));clear hb x0 x1;rcases h1 with⟨ho,p,pcs,rfl,hst,hop⟩|⟨ho,rfl⟩
 ·have hpl:pcs.length=h.cells.length:=by have:=congrArg List.length hop;rw[jb5]at this;simpa using this
  have hpm:pcs.length≤1073741824:=by omega
  have hgood:=je4 h ho;have hris:jdk (nums pcs):=by
   have:=hgood.ris;rw[←hop]at this;unfold jaj at this;rw[List.map_map]at this;exact jc3 this
  have HOP:=Lib.hid (And.intro hop (And.intro ho hgood));have HLB:=Lib.hid (lt_of_block H0.out.2);have hst2:=hst.lower (B':=w.heap.size) H0.out.1.size;have HB1:=Lib.hid (show w.heap.size + 1 < p from Nat.lt_of_lt_of_le (lt_of_block H0.out.2) hst.low);clear hst hpl hgood hop ho;go_wp2_with (fail);refine(at_any w.heap.size w1 p h.size pcs num hst2 hris hpm).mono ?_;rintro e _ ⟨rfl,a,rfl⟩;obtain⟨hs3,_,hb3⟩:=hst2.asked a;have hres:(w1.setCell ⟨p,2,none⟩ (.int .i64 a)).heap[w.heap.size + 1]? =some (.cells #[.int .u32 0, .slice none 0 0] 32 (0,0)):=(Below.heap_setCell _ _ _ _ (by have:=HB1.out;simp;omega)).trans H1.out.2;have HB3:=Lib.hid (H1.out.1.trans hb3);clear hst2 hb3;generalize w1.setCell ⟨p,2,none⟩ (.int .i64 a)=w3 at *;cases hc:je8 pcs num with
  |none=>
   have hcf:=jht hris hc;rw[HOP.out.1]at hcf;have HR:=Lib.hid (show holdS h num=(jfi h.size (jav h),5) by
    have hE:holdE (jav h) num=5:=by unfold holdE;rw[hcf]
    unfold holdS;rw[if_neg (by rw[HOP.out.2.1];simp),if_pos (by rw[hE];decide),hE])
   have HHS:=Lib.hid (jlc w.heap.size w3 p h.size pcs hs3 hpm HSL.out.2);have HRS:=Lib.hid hres;clear hc hcf hs3 hris hres;go_wp2_with (fail);refine HHS.out.mono ?_;rintro e w4 ⟨v4,rfl,hv4,hb4⟩;rw[HOP.out.1]at hv4;obtain⟨A4,n4,c4,rfl⟩:=jg8 hv4;have hr4:=(hb4.block _ (lt_of_block HRS.out)).trans HRS.out;have HO:=Lib.hid (jk6 hv4 hr4 (HB3.out.trans (hb4.mono HB3.out.size)) (by omega) rfl);clear hv4 hb4;go_wp2_with ((with_reducible refine jab ?_);refine jaf rfl 32 _ _ rfl (w.heap.size + 1) 0 rfl [_,_] rfl 32 _ hr4 (by simp) (by intro v hv;simp at hv;rcases hv with rfl|rfl <;>rfl) jcu ?_);refine bodyPost_ret (jex rfl _ (w.heap.size + 1) _ rfl (0,0) _ rfl HO.out.1) rfl ⟨.agg #[.int .u32 (jfi h.size (jav h)).size, .slice A4 n4 c4],?_,?_,HO.out.2.2⟩
   ·rw[HR.out];rfl
   ·rw[HR.out];exact HO.out.2.1
  |some x=>
   have hcf:=jlh hris hc;rw[HOP.out.1]at hcf;have hxm:x∈pcs∧x.2.num=num:=by
    have h9:=(jc2 HOP.out.2.2.ris).1 hcf;rw[←HOP.out.1]at h9;obtain⟨y,hy,hyx⟩:=List.mem_map.1 h9.1;refine⟨?_,h9.2⟩;unfold je8 at hc;split at hc
    ·exact List.mem_of_getElem? hc
    ·cases hc
   have hrb:0≤x.2.refs∧x.2.refs≤16777216:=by
    obtain⟨g1,g2,g3⟩:=HOP.out.2.2.cnt x.2 (by rw[←HOP.out.1];exact List.mem_map.2 ⟨x,hxm.1,rfl⟩);omega
   have r1:=hs3.refs_cell hxm.1;have f1:=hs3.froz hxm.1 2;by_cases hq:x.2.refs=16777216
   ·have hqb:(x.2.refs==16777216)=true:=by simp[hq]
    have HR:=Lib.hid (show holdS h num=(jfi h.size (jav h),1) by
     have hE:holdE (jav h) num=1:=by unfold holdE;rw[hcf];simp[hq]
     unfold holdS;rw[if_neg (by rw[HOP.out.2.1];simp),if_pos (by rw[hE];decide),hE])
    have HHS:=Lib.hid (jlc w.heap.size w3 p h.size pcs hs3 hpm HSL.out.2);have HRS:=Lib.hid hres;clear hc hcf hs3 hris hres hxm hq hrb;generalize x.2.refs=xr at *;go_wp2_with (fail);refine HHS.out.mono ?_;rintro e w4 ⟨v4,rfl,hv4,hb4⟩;rw[HOP.out.1]at hv4;obtain⟨A4,n4,c4,rfl⟩:=jg8 hv4;have hr4:=(hb4.block _ (lt_of_block HRS.out)).trans HRS.out;have HO:=Lib.hid (jk6 hv4 hr4 (HB3.out.trans (hb4.mono HB3.out.size)) (by omega) rfl);clear hv4 hb4;go_wp2_with ((with_reducible refine jab ?_);refine jaf rfl 32 _ _ rfl (w.heap.size + 1) 0 rfl [_,_] rfl 32 _ hr4 (by simp) (by intro v hv;simp at hv;rcases hv with rfl|rfl <;>rfl) jcu ?_);refine bodyPost_ret (jex rfl _ (w.heap.size + 1) _ rfl (0,0) _ rfl HO.out.1) rfl ⟨.agg #[.int .u32 (jfi h.size (jav h)).size, .slice A4 n4 c4],?_,?_,HO.out.2.2⟩
    ·rw[HR.out];rfl
    ·rw[HR.out];exact HO.out.2.1
   ·have hqb:(x.2.refs==16777216)=false:=by simp[hq]
    have HR:=Lib.hid (show holdS h num=(jfi h.size ((jav h).map (rUp num)),0) by
     have hE:holdE (jav h) num=0:=by unfold holdE;rw[hcf];simp[hq]
     unfold holdS;rw[if_neg (by rw[HOP.out.2.1];simp),if_neg (by rw[hE];decide)])
    obtain⟨hs4,hf4,hb4⟩:=hs3.setRefs hxm.1 (x.2.refs + 1) (by omega);have hmp:=hold_map hs3.nodup hris hxm.1 hxm.2;have hpl:(pcs.map fun y=>if y.1=x.1 then(y.1,{x.2 with refs:=x.2.refs + 1})else y).length≤1073741824:=by rw[List.length_map];exact hpm
    generalize hqcs:(pcs.map fun y=>if y.1=x.1 then(y.1,{x.2 with refs:=x.2.refs + 1})else y)=qcs at *;have HMP:=Lib.hid (hmp.trans (by rw[HOP.out.1]));have hne:x.1≠w.heap.size + 1:=by
     intro e;obtain⟨_,_,_,hbx,_⟩:=(hs3.cells x hxm.1).1;rw[e,hres]at hbx;injection hbx with hbx;injection hbx with _ hbx _;exact absurd hbx (by decide)
    have hres4:(w3.setCell ⟨x.1,2,none⟩ (.int .i64 (x.2.refs + 1))).heap[w.heap.size + 1]? =some (.cells #[.int .u32 0, .slice none 0 0] 32 (0,0)):=(Below.heap_setCell _ _ _ _ (by simp;omega)).trans hres;have HHS:=Lib.hid (jlc w.heap.size _ p h.size qcs hs4 hpl HSL.out.2);have HRS:=Lib.hid hres4;have HB4:=Lib.hid (HB3.out.trans hb4);clear hc hcf hs3 hris hres hxm hq hs4 hf4 hb4 hmp hpl hres4 hqcs hne;generalize x.2.refs=xr at *;go_wp2_with (fail);refine HHS.out.mono ?_;rintro e w4 ⟨v4,rfl,hv4,hb4⟩;rw[HMP.out]at hv4;obtain⟨A4,n4,c4,rfl⟩:=jg8 hv4;have hr4:=(hb4.block _ (lt_of_block HRS.out)).trans HRS.out;have HO:=Lib.hid (jk6 hv4 hr4 (HB4.out.trans (hb4.mono HB4.out.size)) (by omega) rfl);clear hv4 hb4;go_wp2_with ((with_reducible refine jab ?_);refine jaf rfl 32 _ _ rfl (w.heap.size + 1) 0 rfl [_,_] rfl 32 _ hr4 (by simp) (by intro v hv;simp at hv;rcases hv with rfl|rfl <;>rfl) jcu ?_);refine bodyPost_ret (jex rfl _ (w.heap.size + 1) _ rfl (0,0) _ rfl HO.out.1) rfl ⟨.agg #[.int .u32 (jfi h.size ((jav h).map (rUp num))).size, .slice A4 n4 c4],?_,?_,HO.out.2.2⟩
    ·rw[HR.out];rfl
    ·rw[HR.out];exact HO.out.2.1
 ·have HR:=Lib.hid (show holdS h num=(noHp,7) by unfold holdS;rw[if_pos ho]);have hr4:=H1.out.2;have HO:=Lib.hid (jk6 (v:= .agg #[.int .u32 0, .slice none 0 0]) (h:=noHp) ⟨.slice none 0 0,rfl,⟨none,0,rfl,by decide,by decide,fun k hk=>by cases hk⟩,by unfold noHp u32Ok;decide⟩ hr4 H1.out.1 (by omega) rfl);clear ho;go_wp2_with (first
   |((with_reducible refine jar 32 ?_);refine jah rfl 32 _ rfl [] rfl _ built_heapY ?_)
   |((with_reducible refine jab ?_);refine jaf rfl 32 _ _ rfl (w.heap.size + 1) 0 rfl [_,_] rfl 32 _ hr4 (by simp) (by intro v hv;simp at hv;rcases hv with rfl|rfl <;>rfl) jcu ?_))
  refine bodyPost_ret (jex rfl _ (w.heap.size + 1) _ rfl (0,0) _ rfl HO.out.1) rfl ⟨.agg #[.int .u32 0, .slice none 0 0],?_,?_,HO.out.2.2⟩
  ·rw[HR.out];rfl
  ·rw[HR.out];exact HO.out.2.1
end Go.Proofs.YtpaohkkhejpgjaaGreatDoor
