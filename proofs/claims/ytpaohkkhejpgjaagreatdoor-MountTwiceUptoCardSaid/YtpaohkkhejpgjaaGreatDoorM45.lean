/- Texts of the proof: Z9 Zd Ze. -/
import Derived.Test.YtpaohkkhejpgjaaGreatDoorM1
import Derived.Maps.OwnSet
import Derived.Test.YtpaohkkhejpgjaaGreatDoorM38
import Derived.Test.YtpaohkkhejpgjaaGreatDoorM9
import Derived.Test.YtpaohkkhejpgjaaGreatDoorM30
import Derived.Test.YtpaohkkhejpgjaaGreatDoorM41
import Derived.Test.YtpaohkkhejpgjaaGreatDoorM33
set_option linter.all false
set_option maxRecDepth 100000
set_option maxHeartbeats 8000000
namespace Go.Proofs.YtpaohkkhejpgjaaGreatDoor
open Go Go.RowKit Go.Maps
def SeenM(w:World)(m n:Nat)(S:Int→Bool):Prop:=∃D:DataW Unit,w.ownsMap Tryz.prog 22 (plainElem Tryz.prog 4) m n D∧∀x,u32Ok x→D.atKey (.int .u32 x) (.lit (.bool false))= .lit (.bool (S x))
theorem u32_wf{x:Int}(h:u32Ok x):(Lit.int .u32 x).wf=true:=by
 obtain⟨h1,h2⟩:=h;have e1:IntKind.u32.min=0:=by decide
 have e2:IntKind.u32.max=4294967295:=by decide
 show(decide (IntKind.u32.min≤x) && decide (x≤IntKind.u32.max))=true
 rw[e1,e2,decide_eq_true h1,decide_eq_true h2];rfl
theorem zero_bool(w:World):(zeroValue 4).run Tryz.prog w= .ok (.bool false) w:=by kernel_rfl
theorem jmq{w:World}{m n:Nat}{S:Int→Bool}(h:SeenM w m n S){x:Int}(hx:u32Ok x):(Instr.lookup 133 (.map (some m)) (.int .u32 x) false).run Tryz.prog w= .ok (.bool (S x)) w:=by
 obtain⟨D,ho,hS⟩:=h;obtain⟨v,ps,hr,hv⟩:=ho.lookup (int_keyed Tryz.underlying22) Tryz.underlying133 (z:= .bool false) (zero_bool w) (plainElem_bool Tryz.underlying4 false) (keyOf_int_mk Tryz.underlying22 (u32_wf hx));rw[hS x hx]at hv;refine hr.trans ?_;have hv2:v= .bool (S x):=by
  have hu:Tryz.prog.underlying 4=some .bool:=Tryz.underlying4;unfold plainElem at hv;rw[hu]at hv;cases v <;>simp at hv
  rw[hv.1]
 rw[hv2]
theorem seen_store{w:World}{m n:Nat}{S:Int→Bool}(h:SeenM w m n S)(hn:n < maxLen){x:Int}(hx:u32Ok x):
 ∃w',(Instr.mapUpdate 133 (.map (some m)) (.int .u32 x) (.bool true)).run Tryz.prog w= .ok () w'∧SeenM w' m (n + 1) (fun y=>S y||decide (y=x))∧w.grownBy w' (some m):=by
 obtain⟨D,ho,hS⟩:=h;obtain⟨w',h1,h2,h3⟩:=ho.update (int_keyed Tryz.underlying22) Tryz.underlying133 hn (keyOf_int_mk Tryz.underlying22 (u32_wf hx)) (plainElem_bool (H:=Unit) Tryz.underlying4 true);refine⟨w',h1,⟨_,h2,fun y hy=>?_⟩,h3⟩;by_cases e:y=x
 ·subst e;rw[Maps.atKey_put_same (ho.isMap) (by simp[WideAt.IsKeyLit])];simp
 ·rw[Maps.atKey_put_other (fun e2=>e (by injection e2)),hS y hy];simp[e]
theorem seen_made(w:World):SeenM (w.alloc (.map #[] 0)) w.heap.size 0 (fun _=>false):=
 ⟨.map [],World.ownsMap_made w _ _ _,fun _ _=>rfl⟩
theorem SeenM.below{w w':World}{m n:Nat}{S:Int→Bool}(h:SeenM w m n S)(hb:Below w.heap.size w w'):SeenM w' m n S:=by
 obtain⟨D,⟨es,cl,e1,e2⟩,hS⟩:=h;exact⟨D,⟨es,cl,(hb.block _ (Array.getElem?_eq_some_iff.1 e1).1).trans e1,e2⟩,hS⟩
theorem SeenM.grown{w w':World}{m n:Nat}{S:Int→Bool}{row:Option Nat}(h:SeenM w m n S)(hg:w.grownBy w' row)(hne:some m≠row):SeenM w' m n S:=by
 obtain⟨D,ho,hS⟩:=h;exact⟨D,ho.kept hg hne,hS⟩
end Go.Proofs.YtpaohkkhejpgjaaGreatDoor
namespace Go.Proofs.YtpaohkkhejpgjaaGreatDoor
open Go Go.RowKit
inductive Reach (h:Hp):Int→Int→Prop
 |refl (a:Int):Reach h a a
 |step {c:Cel} {k b:Int}:c∈h.cells→k∈jbk (decN c.data)→Reach h k b→Reach h c.num b
def jet(S:Int→Bool)(cs:List Cel):Nat:=(cs.filter (fun c=> !S c.num)).length
theorem jh7{S S':Int→Bool}(h:∀x,S x=true→S' x=true):∀cs,jet S' cs≤jet S cs
 |[]=>Nat.le_refl _
 |c::r=>by
  have ih:=jh7 h r;unfold jet at *;rw[List.filter_cons,List.filter_cons];cases h1:S c.num with
  |true=>rw[h _ h1];simpa using ih
  |false=>cases h2:S' c.num <;>simp <;>omega
theorem jmr{S:Int→Bool}{n:Int}(hn:S n=false):∀cs:List Cel,(∃c∈cs,c.num=n)→jet (fun y=>S y||decide (y=n)) cs + 1≤jet S cs
 |[],h=>by obtain⟨c,hc,_⟩:=h;cases hc
 |c::r,h=>by
  by_cases hr:∃c∈r,c.num=n
  ·have ih:=jmr hn r hr;unfold jet at *;rw[List.filter_cons,List.filter_cons];by_cases hcn:c.num=n
   ·rw[hcn,hn];simp;simp at ih;omega
   ·cases h1:S c.num <;>simp[hcn,h1] <;>simp at ih <;>omega
  ·have hcn:c.num=n:=by
    obtain⟨d,hd,hdn⟩:=h;rcases List.mem_cons.1 hd with rfl|hd
    ·exact hdn
    ·exact absurd ⟨d,hd,hdn⟩ hr
   have hm:=jh7 (S:=S) (S':=fun y=>S y||decide (y=n)) (fun x hx=>by simp[hx]) r;unfold jet at *;rw[List.filter_cons,List.filter_cons,hcn,hn];simp at hm ⊢;omega
structure OldAt(w:World)(p m n:Nat)(st:List Value)(c0 c1 c2:Value)(S:Int→Bool):Prop where
 row:w.heap[p]? =some (.cells (st ++ [c0,c1,c2, .map (some m)]).toArray 135 (0,0))
 map:SeenM w m n S
theorem OldAt.below{w w':World}{p m n:Nat}{st:List Value}{c0 c1 c2:Value}{S:Int→Bool}(h:OldAt w p m n st c0 c1 c2 S)(hb:Below w.heap.size w w'):OldAt w' p m n st c0 c1 c2 S:=
 ⟨(hb.block _ (lt_of_block h.row)).trans h.row,h.map.below hb⟩
theorem OldAt.ne{w:World}{p m n:Nat}{st:List Value}{c0 c1 c2:Value}{S:Int→Bool}(h:OldAt w p m n st c0 c1 c2 S):p≠m:=by
 rintro rfl;obtain⟨D,⟨es,cl,e1,_⟩,_⟩:=h.map;rw[h.row]at e1;cases e1
theorem own_map{w w':World}{B:Nat}{e:TypeId}{s:Nat}{v:Value}{n:Nat}{xs:List Value}{m k:Nat}{S:Int→Bool}(hown:w.ownsRow B e s v n xs)(hm:SeenM w m k S)(hg:w.grownBy w' (some m)):w'.ownsRow B e s v n xs:=by
 refine hown.kept hg (Or.inr ?_);intro he;obtain⟨D,⟨es,cl,e1,_⟩,_⟩:=hm;rcases hown.2 with⟨rfl,_⟩|⟨g,cap,cur,rfl,_,hgb,_⟩
 ·simp[Value.ownBlock]at he
 ·have hgm:g=m:=by simpa[Value.ownBlock]using he
  rw[hgm,e1]at hgb;cases hgb
def DownAt(w0:World)(p m:Nat)(st:List Value)(c0 c1 c2:Value)(h:Hp)(f:Nat):Prop:=∀(w:World) (n:Nat) (S:Int→Bool) (num:Int),OldAt w p m n st c0 c1 c2 S→Below w0.heap.size w0 w→u32Ok num→jet S h.cells < f→n + jet S h.cells≤h.cells.length→
 Calls Tryz.prog 121 #[.pointer (some ⟨p,0,none⟩), .int .u32 num] w fun e w'=>e= .returned (.tuple #[])∧∃n' S',OldAt w' p m n' st c0 c1 c2 S'∧(∀x,S x=true→S' x=true)∧(∀x,S' x=true→S x=true∨Reach h num x)∧n' + jet S' h.cells≤h.cells.length∧w.grownBy w' (some m)
structure DownR(w0 w wr:World)(p m:Nat)(st:List Value)(c0 c1 c2:Value)(h:Hp)(S:Int→Bool)(num:Int)(f:Nat)(kv:Value)(ks:List Int)(B:Nat)(n':Nat)(S':Int→Bool):Prop where
 at_:OldAt wr p m n' st c0 c1 c2 S'
 mono:∀x,S x=true→S' x=true
 only:∀x,S' x=true→S x=true∨Reach h num x
 room:n' + jet S' h.cells≤h.cells.length
 fuel:jet S' h.cells < f
 grown:w.grownBy wr (some m)
 row:wr.ownsRow B 22 1 kv ks.length (ks.map (Value.int .u32))
 below:Below w0.heap.size w0 wr
theorem DownR.step{w0 w wr w':World}{p m:Nat}{st:List Value}{c0 c1 c2:Value}{h:Hp}{S:Int→Bool}{num:Int}{f:Nat}{kv:Value}{ks:List Int}{B n':Nat}{S':Int→Bool}(r:DownR w0 w wr p m st c0 c1 c2 h S num f kv ks B n' S'){k:Int}(hk:∀x,Reach h k x→Reach h num x)(hm:w0.heap.size≤m)
 {n2:Nat} {S2:Int→Bool} (h1:OldAt w' p m n2 st c0 c1 c2 S2) (h2:∀x,S' x=true→S2 x=true) (h3:∀x,S2 x=true→S' x=true∨Reach h k x) (h4:n2 + jet S2 h.cells≤h.cells.length) (h5:wr.grownBy w' (some m)):DownR w0 w w' p m st c0 c1 c2 h S num f kv ks B n2 S2:=
 ⟨h1,fun x hx=>h2 x (r.mono x hx),fun x hx=>by
  rcases h3 x hx with h|h
  ·exact r.only x h
  ·exact Or.inr (hk x h),h4,Nat.lt_of_le_of_lt (jh7 h2 _) r.fuel,jag r.grown h5,own_map r.row r.at_.map h5,r.below.grown h5 r.below.size (fun q hq=>by cases hq;omega)⟩
theorem down_step(w0:World)(p m:Nat)(st:List Value)(c0 c1 c2 cv:Value)(h:Hp)(hsl:Sl celE w0 cv h.cells)(hlen:st.length=113)(h6:st[6]? =some cv)(hm0:w0.heap.size≤m)(ho:openB h=true)(hmax:h.cells.length≤1073741824)(f:Nat)(IH:DownAt w0 p m st c0 c1 c2 h f):DownAt w0 p m st c0 c1 c2 h (f + 1):=by
 intro w n S num hat hbw hnum hfu hrm;have HIH:=Lib.hid IH;have HSL:=Lib.hid hsl;obtain⟨A,c,rfl,hc1,hc2,hrow⟩:=hsl;have HR:=Lib.hid hrow;clear IH hrow;have q6:(st ++ [c0,c1,c2,Value.map (some m)]).toArray[6]? =some (.slice A h.cells.length c):=by
  rw[List.getElem?_toArray,List.getElem?_append_left (by omega)];exact h6
 have q116:(st ++ [c0,c1,c2,Value.map (some m)]).toArray[116]? =some (.map (some m)):=by
  rw[List.getElem?_toArray,List.getElem?_append_right (by omega),hlen];rfl
 have HQ:=Lib.hid (And.intro q6 q116);have x6:w.cell? ⟨p,6,none⟩=some (.slice A h.cells.length c):=by rw[cell_of_row _ _ _ _ _ _ hat.row];exact q6
 have hris:=jmp ho;have HRIS:=Lib.hid hris;have HW:=Lib.hid (And.intro hat hbw);clear hat q6 q116 hbw h6;go_enter Tryz.func121,Tryz.ntmps121;go_wp2_with (fail);refine(jhe w _ h.cells num (HSL.out.below HW.out.2 (Nat.le_refl _)) hris (by omega)).mono ?_;rintro e w1 ⟨rfl,hbk1⟩;have hat1:=HW.out.1.below hbk1;have H1:=Lib.hid (And.intro hat1 (And.intro hbk1 (HW.out.2.trans (hbk1.mono HW.out.2.size))));clear x6 hris hat1 hbk1;cases hh:jba (h.cells.map (·.num)) num with
 |false=>
  clear hh;go_wp2_with (fail)
  (first|go_end0|(simp only[Exit.inBlock,Exit.then];refine bodyPost_ret (results_none rfl _ _ _) rfl ?_)|refine bodyPost_ret (results_none rfl _ _ _) rfl ?_)
  exact⟨rfl,n,S,H1.out.1,fun _ hx=>hx,fun _ hx=>Or.inl hx,hrm,jbd H1.out.2.1⟩
 |true=>
  obtain⟨cl,hi,hcl,hcnum,hmem⟩:=cel_at hh;have HM:=Lib.hid (And.intro hcnum hmem);have y116:w1.cell? ⟨p,116,none⟩=some (.map (some m)):=by rw[cell_of_row _ _ _ _ _ _ H1.out.1.row];exact HQ.out.2
  have hlook:=jmq H1.out.1.map hnum;cases hS:S num with
  |true=>
   rw[hS]at hlook;clear hh hcl hcnum hmem hi;go_wp2_with (fail)
   (first|go_end0|(simp only[Exit.inBlock,Exit.then];refine bodyPost_ret (results_none rfl _ _ _) rfl ?_)|refine bodyPost_ret (results_none rfl _ _ _) rfl ?_)
   exact⟨rfl,n,S,H1.out.1,fun _ hx=>hx,fun _ hx=>Or.inl hx,hrm,jbd H1.out.2.1⟩
  |false=>
   rw[hS]at hlook;have HS:=Lib.hid hS;have hun:=jmr hS h.cells ⟨cl,hmem,hcnum⟩;obtain⟨w2,hst,hmap2,hg2⟩:=seen_store H1.out.1.map (by show n < 2 ^ 63 - 1;omega) hnum;have hpm:=H1.out.1.ne;have hr2:=(hg2.block _ (lt_of_block H1.out.1.row) (fun e=>hpm (by injection e))).trans H1.out.1.row;obtain⟨S1,hS1⟩:∃S1,(fun y=>S y||decide (y=num))=S1:=⟨_,rfl⟩
   have HS1:=Lib.hid hS1;rw[hS1]at hmap2 hun;have H2:=Lib.hid (show DownR w0 w w2 p m st c0 c1 c2 h S num f (.slice none 0 0) [] 0 (n + 1) S1 from
    ⟨⟨hr2,hmap2⟩,fun x hx=>by rw[←HS1.out];simp[hx],fun x hx=>by
     rw[←HS1.out]at hx;simp at hx;rcases hx with hx|rfl
     ·exact Or.inl hx
     ·exact Or.inr (Reach.refl _),by omega,by omega,jag (jbd H1.out.2.1) hg2,⟨rfl,Or.inl ⟨rfl,rfl⟩⟩,H1.out.2.2.grown hg2 H1.out.2.2.size (fun q hq=>by cases hq;omega)⟩)
   obtain⟨b,o,rfl,hatc,hwf⟩:=HR.out _ hi;have hstr:cl.data.size≤140737488355328:=by rw[hcl]at hwf;exact hwf.2.1
   have hat2:=hatc.below H2.out.below (Nat.le_refl _);rw[hcl]at hat2;clear hatc hwf hh hcl hcnum hmem hS hS1 hun hmap2 hr2 hg2;generalize ja5 (h.cells.map (·.num)) num=i at *;have d1:=hat2.cell 1 _ rfl;simp only[celE]at d1;have hi1:(0:Int)≤i:=by omega
   have hi2:(i:Int) < h.cells.length:=by omega
   have y6:w2.cell? ⟨p,6,none⟩=some (.slice (some ⟨b,o,none⟩) h.cells.length c):=by rw[cell_of_row _ _ _ _ _ _ H2.out.at_.row];exact HQ.out.1
   clear hat2;obtain⟨data,hdata⟩:∃x,cl.data=x:=⟨_,rfl⟩
   have HDA:=Lib.hid hdata;rw[hdata]at d1 hstr;clear hdata;go_wp2_with (fail);refine(jfl w2 data hstr).mono ?_;rintro e w3 ⟨nv,rfl,hnv,hnw,hb3⟩;obtain⟨⟨hnv,_⟩,_⟩:=(⟨hnv,hnw⟩:_∧_)
   obtain⟨vi,vk,vv,rfl,hsi,hsk,hsv,hk0,hk1⟩:=hnv;have HNV:=Lib.hid (show NodeV w3 (.agg #[.int .u8 (decN data).kind,vi,vk,vv]) (decN data)from⟨vi,vk,vv,rfl,hsi,hsk,hsv,hk0,hk1⟩);have hone:vi.oneCell'=true∧vk.oneCell'=true∧vv.oneCell'=true:=by
    obtain⟨_,_,a1,_⟩:=hsi;obtain⟨_,_,a2,_⟩:=hsk;obtain⟨_,_,a3,_⟩:=hsv;rw[a1,a2,a3];exact⟨rfl,rfl,rfl⟩
   have HONE:=Lib.hid hone;clear hsi hsk hsv hone hk0 hk1 hnw hst hlook y116;have HSM:=Lib.hid (jfv data);have hb4:=hb3.trans ((Below.refl _ w3).alloc (Nat.le_refl _) (.cells #[.int .u8 (decN data).kind,vi,vk,vv] 59)|>.mono hb3.size);have hn4:=heap_alloc_new w3 (.cells #[.int .u8 (decN data).kind,vi,vk,vv] 59);have HNV4:=Lib.hid (HNV.out.below ((Below.refl _ w3).alloc (Nat.le_refl _) (.cells #[.int .u8 (decN data).kind,vi,vk,vv] 59)) (Nat.le_refl _));have H4:=Lib.hid (And.intro hb4 hn4);clear hb3 hb4 hn4 d1 y6;go_upto_region 4 with((with_reducible refine jab ?_);refine jaa rfl 59 (.tmp 6) (.tmp 48) rfl 59 _ rfl [_,_,_,_] rfl rfl (by intro v hv;simp at hv;rcases hv with rfl|rfl|rfl|rfl <;>first|rfl|exact HONE.out.1|exact HONE.out.2.1|exact HONE.out.2.2) ja0 ?_);generalize w3.alloc (.cells #[.int .u8 (decN data).kind,vi,vk,vv] 59)=w4 at *;generalize w3.heap.size=nb at *;go_wp2_with (refine wpList_load_row rfl 59 _ rfl nb rfl 59 _ (0,0) _ H4.out.2 Tryz.underlying59 rfl ja0 ?_);go_at_call 125;refine(jj8 w4 _ (decN data) HNV4.out ⟨by have:=HSM.out.2.1;omega,by have:=HSM.out.2.2;omega⟩).mono ?_;rintro e w5 ⟨kv,rfl,⟨hks,hkr⟩,hb5⟩;have hkw:=sl_wfY hks;have hb25:Below w2.heap.size w2 w5:=H4.out.1.trans (hb5.mono H4.out.1.size);have H5:=Lib.hid (show DownR w0 w w5 p m st c0 c1 c2 h S num f kv (jbk (decN data)) w4.heap.size (n + 1) S1 from
    ⟨H2.out.at_.below hb25,H2.out.mono,H2.out.only,H2.out.room,H2.out.fuel,jag H2.out.grown (jbd hb25),hkr,H2.out.below.trans (hb25.mono H2.out.below.size)⟩)
   have HKM:=Lib.hid (show ∀k∈jbk (decN data),∀x,Reach h k x→Reach h num x from fun k hk x hx=>by
    rw[←HM.out.1];exact Reach.step HM.out.2 (by rw[HDA.out];exact hk) hx)
   have HKW:=Lib.hid hkw;obtain⟨KA,kc,rfl,hkc1,hkc2,_⟩:=hks;clear hkr hb5 hb25 hkw HNV HNV4 H4 HSM;generalize jbk (decN data)=ks at *;go_wp2_with (fail);go_loopw [9,53,54,55,56,57,58,59,60] (fun _ i _ _ _ _ _ _ _ wr=>∃j:Nat,j≤ks.length∧i= .int .i64 j∧∃n' S',DownR w0 w wr p m st c0 c1 c2 h S num f (.slice KA ks.length kc) ks w4.heap.size n' S') (fun _ i _ _ _ _ _ _ _ _=>ks.length - (intOf i).toNat)
   case atStart=>exact⟨0,Nat.zero_le _,rfl,_,_,H5.out⟩
   case round=>
    obtain⟨j,hj,rfl,n',S',hr⟩:=hrel;have HRR:=Lib.hid hr;by_cases hjl:j < ks.length
    ·have hsl2:=jct (E:=u32E) (xs:=ks) (by rw[u32_flat];exact hr.row) rfl HKW.out;obtain⟨b2,o2,rfl,hat2,hwf2⟩:=jgk hsl2 j hjl;have e0:=hat2.cell 0 _ rfl;simp only[u32E,Nat.add_zero,Nat.mul_one]at e0;have HIJ:=Lib.hid (HIH.out wr n' S' ks[j] hr.at_ hr.below (HKW.out _ (List.getElem_mem hjl)) hr.fuel hr.room);have HKJ:=Lib.hid (HKM.out _ (List.getElem_mem hjl));have hi3:(0:Int)≤j:=by omega
     have hi4:(j:Int) < ks.length:=by omega
     clear hr hsl2 hat2 hwf2;generalize ks[j]=kj at *;go_wp2_with (fail);refine HIJ.out.mono ?_;rintro e w6 ⟨rfl,n2,S2,g1,g2,g3,g4,g5⟩;have HN:=Lib.hid (HRR.out.step HKJ.out hm0 g1 g2 g3 g4 g5);clear g1 g2 g3 g4 g5 e0;go_wp2_with (fail);exact⟨⟨j + 1,by omega,by go_num,n2,S2,HN.out⟩,by simp[intOf];omega⟩
    ·obtain rfl:j=ks.length:=by omega
     clear hr;go_wp2_with (fail)
     (first|go_end0|(simp only[Exit.inBlock,Exit.then];refine bodyPost_ret (results_none rfl _ _ _) rfl ?_)|refine bodyPost_ret (results_none rfl _ _ _) rfl ?_)
     exact⟨rfl,n',S',HRR.out.at_,HRR.out.mono,HRR.out.only,HRR.out.room,HRR.out.grown⟩
theorem down_any(w0:World)(p m:Nat)(st:List Value)(c0 c1 c2 cv:Value)(h:Hp)(hsl:Sl celE w0 cv h.cells)(hlen:st.length=113)(h6:st[6]? =some cv)(hm0:w0.heap.size≤m)(ho:openB h=true)(hmax:h.cells.length≤1073741824):∀f,DownAt w0 p m st c0 c1 c2 h f
 |0=>fun _ _ _ _ _ _ _ hf=>by omega
 |f + 1=>down_step w0 p m st c0 c1 c2 cv h hsl hlen h6 hm0 ho hmax f (down_any w0 p m st c0 c1 c2 cv h hsl hlen h6 hm0 ho hmax f)
theorem old_set{st:List Value}(hl:st.length=113)(l:List Value)(i:Nat)(v:Value):((st ++ l).toArray.setIfInBounds (113 + i) v)=(st ++ l.set i v).toArray:=by
 rw[List.setIfInBounds_toArray,List.set_append_right _ _ (by omega)];rw[show 113 + i - st.length=i by omega]
def jhq(w:World)(q p:Nat):Prop:=w.heap[q]? =some (.cells #[.pointer (some ⟨p,0,none⟩)] 123 (0,0))
def jeu(w:World)(p:Nat)(st:List Value)(a b c:Value)(m:Value):Prop:=w.heap[p]? =some (.cells (st ++ [a,b,c,m]).toArray 135 (0,0))
theorem old_box{w:World}{p q:Nat}{st:List Value}{a b c m:Value}(hl:st.length=113)(h:jeu w p st a b c m)(hq:jhq w q p):q≠p:=by
 rintro rfl;unfold jeu at h;unfold jhq at hq;rw[h]at hq;injection hq with hq;injection hq with hq _ _;have:=congrArg Array.size hq;simp[hl]at this
theorem jja{w:World}{p:Nat}{st:List Value}{a b c m:Value}(hl:st.length=113)(h:jeu w p st a b c m):w.cell? ⟨p,113,none⟩=some a∧w.cell? ⟨p,114,none⟩=some b∧w.cell? ⟨p,116,none⟩=some m:=by
 refine⟨?_,?_,?_⟩ <;>rw[cell_of_row _ _ _ _ _ _ h,List.getElem?_toArray,List.getElem?_append_right (by omega),hl] <;>rfl
theorem old_put{w:World}{p:Nat}{st:List Value}{a b c m:Value}(hl:st.length=113)(h:jeu w p st a b c m)(i:Nat)(v:Value):(w.setCell ⟨p,113 + i,none⟩ v).heap[p]? =some (.cells (st ++ [a,b,c,m].set i v).toArray 135 (0,0)):=by
 have h2:=ja2 h (113 + i) v;rw[old_set hl]at h2;exact h2
theorem old_at{w:World}{p:Nat}{st:List Value}{a b c m:Value}(h:jeu w p st a b c m):At w p 0 st:=fun k hk=>by
 rw[cell_of_row _ _ _ _ _ _ h,Nat.zero_add,List.getElem?_toArray,List.getElem?_append_left hk];exact List.getElem?_eq_getElem hk
def HasF(w:World)(p q:Nat)(st:List Value)(a b c:Value)(s:Sto)(w':World):Prop:=∃m n S,OldAt w' p m n st a b c S∧jhq w' q p∧(∀x,S x=true→∃t∈jbh s,Reach s.heap t.table x)∧w.heap.size≤m∧w.grownBy w' (some p)
structure HasR(w0 w wr:World)(p q m:Nat)(st:List Value)(a b c:Value)(s:Sto)(rv:Value)(vl:List Sup)(B n:Nat)(S:Int→Bool):Prop where
 at_:OldAt wr p m n st a b c S
 box:jhq wr q p
 only:∀x,S x=true→∃t∈vl,Reach s.heap t.table x
 room:n + jet S s.heap.cells≤s.heap.cells.length
 grown:w.grownBy wr (some p)
 row:wr.ownsRow B 36 35 rv vl.length (vl.flatMap supE.enc)
 below:Below w0.heap.size w0 wr
theorem HasR.pure{w0 w wr w':World}{p q m:Nat}{st:List Value}{a b c:Value}{s:Sto}{rv:Value}{vl:List Sup}{B n:Nat}{S:Int→Bool}(r:HasR w0 w wr p q m st a b c s rv vl B n S)(hb:Below wr.heap.size wr w'):HasR w0 w w' p q m st a b c s rv vl B n S:=
 ⟨r.at_.below hb,(hb.block _ (lt_of_block r.box)).trans r.box,r.only,r.room,jag r.grown (jbd hb),jc4 r.row hb,r.below.trans (hb.mono r.below.size)⟩
theorem grown_fresh{w wr w':World}{p m:Nat}(hg:w.grownBy wr (some p))(h:wr.grownBy w' (some m))(hm:w.heap.size≤m):w.grownBy w' (some p):=
 ⟨h.os.trans hg.os,h.tape.trans hg.tape,h.output.trans hg.output,Nat.le_trans hg.size h.size,fun k hk hne=>(h.block k (Nat.lt_of_lt_of_le hk hg.size) (fun e=>by injection e with e;omega)).trans (hg.block k hk hne)⟩
theorem HasR.step{w0 w wr w':World}{p q m:Nat}{st:List Value}{a b c:Value}{s:Sto}{rv:Value}{vl:List Sup}{B n:Nat}{S:Int→Bool}(r:HasR w0 w wr p q m st a b c s rv vl B n S){x:Sup}(hx:x∈vl)(hw:w.heap.size≤m)(hm:w0.heap.size≤m)
 {n2:Nat} {S2:Int→Bool} (h1:OldAt w' p m n2 st a b c S2) (h3:∀y,S2 y=true→S y=true∨Reach s.heap x.table y) (h4:n2 + jet S2 s.heap.cells≤s.heap.cells.length) (h5:wr.grownBy w' (some m)):HasR w0 w w' p q m st a b c s rv vl B n2 S2:=
 ⟨h1,(h5.block _ (lt_of_block r.box) (fun e=>by
  injection e with e;obtain⟨D,⟨es,cl,e1,_⟩,_⟩:=r.at_.map;have e2:=r.box;unfold jhq at e2;rw[e,e1]at e2;cases e2)).trans r.box,fun y hy=>by
  rcases h3 y hy with h|h
  ·exact r.only y h
  ·exact⟨x,hx,h⟩,h4,grown_fresh r.grown h5 hw,own_map r.row r.at_.map h5,r.below.grown h5 r.below.size (fun k hk=>by cases hk;omega)⟩
theorem unseen_le(S:Int→Bool)(cs:List Cel):jet S cs≤cs.length:=List.length_filter_le _ _
theorem hasF_any(w0 w:World)(p q:Nat)(st:List Value)(a b c:Value)(s:Sto)(hv:StoV w0 (.agg st.toArray) s)(hlen:st.length=113)(hp0:w0.heap.size≤p)(hb0:Below w0.heap.size w0 w)(ho:openB s.heap=true)(hmax:s.heap.cells.length≤1073741824)
 (hp:jeu w p st a b c (.map none)) (hq:jhq w q p):
 Calls Tryz.prog 120 #[.pointer (some ⟨q,0,none⟩)] w fun e w'=>e= .returned (.tuple #[])∧HasF w p q st a b c s w':=by
 have HVV:=Lib.hid hv;have hqp:=old_box hlen hp hq;obtain⟨bv,wv,cv,ev,hdv,hhv,hw0,hw1,hkw⟩:=hv;have hst:st=stoL (devL s.dev bv wv) [.int .u32 s.heap.size,cv] (supA s.s0).toList (supA s.s1).toList [.bool s.v0, .bool s.v1] (kidE.enc s.table):=by
  injection ev with ev;have:=congrArg Array.toList ev;simpa using this
 have h6:st[6]? =some cv:=by rw[hst];rfl
 have hslc:Sl celE w0 cv s.heap.cells:=by
  obtain⟨c',e,h1,_⟩:=hhv;simp only[Value.agg.injEq,Array.mk.injEq,List.cons.injEq,and_true,true_and]at e;rw[e];exact h1
 have hle:=hb0.size;have hpl:=lt_of_block hp;have hsi:(Tryz.prog.info? 42).map (·.size)=some st.length:=by rw[hlen];exact ja6
 have q0:w.cell? ⟨q,0,none⟩=some (.pointer (some ⟨p,0,none⟩)):=by rw[cell_of_row _ _ _ _ _ _ hq];rfl
 have q1:(w.alloc (.map #[] 0)).cell? ⟨q,0,none⟩=some (.pointer (some ⟨p,0,none⟩)):=(World.cell?_alloc_some w _ _ (by rw[q0];rfl)).trans q0;have hp1:jeu (w.alloc (.map #[] 0)) p st a b c (.map none):=(Lib.alloc_old w _ _ hpl).trans hp;have p1:=(jja hlen hp1).2.2;have z1:(w.alloc (.map #[] 0)).frozen? ⟨p,116,none⟩=false:=jbi hp1 _;have hset:=old_put hlen hp1 3 (.map (some w.heap.size));have hgs:=jap (World.grownBy.refl (w.alloc (.map #[] 0)) (some p)) 116 (.map (some w.heap.size));have hpm:p≠w.heap.size:=by omega
 have hmap:SeenM ((w.alloc (.map #[] 0)).setCell ⟨p,116,none⟩ (.map (some w.heap.size))) w.heap.size 0 (fun _=>false):=(seen_made w).grown hgs (fun e=>hpm (by injection e with e;exact e.symm));have hga:w.grownBy ((w.alloc (.map #[] 0)).setCell ⟨p,116,none⟩ (.map (some w.heap.size))) (some p):=jag (w1:=w.alloc (.map #[] 0)) ⟨rfl,rfl,rfl,by simp,fun k hk _=>Lib.alloc_old w _ k hk⟩ hgs;have hqa:jhq ((w.alloc (.map #[] 0)).setCell ⟨p,116,none⟩ (.map (some w.heap.size))) q p:=(hga.block _ (lt_of_block hq) (fun e=>hqp (by injection e))).trans hq;obtain⟨wa,hwa⟩:∃wa,(w.alloc (.map #[] 0)).setCell ⟨p,116,none⟩ (.map (some w.heap.size))=wa:=⟨_,rfl⟩
 rw[hwa]at hset hmap hga hqa;have hat:OldAt wa p w.heap.size 0 st a b c (fun _=>false):=⟨hset,hmap⟩
 have HAT:=Lib.hid (And.intro hat (And.intro hqa (And.intro hga (hb0.grown hga hle (fun k hk=>by cases hk;omega)))));have HMK:=Lib.hid (show ∀(t:TypeId) (w:World),(Instr.makeMap t none).run Tryz.prog w= .ok (.map (some w.heap.size)) (w.alloc (.map #[] 0))from fun _ _=>rfl);have hmk:=HMK.out;clear hset hgs hmap hga hqa hat hp hq hdv hhv hw0 hw1 hkw ev;go_enter Tryz.func120,Tryz.ntmps120;go_upto_region 1 with(fail);first|rw[hwa]|skip
 clear hwa q1 p1 z1 hp1 hmk q0;have hats:At wa p 0 st:=old_at (a:=a) (b:=b) (c:=c) (m:= .map (some w.heap.size)) HAT.out.1.row;have q0:wa.cell? ⟨q,0,none⟩=some (.pointer (some ⟨p,0,none⟩)):=by rw[cell_of_row _ _ _ _ _ _ HAT.out.2.1];rfl
 have HVA:=Lib.hid (ji7 wa _ s (HVV.out.below HAT.out.2.2.2 (Nat.le_refl _)));obtain⟨sta,hsta⟩:∃sta,st.toArray=sta:=⟨_,rfl⟩
 have HSTA:=Lib.hid hsta;rw[hsta]at HVA;clear hsta;go_wp2_with (refine jae rfl 42 (.tmp 9) rfl p 0 rfl st _ hats Tryz.underlying42 rfl hsi sta HSTA.out ?_);refine HVA.out.mono ?_;rintro e wv ⟨r,rfl,hown,hbv⟩;have hwfs:∀x∈jbh s,supE.wf x:=fun x hx=>jk5 HVV.out x hx
 have HWFS:=Lib.hid hwfs;have H0:=Lib.hid (show HasR w0 w wv p q w.heap.size st a b c s r (jbh s) wa.heap.size 0 (fun _=>false)from
  ⟨HAT.out.1.below hbv,(hbv.block _ (lt_of_block HAT.out.2.1)).trans HAT.out.2.1,fun x hx=>(by cases hx),by have:=unseen_le (fun _=>false) s.heap.cells;omega,jag HAT.out.2.2.1 (jbd hbv),hown,HAT.out.2.2.2.trans (hbv.mono HAT.out.2.2.2.size)⟩)
 obtain⟨VA,vn,vc,rfl⟩:=jan hown;have hnn:=own_len hown;subst hnn;have HVL:=Lib.hid (show(jbh s).length≤2 by unfold jbh;cases s.v0 <;>cases s.v1 <;>simp);have HDW:=Lib.hid (down_any w0 p w.heap.size st a b c cv s.heap hslc hlen h6 hle ho hmax (s.heap.cells.length + 1));have HVD:=Lib.hid (show HasR w0 w wv p q w.heap.size st a b c s (.slice VA (jbh s).length vc) (jbh s) wa.heap.size 0 (fun _=>false)→True from fun _=>trivial);clear hown hbv hats HVA hwfs q0 h6 hslc HVD hst;obtain⟨vl,hvl⟩:∃vl,jbh s=vl:=⟨_,rfl⟩
 have HVE:=Lib.hid hvl;rw[hvl]at H0 HVL HWFS ⊢;clear hvl;go_wp2_with (fail);go_loopw [2,13,14,15,16,17,18,19,20,21] (fun _ i _ _ _ _ _ _ _ _ wr=>∃j:Nat,j≤vl.length∧i= .int .i64 j∧∃n S,HasR w0 w wr p q w.heap.size st a b c s (.slice VA vl.length vc) vl wa.heap.size n S) (fun _ i _ _ _ _ _ _ _ _ _=>vl.length - (intOf i).toNat)
 case atStart=>exact⟨0,Nat.zero_le _,rfl,_,_,H0.out⟩
 case round=>
  obtain⟨j,hj,rfl,n,S,hr⟩:=hrel;by_cases hjl:j < vl.length
  ·have hsl2:=jct (E:=supE) hr.row rfl HWFS.out;obtain⟨b',o',rfl,hat,hwf⟩:=jgk hsl2 j hjl;have HWX:=Lib.hid (show supWf vl[j]from hwf);have HMX:=Lib.hid (show vl[j]∈vl from List.getElem_mem hjl);have s1:=jbt vl[j];have s2:=jbx HWX.out;have s3:(supA vl[j]).toList.length=35:=by rw[Array.length_toList];exact jbn HWX.out
   have s4:(supA vl[j])[2]? =some (.int .u32 vl[j].table):=rfl;have hat2:At wr b' (o' + j * 35) (supA vl[j]).toList:=hat;obtain⟨xs,hxs⟩:∃xs,(supA vl[j]).toList=xs:=⟨_,rfl⟩
   rw[hxs]at s1 s2 s3 hat2;rw[←Array.getElem?_toList,hxs,←List.getElem?_toArray]at s4;obtain⟨xa,hxa⟩:∃xa,xs.toArray=xa:=⟨_,rfl⟩
   have HXA:=Lib.hid hxa;have hnb8:=heap_alloc_new wr (.cells xs.toArray 36);have hr2:=hr.pure ((Below.refl _ wr).alloc (Nat.le_refl _) (.cells xs.toArray 36));have t2:(wr.alloc (.cells xs.toArray 36)).cell? ⟨wr.heap.size,2,none⟩=some (.int .u32 vl[j].table):=by rw[cell_of_row _ _ _ _ _ _ hnb8];exact s4
   have q0:(wr.alloc (.cells xs.toArray 36)).cell? ⟨q,0,none⟩=some (.pointer (some ⟨p,0,none⟩)):=by rw[cell_of_row _ _ _ _ _ _ hr2.box];rfl
   have HR2:=Lib.hid hr2;have hvl2:vl.length≤2:=HVL.out;have HIJ:=Lib.hid (HDW.out (wr.alloc (.cells xs.toArray 36)) n S vl[j].table hr2.at_ hr2.below HWX.out.2.2.1 (by have:=unseen_le S s.heap.cells;omega) hr2.room);have hi3:(0:Int)≤j:=by omega
   have hi4:(j:Int) < vl.length:=by omega
   clear hat hwf hxs hxa hr hr2 hnb8 s4 hsl2;generalize vl[j]=x at *;go_wp2_with (first
    |(refine jae rfl 36 (.tmp 15) rfl b' (o' + j * 35) rfl xs _ hat2 Tryz.underlying36 rfl s2 xa HXA.out ?_)
    |((with_reducible refine jab ?_);refine jaa rfl 36 (.tmp 2) (.tmp 16) rfl 36 _ rfl xs (by rw[HXA.out];rfl) (by rw[s3];rfl) s1 s2 ?_))
   refine HIJ.out.mono ?_;rintro e w6 ⟨rfl,n2,S2,g1,g2,g3,g4,g5⟩;have HN:=Lib.hid (HR2.out.step HMX.out (Nat.le_refl _) hle g1 g3 g4 g5);clear g1 g2 g3 g4 g5 q0 t2;go_wp2_with (fail);exact⟨⟨j + 1,by omega,by go_num,n2,S2,HN.out⟩,by simp[intOf];omega⟩
  ·obtain rfl:j=vl.length:=by omega
   have HF:=Lib.hid hr;clear hr;go_wp2_with (fail)
   (first|go_end0|(simp only[Exit.inBlock,Exit.then];refine bodyPost_ret (results_none rfl _ _ _) rfl ?_)|refine bodyPost_ret (results_none rfl _ _ _) rfl ?_)
   refine⟨rfl,w.heap.size,n,S,HF.out.at_,HF.out.box,fun x hx=>?_,Nat.le_refl _,HF.out.grown⟩;rw[HVE.out];exact HF.out.only x hx
theorem hasF_mid{w w2:World}{p q:Nat}{st:List Value}{s:Sto}{c:Value}(hl:st.length=113)(h:HasF w p q st (.int .u32 0) (.int .i32 1) c s w2):OnceMid p 113 w2:=by
 obtain⟨m,n,S,h1,_⟩:=h;have h2:jeu w2 p st _ _ _ _:=h1.row;obtain⟨e1,e2,_⟩:=jja hl h2;exact⟨⟨e1,e2⟩,jbi h2 _,jbi h2 _⟩
theorem hasF_end{w w2:World}{p q:Nat}{st:List Value}{s:Sto}{c:Value}(hl:st.length=113)(h:HasF w p q st (.int .u32 0) (.int .i32 1) c s w2):HasF w p q st (.int .u32 1) (.int .i32 0) c s (jgy p 113 w2):=by
 obtain⟨m,n,S,h1,hq,h3,h4,h5⟩:=h;have hr:jeu w2.drew p st _ _ _ _:=h1.row;have k1:=old_put hl hr 0 (.int .u32 1);have k2:=old_put (a:= .int .u32 1) hl k1 1 (.int .i32 0);have hg:w2.grownBy (jgy p 113 w2) (some p):=jap (jap (jec (World.grownBy.refl w2 (some p))) 113 (.int .u32 1)) 114 (.int .i32 0);exact⟨m,n,S,⟨k2,h1.map.grown hg (fun e=>h1.ne (by injection e with e;exact e.symm))⟩,(hg.block _ (lt_of_block hq) (fun e=>old_box hl (show jeu w2 p st _ _ _ _ from h1.row) hq (by injection e))).trans hq,h3,h4,jag h5 hg⟩
theorem has_first(w0 w:World)(p:Nat)(st:List Value)(s:Sto)(num:Int)(hv:StoV w0 (.agg st.toArray) s)(hlen:st.length=113)(hp0:w0.heap.size≤p)(hb0:Below w0.heap.size w0 w)(ho:openB s.heap=true)(hmax:s.heap.cells.length≤1073741824)(hnum:u32Ok num)
 (hp:jeu w p st (.int .u32 0) (.int .i32 0) (.int .u32 0) (.map none)):
 Calls Tryz.prog 65 #[.pointer (some ⟨p,0,none⟩), .int .u32 num] w fun e w'=>∃m n S,e= .returned (.bool (S num))∧OldAt w' p m n st (.int .u32 1) (.int .i32 0) (.int .u32 0) S∧(∀x,S x=true→∃t∈jbh s,Reach s.heap t.table x)∧w.heap.size≤m∧w.grownBy w' (some p):=by
 have hmf:∀(fn:Fn) (first cap:Array Value) (w:World),(Instr.makeFunc fn first cap).run Tryz.prog w= .ok (.func fn first cap) w:=fun _ _ _ _=>rfl
 have hlp:=lt_of_block hp;have hp1:jeu (w.alloc (.cells #[.pointer (some ⟨p,0,none⟩)] 123)) p st (.int .u32 0) (.int .i32 0) (.int .u32 0) (.map none):=(Lib.alloc_old w _ _ hlp).trans hp;have hq1:jhq (w.alloc (.cells #[.pointer (some ⟨p,0,none⟩)] 123)) w.heap.size p:=heap_alloc_new _ _;have hgr:w.grownBy (w.alloc (.cells #[.pointer (some ⟨p,0,none⟩)] 123)) (some p):=⟨rfl,rfl,rfl,by simp,fun k hk _=>Lib.alloc_old w _ k hk⟩
 have hb1:=hb0.alloc hb0.size (.cells #[.pointer (some ⟨p,0,none⟩)] 123);have x0:(w.alloc (.cells #[.pointer (some ⟨p,0,none⟩)] 123)).cell? ⟨w.heap.size,0,none⟩=some (.pointer (some ⟨p,0,none⟩)):=by rw[cell_of_row _ _ _ _ _ _ hq1];rfl
 obtain⟨wa,hwa⟩:∃wa,w.alloc (.cells #[.pointer (some ⟨p,0,none⟩)] 123)=wa:=⟨_,rfl⟩
 rw[hwa]at hp1 hq1 hgr x0 hb1;obtain⟨c2,c3,_⟩:=jja hlen hp1;have hset:=old_put hlen hp1 1 (.int .i32 1);have hgs:wa.grownBy (wa.setCell ⟨p,113 + 1,none⟩ (.int .i32 1)) (some p):=jap (World.grownBy.refl wa (some p)) 114 (.int .i32 1);have hqs:jhq (wa.setCell ⟨p,113 + 1,none⟩ (.int .i32 1)) w.heap.size p:=(hgs.block _ (lt_of_block hq1) (fun e=>old_box hlen hp1 hq1 (by injection e))).trans hq1;have hbs:=hb1.grown hgs hb1.size (fun k hk=>by cases hk;omega);have hdo:=jka p 113 120 #[.pointer (some ⟨w.heap.size,0,none⟩)] wa (HasF wa p w.heap.size st (.int .u32 0) (.int .i32 1) (.int .u32 0) s) (enters_of Tryz.func120 (by kernel_rfl) rfl) c2 c3 (jbi hp1 _)
  ((hasF_any w0 _ p w.heap.size st _ _ _ s hv hlen hp0 hbs ho hmax hset hqs).mono fun e w2 ⟨he,m,n,S,k1,k2,k3,k4,k5⟩=>⟨he,m,n,S,k1,k2,k3,by have:=hgs.size;omega,jag hgs k5⟩) (fun w2 h=>hasF_mid hlen h)
 have HDO:=Lib.hid hdo;have HW:=Lib.hid (And.intro hwa hgr);clear hdo hset hgs hqs c2 c3 hp hgr hbs hb1;go_enter Tryz.func65,Tryz.ntmps65;go_upto_region 1 with(fail);first|rw[hwa]|skip
 clear hwa;go_wp2_with (fail);refine HDO.out.mono ?_;rintro e w' ⟨rfl,w2,hw2,rfl⟩;have he:=hasF_end hlen hw2;generalize jgy p 113 w2=w3 at *;obtain⟨m,n,S,k1,k2,k3,k4,k5⟩:=he;have y0:w3.cell? ⟨w.heap.size,0,none⟩=some (.pointer (some ⟨p,0,none⟩)):=by rw[cell_of_row _ _ _ _ _ _ k2];rfl
 have y116:w3.cell? ⟨p,116,none⟩=some (.map (some m)):=(jja hlen (show jeu w3 p st _ _ _ _ from k1.row)).2.2;have hlook:=jmq k1.map hnum;have HF:=Lib.hid (And.intro k1 (And.intro k3 (And.intro k4 k5)));clear k1 k2 k3 k4 k5 hw2;go_wp2_with (fail);go_ret;exact⟨m,n,S,rfl,HF.out.1,HF.out.2.1,Nat.le_trans HW.out.2.size HF.out.2.2.1,jag HW.out.2 HF.out.2.2.2⟩
theorem has_done(w:World)(p m n:Nat)(st:List Value)(S:Int→Bool)(num:Int)(hlen:st.length=113)(hnum:u32Ok num)(hp:OldAt w p m n st (.int .u32 1) (.int .i32 0) (.int .u32 0) S):
 Calls Tryz.prog 65 #[.pointer (some ⟨p,0,none⟩), .int .u32 num] w fun e w'=>e= .returned (.bool (S num))∧Below w.heap.size w w':=by
 have hmf:∀(fn:Fn) (first cap:Array Value) (w:World),(Instr.makeFunc fn first cap).run Tryz.prog w= .ok (.func fn first cap) w:=fun _ _ _ _=>rfl
 have hp1:=hp.below ((Below.refl _ w).alloc (Nat.le_refl _) (.cells #[.pointer (some ⟨p,0,none⟩)] 123));have hq1:jhq (w.alloc (.cells #[.pointer (some ⟨p,0,none⟩)] 123)) w.heap.size p:=heap_alloc_new _ _;have hb1:=(Below.refl _ w).alloc (Nat.le_refl _) (.cells #[.pointer (some ⟨p,0,none⟩)] 123);have x0:(w.alloc (.cells #[.pointer (some ⟨p,0,none⟩)] 123)).cell? ⟨w.heap.size,0,none⟩=some (.pointer (some ⟨p,0,none⟩)):=by rw[cell_of_row _ _ _ _ _ _ hq1];rfl
 have c:=jja hlen (show jeu _ p st _ _ _ _ from hp1.row);have y116:=c.2.2;have hlook:=jmq hp1.map hnum;have HDO:=Lib.hid (onceDo_done ⟨p,113,none⟩ 1 (by decide) (.func (.func 120) #[] #[.pointer (some ⟨w.heap.size,0,none⟩)]) _ c.1);have HB:=Lib.hid hb1;clear hp1 hq1 hb1 c;go_enter Tryz.func65,Tryz.ntmps65;go_upto_region 1 with(fail);go_wp2_with (fail);refine HDO.out.mono ?_;rintro e w' ⟨rfl,rfl⟩;go_wp2_with (fail);go_ret;exact⟨rfl,HB.out⟩
end Go.Proofs.YtpaohkkhejpgjaaGreatDoor
