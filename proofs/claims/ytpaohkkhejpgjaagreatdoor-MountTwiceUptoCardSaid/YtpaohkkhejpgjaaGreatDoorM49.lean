/- Texts of the proof: W7 Zn Zo. -/
import Derived.Test.YtpaohkkhejpgjaaGreatDoorM27
import Derived.Test.YtpaohkkhejpgjaaGreatDoorM43
import Derived.Test.YtpaohkkhejpgjaaGreatDoorM38
import Derived.Test.YtpaohkkhejpgjaaGreatDoorM44
import Derived.Test.YtpaohkkhejpgjaaGreatDoorM48
set_option linter.all false
set_option maxRecDepth 100000
set_option maxHeartbeats 8000000
namespace Go.Proofs.YtpaohkkhejpgjaaGreatDoor
open Go Go.RowKit
def dev16:Dv:=⟨16,[],[],false, -1⟩
theorem jmj:Rdy dev16 0:=by
 refine⟨(jcq dev16).1 (by rfl),rfl,rfl,Nat.le_refl _⟩
theorem mount_16:jcz dev16=({noSto with dev:=dev16},9):=by
 have h0:jcm (readD dev16 0).1 (readD dev16 1).1=[]:=by
  rw[jmj.read (by decide),jmj.read (by decide)];have e0:readB dev16 0=ByteArray.empty:=rfl;have e1:readB dev16 1=ByteArray.empty:=rfl;rw[e0,e1];unfold jcm;rw[dec_empty];rfl
 unfold jcz;rw[(jcq _).2 jmj.ok,h0];rfl
theorem swap_4{nb:ByteArray}(hnb:NoneD nb){e:Dv}(h:Fmt nb e 16):swapS (sto1 nb e 16) ⟨16,[]⟩ (sto1 nb e 16).table=(sto1 nb e 16,4):=by
 have h1:jdm {sto1 nb e 16 with heap:=⟨16,[]⟩}=false:=by
  have h2:jdb ⟨16,[]⟩ (sto1 nb e 16).table=false:=rfl;unfold jdm;show(_ && (_ && (_ && (_ && (_ && (jdb ⟨16,[]⟩ (sto1 nb e 16).table && _))))))=false
  rw[h2];simp
 unfold swapS;rw[jjy hnb h,if_neg (by simp)];rw[if_pos h1]
def newD(size:Int):Dv:=⟨size,[],[],false, -1⟩
theorem newD_rdy{size:Int}(h:16≤size)(h2:size≤65536):Rdy (newD size) 0:=
 ⟨⟨h,h2,(by show 0≤16384;omega),(fun b hb=>(by cases hb)),(by show RiseB [];unfold RiseB;simp),(fun b hb=>(by cases hb))⟩,rfl,rfl,Nat.le_refl _⟩
theorem made_plain{size:Int}(h:16≤size)(h2:size≤65536):(jc1 (newD size)).2=0∧Fmt noneB (jc1 (newD size)).1 size∧jcz (jc1 (newD size)).1=(sto1 noneB (jc1 (newD size)).1 size,0):=by
 obtain⟨h1,h3⟩:=format_rdy (newD_rdy h h2) (by omega);exact⟨h1,h3,jmi jk1 h3⟩
theorem built_dev(a:Int):Tryz.prog.built 25 [(0, .int .u32 a),(4, .int .i64 (-1))]=some #[.int .u32 a, .slice none 0 0, .slice none 0 0, .bool false, .int .i64 (-1)]:=by kernel_rfl
theorem newD_v{w:World}{size:Int}(h:16≤size)(h2:size≤65536):DevV w (.agg #[.int .u32 size, .slice none 0 0, .slice none 0 0, .bool false, .int .i64 (-1)]) (newD size):=
 ⟨_,_,rfl,Sl.nil _,Sl.nil _,⟨by show 0≤size;omega,by show size≤4294967295;omega⟩,by show jho (-1);unfold jho;decide⟩
theorem made_any(w:World)(size:Int)(h:16≤size)(h2:size≤65536):
 Calls Tryz.prog 23 #[.int .u32 size] w fun e w'=>∃r,e= .returned (.tuple #[r, .bool true])∧StoV w' r (sto1 noneB (jc1 (newD size)).1 size)∧Below w.heap.size w w':=by
 have hn:=heap_alloc_new w (.cells zSto.toArray 42);have hb:=(Below.refl w.heap.size w).alloc (Nat.le_refl _) (.cells zSto.toArray 42);have HMP:=Lib.hid (made_plain h h2);go_enter Tryz.func23,Tryz.ntmps23;go_upto_region 1 with(fail);rw[←ji3];generalize w.alloc (.cells zSto.toArray 42)=wa at *;have H0:=Lib.hid (And.intro hn hb);have HFM:=Lib.hid (format_any wa _ (newD size) (newD_v h h2) (by show 0≤1073741824;omega) (by show 0≤1073741824;omega));clear hn hb;go_wp2_with ((with_reducible refine jar 25 ?_);refine jah rfl 25 _ rfl [(0, .int .u32 size),(4, .int .i64 (-1))] rfl _ (built_dev _) ?_);refine HFM.out.mono ?_;rintro e w1 ⟨r,rfl,hdv,hsm,hb1⟩;obtain⟨e1,e2,e3⟩:=HMP.out;rw[e1];obtain⟨bv,wv,rfl,hbs,hws,hsz,hfu⟩:=hdv;have HDV:=Lib.hid (show DevV w1 (.agg #[.int .u32 (jc1 (newD size)).1.size,bv,wv, .bool (jc1 (newD size)).1.down, .int .i64 (jc1 (newD size)).1.fuse]) (jc1 (newD size)).1 from⟨_,_,rfl,hbs,hws,hsz,hfu⟩);obtain⟨A,n,c,rfl⟩:=jax hbs;obtain⟨A2,n2,c2,rfl⟩:=jax hws;have HSM:=Lib.hid hsm;have HM:=Lib.hid e3;have h0:=(hb1.block _ (lt_of_block H0.out.1)).trans H0.out.1;have H1:=Lib.hid (And.intro h0 (H0.out.2.trans (hb1.mono H0.out.2.size)));clear e1 e2 e3 hbs hws hsz hfu hsm h0 hb1 HFM;generalize hdd:(jc1 (newD size)).1=d at *;have hn2:=heap_alloc_new w1 (.cells #[.int .u32 d.size, .slice A n c, .slice A2 n2 c2, .bool d.down, .int .i64 d.fuse] 25)
 have hb2:=(Below.refl w1.heap.size w1).alloc (Nat.le_refl _) (.cells #[.int .u32 d.size, .slice A n c, .slice A2 n2 c2, .bool d.down, .int .i64 d.fuse] 25);have HM2:=Lib.hid (jg7 _ _ d (HDV.out.below hb2 (Nat.le_refl _)) (by have:=HSM.out.1;omega) (by have:=HSM.out.2;omega));have HDD:=Lib.hid hdd;clear hdd;have hone:∀u∈([.int .u32 d.size, .slice A n c, .slice A2 n2 c2, .bool d.down, .int .i64 d.fuse]:List Value),u.oneCell'=true:=by
  intro u hu;simp at hu;rcases hu with rfl|rfl|rfl|rfl|rfl <;>rfl
 have HON:=Lib.hid hone;clear hone;go_upto_region 2 with((with_reducible refine jab ?_);refine jaa rfl 25 (.tmp 4) (.tmp 12) rfl 25 _ rfl [.int .u32 d.size, .slice A n c, .slice A2 n2 c2, .bool d.down, .int .i64 d.fuse] rfl rfl HON.out jbz ?_);generalize w1.alloc (.cells #[.int .u32 d.size, .slice A n c, .slice A2 n2 c2, .bool d.down, .int .i64 d.fuse] 25)=w2 at *;have y0:w2.cell? ⟨w1.heap.size,0,none⟩=some (.int .u32 d.size):=by rw[cell_of_row _ _ _ _ _ _ hn2];rfl
 have y1:w2.cell? ⟨w1.heap.size,1,none⟩=some (.slice A n c):=by rw[cell_of_row _ _ _ _ _ _ hn2];rfl
 have y2:w2.cell? ⟨w1.heap.size,2,none⟩=some (.slice A2 n2 c2):=by rw[cell_of_row _ _ _ _ _ _ hn2];rfl
 have y3:w2.cell? ⟨w1.heap.size,3,none⟩=some (.bool d.down):=by rw[cell_of_row _ _ _ _ _ _ hn2];rfl
 have y4:w2.cell? ⟨w1.heap.size,4,none⟩=some (.int .i64 d.fuse):=by rw[cell_of_row _ _ _ _ _ _ hn2];rfl
 have H2:=Lib.hid (And.intro ((hb2.block _ (lt_of_block H1.out.1)).trans H1.out.1) (H1.out.2.trans (hb2.mono H1.out.2.size)));clear hn2 hb2;go_wp2_with (fail);refine HM2.out.mono ?_;rintro e w3 ⟨r,rfl,hsv,hb3⟩;rw[HM.out]at hsv ⊢;obtain⟨st,rfl,hlen,hon,hnc⟩:=jcf hsv;have hsi:(Tryz.prog.info? 42).map (·.size)=some st.length:=by rw[hlen];exact ja6
 have h03:=(hb3.block _ (lt_of_block H2.out.1)).trans H2.out.1;have hn4:=heap_alloc_new w3 (.cells st.toArray 42);have hb4:=(Below.refl w3.heap.size w3).alloc (Nat.le_refl _) (.cells st.toArray 42);have H4:=Lib.hid (And.intro ((hb4.block _ (lt_of_block h03)).trans h03) (And.intro (hsv.below hb4 (Nat.le_refl _)) ((H2.out.2.trans (hb3.mono H2.out.2.size)).trans (hb4.mono (Nat.le_trans H2.out.2.size hb3.size)))));obtain⟨sa,hsa⟩:∃sa,st.toArray=sa:=⟨_,rfl⟩
 have HSA:=Lib.hid hsa;rw[hsa];have HLN:=Lib.hid hlen;clear hsv hb3 hb4 h03 hsa y0 y1 y2 y3 y4;go_upto_region 3 with((with_reducible refine jab ?_);refine jaa rfl 42 (.tmp 6) (.tmp 17) rfl 42 _ rfl st (by rw[HSA.out];rfl) (by rw[HLN.out];rfl) hon hsi ?_);generalize w3.alloc (.cells st.toArray 42)=w4 at *;have hats:At w4 w3.heap.size 0 st:=fun j hj=>by
  rw[cell_of_row _ _ _ _ _ _ hn4,Nat.zero_add];simp[hj]
 have h0:=H4.out.1;clear hn4;go_wp2_with (first
  |(refine jae rfl 42 (.tmp 6) rfl w3.heap.size 0 rfl st _ hats Tryz.underlying42 rfl hsi sa HSA.out ?_)
  |((with_reducible refine jab ?_);refine jaf rfl 42 _ _ rfl w.heap.size 0 rfl st (by rw[HSA.out];rfl) 42 _ h0 (by rw[HLN.out];exact Nat.le_refl 113) hon hsi ?_))
 rw[show List.drop 113 zSto=[]from rfl,List.append_nil];refine bodyPost_ret (jb7 rfl _ w.heap.size st HLN.out (0,0) _ rfl (jad _ _ _ _ _ h0)) rfl ⟨.agg st.toArray,rfl,?_,ja8 H4.out.2.2 (Nat.le_refl _)⟩;rw[HDD.out];exact H4.out.2.1.keepN h0 jhk jdd
theorem built_heap16:Tryz.prog.built 32 [(0, .int .u32 16)]=some #[.int .u32 16, .slice none 0 0]:=by kernel_rfl
theorem built_bools(a b:Bool):Tryz.prog.built 38 [(0, .bool a),(1, .bool b)]=some #[.bool a, .bool b]:=by kernel_rfl
theorem jmv{w:World}{v:Value}{s:Sto}(h:StoV w v s)(hc:jdm s=true):DevSm s.dev:=by
 obtain⟨_,_,_,_,⟨_,_,_,hb,_⟩,_⟩:=h;exact jgl ((jcq _).1 (jmt hc).1) (sl_wfY hb)
structure BoxS(w u:World)(b:Nat)(st:List Value)(s:Sto):Prop where
 below:Below w.heap.size w u
 row:u.heap[b]? =some (.cells st.toArray 42 (0,0))
 sto:StoV u (.agg st.toArray) s
theorem BoxS.pure{w u u':World}{b:Nat}{st:List Value}{s:Sto}(h:BoxS w u b st s)(hb:Below u.heap.size u u'):BoxS w u' b st s:=
 ⟨h.below.trans (hb.mono h.below.size),(hb.block _ (lt_of_block h.row)).trans h.row,h.sto.below hb (Nat.le_refl _)⟩
theorem BoxS.new{w u:World}{st:List Value}{s:Sto}(hb:Below w.heap.size w u)(h:StoV u (.agg st.toArray) s):BoxS w (u.alloc (.cells st.toArray 42)) u.heap.size st s:=
 ⟨hb.alloc hb.size _,heap_alloc_new _ _,h.below ((Below.refl _ u).alloc (Nat.le_refl _) _) (Nat.le_refl _)⟩
theorem BoxS.at{w u:World}{b:Nat}{st:List Value}{s:Sto}(h:BoxS w u b st s):At u b 0 st:=fun j hj=>by
 rw[cell_of_row _ _ _ _ _ _ h.row,Nat.zero_add];simp[hj]
theorem BoxS.parts{w u:World}{b:Nat}{st:List Value}{s:Sto}(h:BoxS w u b st s):∃bv wv A c,u.cell? ⟨b,0,none⟩=some (.int .u32 s.dev.size)∧u.cell? ⟨b,1,none⟩=some bv∧u.cell? ⟨b,2,none⟩=some wv∧u.cell? ⟨b,3,none⟩=some (.bool s.dev.down)∧u.cell? ⟨b,4,none⟩=some (.int .i64 s.dev.fuse)∧
 u.cell? ⟨b,6,none⟩=some (.slice A s.heap.cells.length c)∧At u b 7 (supA s.s0).toList∧At u b 42 (supA s.s1).toList∧At u b 77 [.bool s.v0, .bool s.v1]∧At u b 79 (kidE.enc s.table)∧DevV u (jck s.dev bv wv) s.dev∧kidE.wf s.table:=by
 obtain⟨_,hr,bv,wv,cv,e,h1,h2,h3,h4,h5⟩:=h;have hst:st=stoL (devL s.dev bv wv) [.int .u32 s.heap.size,cv] (supA s.s0).toList (supA s.s1).toList [.bool s.v0, .bool s.v1] (kidE.enc s.table):=by
  injection e with e;have:=congrArg Array.toList e;simpa using this
 obtain⟨c',ec,hsl,_⟩:=h2;simp only[Value.agg.injEq,Array.mk.injEq,List.cons.injEq,and_true,true_and]at ec;subst ec;obtain⟨A,c,rfl,_⟩:=hsl;rw[hst]at hr;have hs:=jcr hr (ja4 h3 h4 h5);exact⟨bv,wv,A,c,hs.1.cell 0 _ rfl,hs.1.cell 1 _ rfl,hs.1.cell 2 _ rfl,hs.1.cell 3 _ rfl,hs.1.cell 4 _ rfl,hs.2.1.cell 1 _ rfl,hs.2.2.1,hs.2.2.2.1,hs.2.2.2.2.1,hs.2.2.2.2.2,h1,h5⟩
theorem lives_any(w:World):Calls Tryz.prog 15 #[] w fun e w'=>e= .returned (.bool true)∧Below w.heap.size w w':=by
 have HMA:=Lib.hid (made_any w 16 (by decide) (by decide));have hfm:=(made_plain (size:=16) (by decide) (by decide)).2.1;obtain⟨e0,he0⟩:∃e0,(jc1 (newD 16)).1=e0:=⟨_,rfl⟩
 rw[he0]at HMA hfm;have HFM:=Lib.hid hfm;clear he0 hfm;have HNV:=Lib.hid (show validAt (sto1 noneB e0 16) (slotS (ja1 (sto1 noneB e0 16)))=false from rfl);go_enter Tryz.func15,Tryz.ntmps15;go_wp2_with (fail);refine HMA.out.mono ?_;rintro e w1 ⟨r,rfl,hsv,hb1⟩;have HSM:=Lib.hid (jmv hsv (jjy jk1 HFM.out));have HBW1:=Lib.hid hb1;clear hb1;obtain⟨s1,rfl,hl1,ho1,_⟩:=jcf hsv;have hsi1:(Tryz.prog.info? 42).map (·.size)=some s1.length:=by rw[hl1];exact ja6
 have HB1:=Lib.hid (BoxS.new (w:=w) HBW1.out hsv);have hbn1:=(Below.refl w1.heap.size w1).alloc (Nat.le_refl _) (.cells s1.toArray 42);obtain⟨a1,ha1⟩:∃a1,s1.toArray=a1:=⟨_,rfl⟩
 have HA1:=Lib.hid ha1;rw[ha1];have HL1:=Lib.hid hl1;clear hsv ha1 hl1;go_upto_region 2 with((with_reducible refine jab ?_);refine jaa rfl 42 (.tmp 1) (.tmp 13) rfl 42 _ rfl s1 (by rw[HA1.out];rfl) (by rw[HL1.out];rfl) ho1 hsi1 ?_);generalize w1.alloc (.cells s1.toArray 42)=w2 at *;generalize w1.heap.size=b1 at *;have hat:=HB1.out.at;have HCO:=Lib.hid (commit_any w2 _ (sto1 noneB e0 16) HB1.out.sto (Nat.le_trans HSM.out.1 (by decide)) (Nat.le_trans HSM.out.2 (by decide)) (by show 1≤1073741824;decide));rw[HA1.out]at HCO;clear hbn1;try simp only[Act.put]
 go_wp2_with (refine jae rfl 42 (.tmp 1) rfl b1 0 rfl s1 _ hat Tryz.underlying42 rfl hsi1 a1 HA1.out ?_);refine HCO.out.mono ?_;rintro e w3 ⟨H,_,r,rfl,hsv,hb3⟩;obtain⟨f,hf1,hf2⟩:=commit_new jk1 HFM.out H;rw[hf1]at hsv ⊢;have HF2:=Lib.hid hf2;have HSM2:=Lib.hid (jmv hsv (by have h9:=jh5 f (by rw[hf2]);rw[hf2]at h9;exact h9.1));have HB11:=Lib.hid (HB1.out.pure hb3);have HBW2:=Lib.hid HB11.out.below;clear hat hf1 hf2 hb3 HCO;obtain⟨s2,rfl,hl2,ho2,_⟩:=jcf hsv;have hsi2:(Tryz.prog.info? 42).map (·.size)=some s2.length:=by rw[hl2];exact ja6
 have HB2:=Lib.hid (BoxS.new (w:=w) HBW2.out hsv);have hbn2:=(Below.refl w3.heap.size w3).alloc (Nat.le_refl _) (.cells s2.toArray 42);obtain⟨a2,ha2⟩:∃a2,s2.toArray=a2:=⟨_,rfl⟩
 have HA2:=Lib.hid ha2;rw[ha2];have HL2:=Lib.hid hl2;clear hsv ha2 hl2;go_upto_region 3 with((with_reducible refine jab ?_);refine jaa rfl 42 (.tmp 3) (.tmp 18) rfl 42 _ rfl s2 (by rw[HA2.out];rfl) (by rw[HL2.out];rfl) ho2 hsi2 ?_);have HB12:=Lib.hid (HB11.out.pure hbn2);generalize w3.alloc (.cells s2.toArray 42)=w4 at *;generalize w3.heap.size=b2 at *;obtain⟨bv,wv,_,_,x0,x1,x2,x3,x4,_,_,_,_,_,hdv,_⟩:=HB2.out.parts;have HMO:=Lib.hid (jg7 w4 _ f hdv (Nat.le_trans HSM2.out.1 (by decide)) (Nat.le_trans HSM2.out.2 (by decide)));rw[show jck (sto2 noneB f 16).dev bv wv= .agg #[.int .u32 f.size,bv,wv, .bool f.down, .int .i64 f.fuse]from rfl]at HMO;rw[HF2.out]at HMO;have x0:w4.cell? ⟨b2,0,none⟩=some (.int .u32 f.size):=x0;have x3:w4.cell? ⟨b2,3,none⟩=some (.bool f.down):=x3;have x4:w4.cell? ⟨b2,4,none⟩=some (.int .i64 f.fuse):=x4;clear hdv hbn2;try simp only[Act.put]
 go_wp2_with (fail);refine HMO.out.mono ?_;rintro e w5 ⟨r,rfl,hsv,hb5⟩;have HB13:=Lib.hid (HB12.out.pure hb5);have HB22:=Lib.hid (HB2.out.pure hb5);have HBW3:=Lib.hid HB13.out.below;clear x0 x1 x2 x3 x4 hb5 HMO;obtain⟨s3,rfl,hl3,ho3,_⟩:=jcf hsv;have hsi3:(Tryz.prog.info? 42).map (·.size)=some s3.length:=by rw[hl3];exact ja6
 have HB3:=Lib.hid (BoxS.new (w:=w) HBW3.out hsv);have hbn3:=(Below.refl w5.heap.size w5).alloc (Nat.le_refl _) (.cells s3.toArray 42);obtain⟨a3,ha3⟩:∃a3,s3.toArray=a3:=⟨_,rfl⟩
 have HA3:=Lib.hid ha3;rw[ha3];have HL3:=Lib.hid hl3;clear hsv ha3 hl3;go_upto_region 4 with((with_reducible refine jab ?_);refine jaa rfl 42 (.tmp 5) (.tmp 24) rfl 42 _ rfl s3 (by rw[HA3.out];rfl) (by rw[HL3.out];rfl) ho3 hsi3 ?_);have HB14:=Lib.hid (HB13.out.pure hbn3);have HB23:=Lib.hid (HB22.out.pure hbn3);generalize w5.alloc (.cells s3.toArray 42)=w6 at *;generalize w5.heap.size=b3 at *;have HM16:=Lib.hid (jg7 w6 _ (newD 16) (newD_v (by decide) (by decide)) (by show 0≤1073741824;decide) (by show 0≤1073741824;decide));rw[show jcz (newD 16)=({noSto with dev:=dev16},9)from mount_16]at HM16;clear hbn3;try simp only[Act.put]
 go_wp2_with ((with_reducible refine jar 25 ?_);refine jah rfl 25 _ rfl [(0, .int .u32 16),(4, .int .i64 (-1))] rfl _ (built_dev _) ?_);refine HM16.out.mono ?_;rintro e w7 ⟨r,rfl,hsv,hb7⟩;have HB15:=Lib.hid (HB14.out.pure hb7);have HB24:=Lib.hid (HB23.out.pure hb7);have HB34:=Lib.hid (HB3.out.pure hb7);have HBW4:=Lib.hid HB15.out.below;clear hb7 HM16;obtain⟨s4,rfl,hl4,ho4,_⟩:=jcf hsv;have hsi4:(Tryz.prog.info? 42).map (·.size)=some s4.length:=by rw[hl4];exact ja6
 have HB4:=Lib.hid (BoxS.new (w:=w) HBW4.out hsv);have hbn4:=(Below.refl w7.heap.size w7).alloc (Nat.le_refl _) (.cells s4.toArray 42);obtain⟨a4,ha4⟩:∃a4,s4.toArray=a4:=⟨_,rfl⟩
 have HA4:=Lib.hid ha4;rw[ha4];have HL4:=Lib.hid hl4;clear hsv ha4 hl4;go_upto_region 5 with((with_reducible refine jab ?_);refine jaa rfl 42 (.tmp 7) (.tmp 29) rfl 42 _ rfl s4 (by rw[HA4.out];rfl) (by rw[HL4.out];rfl) ho4 hsi4 ?_);have HB16:=Lib.hid (HB15.out.pure hbn4);have HB25:=Lib.hid (HB24.out.pure hbn4);have HB35:=Lib.hid (HB34.out.pure hbn4);generalize w7.alloc (.cells s4.toArray 42)=w8 at *;generalize w7.heap.size=b4 at *;obtain⟨_,_,_,_,_,_,_,_,_,_,_,_,_,hatk,_,hkw⟩:=HB16.out.parts;have hat:=HB16.out.at;have hkl:=jc7 _ hkw;have HSW:=Lib.hid (swap_any w8 _ _ (sto1 noneB e0 16) ⟨16,[]⟩ (sto1 noneB e0 16).table HB16.out.sto (show HeapV w8 (.agg #[.int .u32 16, .slice none 0 0]) ⟨16,[]⟩from⟨_,rfl,Sl.nil _,by show u32Ok 16;unfold u32Ok;decide⟩) hkw (Nat.le_trans HSM.out.1 (by decide)) (Nat.le_trans HSM.out.2 (by decide)) (by show 1≤1073741824;decide) (by show 0≤1073741824;decide));rw[swap_4 jk1 HFM.out,HA1.out]at HSW;obtain⟨kc,hkc⟩:∃kc,kidE.enc (sto1 noneB e0 16).table=kc:=⟨_,rfl⟩
 rw[hkc]at hatk hkl HSW;obtain⟨ka,hka⟩:∃ka,kc.toArray=ka:=⟨_,rfl⟩
 rw[hka]at HSW;have HKA:=Lib.hid hka;clear hkc hka hbn4 hkw;try simp only[Act.put]
 go_wp2_with (first
  |(refine jae rfl 42 (.tmp 1) rfl b1 0 rfl s1 _ hat Tryz.underlying42 rfl hsi1 a1 HA1.out ?_)
  |(refine jae rfl 40 (.tmp 34) rfl b1 79 rfl kc _ hatk Tryz.underlying40 rfl hkl ka HKA.out ?_)
  |((with_reducible refine jar 32 ?_);refine jah rfl 32 _ rfl [(0, .int .u32 16)] rfl _ built_heap16 ?_))
 refine HSW.out.mono ?_;rintro e w9 ⟨r,rfl,hsv,hb9⟩;have HB17:=Lib.hid (HB16.out.pure hb9);have HB26:=Lib.hid (HB25.out.pure hb9);have HB36:=Lib.hid (HB35.out.pure hb9);have HBW5:=Lib.hid HB17.out.below;clear hb9 HSW hat hatk hkl;obtain⟨s5,rfl,hl5,ho5,_⟩:=jcf hsv;have hsi5:(Tryz.prog.info? 42).map (·.size)=some s5.length:=by rw[hl5];exact ja6
 have HB5:=Lib.hid (BoxS.new (w:=w) HBW5.out hsv);have hbn5:=(Below.refl w9.heap.size w9).alloc (Nat.le_refl _) (.cells s5.toArray 42);obtain⟨a5,ha5⟩:∃a5,s5.toArray=a5:=⟨_,rfl⟩
 have HA5:=Lib.hid ha5;rw[ha5];have HL5:=Lib.hid hl5;clear hsv ha5 hl5;go_upto_region 6 with((with_reducible refine jab ?_);refine jaa rfl 42 (.tmp 9) (.tmp 37) rfl 42 _ rfl s5 (by rw[HA5.out];rfl) (by rw[HL5.out];rfl) ho5 hsi5 ?_);have HB18:=Lib.hid (HB17.out.pure hbn5);have HB27:=Lib.hid (HB26.out.pure hbn5);have HB37:=Lib.hid (HB36.out.pure hbn5);generalize w9.alloc (.cells s5.toArray 42)=wa at *;generalize w9.heap.size=b5 at *;clear hbn5;try simp only[Act.put]
 obtain⟨_,_,A1,c1,_,_,_,_,_,p6,_,p42,p77,_,_,_⟩:=HB18.out.parts;obtain⟨_,_,_,_,_,_,_,_,_,_,r7,_,r77,_,_,_⟩:=HB27.out.parts;have x6:wa.cell? ⟨b1,6,none⟩=some (.slice A1 1 c1):=p6;have x43:wa.cell? ⟨b1,43,none⟩=some (.int .u64 1):=p42.cell 1 (.int .u64 1) rfl;have y8:wa.cell? ⟨b2,8,none⟩=some (.int .u64 2):=r7.cell 1 (.int .u64 2) rfl;have y77:wa.cell? ⟨b2,77,none⟩=some (.bool true):=r77.cell 0 (.bool true) rfl;have p77:At wa b1 77 [.bool false, .bool true]:=p77;have at2:=HB27.out.at;have at3:=HB37.out.at;have f6:=fun g:Grown wa=>g.fact x6
 have f43:=fun g:Grown wa=>g.fact x43
 have f8:=fun g:Grown wa=>g.fact y8
 have f77:=fun g:Grown wa=>g.fact y77
 have l1:∀g:Grown wa,(loadVar 38 ⟨b1,77,none⟩).run Tryz.prog g.val= .ok (.agg #[.bool false, .bool true]) g.val:=fun g=>jas (P:=Tryz.prog) g.val b1 77 38 [.bool false, .bool true] _ (p77.below g.prop (Nat.le_refl _)) Tryz.underlying38 rfl jj2
 have l2:=fun g:Grown wa=>jas (P:=Tryz.prog) g.val b2 0 42 s2 _ (at2.below g.prop (Nat.le_refl _)) Tryz.underlying42 rfl hsi2
 have l3:=fun g:Grown wa=>jas (P:=Tryz.prog) g.val b3 0 42 s3 _ (at3.below g.prop (Nat.le_refl _)) Tryz.underlying42 rfl hsi3
 have HSA:=Lib.hid (fun g:Grown wa=>ssame_any g.val _ _ (sto2 noneB f 16) (HB27.out.sto.below g.prop (Nat.le_refl _)) (HB37.out.sto.below g.prop (Nat.le_refl _)) (Nat.le_trans HSM2.out.1 (by decide)) (Nat.le_trans HSM2.out.2 (by decide)) (by show 1≤1073741824;decide));rw[HA2.out]at l2 HSA;rw[HA3.out]at l3 HSA;have HBQ:=Lib.hid (fun g:World=>bools_eq false true false true g);clear x6 x43 y8 y77 p6 p42 p77 r7 r77 at2 at3;refine jbf ?_;iterate 10 (
  with_reducible refine wpQuiet_step (fun K hK=>?_)
  go_simp;generalize hZ:(Act.mk _ _:Act)=zz;refine hK _ ?_;subst hZ;clear hK K)
 refine wpQuiet_step (fun K hK=>?_);refine jal 38 (.tmp 48) rfl ⟨b1,77,none⟩ rfl (.agg #[.bool false, .bool true]) l1 ?_;generalize hZ:(Act.put _ _ _:Act)=zz;refine hK _ ?_;subst hZ;clear hK K;refine wpQuiet_step (fun K hK=>?_);refine jkl 38 _ rfl [(0, .bool false),(1, .bool true)] rfl _ (built_bools _ _) ?_;generalize hZ:(Act.put _ _ _:Act)=zz;refine hK _ ?_;subst hZ;clear hK K;refine wpQuiet_step (fun K hK=>?_);refine jfq 38 38 (.tmp 49) (.tmp 50) rfl #[.bool false, .bool true] #[.bool false, .bool true] rfl rfl jmu true HBQ.out ?_;generalize hZ:(Act.put _ _ _:Act)=zz;refine hK _ ?_;subst hZ;clear hK K;iterate 29 (
  with_reducible refine wpQuiet_step (fun K hK=>?_)
  go_simp;generalize hZ:(Act.mk _ _:Act)=zz;refine hK _ ?_;subst hZ;clear hK K)
 refine wpQuiet_step (fun K hK=>?_);refine jal 42 (.tmp 3) rfl ⟨b2,0,none⟩ rfl (.agg a2) l2 ?_;generalize hZ:(Act.put _ _ _:Act)=zz;refine hK _ ?_;subst hZ;clear hK K;refine wpQuiet_step (fun K hK=>?_);refine jal 42 (.tmp 5) rfl ⟨b3,0,none⟩ rfl (.agg a3) l3 ?_;generalize hZ:(Act.put _ _ _:Act)=zz;refine hK _ ?_;subst hZ;clear hK K;with_reducible refine wpQuiet_step (fun K hK=>?_)
 go_simp;apply Exists.intro;refine⟨fun g=>?_,hK _ ?_⟩
 ·go_at_call 17;refine(HSA.out g).mono ?_;rintro e wk ⟨rfl,hbk⟩;exact⟨rfl,⟨wk,g.prop.trans (hbk.mono g.prop.size)⟩,rfl⟩
 clear hK K;iterate 10 (
  with_reducible refine wpQuiet_step (fun K hK=>?_)
  go_simp;generalize hZ:(Act.mk _ _:Act)=zz;refine hK _ ?_;subst hZ;clear hK K)
 refine wpQuiet_nil ?_;intro _ hwq;obtain⟨wq,hwq⟩:=hwq;subst hwq;have hq:=wq.prop;go_wp2_with (fail);go_ret;exact⟨rfl,HB18.out.below.trans (hq.mono HB18.out.below.size)⟩
end Go.Proofs.YtpaohkkhejpgjaaGreatDoor
