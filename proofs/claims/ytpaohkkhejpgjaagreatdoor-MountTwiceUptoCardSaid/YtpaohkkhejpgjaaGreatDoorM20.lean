/- Texts of the proof: Cl Vo Vw Vx. -/
import Derived.Test.YtpaohkkhejpgjaaGreatDoorM19
import Derived.Laws.Cover3
import Derived.Test.YtpaohkkhejpgjaaGreatDoorM17
import Derived.Deep.RegionWith
set_option linter.all false
set_option maxRecDepth 100000
set_option maxHeartbeats 8000000
namespace Go.Proofs.YtpaohkkhejpgjaaGreatDoor
open Go Go.RowKit
theorem row_flat{α:Type}{E:Enc α}{w:World}{b o:Nat}{xs:List α}(h:Row E w (some ⟨b,o,none⟩) xs)(j:Nat)(u:Value)(hu:(xs.flatMap E.enc)[j]? =some u):w.cell? ⟨b,o + j,none⟩=some u:=by
 have hw:=h.wf;have hp:=E.pos;have hl:j < xs.length * E.sz:=by
  rw[←jbb E xs hw];exact(List.getElem?_eq_some_iff.1 hu).1
 have hk:j / E.sz < xs.length:=Nat.div_lt_of_lt_mul (by rw[Nat.mul_comm];exact hl);have hi:j % E.sz < E.sz:=Nat.mod_lt _ hp;have hg:=jfg E xs hw (j / E.sz) hk (j % E.sz) hi;have hj:j / E.sz * E.sz + j % E.sz=j:=by rw[Nat.mul_comm];exact Nat.div_add_mod j E.sz
 rw[hj]at hg;rw[hg]at hu;have:=(h.at_ (j / E.sz) hk).cell (j % E.sz) u hu;rw[Nat.add_assoc,hj]at this;exact this
theorem jf9(w:World)(t e:TypeId)(a:Option Addr)(l c:Nat)(h:Tryz.prog.underlying t=some (.slice e)):(binOp .eql t (.slice a l c) (.slice none 0 0)).run Tryz.prog w= .ok (.bool a.isNone) w:=by
 simp[binOp,run_equal_slice_nil w t e a l c h]
theorem sl_cel_keep{w w':World}{g:Nat}{x:Int}{A:Option Addr}{n c:Nat}{t:TypeId}{fr:Nat×Nat}(hg:w.heap[g]? =some (.cells #[.int .u32 x, .slice A n c] t fr))(hk:∀b,b < w.heap.size→b≠g→w'.heap[b]? =w.heap[b]?){v:Value}{cs:List Cel}(hs:Sl celE w v cs):Sl celE w' v cs:=by
 obtain⟨A',cp,e,h1,h2,h3⟩:=hs;refine⟨A',cp,e,h1,h2,fun k hk'=>?_⟩;obtain⟨b,o,eA,hat,hwf⟩:=h3 k hk';have c0:=hat.cell 0 (.int .u32 cs[k].num) rfl;have c1:=hat.cell 1 (.string cs[k].data) rfl;refine⟨b,o,eA,hat.heap (hk b (block_lt_of_cell c0) fun e=>?_),hwf⟩;subst e;rw[cell_of_row _ _ _ _ _ _ hg]at c0 c1;generalize o + k * celE.sz=i at c0 c1
 match i with
 |0=>simp at c1
 |1=>simp at c0
 |i + 2=>simp at c0
theorem jkh(w:World)(v:Value)(xs:List Blk)(hv:Sl blkE w v xs)(hmax:xs.length≤1073741824):
 Calls Tryz.prog 92 #[v] w fun e w'=>∃r,e= .returned r∧w'.ownsRow w.heap.size 160 2 r xs.length (xs.flatMap blkE.enc)∧Below w.heap.size w w':=by
 obtain⟨i0,z0,hi,hz0,hz1,hz2,hzs⟩:=jbw jiw;obtain⟨A,c,rfl,hc1,hc2,hrow⟩:=hv;have HR:=Lib.hid hrow;cases A with
 |none=>
  have hx:xs=[]:=by
   cases xs with
   |nil=>rfl
   |cons x r=>obtain⟨b,o,e,_⟩:=hrow 0 (by simp);cases e
  subst hx;clear hrow;have hnil:=jf9 w 23 160 none 0 c Tryz.underlying23;go_enter Tryz.func92,Tryz.ntmps92;go_wp2_with (fail);go_ret;exact⟨_,rfl,World.ownsRow_nil _ _ _ _,Below.refl _ _⟩
 |some a=>
  clear hrow;have hnil:=jf9 w 23 160 (some a) xs.length c Tryz.underlying23;go_enter Tryz.func92,Tryz.ntmps92;have hfl:=jbb blkE xs HR.out.wf;have HN:=Lib.hid (show ∀j u,(xs.flatMap blkE.enc)[j]? =some u→(w.alloc (.cells #[] 160)).cell? (a.add j)=some u from by
   intro j u hj;have hne:xs≠[]:=by intro e;subst e;simp at hj
   obtain⟨b,o,e,hlt⟩:=HR.out.addr hne;injection e with e;subst e;rw[jcl];have:=row_flat HR.out j u hj;exact(World.cell?_of_block (Lib.alloc_old w _ b hlt)).trans this)
  have HF:=Lib.hid (And.intro hfl (jh8 blkE xs HR.out.wf));clear hfl;go_wp2_with (at_builtin;refine wpList_append_own _ rfl (.tmp 5) (.tmp 6) 23 rfl w.heap.size 160 i0 z0 2 24 Tryz.underlying23 hi hz0 hz1 hz2 hzs (by decide) _ 0 [] rfl (World.ownsRow_made w #[] 0 (Nat.le_refl _) (by unfold maxLen;omega) rfl) a xs.length c (xs.flatMap blkE.enc) rfl HF.out.1 HN.out HF.out.2 (by unfold maxLen;omega) (by omega) (by simp) ?_;intro v' w2 hown hgrow _);go_ret;exact⟨_,rfl,by have h9:=hown;simp only[Nat.zero_add,List.nil_append]at h9;exact h9,(jfs w _).grown hgrow (by simp) (fun q hq=>Nat.le_of_eq (Option.some.inj (hq:some w.heap.size=some q)))⟩
theorem jix(w:World)(v:Value)(xs:List Cel)(hv:Sl celE w v xs)(hmax:xs.length≤1073741824):
 Calls Tryz.prog 44 #[v] w fun e w'=>∃r,e= .returned r∧w'.ownsRow w.heap.size 91 3 r xs.length (xs.flatMap celE.enc)∧Below w.heap.size w w':=by
 obtain⟨i0,z0,hi,hz0,hz1,hz2,hzs⟩:=jbw jks;obtain⟨A,c,rfl,hc1,hc2,hrow⟩:=hv;have HR:=Lib.hid hrow;cases A with
 |none=>
  have hx:xs=[]:=by
   cases xs with
   |nil=>rfl
   |cons x r=>obtain⟨b,o,e,_⟩:=hrow 0 (by simp);cases e
  subst hx;clear hrow;have hnil:=jf9 w 30 91 none 0 c Tryz.underlying30;go_enter Tryz.func44,Tryz.ntmps44;go_wp2_with (fail);go_ret;exact⟨_,rfl,World.ownsRow_nil _ _ _ _,Below.refl _ _⟩
 |some a=>
  clear hrow;have hnil:=jf9 w 30 91 (some a) xs.length c Tryz.underlying30;go_enter Tryz.func44,Tryz.ntmps44;have hfl:=jbb celE xs HR.out.wf;have HN:=Lib.hid (show ∀j u,(xs.flatMap celE.enc)[j]? =some u→(w.alloc (.cells #[] 91)).cell? (a.add j)=some u from by
   intro j u hj;have hne:xs≠[]:=by intro e;subst e;simp at hj
   obtain⟨b,o,e,hlt⟩:=HR.out.addr hne;injection e with e;subst e;rw[jcl];have:=row_flat HR.out j u hj;exact(World.cell?_of_block (Lib.alloc_old w _ b hlt)).trans this)
  have HF:=Lib.hid (And.intro hfl (jh8 celE xs HR.out.wf));clear hfl;go_wp2_with (at_builtin;refine wpList_append_own _ rfl (.tmp 5) (.tmp 6) 30 rfl w.heap.size 91 i0 z0 3 32 Tryz.underlying30 hi hz0 hz1 hz2 hzs (by decide) _ 0 [] rfl (World.ownsRow_made w #[] 0 (Nat.le_refl _) (by unfold maxLen;omega) rfl) a xs.length c (xs.flatMap celE.enc) rfl HF.out.1 HN.out HF.out.2 (by unfold maxLen;omega) (by omega) (by simp) ?_;intro v' w2 hown hgrow _);go_ret;exact⟨_,rfl,by have h9:=hown;simp only[Nat.zero_add,List.nil_append]at h9;exact h9,(jfs w _).grown hgrow (by simp) (fun q hq=>Nat.le_of_eq (Option.some.inj (hq:some w.heap.size=some q)))⟩
def DevO(B:Nat)(w:World)(v:Value)(d:Dv):Prop:=∃bv wv,v= .agg #[.int .u32 d.size,bv,wv, .bool d.down, .int .i64 d.fuse]∧w.ownsRow B 160 2 bv d.blocks.length (d.blocks.flatMap blkE.enc)∧w.ownsRow B 160 2 wv d.waits.length (d.waits.flatMap blkE.enc)∧
 (∀b∈d.blocks,blkE.wf b)∧(∀b∈d.waits,blkE.wf b)∧u32Ok d.size∧jho d.fuse∧(∀g g',bv.ownBlock=some g→wv.ownBlock=some g'→g≠g')
theorem DevO.dev{B:Nat}{w:World}{v:Value}{d:Dv}(h:DevO B w v d):DevV w v d:=by
 obtain⟨bv,wv,e,h1,h2,h3,h4,h5,h6,_⟩:=h;exact⟨bv,wv,e,jct (E:=blkE) h1 rfl h3,jct (E:=blkE) h2 rfl h4,h5,h6⟩
theorem dev_one(A A2:Option Addr)(n n2 c c2:Nat)(s:Int)(d:Bool)(f:Int):∀v∈[Value.int .u32 s, .slice A n c, .slice A2 n2 c2, .bool d, .int .i64 f],v.oneCell'=true:=by
 intro v hv;simp at hv;rcases hv with rfl|rfl|rfl|rfl|rfl <;>rfl
theorem jd4{w:World}{B B':Nat}{t:TypeId}{sz:Nat}{v:Value}{n:Nat}{xs:List Value}(h:w.ownsRow B t sz v n xs)(hb:B'≤B):w.ownsRow B' t sz v n xs:=by
 refine⟨h.1,?_⟩;rcases h.2 with h0|⟨g,c,cur,e,h1,h2⟩
 ·exact Or.inl h0
 ·exact Or.inr ⟨g,c,cur,e,Nat.le_trans hb h1,h2⟩
theorem jan{w:World}{B:Nat}{t:TypeId}{sz:Nat}{v:Value}{n:Nat}{xs:List Value}(h:w.ownsRow B t sz v n xs):∃a k c,v= .slice a k c:=by
 rcases h.2 with⟨rfl,_⟩|⟨g,c,cur,rfl,_⟩
 ·exact⟨_,_,_,rfl⟩
 ·exact⟨_,_,_,rfl⟩
theorem jhg(w:World)(v:Value)(d:Dv)(hv:DevV w v d)(hl:d.blocks.length≤1073741824)(hl2:d.waits.length≤1073741824):
 Calls Tryz.prog 34 #[v] w fun e w'=>∃r,e= .returned r∧DevO w.heap.size w' r d∧Below w.heap.size w w':=by
 obtain⟨bv,wv,rfl,hbs,hws,hsz,hfu⟩:=hv;have HS:=Lib.hid (And.intro hbs hws);obtain⟨A,n,c,rfl⟩:=jax hbs;obtain⟨A2,n2,c2,rfl⟩:=jax hws;clear hbs hws;have hb0:=heap_alloc_new w (.cells #[.int .u32 d.size, .slice A n c, .slice A2 n2 c2, .bool d.down, .int .i64 d.fuse] 25);have hbb:=(jb2 w #[.int .u32 d.size, .slice A n c, .slice A2 n2 c2, .bool d.down, .int .i64 d.fuse] 25).alloc (by simp) (.cells #[.int .u32 0, .slice none 0 0, .slice none 0 0, .bool false, .int .i64 0] 25);have hb1:=heap_alloc_new (w.alloc (.cells #[.int .u32 d.size, .slice A n c, .slice A2 n2 c2, .bool d.down, .int .i64 d.fuse] 25)) (.cells #[.int .u32 0, .slice none 0 0, .slice none 0 0, .bool false, .int .i64 0] 25);have hb2:((w.alloc (.cells #[.int .u32 d.size, .slice A n c, .slice A2 n2 c2, .bool d.down, .int .i64 d.fuse] 25)).alloc (.cells #[.int .u32 0, .slice none 0 0, .slice none 0 0, .bool false, .int .i64 0] 25)).heap[w.heap.size]? =some (.cells #[.int .u32 d.size, .slice A n c, .slice A2 n2 c2, .bool d.down, .int .i64 d.fuse] 25 (0,0)):=by
  rw[Lib.alloc_old _ _ _ (by simp)];exact hb0
 simp only[World.size_alloc]at hb1;clear hb0;go_enter Tryz.func34,Tryz.ntmps34;go_upto_region 1 with(fail);generalize(w.alloc (.cells #[.int .u32 d.size, .slice A n c, .slice A2 n2 c2, .bool d.down, .int .i64 d.fuse] 25)).alloc (.cells #[.int .u32 0, .slice none 0 0, .slice none 0 0, .bool false, .int .i64 0] 25)=wa at *;have a1:wa.cell? ⟨w.heap.size,1,none⟩=some (.slice A n c):=by rw[cell_of_row _ _ _ _ _ _ hb2];rfl
 have a2:wa.cell? ⟨w.heap.size,2,none⟩=some (.slice A2 n2 c2):=by rw[cell_of_row _ _ _ _ _ _ hb2];rfl
 have l0:=lt_of_block hb2;have l1:=lt_of_block hb1;have H0:=Lib.hid (And.intro hbb (And.intro hb1 hb2));clear hbb hb1 hb2;go_region_with (first
  |(go_at_call 92;refine(jkh x1 _ d.waits (HS.out.2.below (H0.out.1.trans (HB1.out.mono H0.out.1.size)) (Nat.le_refl _)) hl2).mono ?_;rintro e x2 ⟨r2,rfl,ho2,hbx2⟩;obtain⟨B2,m2,k2,rfl⟩:=jan ho2;have hrow2:=(hbx2.block w.heap.size l01).trans hrow1;have q1:x2.cell? ⟨w.heap.size,1,none⟩=some (.slice A n c):=(by rw[cell_of_row _ _ _ _ _ _ hrow2];rfl);have q2:x2.cell? ⟨w.heap.size,2,none⟩=some (.slice A2 n2 c2):=(by rw[cell_of_row _ _ _ _ _ _ hrow2];rfl);have z1:=frozen_of_row x2 w.heap.size 1 _ _ hrow2;have z2:=frozen_of_row x2 w.heap.size 2 _ _ hrow2;have HB2:=Lib.hid (And.intro hbx2 (And.intro ho2 hrow2));clear hbx2 ho2 hrow2)
  |(go_at_call 92;refine(jkh wa.drew _ d.blocks (HS.out.1.below (H0.out.1.trans ((Below.refl _ wa).drew.mono H0.out.1.size)) (Nat.le_refl _)) hl).mono ?_;rintro e x1 ⟨r1,rfl,ho1,hbx1⟩;obtain⟨B1,m1,k1,rfl⟩:=jan ho1;have hbx1':Below wa.heap.size wa x1:=(Below.refl _ wa).drew.trans hbx1;have hrow1:=(hbx1'.block w.heap.size l0).trans H0.out.2.2;have p1:x1.cell? ⟨w.heap.size,1,none⟩=some (.slice A n c):=(by rw[cell_of_row _ _ _ _ _ _ hrow1];rfl);have p2:x1.cell? ⟨w.heap.size,2,none⟩=some (.slice A2 n2 c2):=(by rw[cell_of_row _ _ _ _ _ _ hrow1];rfl);have l01:=lt_of_block hrow1;have HB1:=Lib.hid hbx1';have HO1:=Lib.hid ho1;clear hbx1 hbx1' ho1))
 all_goals(
  have hrow:=HB2.out.2.2;have hs1:=ja2 hrow 1 (.slice B1 m1 k1);have hs2:=ja2 hs1 2 (.slice B2 m2 k2);have hg1:x2.grownBy (x2.setCell ⟨w.heap.size,1,none⟩ (.slice B1 m1 k1)) (some w.heap.size):=jap (World.grownBy.refl x2 (some w.heap.size)) 1 _;have hg2:x2.grownBy ((x2.setCell ⟨w.heap.size,1,none⟩ (.slice B1 m1 k1)).setCell ⟨w.heap.size,2,none⟩ (.slice B2 m2 k2)) (some w.heap.size):=jap hg1 2 _;have hx2:=HB1.out.trans (HB2.out.1.mono HB1.out.size);have ho1:=(Fr.of_below HB2.out.1).own HO1.out (by unfold BadT;decide);have hk1:=jat ho1 hg2 hrow (by decide);have hk2:=jat HB2.out.2.1 hg2 hrow (by decide);have hres:=(hg2.block (w.heap.size + 1) (Nat.lt_of_lt_of_le l1 hx2.size) (by simp)).trans ((hx2.block _ l1).trans H0.out.2.1);have hbl:Below w.heap.size w ((x2.setCell ⟨w.heap.size,1,none⟩ (.slice B1 m1 k1)).setCell ⟨w.heap.size,2,none⟩ (.slice B2 m2 k2)):=(H0.out.1.trans (hx2.mono H0.out.1.size)).grown hg2 (H0.out.1.trans (hx2.mono H0.out.1.size)).size (fun q hq=>Nat.le_of_eq (Option.some.inj hq));have HF:=Lib.hid (And.intro hs2 (And.intro hk1 (And.intro hk2 (And.intro hres hbl))));clear hrow hs1 hg1 hg2 hx2 ho1 hk1 hk2 hres hbl;generalize(x2.setCell ⟨w.heap.size,1,none⟩ (.slice B1 m1 k1)).setCell ⟨w.heap.size,2,none⟩ (.slice B2 m2 k2)=wz at *;have y0:wz.cell? ⟨w.heap.size,0,none⟩=some (.int .u32 d.size):=by rw[cell_of_row _ _ _ _ _ _ HF.out.1];rfl
  have y1:wz.cell? ⟨w.heap.size,1,none⟩=some (.slice B1 m1 k1):=by rw[cell_of_row _ _ _ _ _ _ HF.out.1];rfl
  have y2:wz.cell? ⟨w.heap.size,2,none⟩=some (.slice B2 m2 k2):=by rw[cell_of_row _ _ _ _ _ _ HF.out.1];rfl
  have y3:wz.cell? ⟨w.heap.size,3,none⟩=some (.bool d.down):=by rw[cell_of_row _ _ _ _ _ _ HF.out.1];rfl
  have y4:wz.cell? ⟨w.heap.size,4,none⟩=some (.int .i64 d.fuse):=by rw[cell_of_row _ _ _ _ _ _ HF.out.1];rfl
  clear a1 a2 p1 p2 q1 q2 z1 z2;go_wp2_with (refine jaf rfl 25 _ _ rfl (w.heap.size + 1) 0 rfl [_,_,_,_,_] rfl 25 _ HF.out.2.2.2.1 (by simp) (dev_one _ _ _ _ _ _ _ _ _) jbz ?_);have hfin:=jad _ (w.heap.size + 1) ((#[.int .u32 0, .slice none 0 0, .slice none 0 0, .bool false, .int .i64 0]:Array Value).toList.take 0 ++ [Value.int .u32 d.size, .slice B1 m1 k1, .slice B2 m2 k2, .bool d.down, .int .i64 d.fuse] ++ (#[.int .u32 0, .slice none 0 0, .slice none 0 0, .bool false, .int .i64 0]:Array Value).toList.drop (0 + [Value.int .u32 d.size, .slice B1 m1 k1, .slice B2 m2 k2, .bool d.down, .int .i64 d.fuse].length)).toArray _ _ HF.out.2.2.2.1;have hgr:wz.grownBy (wz.setRow (w.heap.size + 1) ((#[.int .u32 0, .slice none 0 0, .slice none 0 0, .bool false, .int .i64 0]:Array Value).toList.take 0 ++ [Value.int .u32 d.size, .slice B1 m1 k1, .slice B2 m2 k2, .bool d.down, .int .i64 d.fuse] ++ (#[.int .u32 0, .slice none 0 0, .slice none 0 0, .bool false, .int .i64 0]:Array Value).toList.drop (0 + [Value.int .u32 d.size, .slice B1 m1 k1, .slice B2 m2 k2, .bool d.down, .int .i64 d.fuse].length)).toArray) (some (w.heap.size + 1)):=
   ⟨rfl,rfl,rfl,by simp[World.setRow],fun k _ hk=>jac _ _ _ _ (by simpa using hk)⟩
  refine bodyPost_ret (results_cell_row rfl _ _ (w.heap.size + 1) 25 _ (0,0) _ rfl hfin Tryz.underlying25 rfl jbz) rfl ⟨_,rfl,⟨_,_,rfl,?_,?_,HS.out.1.wf,HS.out.2.wf,hsz,hfu,fun g g' h1 h2 e=>by have:=(HO1.out.lt g h1).2;have:=(HB2.out.2.1.lt g' h2).1;omega⟩,?_⟩
  ·exact jd4 (jat HF.out.2.1 hgr HF.out.2.2.2.1 (by decide)) (show w.heap.size≤wa.drew.heap.size from Nat.le_of_lt l0)
  ·exact jd4 (jat HF.out.2.2.1 hgr HF.out.2.2.2.1 (by decide)) (by have:=H0.out.1.size;have:=HB1.out.size;omega)
  ·exact HF.out.2.2.2.2.trans ⟨rfl,rfl,rfl,by simp[World.setRow],fun k hk=>jac _ _ _ _ (by omega)⟩)
theorem two_newV(w:World)(c1:Array Value)(t1:TypeId)(c2:Array Value)(t2:TypeId):((w.alloc (.cells c1 t1)).alloc (.cells c2 t2)).heap[w.heap.size + 1]? =some (.cells c2 t2 (0,0)):=by
 have:=heap_alloc_new (w.alloc (.cells c1 t1)) (.cells c2 t2);simpa using this
theorem two_oldV(w:World)(c1:Array Value)(t1:TypeId)(c2:Array Value)(t2:TypeId):((w.alloc (.cells c1 t1)).alloc (.cells c2 t2)).heap[w.heap.size]? =some (.cells c1 t1 (0,0)):=by
 rw[Lib.alloc_old _ _ _ (by simp)];exact heap_alloc_new _ _
def DrvO(B:Nat)(w:World)(p:Nat)(d:Dv):Prop:=∃bv wv n,w.heap[p]? =some (.cells #[.int .u32 d.size,bv,wv, .bool d.down, .int .i64 d.fuse, .int .u64 n] 114 (0,0))∧B≤p∧
 w.ownsRow B 160 2 bv d.blocks.length (d.blocks.flatMap blkE.enc)∧w.ownsRow B 160 2 wv d.waits.length (d.waits.flatMap blkE.enc)∧(∀b∈d.blocks,blkE.wf b)∧(∀b∈d.waits,blkE.wf b)∧u32Ok d.size∧jho d.fuse∧(∀g g',bv.ownBlock=some g→wv.ownBlock=some g'→g≠g')
theorem jmc(s:Int)(b v:Value)(dn:Bool)(f:Int):Tryz.prog.built 114 [(0, .agg #[.int .u32 s,b,v, .bool dn, .int .i64 f])]=some #[.int .u32 s,b,v, .bool dn, .int .i64 f, .int .u64 0]:=by kernel_rfl
theorem jmd(w:World)(v:Value)(d:Dv)(hv:DevV w v d)(hl:d.blocks.length≤1073741824)(hl2:d.waits.length≤1073741824):
 Calls Tryz.prog 73 #[v] w fun e w'=>∃p,e= .returned (.pointer (some ⟨p,0,none⟩))∧DrvO w.heap.size w' p d∧Below w.heap.size w w':=by
 have HV:=Lib.hid hv;obtain⟨bv,wv,rfl,hbs,hws,hsz,hfu⟩:=hv;obtain⟨A,n,c,rfl⟩:=jax hbs;obtain⟨A2,n2,c2,rfl⟩:=jax hws;clear hbs hws;have hb0:=heap_alloc_new w (.cells #[.int .u32 d.size, .slice A n c, .slice A2 n2 c2, .bool d.down, .int .i64 d.fuse] 25);have HB:=Lib.hid (jb2 w #[.int .u32 d.size, .slice A n c, .slice A2 n2 c2, .bool d.down, .int .i64 d.fuse] 25);go_enter Tryz.func73,Tryz.ntmps73;go_upto_region 1 with(fail);generalize w.alloc (.cells #[.int .u32 d.size, .slice A n c, .slice A2 n2 c2, .bool d.down, .int .i64 d.fuse] 25)=wa at *;have y0:wa.cell? ⟨w.heap.size,0,none⟩=some (.int .u32 d.size):=by rw[cell_of_row _ _ _ _ _ _ hb0];rfl
 have y1:wa.cell? ⟨w.heap.size,1,none⟩=some (.slice A n c):=by rw[cell_of_row _ _ _ _ _ _ hb0];rfl
 have y2:wa.cell? ⟨w.heap.size,2,none⟩=some (.slice A2 n2 c2):=by rw[cell_of_row _ _ _ _ _ _ hb0];rfl
 have y3:wa.cell? ⟨w.heap.size,3,none⟩=some (.bool d.down):=by rw[cell_of_row _ _ _ _ _ _ hb0];rfl
 have y4:wa.cell? ⟨w.heap.size,4,none⟩=some (.int .i64 d.fuse):=by rw[cell_of_row _ _ _ _ _ _ hb0];rfl
 have hlb:=lt_of_block hb0;clear hb0;go_wp2_with (fail);go_at_call 34;refine(jhg wa _ d (HV.out.below HB.out (Nat.le_refl _)) hl hl2).mono ?_;rintro e w1 ⟨r,rfl,hr,hb1⟩;obtain⟨bv,wv,rfl,ho1,ho2,hw1,hw2,hs1,hf1,hap⟩:=hr;obtain⟨B1,m1,k1,rfl⟩:=jan ho1;obtain⟨B2,m2,k2,rfl⟩:=jan ho2;have HO:=Lib.hid (And.intro ho1 (And.intro ho2 (And.intro hw1 (And.intro hw2 (And.intro hs1 hf1)))));have HB1:=Lib.hid (HB.out.trans (hb1.mono HB.out.size));clear ho1 ho2 hb1 y0 y1 y2 y3 y4;go_wp2_with (first
  |((with_reducible refine jar 114 ?_);refine jah rfl 114 _ rfl [(0, .agg #[.int .u32 d.size, .slice B1 m1 k1, .slice B2 m2 k2, .bool d.down, .int .i64 d.fuse])] rfl _ (jmc _ _ _ _ _) ?_))
 go_ret;have hx:=jb2 w1 #[.int .u32 d.size, .slice B1 m1 k1, .slice B2 m2 k2, .bool d.down, .int .i64 d.fuse, .int .u64 0] 114;have hle:w.heap.size≤wa.heap.size:=Nat.le_of_lt hlb;refine⟨w1.heap.size,rfl,⟨_,_,0,heap_alloc_new _ _,HB1.out.size,?_,?_,HO.out.2.2.1,HO.out.2.2.2.1,HO.out.2.2.2.2.1,HO.out.2.2.2.2.2,hap⟩,HB1.out.trans (hx.mono HB1.out.size)⟩
 ·exact jd4 (HO.out.1.alloc _) hle
 ·exact jd4 (HO.out.2.1.alloc _) hle
theorem jme(B:Nat)(w:World)(p:Nat)(d:Dv)(hd:DrvO B w p d):
 Calls Tryz.prog 149 #[.pointer (some ⟨p,0,none⟩)] w fun e w'=>e= .returned (.bool (!(burnD d).down))∧DrvO B w' p (burnD d)∧w.grownBy w' (some p):=by
 obtain⟨bv,wv,n,hp,hB,ho1,ho2,hw1,hw2,hs1,hf1,hap⟩:=hd;have y3:w.cell? ⟨p,3,none⟩=some (.bool d.down):=by rw[cell_of_row _ _ _ _ _ _ hp];rfl
 have y4:w.cell? ⟨p,4,none⟩=some (.int .i64 d.fuse):=by rw[cell_of_row _ _ _ _ _ _ hp];rfl
 have z3:=frozen_of_row w p 3 _ _ hp;have z4:=frozen_of_row w p 4 _ _ hp;have HO:=Lib.hid (And.intro hp (And.intro ho1 (And.intro ho2 hf1)));have hf2: -9223372036854775808≤d.fuse∧d.fuse≤9223372036854775807:=hf1;by_cases h0:d.fuse=0
 ·have q0:(d.fuse==0)=true:=by simpa using h0
  have q1:decide (0 < d.fuse)=false:=by rw[h0];rfl
  have q1':decide (d.fuse>0)=false:=q1;have hbd:burnD d={d with down:=true}:=by unfold burnD;simp[h0]
  have HBD:=Lib.hid hbd;have hs:=ja2 hp 3 (.bool true);have hg:w.grownBy (w.setCell ⟨p,3,none⟩ (.bool true)) (some p):=jap (World.grownBy.refl w (some p)) 3 _;have HF:=Lib.hid (And.intro hs (And.intro hg (And.intro (jat ho1 hg hp (by decide)) (jat ho2 hg hp (by decide)))));clear hs hg ho1 ho2 hp hbd;go_enter Tryz.func149,Tryz.ntmps149;go_wp2_with (fail);go_ret;refine⟨by rw[HBD.out];rfl,?_,HF.out.2.1⟩;rw[HBD.out];exact⟨bv,wv,n,HF.out.1,hB,HF.out.2.2.1,HF.out.2.2.2,hw1,hw2,hs1,hf1,hap⟩
 ·have q0:(d.fuse==0)=false:=by simpa using h0
  by_cases h1:0 < d.fuse
  ·have q1:decide (0 < d.fuse)=true:=decide_eq_true h1;have q1':decide (d.fuse>0)=true:=q1;have hwr:IntKind.i64.wrap (d.fuse - 1)=d.fuse - 1:=by rw[IntKind.wrap_i64];omega
   have hbd:burnD d={d with fuse:=d.fuse - 1}:=by unfold burnD;simp[h0,h1]
   have HBD:=Lib.hid hbd;have hs:=ja2 hp 4 (.int .i64 (d.fuse - 1));have hg:w.grownBy (w.setCell ⟨p,4,none⟩ (.int .i64 (d.fuse - 1))) (some p):=jap (World.grownBy.refl w (some p)) 4 _;have HF:=Lib.hid (And.intro hs (And.intro hg (And.intro (jat ho1 hg hp (by decide)) (jat ho2 hg hp (by decide)))));clear hs hg ho1 ho2 hp hbd;go_enter Tryz.func149,Tryz.ntmps149;go_wp2_with (fail);go_ret;refine⟨by rw[HBD.out];rfl,?_,HF.out.2.1⟩;rw[HBD.out];exact⟨bv,wv,n,HF.out.1,hB,HF.out.2.2.1,HF.out.2.2.2,hw1,hw2,hs1,⟨by simp only;omega,by simp only;omega⟩,hap⟩
  ·have q1:decide (0 < d.fuse)=false:=decide_eq_false h1;have q1':decide (d.fuse>0)=false:=q1;have hbd:burnD d=d:=by unfold burnD;simp[h0,h1]
   have HBD:=Lib.hid hbd;clear ho1 ho2 hp hbd;go_enter Tryz.func149,Tryz.ntmps149;go_wp2_with (fail);go_ret;refine⟨by rw[HBD.out];rfl,?_,World.grownBy.refl w (some p)⟩;rw[HBD.out];exact⟨bv,wv,n,HO.out.1,hB,HO.out.2.1,HO.out.2.2.1,hw1,hw2,hs1,hf1,hap⟩
end Go.Proofs.YtpaohkkhejpgjaaGreatDoor
