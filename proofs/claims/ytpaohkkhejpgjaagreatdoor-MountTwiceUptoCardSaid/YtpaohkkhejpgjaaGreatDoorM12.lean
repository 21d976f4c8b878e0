/- Texts of the proof: Or Hd Nm Pu Lo. -/
import Derived.Test.YtpaohkkhejpgjaaGreatDoorM3
import Derived.Test.YtpaohkkhejpgjaaGreatDoorM10
import Derived.Test.YtpaohkkhejpgjaaGreatDoorM11
import Derived.Test.YtpaohkkhejpgjaaGreatDoorM6
import Derived.Test.YtpaohkkhejpgjaaGreatDoorM1
set_option linter.all false
set_option maxRecDepth 100000
set_option maxHeartbeats 8000000
namespace Go.Proofs.YtpaohkkhejpgjaaGreatDoor
open Go Go.RowKit
structure Hp where
 size:Int
 cells:List Cel
def noKid:Kid:=⟨ByteArray.empty,0,jbm⟩
def jcn(n:Node):List Kid:=n.kids.map (fun k=>⟨ByteArray.empty,k.num,k.hash⟩) ++ (n.vols.filter (fun v=>v.root !=0)).map (fun v=>⟨ByteArray.empty,v.root,v.hash⟩)
def jc6(cs:List CC)(t:Int):Option CC:=cs.find? (fun c=>c.num==t)
def jdp(cs:List CC):Int→List Kid→Int
 |why,[]=>why
 |why,k::r=>match jc6 cs k.num with
  |none=>5
  |some c=>jdp cs (if c.hash=k.hash then why else 9) r
def jdr(cs:List CC)(n:Node):Int:=jdp cs 0 (jcn n)
def ledUp(t:Int)(c:CC):CC:=if c.num=t then{c with led:=c.led + 1}else c
def bumps(ts:List Int)(cs:List CC):List CC:=ts.foldl (fun cs t=>cs.map (ledUp t)) cs
def refUp(t:Int)(c:CC):CC:=if c.num=t then{c with refs:=c.refs + 1,led:=c.led + 1}else c
def holds(ts:List Int)(cs:List CC):List CC:=ts.foldl (fun cs t=>cs.map (refUp t)) cs
theorem jgb(x:Int)(r:List Int)(t:Int):jbp (x::r) t=(if x=t then 1 else 0) + jbp r t:=by
 unfold jbp;by_cases h:x=t <;>simp[h];omega
theorem countL_app(a b:List Int)(t:Int):jbp (a ++ b) t=jbp a t + jbp b t:=by
 unfold jbp;simp
theorem jeh:∀(ts:List Int) (cs:List CC),bumps ts cs=cs.map (fun c=>{c with led:=c.led + jbp ts c.num})
 |[],cs=>by simp[bumps,jbp]
 |t::r,cs=>by
  have e:bumps (t::r) cs=bumps r (cs.map (ledUp t)):=rfl;rw[e,jeh r,List.map_map];apply List.map_congr_left;intro c _;simp only[Function.comp,ledUp,jgb];by_cases h:c.num=t
  ·simp[h];omega
  ·have h':¬t=c.num:=fun e=>h e.symm
   simp[h,h']
theorem jgc(s:List UInt8):jd7 (shaOf s):=by
 refine⟨jgs s,fun x hx=>?_⟩;obtain⟨i,_,rfl⟩:=List.mem_map.1 hx;omega
theorem hash_at{w:World}{b o:Nat}{k:Kid}(h:At w b o (kidE.enc k)):At w b (o + 2) (hashV k.hash):=by
 have:kidE.enc k=[.string k.key, .int .u32 k.num] ++ hashV k.hash:=rfl;rw[this]at h;exact h.right
theorem vhash_at{w:World}{b o:Nat}{k:Vol}(h:At w b o (volE.enc k)):At w b (o + 5) (hashV k.hash):=by
 have:volE.enc k=[.string k.name, .int .u8 k.kind, .string k.src, .int .u64 k.born, .int .u32 k.root] ++ hashV k.hash:=rfl;rw[this]at h;exact h.right
theorem new_at(w:World)(vs:List Value)(t:TypeId):At (w.alloc (.cells vs.toArray t)) w.heap.size 0 vs:=by
 intro i hi;rw[Nat.zero_add];exact jay i _ (List.getElem?_eq_getElem hi)
def jcx(k:Kid):Kid:=⟨ByteArray.empty,k.num,k.hash⟩
def jd2(v:Vol):Kid:=⟨ByteArray.empty,v.root,v.hash⟩
theorem jgx(n:Node):jcn n=n.kids.map jcx ++ (n.vols.filter (fun v=>v.root !=0)).map jd2:=rfl
theorem jhb{k:Kid}(h:kidE.wf k):kidE.wf (jcx k):=⟨by unfold strOk jcx;simp,h.2.1,h.2.2⟩
theorem jfu{k:Vol}(h:volE.wf k):kidE.wf (jd2 k):=⟨by unfold strOk jd2;simp,h.2.2.2.2.1,h.2.2.2.2.2⟩
theorem namedH_any(w:World)(v:Value)(n:Node)(hv:NodeV w v n)(hl:n.kids.length≤100000∧n.vols.length≤100000):
 Calls Tryz.prog 109 #[v] w fun e w'=>∃r,e= .returned r∧Sl kidE w' r (jcn n)∧Below w.heap.size w w':=by
 obtain⟨i0,z0,hi,hz0,hz1,hz2,hzs⟩:=jbw kid_info;obtain⟨va,vb,vc,rfl,ha,hb0,hc0,hk0,hk1⟩:=hv;obtain⟨A,ca,rfl,ha1,ha2,hra⟩:=ha;obtain⟨B,cb,rfl,hb1,hb2,hrb⟩:=hb0;obtain⟨C,cc,rfl,hc1,hc2,hrc⟩:=hc0;have HR:=Lib.hid (And.intro hra (And.intro hrb hrc));have HB:=Lib.hid ((Below.refl w.heap.size w).alloc (Nat.le_refl _) (.cells #[.int .u8 n.kind, .slice A n.items.length ca, .slice B n.kids.length cb, .slice C n.vols.length cc] 59));obtain⟨hl1,hl2⟩:=hl;clear hra hrb hrc;generalize n.kind=kd at *;go_enter Tryz.func109,Tryz.ntmps109;go_wp2;go_loopw [3,5,11,12,13,14,15,16,17,18,19,20,21,22,23] (fun s _ i _ _ _ _ _ _ _ _ _ _ _ _ wr=>∃k:Nat,k≤n.kids.length∧i= .int .i64 k∧wr.ownsRow w.heap.size 40 34 s k (((n.kids.take k).map jcx).flatMap kidE.enc)∧Below w.heap.size w wr∧wr.heap[w.heap.size]? =some (.cells #[.int .u8 kd, .slice A n.items.length ca, .slice B n.kids.length cb, .slice C n.vols.length cc] 59 (0,0))) (fun _ _ i _ _ _ _ _ _ _ _ _ _ _ _ _=>n.kids.length - (intOf i).toNat)
 case atStart=>exact⟨0,Nat.zero_le _,rfl,⟨rfl,Or.inl ⟨rfl,rfl⟩⟩,HB.out,heap_alloc_new _ _⟩
 case round=>
  obtain⟨k,hk,rfl,hown,hB,hbox⟩:=hrel;by_cases hlt:k < n.kids.length
  ·obtain⟨b,o,rfl,hat,hwf⟩:=HR.out.2.1 k hlt;have hb:b < w.heap.size:=hat.lt (by simp[kidE]);have hatr:=hat.below hB (Nat.le_refl _);have hbr:b < wr.heap.size:=Nat.lt_of_lt_of_le hb hB.size;have htk:((n.kids.take (k + 1)).map jcx).flatMap kidE.enc=((n.kids.take k).map jcx).flatMap kidE.enc ++ kidE.enc (jcx n.kids[k]):=by
    rw[List.take_succ_eq_append_getElem hlt,List.map_append,List.flatMap_append];simp
   have HG:=Lib.hid (And.intro htk (And.intro hB hbox));have hbs:=hB.size;have hbl:=lt_of_block hbox;clear hB hat htk hbox;generalize n.kids[k]=kk at *;have HK:=jc7 kk hwf;have hl:=kidE.len kk hwf;have h1':=kidE.one kk hwf;have n1:(wr.alloc (.cells (kidE.enc kk).toArray 40)).cell? ⟨wr.heap.size,1,none⟩=some (.int .u32 kk.num):=jay 1 _ rfl;have n2:=hash_at (new_at wr (kidE.enc kk) 40);have HH:=jfh hwf.2.2;have hnl:(kidE.enc (jcx kk)).length=34:=kidE.len _ (jhb hwf);have hn1:=kidE.one _ (jhb hwf);have hbk:Tryz.prog.built 40 [(1, .int .u32 kk.num),(2, .agg (hashV kk.hash).toArray)]=some (kidE.enc (jcx kk)).toArray:=jgp _ _ hwf.2.2.1;have HL:=Lib.hid (And.intro hl (And.intro hnl hbk));clear hl hwf hnl hbk;generalize kidE.enc kk=vs at *;generalize kidE.enc (jcx kk)=us at *;generalize hashV kk.hash=hs at *;generalize kk.num=num at *;obtain⟨ha,hha⟩:∃ha,hs.toArray=ha:=⟨_,rfl⟩
   obtain⟨ua,hua⟩:∃ua,us.toArray=ua:=⟨_,rfl⟩
   have HA:=Lib.hid (And.intro hha hua);have hsz:ua.size=34:=by rw[←hua];simpa using HL.out.2.1
   have HSZ:=Lib.hid hsz;rw[hha,hua]at HL;clear hha hua hsz;generalize hzs:((n.kids.take k).map jcx).flatMap kidE.enc=zs at *;clear hzs;go_wp2_with (first
    |((with_reducible refine jbv 40 ?_);refine jai rfl 40 (.tmp 13) rfl b (o + k * 34) rfl vs _ hatr Tryz.underlying40 rfl HK ?_)
    |((with_reducible refine jam 40 ?_);refine jaa rfl 40 (.tmp 5) (.tmp 14) rfl 40 _ rfl vs rfl (by rw[HL.out.1];rfl) h1' HK ?_)
    |((with_reducible refine jbv 34 ?_);refine jae rfl 34 (.tmp 18) rfl wr.heap.size 2 rfl hs _ n2 Tryz.underlying34 rfl HH ha HA.out.1 ?_)
    |((with_reducible refine jar 40 ?_);go_loud (refine jah rfl 40 _ rfl [(1, .int .u32 num),(2, .agg ha)] rfl ua HL.out.2.2 ?_))
    |((with_reducible refine jf8 56 1 ?_);refine jdn rfl 56 40 (.tmp 20) rfl ua rfl 34 Tryz.underlying56 ⟨i0,z0,hi,hz0,hz1,hzs⟩ HSZ.out (by decide) (by decide) (wr.heap.size + 1) (by simp) ?_)
    |(at_builtin;go_loud (refine wpList_append_own _ rfl (.tmp 15) (.tmp 21) 56 rfl w.heap.size 40 i0 z0 34 56 Tryz.underlying56 hi hz0 hz1 hz2 hzs (by decide) _ _ _ rfl ((hown.alloc _).alloc _) ⟨wr.heap.size + 1,0,none⟩ 1 1 us rfl HL.out.2.1 ?c1 ?c2 ?c3 ?c4 ?c5 ?_)))
   case c1=>intro j u hj;rw[jcl,Nat.zero_add];have:=jay (w:=wr.alloc (.cells vs.toArray 40)) (vs:=us) (t:=40) j u hj;rw[HA.out.2]at this;simpa using this
   case c2=>exact hn1
   case c3=>unfold maxLen;omega
   case c4=>omega
   case c5=>simp;omega
   intro v' w2 hown' hgrow _;go_wp2;refine⟨⟨k + 1,by omega,by go_num,?_,?_,?_⟩,by simp[intOf];omega⟩
   ·rw[HG.out.1];exact hown'
   ·exact((HG.out.2.1.alloc hbs _).alloc (by simp;omega) _).grown hgrow (by simp;omega) (fun q hq=>(hown.lt q hq).1)
   ·rw[hgrow.block _ (by simp;omega) (fun e=>jb8 ((hown.alloc (.cells vs.toArray 40)).alloc (.cells ua 40)) ((Lib.alloc_old _ _ _ (by simp;omega)).trans ((Lib.alloc_old _ _ _ hbl).trans HG.out.2.2)) (by decide) e.symm),Lib.alloc_old _ _ _ (by simp;omega),Lib.alloc_old _ _ _ hbl];exact HG.out.2.2
  ·obtain rfl:k=n.kids.length:=by omega
   rw[List.take_length]at hown;have c3:wr.cell? ⟨w.heap.size,3,none⟩=some (.slice C n.vols.length cc):=by rw[cell_of_row _ _ _ _ _ _ hbox];rfl
   have HX:=Lib.hid (And.intro hown (And.intro hB hbox));have hbl0:=lt_of_block hbox;clear hown hB hbox;obtain⟨wx,hwx⟩:∃wx,wx=wr:=⟨wr,rfl⟩
   subst hwx;go_wp2;go_loopw [3,7,27,28,29,30,31,32,33,34,35,36,37,38,39,40,41,42] (fun s _ i _ _ _ _ _ _ _ _ _ _ _ _ _ _ _ wr=>∃k m:Nat,k≤n.vols.length∧m≤n.kids.length + k∧i= .int .i64 k∧wr.ownsRow w.heap.size 40 34 s m ((n.kids.map jcx ++ ((n.vols.take k).filter (fun v=>v.root !=0)).map jd2).flatMap kidE.enc)∧Below w.heap.size w wr) (fun _ _ i _ _ _ _ _ _ _ _ _ _ _ _ _ _ _ _=>n.vols.length - (intOf i).toNat)
   case atStart=>exact⟨0,n.kids.length,Nat.zero_le _,by omega,rfl,by simpa using HX.out.1,HX.out.2.1⟩
   case round=>
    obtain⟨k,m,hk,hmk,rfl,hown,hB⟩:=hrel;by_cases hlt:k < n.vols.length
    ·obtain⟨b,o,rfl,hat,hwf⟩:=HR.out.2.2 k hlt;have hb:b < w.heap.size:=hat.lt (by simp[volE]);have hatr:=hat.below hB (Nat.le_refl _);have hbr:b < wr.heap.size:=Nat.lt_of_lt_of_le hb hB.size;have htk:(n.kids.map jcx ++ ((n.vols.take (k + 1)).filter (fun v=>v.root !=0)).map jd2).flatMap kidE.enc=(n.kids.map jcx ++ ((n.vols.take k).filter (fun v=>v.root !=0)).map jd2).flatMap kidE.enc ++ (if n.vols[k].root=0 then[]else kidE.enc (jd2 n.vols[k])):=by
      rw[List.take_succ_eq_append_getElem hlt,List.filter_append,List.map_append,List.flatMap_append,List.flatMap_append,List.flatMap_append,List.append_assoc];congr 2
      by_cases h0:n.vols[k].root=0 <;>simp[h0]
     have HG:=Lib.hid (And.intro htk hB);have hbs:=hB.size;clear hB hat htk;generalize n.vols[k]=kk at *;have HK:=jjm kk hwf;have hl:=volE.len kk hwf;have h1':=volE.one kk hwf;have n4:(wr.alloc (.cells (volE.enc kk).toArray 155)).cell? ⟨wr.heap.size,4,none⟩=some (.int .u32 kk.root):=jay 4 _ rfl;have n5:=vhash_at (new_at wr (volE.enc kk) 155);have HH:=jfh hwf.2.2.2.2.2;have hnl:(kidE.enc (jd2 kk)).length=34:=kidE.len _ (jfu hwf);have hn1:=kidE.one _ (jfu hwf);have hbk:Tryz.prog.built 40 [(1, .int .u32 kk.root),(2, .agg (hashV kk.hash).toArray)]=some (kidE.enc (jd2 kk)).toArray:=jgp _ _ hwf.2.2.2.2.2.1;have HL:=Lib.hid (And.intro hl (And.intro hnl hbk));clear hl hwf hnl hbk;generalize volE.enc kk=vs at *;generalize kidE.enc (jd2 kk)=us at *;generalize hashV kk.hash=hs at *;generalize kk.root=num at *;obtain⟨ha,hha⟩:∃ha,hs.toArray=ha:=⟨_,rfl⟩
     obtain⟨ua,hua⟩:∃ua,us.toArray=ua:=⟨_,rfl⟩
     have HA:=Lib.hid (And.intro hha hua);have hsz:ua.size=34:=by rw[←hua];simpa using HL.out.2.1
     have HSZ:=Lib.hid hsz;rw[hha,hua]at HL;clear hha hua hsz;generalize hzs:(n.kids.map jcx ++ ((n.vols.take k).filter (fun v=>v.root !=0)).map jd2).flatMap kidE.enc=zs at *;clear hzs;by_cases h0:num=0
     ·have h0b:(num !=0)=false:=by simp[h0]
      have HZ:=Lib.hid h0;clear h0;go_wp2_with (first
       |((with_reducible refine jbv 155 ?_);refine jai rfl 155 (.tmp 29) rfl b (o + k * 37) rfl vs _ hatr Tryz.underlying155 rfl HK ?_)
       |((with_reducible refine jam 155 ?_);refine jaa rfl 155 (.tmp 7) (.tmp 30) rfl 155 _ rfl vs rfl (by rw[HL.out.1];rfl) h1' HK ?_))
      refine⟨⟨k + 1,m,by omega,by omega,by go_num,?_,HG.out.2.alloc hbs _⟩,by simp[intOf];omega⟩;rw[HG.out.1,if_pos HZ.out,List.append_nil];exact hown.alloc _
     ·have h0b:(num !=0)=true:=by simp[h0]
      have HZ:=Lib.hid h0;clear h0;go_wp2_with (first
       |((with_reducible refine jbv 155 ?_);refine jai rfl 155 (.tmp 29) rfl b (o + k * 37) rfl vs _ hatr Tryz.underlying155 rfl HK ?_)
       |((with_reducible refine jam 155 ?_);refine jaa rfl 155 (.tmp 7) (.tmp 30) rfl 155 _ rfl vs rfl (by rw[HL.out.1];rfl) h1' HK ?_)
       |((with_reducible refine jbv 34 ?_);refine jae rfl 34 (.tmp 37) rfl wr.heap.size 5 rfl hs _ n5 Tryz.underlying34 rfl HH ha HA.out.1 ?_)
       |((with_reducible refine jar 40 ?_);go_loud (refine jah rfl 40 _ rfl [(1, .int .u32 num),(2, .agg ha)] rfl ua HL.out.2.2 ?_))
       |((with_reducible refine jf8 56 1 ?_);refine jdn rfl 56 40 (.tmp 39) rfl ua rfl 34 Tryz.underlying56 ⟨i0,z0,hi,hz0,hz1,hzs⟩ HSZ.out (by decide) (by decide) (wr.heap.size + 1) (by simp) ?_)
       |(at_builtin;refine wpList_append_own _ rfl (.tmp 34) (.tmp 40) 56 rfl w.heap.size 40 i0 z0 34 56 Tryz.underlying56 hi hz0 hz1 hz2 hzs (by decide) _ _ _ rfl ((hown.alloc _).alloc _) ⟨wr.heap.size + 1,0,none⟩ 1 1 us rfl HL.out.2.1 ?c1 ?c2 ?c3 ?c4 ?c5 ?_))
      case c1=>intro j u hj;rw[jcl,Nat.zero_add];have:=jay (w:=wr.alloc (.cells vs.toArray 155)) (vs:=us) (t:=40) j u hj;rw[HA.out.2]at this;simpa using this
      case c2=>exact hn1
      case c3=>unfold maxLen;omega
      case c4=>omega
      case c5=>simp;omega
      intro v' w2 hown' hgrow _;go_wp2;refine⟨⟨k + 1,m + 1,by omega,by omega,by go_num,?_,?_⟩,by simp[intOf];omega⟩
      ·rw[HG.out.1,if_neg HZ.out];exact hown'
      ·exact((HG.out.2.alloc hbs _).alloc (by simp;omega) _).grown hgrow (by simp;omega) (fun q hq=>(hown.lt q hq).1)
    ·obtain rfl:k=n.vols.length:=by omega
     rw[List.take_length,←jgx]at hown;have HG:=Lib.hid (And.intro hown hB);clear hown hB;go_wp2;go_ret;refine⟨_,rfl,?_,HG.out.2⟩;have hw:∀x∈jcn n,kidE.wf x:=by
      intro x hx;rw[jgx]at hx;rcases List.mem_append.1 hx with hx|hx
      ·obtain⟨q,hq,rfl⟩:=List.mem_map.1 hx;exact jhb (HR.out.2.1.wf q hq)
      ·obtain⟨q,hq,rfl⟩:=List.mem_map.1 hx;exact jfu (HR.out.2.2.wf q (List.mem_filter.1 hq).1)
     have hlen:=HG.out.1.1;rw[jbb kidE _ hw]at hlen;exact jct (E:=kidE) HG.out.1 (by have:=kidE.pos;exact(Nat.eq_of_mul_eq_mul_right (by decide) hlen).symm) hw
theorem ptr_info:(Tryz.prog.info? 142).map (fun i=>(i.zero,i.size,i.bytes))=some (some (.pointer none),1,8):=by kernel_rfl
def NoStr(w:World)(v:Value):Prop:=∀(g:Nat) (cs:Array Value) (t:TypeId) (fr:Nat×Nat),v.ownBlock=some g→w.heap[g]? =some (.cells cs t fr)→∀x∈cs.toList,∀s,x≠ .string s
theorem St.noStr{B:Nat}{w:World}{p:Nat}{sz:Int}{pcs:List (Nat×CC)}(h:St B w p sz pcs){v:Value}(hv:w.cell? ⟨p,1,none⟩=some v):NoStr w v:=fun g cs t fr ho hg=>h.spare v g cs t fr hv ho hg
theorem append_ptr(w:World)(B:Nat)(v:Value)(n:Nat)(xs:List Value)(hown:w.ownsRow B 142 1 v n xs)(hns:NoStr w v)(hxs:∀x∈xs,∀s,x≠ .string s)(a:Addr)(c:Nat)(u:Value)(hu:u.oneCell'=true)(hus:∀s,u≠ .string s)(hc:w.cell? a=some u)
 (h63:n + 1≤1073741825) (hbase:B≤w.heap.size):
 ∃g cap w',(Builtin.append_ #[146,146] 146 #[v, .slice (some a) 1 c]).run Tryz.prog w= .ok (.slice (some ⟨g,0,none⟩) (n + 1) cap) w'∧
  w'.ownsRow B 142 1 (.slice (some ⟨g,0,none⟩) (n + 1) cap) (n + 1) (xs ++ [u])∧NoStr w' (.slice (some ⟨g,0,none⟩) (n + 1) cap)∧w.grownBy w' v.ownBlock:=by
 obtain⟨i,hi,hz,hsz,hby⟩:=info_parts ptr_info;have hnews:∀j q,[u][j]? =some q→w.cell? (a.add j)=some q:=by
  intro j q hj
  match j with
  |0=>simp at hj;subst hj;rw[show a.add 0=a by unfold Addr.add;split <;>simp_all];exact hc
  |j + 1=>simp at hj
 have ht:=Tryz.underlying146;have hxl:xs.length=n:=by simpa using hown.1
 have grown:∀old,old < n + 1→
  (w.drew.alloc (.cells (xs.toArray ++ [u].toArray ++ Builtin.zeroCells (Value.pointer none).cells (grownCap w (n + 1) old 142 - (n + 1))) 142)).ownsRow B 142 1 (.slice (some ⟨w.heap.size,0,none⟩) (n + 1) (grownCap w (n + 1) old 142)) (n + 1) (xs ++ [u])∧
  NoStr (w.drew.alloc (.cells (xs.toArray ++ [u].toArray ++ Builtin.zeroCells (Value.pointer none).cells (grownCap w (n + 1) old 142 - (n + 1))) 142)) (.slice (some ⟨w.heap.size,0,none⟩) (n + 1) (grownCap w (n + 1) old 142))∧
  w.grownBy (w.drew.alloc (.cells (xs.toArray ++ [u].toArray ++ Builtin.zeroCells (Value.pointer none).cells (grownCap w (n + 1) old 142 - (n + 1))) 142)) v.ownBlock:=by
  intro old ho;have hge:=grownCap_ge w (n + 1) old 142;have hcm:grownCap w (n + 1) old 142≤maxLen:=grownCap_le_maxLen w (n + 1) old 142 (by unfold maxLen;omega);refine⟨⟨by simp[hxl], .inr ⟨w.heap.size,_,_,rfl,hbase,heap_alloc_new w.drew _,hge,hcm,?_,?_⟩⟩,?_,⟨rfl,rfl,rfl,by simp,fun k hk _=>heap_alloc_old w.drew _ hk⟩⟩
  ·simp only[Array.size_append,List.size_toArray,size_zeroCells,hxl,List.length_singleton,Value.cells];simp;omega
  ·simp only[Array.toList_append,List.append_assoc];rw[←List.append_assoc,Nat.mul_one,show n + 1=(xs ++ [u]).length by simp[hxl]];exact List.take_left
  ·intro g cs t fr hg hh x hx s;have hg:w.heap.size=g:=by simpa[Value.ownBlock]using hg
   subst hg;have hn:=heap_alloc_new w.drew (.cells (xs.toArray ++ [u].toArray ++ Builtin.zeroCells (Value.pointer none).cells (grownCap w (n + 1) old 142 - (n + 1))) 142);have hn:(w.drew.alloc (.cells (xs.toArray ++ [u].toArray ++ Builtin.zeroCells (Value.pointer none).cells (grownCap w (n + 1) old 142 - (n + 1))) 142)).heap[w.heap.size]? =some (.cells (xs.toArray ++ [u].toArray ++ Builtin.zeroCells (Value.pointer none).cells (grownCap w (n + 1) old 142 - (n + 1))) 142 (0,0)):=hn;rw[hn]at hh;injection hh with hh;injection hh with hh _ _;subst hh;simp only[Array.toList_append,List.mem_append]at hx;rcases hx with(hx|hx)|hx
   ·exact hxs x hx s
   ·simp at hx;subst hx;exact hus s
   ·simp[Builtin.zeroCells,Value.cells]at hx;obtain⟨j,_,rfl⟩:=hx;simp[Nat.mod_one]
 rcases hown.2 with⟨rfl,rfl⟩|⟨g,cap,cur,rfl,hbg,hg,hnc,hcm,hcs,htake⟩
 ·have hx:xs=[]:=List.eq_nil_of_length_eq_zero hxl;subst hx;have hr:=run_append_nil (P:=Tryz.prog) w 146 146 142 i (.pointer none) ht hi hz a 1 c [u] (by rw[hsz];rfl) hnews (by omega) (by omega) (by rw[hby];omega);have hgr:=grown 0 (by omega);simp only[Nat.zero_add,List.nil_append]at hgr hr ⊢;exact⟨_,_,_,by simpa using hr,by simpa using hgr.1,by simpa using hgr.2.1,by simpa using hgr.2.2⟩
 ·by_cases hroom:n + 1≤cap
  ·have hfit:n * i.size + [u].length≤cur.size:=by rw[hsz,hcs];simp;omega
   have hr:=run_append_room (P:=Tryz.prog) w 146 146 142 i ht hi g n cap cur hg a 1 c [u] (by rw[hsz];rfl) hnews (by simpa using hu) hroom hfit;rw[hsz,Nat.mul_one]at hr;refine⟨g,cap,_,hr,⟨by simp[hxl], .inr ⟨g,cap,_,rfl,hbg,setRow_heap w g cur _ _ _ hg,hroom,hcm,?_,?_⟩⟩,?_,⟨rfl,rfl,rfl,by simp,fun k _ hk=>setRow_other w g k _ (fun e=>hk (by simp[Value.ownBlock,e]))⟩⟩
   ·simp only[List.size_toArray,List.length_append,List.length_take,List.length_drop,Array.length_toList,List.length_singleton];omega
   ·rw[Nat.mul_one]at htake ⊢;rw[htake,show n + 1=(xs ++ [u]).length by simp[hxl]];exact List.take_left
   ·intro g' cs t fr hg' hh x hx s;have e:g=g':=by simpa[Value.ownBlock]using hg'
    subst e;rw[setRow_heap w g cur _ _ _ hg]at hh;injection hh with hh;injection hh with hh _ _;subst hh;have hcur:=hns g cur _ _ rfl hg;rcases List.mem_append.1 hx with hx|hx
    ·rcases List.mem_append.1 hx with hx|hx
     ·exact hcur x ((List.take_subset _ _) hx) s
     ·simp at hx;subst hx;exact hus s
    ·exact hcur x ((List.drop_subset _ _) hx) s
  ·have holds:∀j q,xs[j]? =some q→w.cell? ((⟨g,0,none⟩:Addr).add j)=some q:=hown.cells (g:=g) rfl;have hr:=run_append_grow (P:=Tryz.prog) w 146 146 142 i (.pointer none) ht hi hz ⟨g,0,none⟩ n cap xs (by rw[hsz];exact hown.1) holds a 1 c [u] (by rw[hsz];rfl) hnews (by omega) (by omega) (growslice_fits (by omega) (by rw[hby];omega));have hgr:=grown cap (by omega);exact⟨_,_,_,hr,hgr.1,hgr.2.1,hgr.2.2⟩
def ptrsV(pcs:List (Nat×CC)):List Value:=pcs.map fun x=>Value.pointer (some ⟨x.1,0,none⟩)
theorem ptrs_noStr(pcs:List (Nat×CC)):∀x∈ptrsV pcs,∀s,x≠ .string s:=by
 intro x hx s;obtain⟨y,_,rfl⟩:=List.mem_map.1 hx;simp
theorem NoStr.noRow{w:World}{v:Value}(h:NoStr w v){g:Nat}{cs:Array Value}{t:TypeId}{fr:Nat×Nat}(ho:v.ownBlock=some g)(hg:w.heap[g]? =some (.cells cs t fr)):NoRow cs:=rowPtr_noRow cs (h g cs t fr ho hg)
theorem append_fr{B:Nat}{w w':World}{v:Value}{n:Nat}{xs:List Value}(hown:w.ownsRow B 142 1 v n xs)(hns:NoStr w v)(hg:w.grownBy w' v.ownBlock):Fr w w':=by
 refine⟨hg.os,hg.tape,hg.output,hg.size,fun b hb=>?_⟩;by_cases e:some b=v.ownBlock
 ·rcases hown.2 with⟨e1,_⟩|⟨g,cap,cur,e1,h2,h3,h4⟩
  ·rw[e1]at e;cases e
  ·have e2:b=g:=by rw[e1]at e;simpa[Value.ownBlock]using e
   subst e2;exact Or.inr ⟨_,_,_,h3,Or.inr (Or.inr (Or.inl rfl)),hns.noRow e.symm h3,fun h=>absurd h (by decide)⟩
 ·exact Or.inl (hg.block b hb e)
theorem St.newRow{B:Nat}{w:World}{p:Nat}{sz:Int}{v0:Value}{a0:Int}{v:Value}{pcs:List (Nat×CC)}(hlow:B≤p)(hp:w.heap[p]? =some (.cells #[.int .u32 sz,v0, .int .i64 a0] 150 (0,0)))(hv0:v0.oneCell'=true∧∀s,v0≠ .string s)
 (hown:w.ownsRow B 142 1 v pcs.length (ptrsV pcs)) (hns:NoStr w v) (hcs:∀x∈pcs,CellAt w x.1 x.2∧B≤x.1) (hnd:(pcs.map (·.1)).Nodup) (hwf:∀x∈pcs,ccWf x.2):
 St B (w.setCell ⟨p,1,none⟩ v) p sz pcs∧Fr w (w.setCell ⟨p,1,none⟩ v)∧Below B w (w.setCell ⟨p,1,none⟩ v):=by
 have hg:w.grownBy (w.setCell ⟨p,1,none⟩ v) (some p):=jap (World.grownBy.refl w (some p)) 1 _;have hfr:Fr w (w.setCell ⟨p,1,none⟩ v):=Fr.of_grown hg hp (Or.inl rfl) (jhz sz v0 a0 hv0) (fun h=>absurd h (by decide));have hp':(w.setCell ⟨p,1,none⟩ v).heap[p]? =some (.cells #[.int .u32 sz,v, .int .i64 a0] 150 (0,0)):=ja2 hp 1 _;refine⟨⟨hlow,⟨v,a0,hp',jat hown hg hp (by decide)⟩,fun x hx=>⟨?_,(hcs x hx).2⟩,hnd,hwf,?_⟩,hfr,(Below.refl B w).setCell (p:=⟨p,1,none⟩) hlow _⟩
 ·have hc:=(hcs x hx).1;have hne:=jly hc hp (by decide);obtain⟨_,_,_,hcb,_⟩:=id hc;exact hc.keep hfr.soft (hg.block x.1 (lt_of_block hcb) (by simpa using hne))
 ·intro v' g cs t fr hc ho hgb;have hv:v'=v:=by
   rw[cell_of_row _ _ _ _ _ _ hp']at hc;simpa using hc.symm
  subst hv;have hne:g≠p:=fun e=>jb8 hown hp (by decide) (by rw[ho,e])
  rw[hg.block g (hown.lt g ho).2 (by simpa using hne)]at hgb;exact hns g cs t fr ho hgb
theorem step_push{ops:Array Oper}{o:Oper}{a:Act}{K:Act→World→Prop}{Q:Exit→Act→World→Prop}{E:Prop}{B:Nat}{w:World}(hgd:o.guard=none)(s y:Operand)
 (ho:o.op= .call {callee:= .builtin .append,args:= #[s,y],argTypes:= #[146,146]}) (hty:o.type=146) (v:Value) (n:Nat) (xs:List Value) (hown:w.ownsRow B 142 1 v n xs) (hns:NoStr w v) (hxs:∀x∈xs,∀s,x≠ .string s)
 (ad:Addr) (c:Nat) (u:Value) (hu:u.oneCell'=true) (hus:∀s,u≠ .string s) (hc:w.cell? ad=some u) (h63:n + 1≤1073741825) (hbase:B≤w.heap.size)
 (hs:a.eval s=v) (hy:a.eval y= .slice (some ad) 1 c)
 (hK:∀g cap wc,wc.ownsRow B 142 1 (.slice (some ⟨g,0,none⟩) (n + 1) cap) (n + 1) (xs ++ [u])→NoStr wc (.slice (some ⟨g,0,none⟩) (n + 1) cap)→w.grownBy wc v.ownBlock→K (a.put o.dst (.slice (some ⟨g,0,none⟩) (n + 1) cap)) wc):
 if Region.wanted o (yielded ops a.tmps)=true then Oper.wp Tryz.prog o a w K Q else E:=by
 have hw:Region.wanted o (yielded ops a.tmps)=true:=by simp[Region.wanted,hgd]
 rw[if_pos hw];obtain⟨g,cap,wc,hr,h1,h2,h3⟩:=append_ptr w B v n xs hown hns hxs ad c u hu hus hc h63 hbase;unfold Oper.wp execOp;simp only[ho,hty,resolve,invoke,builtin,Sem.run_bind,Sem.run_pure,Result.andThen_ok,List.map_toArray,List.map_cons,List.map_nil,hs,hy,hr];exact hK g cap wc h1 h2 h3
theorem jin(w:World)(o1 o2:Obj)(k:Nat)(h:k < w.heap.size):((w.alloc o1).alloc o2).drew.heap[k]? =w.heap[k]? :=by
 show((w.alloc o1).alloc o2).heap[k]? =_
 rw[Lib.alloc_old _ _ _ (by simp;omega),Lib.alloc_old _ _ _ h]
theorem step_push2{ops:Array Oper}{o:Oper}{a:Act}{K:Act→World→Prop}{Q:Exit→Act→World→Prop}{E:Prop}{B:Nat}{w:World}{o1:Obj}(hgd:o.guard=none)(s y:Operand)
 (ho:o.op= .call {callee:= .builtin .append,args:= #[s,y],argTypes:= #[146,146]}) (hty:o.type=146) (v:Value) (n:Nat) (xs:List Value) (hown:w.ownsRow B 142 1 v n xs) (hns:NoStr w v) (hxs:∀x∈xs,∀s,x≠ .string s)
 (p:Nat) (cs:Array Value) (hp:w.heap[p]? =some (.cells cs 150 (0,0))) (hpv:w.cell? ⟨p,1,none⟩=some v) (h63:n + 1≤1073741825) (hbase:B≤w.heap.size)
 (hs:a.eval s=v) (hy:a.eval y= .slice (some ⟨w.heap.size + 1,0,none⟩) 1 1)
 (hK:∀g cap wc,wc.cell? ⟨p,1,none⟩=some v→wc.frozen? ⟨p,1,none⟩=false→wc.heap[p]? =some (.cells cs 150 (0,0))→
  wc.ownsRow B 142 1 (.slice (some ⟨g,0,none⟩) (n + 1) cap) (n + 1) (xs ++ [.pointer (some ⟨w.heap.size,0,none⟩)])→NoStr wc (.slice (some ⟨g,0,none⟩) (n + 1) cap)→
  (∀b,b < w.heap.size + 2→some b≠v.ownBlock→wc.heap[b]? =((w.alloc o1).alloc (.cells #[.pointer (some ⟨w.heap.size,0,none⟩)] 142)).heap[b]?)→Fr w wc→Below B w wc→w.heap.size < wc.heap.size→K (a.put o.dst (.slice (some ⟨g,0,none⟩) (n + 1) cap)) wc):
 if Region.wanted o (yielded ops a.tmps)=true then Oper.wp Tryz.prog o a ((w.alloc o1).alloc (.cells #[.pointer (some ⟨w.heap.size,0,none⟩)] 142)).drew K Q else E:=by
 have hown2:((w.alloc o1).alloc (.cells #[.pointer (some ⟨w.heap.size,0,none⟩)] 142)).drew.ownsRow B 142 1 v n xs:=((hown.alloc _).alloc _).drew;have hns2:NoStr ((w.alloc o1).alloc (.cells #[.pointer (some ⟨w.heap.size,0,none⟩)] 142)).drew v:=by
  intro g cs t fr ho hg;rw[jin _ _ _ _ (hown.lt g ho).2]at hg;exact hns g cs t fr ho hg
 have hcell:((w.alloc o1).alloc (.cells #[.pointer (some ⟨w.heap.size,0,none⟩)] 142)).drew.cell? ⟨w.heap.size + 1,0,none⟩=some (.pointer (some ⟨w.heap.size,0,none⟩)):=by
  have h:=heap_alloc_new (w.alloc o1) (.cells #[.pointer (some ⟨w.heap.size,0,none⟩)] 142);have h2:((w.alloc o1).alloc (.cells #[.pointer (some ⟨w.heap.size,0,none⟩)] 142)).heap[w.heap.size + 1]? =some (.cells #[.pointer (some ⟨w.heap.size,0,none⟩)] 142 (0,0)):=by simpa using h
  show((w.alloc o1).alloc (.cells #[.pointer (some ⟨w.heap.size,0,none⟩)] 142)).cell? ⟨w.heap.size + 1,0,none⟩=_
  rw[cell_of_row _ _ _ _ _ _ h2];rfl
 refine step_push (B:=B) hgd s y ho hty v n xs hown2 hns2 hxs ⟨w.heap.size + 1,0,none⟩ 1 (.pointer (some ⟨w.heap.size,0,none⟩)) rfl (fun s=>by simp) hcell h63 (by simp[World.drew];omega) hs hy ?_;intro g cap wc h1 h2 h3;have hlt:((w.alloc o1).alloc (.cells #[.pointer (some ⟨w.heap.size,0,none⟩)] 142)).drew.heap.size=w.heap.size + 2:=by simp[World.drew]
 have hsz:=h3.size;have hpl:=lt_of_block hp;have hpc:wc.heap[p]? =some (.cells cs 150 (0,0)):=by
  rw[h3.block p (by omega) (fun e=>jb8 hown hp (by decide) e.symm),jin _ _ _ _ hpl];exact hp
 have hb0:Below w.heap.size w ((w.alloc o1).alloc (.cells #[.pointer (some ⟨w.heap.size,0,none⟩)] 142)).drew:=(((Below.refl _ w).alloc (Nat.le_refl _) _).alloc (by simp) _).drew;refine hK g cap wc ?_ (frozen_of_row _ _ _ _ _ hpc) hpc h1 h2 (fun b hb hne=>h3.block b (by omega) hne) ((Fr.of_below hb0).trans (append_fr hown2 hns2 h3)) ((hb0.mono hbase).grown h3 (by omega) (fun k hk=>(hown.lt k hk).1)) (by omega);rw[←hpv,cell_of_row _ _ _ _ _ _ hpc,cell_of_row _ _ _ _ _ _ hp]
theorem St.pushed{B:Nat}{w wd:World}{p:Nat}{sz:Int}{pcs:List (Nat×CC)}(h:St B w p sz pcs){v0 v':Value}{a0:Int}(hp:wd.heap[p]? =some (.cells #[.int .u32 sz,v0, .int .i64 a0] 150 (0,0)))
 (hold:w.ownsRow B 142 1 v0 pcs.length (ptrsV pcs)) (hown:wd.ownsRow B 142 1 v' (pcs.length + 1) (ptrsV pcs ++ [.pointer (some ⟨w.heap.size,0,none⟩)])) (hns:NoStr wd v') {cs:Array Value} {o2:Obj}
 (hbk:∀b,b < w.heap.size + 2→some b≠v0.ownBlock→wd.heap[b]? =((w.alloc (.cells cs 145)).alloc o2).heap[b]?) (hfr:Fr w wd) (hbl:Below B w wd) (hB:B≤w.heap.size) (c:CC) {vi vk vv:Value} (hcs:cs=(ccRow c vi vk vv).toArray)
 (hi:Sl itemE w vi c.node.items) (hk:Sl kidE w vk c.node.kids) (hv:Sl volE w vv c.node.vols) (hwf:ccWf c):
 St B (wd.setCell ⟨p,1,none⟩ v') p sz (pcs ++ [(w.heap.size,c)])∧Fr w (wd.setCell ⟨p,1,none⟩ v')∧Below B w (wd.setCell ⟨p,1,none⟩ v'):=by
 have hlt:∀x∈pcs,x.1 < w.heap.size:=by
  intro x hx;obtain⟨_,_,_,hb,_⟩:=(h.cells x hx).1;exact lt_of_block hb
 have hne:some w.heap.size≠v0.ownBlock:=fun e=>by have:=(hold.lt _ e.symm).2;omega
 have hr:=St.newRow (pcs:=pcs ++ [(w.heap.size,c)]) h.low hp (jlx hold) (by rw[List.length_append];unfold ptrsV at hown ⊢;rw[List.map_append];exact hown) hns (by
  intro x hx;rcases List.mem_append.1 hx with hx|hx
  ·have hc:=(h.cells x hx).1;obtain⟨_,_,_,hb,_⟩:=id hc;refine⟨hc.keep hfr.soft ?_,(h.cells x hx).2⟩;have hl:=hlt x hx;rw[hbk x.1 (by omega) (fun e=>jb8 hold hb (by decide) e.symm)];exact jin w _ _ _ hl
  ·simp at hx;subst hx;refine⟨⟨vi,vk,vv,?_,hi.soft jju hfr.soft,hk.soft jip hfr.soft,hv.soft jlw hfr.soft⟩,hB⟩;show wd.heap[w.heap.size]? =_
   rw[hbk _ (by omega) hne,Lib.alloc_old _ _ _ (by simp),←hcs];exact heap_alloc_new _ _) (by
  rw[List.map_append,List.nodup_append];refine⟨h.nodup,by simp,?_⟩;intro a ha b hb;obtain⟨x,hx,rfl⟩:=List.mem_map.1 ha;simp at hb;subst hb;have:=hlt x hx;omega) (by
  intro x hx;rcases List.mem_append.1 hx with hx|hx
  ·exact h.wf x hx
  ·simp at hx;subst hx;exact hwf)
 exact⟨hr.1,hfr.trans hr.2.1,hbl.trans hr.2.2⟩
@[go_sem] def ldOp(t:TypeId)(x:Operand):Op:=Op.load t x
theorem jjl(t:TypeId)(x:Operand):Op.load t x=ldOp t x:=rfl
end Go.Proofs.YtpaohkkhejpgjaaGreatDoor
