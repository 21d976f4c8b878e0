/- Texts of the proof: Aj. -/
import Derived.Test.YtpaohkkhejpgjaaGreatDoorM8
import Derived.Test.YtpaohkkhejpgjaaGreatDoorM34
import Derived.ReadAgain
import Derived.Carry
set_option linter.all false
set_option maxRecDepth 100000
set_option maxHeartbeats 8000000
namespace Go.Proofs.YtpaohkkhejpgjaaGreatDoor
open Go Go.RowKit Go.WideShapes Go.ChangeShapes Go.Deep Go.Joins
theorem cut_at{α:Type}(cs:List α)(a k:Nat):cs.drop a=(cs.drop a).take k ++ cs.drop (a + k):=by
 rw[←List.drop_drop];exact(List.take_append_drop k (cs.drop a)).symm
theorem take_one{α:Type}{cs:List α}{i:Nat}(h:i < cs.length):(cs.drop i).take 1=[cs[i]]:=by
 rw[List.drop_eq_getElem_cons h];rfl
theorem len3J{α:Type}{cs:List α}(h:cs.length=3):∃c0 c1 c2,cs=[c0,c1,c2]:=by
 match cs,h with
 |[c0,c1,c2],_=>exact⟨c0,c1,c2,rfl⟩
theorem len5J{α:Type}{cs:List α}(h:cs.length=5):∃c0 c1 c2 c3 c4,cs=[c0,c1,c2,c3,c4]:=by
 match cs,h with
 |[c0,c1,c2,c3,c4],_=>exact⟨c0,c1,c2,c3,c4,rfl⟩
theorem cellsU8:Tryz.prog.cellsOf 5=1:=by kernel_rfl
theorem cellsU64:Tryz.prog.cellsOf 33=1:=by kernel_rfl
theorem cellsI64J:Tryz.prog.cellsOf 3=1:=by kernel_rfl
theorem cellsBoolJ:Tryz.prog.cellsOf 4=1:=by kernel_rfl
theorem cellsHash:Tryz.prog.cellsOf 34=32:=by kernel_rfl
theorem cellsSup:Tryz.prog.cellsOf 36=35:=by kernel_rfl
theorem cellsSup2:Tryz.prog.cellsOf 37=70:=by kernel_rfl
theorem cellsBool2:Tryz.prog.cellsOf 38=2:=by kernel_rfl
theorem cellsKid:Tryz.prog.cellsOf 40=34:=by kernel_rfl
theorem cellsCelJ:Tryz.prog.cellsOf 91=3:=by kernel_rfl
theorem cellsSlB:Tryz.prog.cellsOf 23=1:=by kernel_rfl
theorem cellsSlC:Tryz.prog.cellsOf 30=1:=by kernel_rfl
theorem cellsHeapJ:Tryz.prog.cellsOf 32=2:=by kernel_rfl
theorem cellsSto:Tryz.prog.cellsOf 42=113:=by kernel_rfl
section
variable {H:Type} {enc:TypeId×Value→H} {W:World} {base:Nat} {sp:Nat→Bool} {held:Bool} {n:Nat} {cs:List Value} {y:DataW H×List MemPlace}
theorem hash_read(h:DataW.trod enc Tryz.prog W base sp held n 34 cs=some y):∃l,cs=hashV l∧jd7 l:=by
 obtain⟨xs,m,_,rfl,hl,hlen,hx⟩:=DataW.trod_array Tryz.underlying34 h;rw[cellsHash]at hl;simp only[cellsU8,Nat.mul_one]at hx;obtain⟨X,hX⟩:=choose_lt (α:=Int) (n:=32) (p:=fun i z=>cs[i]? =some (.int .u8 z)∧0≤z∧z≤255) (fun i hi=>by
  have h1:=hx i hi;rw[List.getElem?_eq_getElem (by omega:i < xs.length),take_one (by omega:i < cs.length)]at h1;obtain⟨z,e,_,wf⟩:=DataW.trod_int Tryz.underlying5 h1;refine⟨z,?_,bounds_u8 wf⟩;rw[List.getElem?_eq_getElem (by omega:i < cs.length),(List.cons.inj e).1])
 refine⟨(List.range 32).map X,?_,by simp,fun x hx=>?_⟩
 ·refine List.ext_getElem? (fun i=>?_);by_cases hi:i < 32
  ·rw[(hX i hi).1];simp[hashV,hi]
  ·rw[List.getElem?_eq_none (by omega),List.getElem?_eq_none (by simp[hashV];omega)]
 ·obtain⟨i,hi,rfl⟩:=List.mem_map.1 hx;exact(hX i (List.mem_range.1 hi)).2
theorem sup_read(h:DataW.trod enc Tryz.prog W base sp held n 36 cs=some y):∃x:Sup,cs=(supA x).toList∧supWf x:=by
 obtain⟨xs,m,_,rfl,hl,hlen,hf⟩:=DataW.trod_struct Tryz.underlying36 h;rw[cellsSup]at hl;have f0:=hf 0 ⟨_,_,_,_,_,_,_⟩ rfl;have f1:=hf 1 ⟨_,_,_,_,_,_,_⟩ rfl;have f2:=hf 2 ⟨_,_,_,_,_,_,_⟩ rfl;have f3:=hf 3 ⟨_,_,_,_,_,_,_⟩ rfl
 match xs,hlen with
 |[y0,y1,y2,y3],_=>
 simp only[cellsU32,cellsU64,cellsHash]at f0 f1 f2 f3;obtain⟨z0,e0,_,w0⟩:=DataW.trod_int Tryz.underlying22 f0;obtain⟨z1,e1,_,w1⟩:=DataW.trod_int Tryz.underlying33 f1;obtain⟨z2,e2,_,w2⟩:=DataW.trod_int Tryz.underlying22 f2;obtain⟨l,e3,hk⟩:=hash_read f3;refine⟨⟨z0,z1,z2,l⟩,?_,bounds_u32 w0,bounds_u64 w1,bounds_u32 w2,hk⟩;have hc:cs=cs.drop 0:=rfl;rw[hc,cut_at cs 0 1,cut_at cs (0 + 1) 1,cut_at cs (0 + 1 + 1) 1,cut_at cs (0 + 1 + 1 + 1) 32,List.drop_eq_nil_of_le (by omega:cs.length≤0 + 1 + 1 + 1 + 32)];simp only[Nat.zero_add,Nat.reduceAdd]at e0 e1 e2 e3 ⊢;rw[e0,e1,e2,e3];simp[supA]
theorem kid_read(h:DataW.trod enc Tryz.prog W base sp held n 40 cs=some y)(hy:Rows.uptoBulk y.1≤1048576):∃x:Kid,cs=kidE.enc x∧kidE.wf x:=by
 obtain⟨xs,m,_,rfl,hl,hlen,hf⟩:=DataW.trod_struct Tryz.underlying40 h;rw[cellsKid]at hl;have f0:=hf 0 ⟨_,_,_,_,_,_,_⟩ rfl;have f1:=hf 1 ⟨_,_,_,_,_,_,_⟩ rfl;have f2:=hf 2 ⟨_,_,_,_,_,_,_⟩ rfl
 match xs,hlen with
 |[y0,y1,y2],_=>
 simp only[cellsU32,cellsStr,cellsHash]at f0 f1 f2;simp only[List.map,Rows.uptoBulk,Rows.uptoBulkAll]at hy;obtain⟨s,e0,_,w0,_⟩:=str_read Tryz.underlying9 f0 (by omega);obtain⟨z1,e1,_,w1⟩:=DataW.trod_int Tryz.underlying22 f1;obtain⟨l,e2,hk⟩:=hash_read f2;refine⟨⟨s,z1,l⟩,?_,w0,bounds_u32 w1,hk⟩;have hc:cs=cs.drop 0:=rfl;rw[hc,cut_at cs 0 1,cut_at cs (0 + 1) 1,cut_at cs (0 + 1 + 1) 32,List.drop_eq_nil_of_le (by omega:cs.length≤0 + 1 + 1 + 32)];simp only[Nat.zero_add,Nat.reduceAdd]at e0 e1 e2 ⊢;rw[e0,e1,e2];simp[kidE]
theorem bools_read(h:DataW.trod enc Tryz.prog W base sp held n 38 cs=some y):∃a b:Bool,cs=[.bool a, .bool b]:=by
 obtain⟨xs,m,_,rfl,hl,hlen,hx⟩:=DataW.trod_array Tryz.underlying38 h;rw[cellsBool2]at hl;obtain⟨c0,c1,rfl⟩:=len2 hl;have h0:=hx 0 (by decide);have h1:=hx 1 (by decide)
 match xs,hlen with
 |[y0,y1],_=>
 simp only[cellsBoolJ]at h0 h1;obtain⟨a,e0,_⟩:=DataW.trod_bool Tryz.underlying4 h0;obtain⟨b,e1,_⟩:=DataW.trod_bool Tryz.underlying4 h1;exact⟨a,b,by simpa using And.intro e0 e1⟩
theorem sups_read(h:DataW.trod enc Tryz.prog W base sp held n 37 cs=some y):∃a b:Sup,cs=(supA a).toList ++ (supA b).toList∧supWf a∧supWf b:=by
 obtain⟨xs,m,_,rfl,hl,hlen,hx⟩:=DataW.trod_array Tryz.underlying37 h;rw[cellsSup2]at hl;have h0:=hx 0 (by decide);have h1:=hx 1 (by decide)
 match xs,hlen with
 |[y0,y1],_=>
 simp only[cellsSup]at h0 h1;obtain⟨a,e0,ha⟩:=sup_read h0;obtain⟨b,e1,hb⟩:=sup_read h1;refine⟨a,b,?_,ha,hb⟩;have hc:cs=cs.drop 0:=rfl;rw[hc,cut_at cs 0 35,cut_at cs (0 + 35) 35,List.drop_eq_nil_of_le (by omega:cs.length≤0 + 35 + 35)];simp only[Nat.zero_add,Nat.zero_mul,Nat.one_mul,Nat.reduceAdd]at e0 e1 ⊢;rw[e0,e1,List.append_nil]
end
instance:Inhabited Cel:=⟨⟨0,ByteArray.empty,0⟩⟩
theorem cel_elemJ{H:Type}(enc:TypeId×Value→H):ElemR enc Tryz.prog celE 91:=by
 intro W base sp held n cs y h hy;obtain⟨y0,y1,y2,n',rfl,hl,h0,h1,h2⟩:=trod_struct3 Tryz.underlying91 h;simp only[Rows.uptoBulk,Rows.uptoBulkAll]at hy;obtain⟨z,e0,p0,k0,r0⟩:=int_read Tryz.underlying22 h0;obtain⟨s,e1,p1,k1,r1⟩:=str_read Tryz.underlying9 h1 (by omega);obtain⟨q,e2,p2,k2,r2⟩:=int_read Tryz.underlying3 h2;rw[cellsCelJ]at hl;obtain⟨c0,c1,c2,rfl⟩:=len3J hl;have e0':[c0]=[Value.int .u32 z]:=by rw[←e0,cellsU32];rfl
 have e1':[c1]=[Value.string s]:=by rw[←e1,cellsStr];rfl
 have e2':[c2]=[Value.int .i64 q]:=by rw[←e2,cellsI64J];rfl
 obtain rfl:c0= .int .u32 z:=by simpa using e0'
 obtain rfl:c1= .string s:=by simpa using e1'
 obtain rfl:c2= .int .i64 q:=by simpa using e2'
 refine⟨⟨⟨z,s,q⟩,⟨bounds_u32 k0,k1,bounds_i64 k2⟩,rfl⟩,by simp[p0,p1,p2],fun W' base' sp' held'=>⟨0 + 1 + 1,?_⟩⟩;exact trod_struct3_mk Tryz.underlying91 (by rw[cellsCelJ];rfl) (r0 W' base' sp' held' 0) (r1 W' base' sp' held' 0) (r2 W' base' sp' held' 0)
section
variable {H:Type} {enc:TypeId×Value→H} {W:World} {n:Nat} {cs:List Value} {y:DataW H×List MemPlace}
theorem devc_read(h:DataW.trod enc Tryz.prog W 0 (fun _=>true) true n 25 cs=some y)(hy:Rows.uptoBulk y.1≤1048576):
 ∃(dv:Dv) (bv wv:Value),cs=devL dv bv wv∧DevV W (jck dv bv wv) dv∧dv.blocks.length≤1048576∧dv.waits.length≤1048576:=by
 obtain⟨xs,m,_,rfl,hl,hlen,hf⟩:=DataW.trod_struct Tryz.underlying25 h;rw[cellsDev]at hl;obtain⟨c0,c1,c2,c3,c4,rfl⟩:=len5J hl;have f0:=hf 0 ⟨_,_,_,_,_,_,_⟩ rfl;have f1:=hf 1 ⟨_,_,_,_,_,_,_⟩ rfl;have f2:=hf 2 ⟨_,_,_,_,_,_,_⟩ rfl;have f3:=hf 3 ⟨_,_,_,_,_,_,_⟩ rfl;have f4:=hf 4 ⟨_,_,_,_,_,_,_⟩ rfl
 match xs,hlen with
 |[y0,y1,y2,y3,y4],_=>
 simp only[cellsU32,cellsSlB,cellsBoolJ,cellsI64J]at f0 f1 f2 f3 f4;simp only[List.map,Rows.uptoBulk,Rows.uptoBulkAll]at hy;obtain⟨z,e0,_,k0⟩:=DataW.trod_int Tryz.underlying22 f0;obtain⟨b,e1,⟨xb,hb,lb⟩,_⟩:=slice_read (E:=blkE) Tryz.underlying23 jkr (blk_elem enc) f1 (by omega);obtain⟨w,e2,⟨xw,hw,lw⟩,_⟩:=slice_read (E:=blkE) Tryz.underlying23 jkr (blk_elem enc) f2 (by omega);obtain⟨dn,e3,_⟩:=DataW.trod_bool Tryz.underlying4 f3;obtain⟨fu,e4,_,k4⟩:=DataW.trod_int Tryz.underlying3 f4;obtain rfl:c0= .int .u32 z:=(List.cons.inj e0).1;obtain rfl:c1=b:=(List.cons.inj e1).1;obtain rfl:c2=w:=(List.cons.inj e2).1;obtain rfl:c3= .bool dn:=(List.cons.inj e3).1;obtain rfl:c4= .int .i64 fu:=(List.cons.inj e4).1;exact⟨⟨z,xb,xw,dn,fu⟩,_,_,rfl,⟨_,_,rfl,hb,hw,bounds_u32 k0,bounds_i64 k4⟩,lb,lw⟩
theorem heapc_read(h:DataW.trod enc Tryz.prog W 0 (fun _=>true) true n 32 cs=some y)(hy:Rows.uptoBulk y.1≤1048576):
 ∃(hp:Hp) (cv:Value),cs=[.int .u32 hp.size,cv]∧HeapV W (.agg #[.int .u32 hp.size,cv]) hp∧hp.cells.length≤1048576:=by
 obtain⟨xs,m,_,rfl,hl,hlen,hf⟩:=DataW.trod_struct Tryz.underlying32 h;rw[cellsHeapJ]at hl;obtain⟨c0,c1,rfl⟩:=len2 hl;have f0:=hf 0 ⟨_,_,_,_,_,_,_⟩ rfl;have f1:=hf 1 ⟨_,_,_,_,_,_,_⟩ rfl
 match xs,hlen with
 |[y0,y1],_=>
 simp only[cellsU32,cellsSlC]at f0 f1;simp only[List.map,Rows.uptoBulk,Rows.uptoBulkAll]at hy;obtain⟨z,e0,_,k0⟩:=DataW.trod_int Tryz.underlying22 f0;obtain⟨b,e1,⟨xb,hb,lb⟩,_⟩:=slice_read (E:=celE) Tryz.underlying30 cellsCelJ (cel_elemJ enc) f1 (by omega);obtain rfl:c0= .int .u32 z:=(List.cons.inj e0).1;obtain rfl:c1=b:=(List.cons.inj e1).1;exact⟨⟨z,xb⟩,_,rfl,⟨_,rfl,hb,bounds_u32 k0⟩,lb⟩
theorem sto_read{r:Reach}{b0:Nat}{v:Value}{d:DataW H}{p:List MemPlace}(hv:Value.okWide Tryz.prog W r b0 42 v)
 (h:DataW.Trod enc Tryz.prog W 0 (fun _=>true) true 42 v d p) (hd:Rows.uptoBulk d≤1048576):
 ∃s:Sto,StoV W v s∧s.dev.blocks.length≤1048576∧s.dev.waits.length≤1048576∧s.heap.cells.length≤1048576:=by
 obtain⟨⟨cs⟩,rfl,_⟩:=okWide_struct Tryz.underlying42 hv;obtain⟨n,h⟩:=h;simp only[Value.cells]at h;obtain⟨xs,m,_,e,hl,hlen,hf⟩:=DataW.trod_struct Tryz.underlying42 h;simp only[Prod.mk.injEq]at e;obtain⟨rfl, -⟩:=e;rw[cellsSto]at hl;have f0:=hf 0 ⟨_,_,_,_,_,_,_⟩ rfl;have f1:=hf 1 ⟨_,_,_,_,_,_,_⟩ rfl;have f2:=hf 2 ⟨_,_,_,_,_,_,_⟩ rfl;have f3:=hf 3 ⟨_,_,_,_,_,_,_⟩ rfl;have f4:=hf 4 ⟨_,_,_,_,_,_,_⟩ rfl
 match xs,hlen with
 |[y0,y1,y2,y3,y4],_=>
 simp only[cellsDev,cellsHeapJ,cellsSup2,cellsBool2,cellsKid]at f0 f1 f2 f3 f4;simp only[List.map,Rows.uptoBulk,Rows.uptoBulkAll]at hd;obtain⟨dv,bv,wv,e0,hdv,lb,lw⟩:=devc_read f0 (by omega);obtain⟨hp,cv,e1,hhp,lc⟩:=heapc_read f1 (by omega);obtain⟨a,b,e2,ha,hb⟩:=sups_read f2;obtain⟨p0,p1,e3⟩:=bools_read f3;obtain⟨k,e4,hk⟩:=kid_read f4 (by omega);refine⟨⟨dv,hp,a,b,p0,p1,k⟩,⟨bv,wv,cv,?_,hdv,hhp,ha,hb,hk⟩,lb,lw,lc⟩;have hc:cs=cs.drop 0:=rfl;have:cs=stoL (devL dv bv wv) [.int .u32 hp.size,cv] (supA a).toList (supA b).toList [.bool p0, .bool p1] (kidE.enc k):=by
  have hl':cs.length=113:=by simpa using hl
  rw[hc,cut_at cs 0 5,cut_at cs (0 + 5) 2,cut_at cs (0 + 5 + 2) 70,cut_at cs (0 + 5 + 2 + 70) 2,cut_at cs (0 + 5 + 2 + 70 + 2) 34,List.drop_eq_nil_of_le (by omega:cs.length≤0 + 5 + 2 + 70 + 2 + 34)];simp only[Nat.zero_add,Nat.reduceAdd]at e0 e1 e2 e3 e4 ⊢;rw[e0,e1,e2,e3,e4];simp[stoL]
 rw[this]
end
end Go.Proofs.YtpaohkkhejpgjaaGreatDoor
