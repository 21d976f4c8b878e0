/- Texts of the proof: Ib. -/
import Derived.Test.YtpaohkkhejpgjaaGreatDoorM23
import Derived.Test.YtpaohkkhejpgjaaGreatDoorM17
set_option linter.all false
set_option maxRecDepth 100000
set_option maxHeartbeats 8000000
namespace Go.Proofs.YtpaohkkhejpgjaaGreatDoor
open Go Go.RowKit Go.Lib
theorem Blk_szI:(Tryz.prog.info? 160).map (·.size)=some 2:=by kernel_rfl
theorem Blk_sizeOf(w:World):(Go.sizeOf 160).run Tryz.prog w= .ok 2 w:=by kernel_rfl
theorem insBlk_shift(b off n c i vb voff m vc:Nat)(cs vs:List Value)(w:World)(hi:i < n)(hm:0 < m)(hroom:n + m≤c)(hc63:c≤9223372036854775807)(hvb:vb≠b)
 (hcl:cs.length=n * 2) (hvl:vs.length=m * 2)
 (hcs:∀j v,cs[j]? =some v→w.cell? ⟨b,off + j,none⟩=some v) (hsp:∀j,j < (n + m) * 2→(w.cell? ⟨b,off + j,none⟩).isSome=true) (hfz:∀j,j < (n + m) * 2→w.frozen? ⟨b,off + j,none⟩=false)
 (hvs:∀j v,vs[j]? =some v→w.cell? ⟨vb,voff + j,none⟩=some v) (h1c:∀v∈cs,v.oneCell'=true) (h1v:∀v∈vs,v.oneCell'=true)
 (tA tB:TypeId) (kA kB:Nat) (hsa:w.shape? vb=some (tA,kA)) (hsb:w.shape? b=some (tB,kB)) (hkB:kB≠0) (hfa:w.frozen? ⟨vb,voff,none⟩=false) (hfe:w.frozen? ⟨vb,kA,none⟩=false):
 Calls Tryz.prog 135 #[.slice (some ⟨b,off,none⟩) n c, .int .i64 i, .slice (some ⟨vb,voff,none⟩) m vc] w fun e w'=>
  e= .returned (.slice (some ⟨b,off,none⟩) (n + m) c)∧w'=(w.drew.setCells b (off + (i + m) * 2) (cs.drop (i * 2))).setCells b (off + i * 2) vs:=by
 have hz1:¬((m:Int)=0):=by omega
 have hz2:¬((i:Int)=(n:Int)):=by omega
 have hsz:=Blk_szI;have hov:∀lb cb,(callFunc 194 #[.slice (some ⟨vb,voff,none⟩) m vc, .slice (some ⟨b,off + (i + m) * 2,none⟩) lb cb]).run Tryz.prog w= .ok (.value (.bool false)) w:=fun lb cb=>by
  rw[run_callFunc_extern Tryz.func194 (by kernel_rfl) (by kernel_rfl) (by kernel_rfl) (e:=Extern.SlicesOverlaps.overlaps #[23,23] #[4]) (by kernel_rfl),
   Lib.run_overlaps_apart w 23 4 160 Tryz.underlying23 2 Blk_sizeOf ⟨vb,voff,none⟩ ⟨b,off + (i + m) * 2,none⟩ m vc lb cb hvb tA tB kA kB hsa hsb hkB hfa hfe]
  rfl
 have hdl:(cs.drop (i * 2)).length=(n - i) * 2:=by rw[List.length_drop,hcl];omega
 have mixed:Tryz.prog.follows .mixedOrders=true:=by kernel_rfl
 have hw1:IntKind.i64.wrap ((i:Int) + (m:Int))=(i:Int) + (m:Int):=by rw[IntKind.wrap_i64];omega
 have hb1:(0:Int)≤(i:Int) + (m:Int):=by omega
 have hin:i≤n:=by omega
 have htn:((i:Int) + (m:Int)).toNat=i + m:=by omega
 have hb2:¬(c=i + m):=by omega
 have hb3:(i:Int)≤(n:Int) + (m:Int):=by omega
 have hb4:¬(c=i):=by omega
 have hcp1:∀ty dc sc,(Builtin.copy_ #[23,23] ty #[.slice (some ⟨b,off + (i + m) * 2,none⟩) (n + m - (i + m)) dc, .slice (some ⟨b,off + i * 2,none⟩) (n + m - i) sc]).run Tryz.prog w.drew= .ok (goInt ((n - i:Nat):Int)) (w.drew.setCells b (off + (i + m) * 2) (cs.drop (i * 2))):=fun ty dc sc=>
  jco w.drew _ _ ty 160 2 b (off + (i + m) * 2) (n + m - (i + m)) dc ⟨b,off + i * 2,none⟩ (n + m - i) sc (cs.drop (i * 2)) (n - i) Tryz.underlying23 hsz (by simp only[Nat.min_def];split <;>omega) hdl
   (fun j v hj=>by rw[Addr.add_lit,Nat.add_assoc];exact hcs (i * 2 + j) v (by rwa[List.getElem?_drop]at hj))
   (fun j hj=>by rw[Nat.add_assoc];exact hsp _ (by omega)) (fun j hj=>by rw[Nat.add_assoc];exact hfz _ (by omega)) (fun v hv=>h1c v (List.mem_of_mem_drop hv))
 obtain⟨W1,hW1⟩:∃W1,W1=w.drew.setCells b (off + (i + m) * 2) (cs.drop (i * 2)):=⟨_,rfl⟩
 have hsp1:∀k,k < (n + m) * 2→(W1.cell? ⟨b,off + k,none⟩).isSome=true:=fun k hk=>by
  rw[hW1];exact isSome_setCells b _ _ _ (fun j hj=>by rw[Nat.add_assoc];exact hsp _ (by omega)) _ (hsp k hk)
 have hcp2:∀(W:World),(∀x,W.cell? x=W1.cell? x)→(∀x,W.frozen? x=W1.frozen? x)→∀ty dc,(Builtin.copy_ #[23,23] ty #[.slice (some ⟨b,off + i * 2,none⟩) (n + m - i) dc, .slice (some ⟨vb,voff,none⟩) m vc]).run Tryz.prog W= .ok (goInt m) (W.setCells b (off + i * 2) vs):=fun W hWc hWf ty dc=>
  jco W _ _ ty 160 2 b (off + i * 2) (n + m - i) dc ⟨vb,voff,none⟩ m vc vs m Tryz.underlying23 hsz (by simp only[Nat.min_def];split <;>omega) hvl
   (fun j v hj=>by
    rw[Addr.add_lit,hWc,hW1,World.cell?_setCells_out b _ _ _ _ (fun h _=>absurd h hvb)];exact hvs j v hj)
   (fun j hj=>by rw[hWc,Nat.add_assoc];exact hsp1 _ (by omega)) (fun j hj=>by rw[hWf,hW1,World.frozen?_setCells,Nat.add_assoc];exact hfz _ (by omega)) h1v
 rw[←hW1]at hcp1;go_enter Tryz.func135,Tryz.ntmps135;go_wp2_with (simp only[hov]);go_region_law_o (refine step_copy_runI rfl _ _ 23 23 rfl _ _ (by simp[Act.eval,Act.put]) (by simp[Act.eval,Act.put]) (hcp1 _ _ _) ?_);go_wp2_with (at_builtin;refine wpList_copy_runI _ rfl _ _ 23 23 rfl _ _ rfl rfl (hcp2 _ (fun _=>rfl) (fun _=>rfl) _ _) ?_);go_ret;first|exact⟨rfl,rfl⟩|exact⟨rfl,by rw[hW1]⟩
theorem insBlk_grow(b off n c i vb voff m vc:Nat)(cs vs:List Value)(w:World)(hi:i < n)(hm:0 < m)(hnc:n≤c)(hroom:c < n + m)(hbig:(n + m) * 24≤140737488355328)
 (hcl:cs.length=n * 2) (hvl:vs.length=m * 2)
 (hcs:∀j v,cs[j]? =some v→w.cell? ⟨b,off + j,none⟩=some v)
 (hvs:∀j v,vs[j]? =some v→w.cell? ⟨vb,voff + j,none⟩=some v) (h1c:∀v∈cs,v.oneCell'=true) (h1v:∀v∈vs,v.oneCell'=true):
 Calls Tryz.prog 135 #[.slice (some ⟨b,off,none⟩) n c, .int .i64 i, .slice (some ⟨vb,voff,none⟩) m vc] w fun e w'=>
  ∃ROW:Array Value,ROW.size=grownCap w (n + m) c 160 * 2∧(∀j,j < i * 2→ROW[j]? =cs[j]?)∧e= .returned (.slice (some ⟨w.heap.size,0,none⟩) (n + m) (grownCap w (n + m) c 160))∧
  w'=(((w.alloc (.cells ROW 160)).drew.setCells w.heap.size (i * 2) vs).drew).setCells w.heap.size ((i + m) * 2) (cs.drop (i * 2)):=by
 have mixed:Tryz.prog.follows .mixedOrders=true:=by kernel_rfl
 obtain⟨i0,z0,hi0,hz0,hz1',hzs,hzz⟩:=jbw jiw;have hz1:¬((m:Int)=0):=by omega
 have hz2:¬((i:Int)=(n:Int)):=by omega
 have hz3:(c:Int) < (n:Int) + (m:Int):=by omega
 have hsz:=Blk_szI;have hbw:b < w.heap.size:=block_lt_of_cell (hcs 0 _ (List.getElem?_eq_getElem (by omega)));have hvw:vb < w.heap.size:=block_lt_of_cell (hvs 0 _ (List.getElem?_eq_getElem (by omega)));have hkk:(n:Int) + (m:Int) - (i:Int)=((n + m - i:Nat):Int):=by omega
 have hik:i + (n + m - i)=n + m:=by omega
 have hold:(Builtin.firstCells i0.size i (.slice (some ⟨b,off,none⟩) i c)).run Tryz.prog w.drew= .ok (cs.take (i * 2)).toArray w.drew:=by
  rw[hz1'];exact run_firstCells_some w.drew 2 i ⟨b,off,none⟩ i c (cs.take (i * 2)) (by rw[List.length_take];omega) (fun j v hj=>by
   rw[Addr.add_lit];rw[List.getElem?_take]at hj;split at hj
   ·exact hcs j v hj
   ·cases hj)
 obtain⟨ROW,hROW⟩:∃ROW:Array Value,ROW=(cs.take (i * 2)).toArray ++ Builtin.zeroCells z0.cells (n + m - i) ++ Builtin.zeroCells z0.cells (grownCap w (n + m) c 160 - (n + m)):=⟨_,rfl⟩
 have hrz:∀ty,(Builtin.append_ #[23,3] ty #[.slice (some ⟨b,off,none⟩) i c, .int .i64 ((n:Int) + (m:Int) - (i:Int))]).run Tryz.prog w=
  .ok (.slice (some ⟨w.heap.size,0,none⟩) (n + m) (grownCap w (n + m) c 160)) (w.drew.alloc (.cells ROW 160)):=fun ty=>by
  have h:=Lib.run_append_grow_zeros w 23 3 ty 160 i0 _ .i64 .i64 Tryz.underlying23 Tryz.underlying3 hi0 hz0 (some ⟨b,off,none⟩) i c (cs.take (i * 2)) hold (n + m - i) (by omega) (by omega) (by omega) (by omega) (by rw[hzs];omega) (by rw[hzs,hik];exact growslice_fits hroom hbig);rw[hik]at h;rw[hkk,hROW];exact h
 have hGe:n + m≤grownCap w (n + m) c 160:=grownCap_ge w _ _ _;have hRs:ROW.size=grownCap w (n + m) c 160 * 2:=by
  rw[hROW];have hzl:∀k,(Builtin.zeroCells z0.cells k).size=k * 2:=by
   intro k;simp[Builtin.zeroCells,hzz]
  rw[Array.size_append,Array.size_append,hzl,hzl];simp only[List.size_toArray,List.length_take];omega
 have hRg:∀j,j < i * 2→ROW[j]? =cs[j]? :=by
  intro j hj;rw[hROW,Array.append_assoc,Array.getElem?_append_left (by simp;omega),List.getElem?_toArray,List.getElem?_take,if_pos hj]
 obtain⟨G,hG⟩:∃G,G=grownCap w (n + m) c 160:=⟨_,rfl⟩
 rw[←hG]at hrz hRs hGe ⊢;have hRl:(n + m) * 2≤ROW.size:=by omega
 obtain⟨W1,hW1⟩:∃W1,W1=w.drew.alloc (.cells ROW 160):=⟨_,rfl⟩
 rw[←hW1]at hrz;have hN:∀j,j < (n + m) * 2→(W1.cell? ⟨w.heap.size,j,none⟩).isSome=true:=fun j hj=>by
  rw[hW1,World.cell?_alloc_at (w:=w.drew) ROW _ w.heap.size j rfl,Array.getElem?_eq_getElem (by omega)];rfl
 have hNf:∀j,W1.frozen? ⟨w.heap.size,j,none⟩=false:=fun j=>by rw[hW1];exact World.frozen?_alloc_at (w:=w.drew) ROW _ w.heap.size j rfl
 have hOb:∀j v,w.cell? ⟨b,j,none⟩=some v→W1.cell? ⟨b,j,none⟩=some v:=fun j v h=>by rw[hW1,World.cell?_alloc_past (w:=w.drew) _ b j hbw];exact h
 have hOv:∀j v,w.cell? ⟨vb,j,none⟩=some v→W1.cell? ⟨vb,j,none⟩=some v:=fun j v h=>by rw[hW1,World.cell?_alloc_past (w:=w.drew) _ vb j hvw];exact h
 have hcpA:∀(W:World),(∀x,W.cell? x=W1.cell? x)→(∀x,W.frozen? x=W1.frozen? x)→∀ty dc,(Builtin.copy_ #[23,23] ty #[.slice (some ⟨w.heap.size,i * 2,none⟩) (n + m - i) dc, .slice (some ⟨vb,voff,none⟩) m vc]).run Tryz.prog W= .ok (goInt m) (W.setCells w.heap.size (i * 2) vs):=fun W hWc hWf ty dc=>
  jco W _ _ ty 160 2 w.heap.size (i * 2) (n + m - i) dc ⟨vb,voff,none⟩ m vc vs m Tryz.underlying23 hsz (by simp only[Nat.min_def];split <;>omega) hvl
   (fun j v hj=>by rw[Addr.add_lit,hWc];exact hOv _ v (hvs j v hj))
   (fun j hj=>by rw[hWc];exact hN _ (by omega)) (fun j hj=>by rw[hWf];exact hNf _) h1v
 have hG63:G≤9223372036854775807:=by
  have:=grownCap_le_maxLen w (n + m) c 160 (by unfold maxLen;omega);rw[←hG]at this;unfold maxLen at this;omega
 have hGi:¬(G=i):=by omega
 have hGim:¬(G=i + m):=by omega
 have hci:¬(c=i):=by omega
 have hbN:b≠w.heap.size:=by omega
 have hdl:(cs.drop (i * 2)).length=(n - i) * 2:=by rw[List.length_drop,hcl];omega
 have hcpB:∀(W:World),(∀x,W.cell? x=(W1.setCells w.heap.size (i * 2) vs).cell? x)→(∀x,W.frozen? x=(W1.setCells w.heap.size (i * 2) vs).frozen? x)→∀ty dc sc,(Builtin.copy_ #[23,23] ty #[.slice (some ⟨w.heap.size,(i + m) * 2,none⟩) (n + m - (i + m)) dc, .slice (some ⟨b,off + i * 2,none⟩) (n - i) sc]).run Tryz.prog W= .ok (goInt ((n - i:Nat):Int)) (W.setCells w.heap.size ((i + m) * 2) (cs.drop (i * 2))):=fun W hWc hWf ty dc sc=>
  jco W _ _ ty 160 2 w.heap.size ((i + m) * 2) (n + m - (i + m)) dc ⟨b,off + i * 2,none⟩ (n - i) sc (cs.drop (i * 2)) (n - i) Tryz.underlying23 hsz (by simp only[Nat.min_def];split <;>omega) hdl
   (fun j v hj=>by
    rw[Addr.add_lit,hWc,World.cell?_setCells_out _ _ _ _ _ (fun h _=>absurd h hbN),Nat.add_assoc];exact hOb _ v (hcs (i * 2 + j) v (by rwa[List.getElem?_drop]at hj)))
   (fun j hj=>by rw[hWc];exact isSome_setCells _ _ _ _ (fun t ht=>hN _ (by omega)) _ (hN _ (by omega)))
   (fun j hj=>by rw[hWf,World.frozen?_setCells];exact hNf _) (fun v hv=>h1c v (List.mem_of_mem_drop hv))
 subst hW1;have hE1:∀x,((w.alloc (.cells ROW 160)).drew).cell? x=(w.drew.alloc (.cells ROW 160)).cell? x:=fun x=>rfl
 have hE2:∀x,((w.alloc (.cells ROW 160)).drew).frozen? x=(w.drew.alloc (.cells ROW 160)).frozen? x:=fun x=>rfl
 have hF1:∀x,(((w.alloc (.cells ROW 160)).drew.setCells w.heap.size (i * 2) vs).drew).cell? x=((w.drew.alloc (.cells ROW 160)).setCells w.heap.size (i * 2) vs).cell? x:=fun x=>rfl
 have hF2:∀x,(((w.alloc (.cells ROW 160)).drew.setCells w.heap.size (i * 2) vs).drew).frozen? x=((w.drew.alloc (.cells ROW 160)).setCells w.heap.size (i * 2) vs).frozen? x:=fun x=>rfl
 have hw1:IntKind.i64.wrap ((i:Int) + (m:Int))=(i:Int) + (m:Int):=by rw[IntKind.wrap_i64];omega
 have hb1:(0:Int)≤(i:Int) + (m:Int):=by omega
 have hin:i≤n:=by omega
 have htn:((i:Int) + (m:Int)).toNat=i + m:=by omega
 have hb3:(i:Int)≤(n:Int):=by omega
 have HRR:=Lib.hid (And.intro hRs hRg);clear hkk hik hold hROW hG hRl hRs hRg;go_enter Tryz.func135,Tryz.ntmps135;go_wp2_with (first
  |(at_builtin;refine Lib.wpList_append_run _ rfl _ _ _ _ rfl _ _ rfl rfl _ _ (hrz _) ?_)
  |(at_builtin;refine wpList_copy_runI _ rfl _ _ 23 23 rfl _ _ rfl rfl (hcpA _ hE1 hE2 _ _) ?_)
  |(at_builtin;refine wpList_copy_runI _ rfl _ _ 23 23 rfl _ _ rfl rfl (hcpB _ (fun _=>rfl) (fun _=>rfl) _ _ _) ?_))
 go_region_law_o (refine step_copy_runI rfl _ _ 23 23 rfl (.slice (some ⟨w.heap.size,(i + m) * 2,none⟩) (n + m - (i + m)) (G - (i + m))) (.slice (some ⟨b,off + i * 2,none⟩) (n - i) (c - i)) (by simp[Act.eval,Act.put]) (by simp[Act.eval,Act.put]) (hcpB _ hF1 hF2 3 (G - (i + m)) (c - i)) ?_);go_wp2;go_ret;exact⟨ROW,HRR.out.1,HRR.out.2,rfl,rfl⟩
theorem ins_cellsBlk(x:Blk){l:List Blk}{i:Nat}(hwf:∀y∈l,blkE.wf y)(h:i≤l.length)(j:Nat):
 ((l.insertIdx i x).flatMap blkE.enc)[j]? =if j < i * 2 then(l.flatMap blkE.enc)[j]? else if j < i * 2 + 2 then[Value.int .u32 x.num, .string x.data][j - i * 2]? else(l.flatMap blkE.enc)[j - 2]? :=by
 have hwt:∀y∈l.take i,blkE.wf y:=fun y hy=>hwf y ((List.take_sublist _ _).subset hy)
 have htl:((l.take i).flatMap blkE.enc).length=i * 2:=by rw[jbb blkE _ hwt,List.length_take,Nat.min_eq_left h];rfl
 have h8:l.flatMap blkE.enc=(l.take i).flatMap blkE.enc ++ (l.drop i).flatMap blkE.enc:=by rw[←List.flatMap_append,List.take_append_drop]
 have h9:(l.insertIdx i x).flatMap blkE.enc=(l.take i).flatMap blkE.enc ++ ([Value.int .u32 x.num, .string x.data] ++ (l.drop i).flatMap blkE.enc):=by
  rw[je5 x h,List.flatMap_append,List.flatMap_cons];rfl
 rw[h9,h8];by_cases h1:j < i * 2
 ·rw[if_pos h1,List.getElem?_append_left (by omega),List.getElem?_append_left (by omega)]
 ·rw[if_neg h1,List.getElem?_append_right (by omega),htl];by_cases h2:j < i * 2 + 2
  ·rw[if_pos h2,List.getElem?_append_left (by simp;omega)]
  ·rw[if_neg h2,List.getElem?_append_right (by simp;omega),List.getElem?_append_right (by omega),htl];congr 1
   simp only[List.length_cons,List.length_nil];omega
theorem ins_clenBlk(x:Blk){l:List Blk}{i:Nat}(hwf:∀y∈l,blkE.wf y)(h:i≤l.length):((l.insertIdx i x).flatMap blkE.enc).length=(l.length + 1) * 2:=by
 have h8:l.flatMap blkE.enc=(l.take i).flatMap blkE.enc ++ (l.drop i).flatMap blkE.enc:=by rw[←List.flatMap_append,List.take_append_drop]
 have h7:=jbb blkE l hwf;have h9:(l.insertIdx i x).flatMap blkE.enc=(l.take i).flatMap blkE.enc ++ ([Value.int .u32 x.num, .string x.data] ++ (l.drop i).flatMap blkE.enc):=by
  rw[je5 x h,List.flatMap_append,List.flatMap_cons];rfl
 rw[h8]at h7;rw[h9];simp only[List.length_append,List.length_cons,List.length_nil]at h7 ⊢;have:blkE.sz=2:=rfl;rw[this]at h7;omega
theorem insBlk_any(B:Nat)(w:World)(v:Value)(n i g:Nat)(x:Blk)(l:List Blk)(hln:l.length=n)(hown:w.ownsRow B 160 2 v n (l.flatMap blkE.enc))(hwf:∀y∈l,blkE.wf y)(hi:i≤n)
 (hg:w.heap[g]? =some (.cells #[Value.int .u32 x.num, .string x.data] 160 (0,0))) (hgv:v.ownBlock≠some g) (hn:n + 1≤1073741825) (hB:B≤w.heap.size):
 Calls Tryz.prog 135 #[v, .int .i64 i, .slice (some ⟨g,0,none⟩) 1 1] w fun e w'=>∃g' cap,e= .returned (.slice (some ⟨g',0,none⟩) (n + 1) cap)∧
  w'.ownsRow B 160 2 (.slice (some ⟨g',0,none⟩) (n + 1) cap) (n + 1) ((l.insertIdx i x).flatMap blkE.enc)∧w.grownBy w' v.ownBlock∧(v.ownBlock=some g'∨w.heap.size≤g'):=by
 obtain⟨i0,z0,hi0,hz0,hz1,hz2,hzs⟩:=jbw jiw;have hxl:(l.flatMap blkE.enc).length=n * 2:=by rw[jbb blkE l hwf,hln];rfl
 have hic:=ins_cellsBlk x (l:=l) (i:=i) hwf (by omega);have hil:=ins_clenBlk x (l:=l) (i:=i) hwf (by omega);rw[hln]at hil;have h1x:=jh8 blkE l hwf;have hvs:∀j v,[Value.int .u32 x.num, .string x.data][j]? =some v→w.cell? ⟨g,0 + j,none⟩=some v:=by
  intro j v hj;rw[cell_of_row _ _ _ _ _ _ hg,Nat.zero_add]
  match j with
  |0=>simpa using hj
  |1=>simpa using hj
  |j + 2=>simp at hj
 have h1v:∀v∈[Value.int .u32 x.num, .string x.data],v.oneCell'=true:=by intro v hv;simp at hv;rcases hv with rfl|rfl <;>rfl
 by_cases hin:i=n
 ·subst hin;obtain⟨g',cap,w',hr,h1,h2,h3,_⟩:=run_append_lies (P:=Tryz.prog) w 23 23 B 160 i0 z0 2 24 Tryz.underlying23 hi0 hz0 hz1 hz2 hzs (by decide) v i (l.flatMap blkE.enc) hown ⟨g,0,none⟩ 1 1 [Value.int .u32 x.num, .string x.data] rfl (fun j u hj=>by rw[jcl];exact hvs j u hj) h1v (by decide) (by unfold maxLen;omega) (by omega) hB _ rfl;have hins:(l.insertIdx i x).flatMap blkE.enc=l.flatMap blkE.enc ++ [Value.int .u32 x.num, .string x.data]:=by
   rw[je5 x (by omega),List.take_of_length_le (by omega),List.drop_of_length_le (by omega),List.flatMap_append];rfl
  have HF:=Lib.hid (And.intro h1 (And.intro h2 (h3.imp id (fun e=>Nat.le_of_eq e.symm))));have HR:=Lib.hid hr;have HI:=Lib.hid hins;clear h1 h2 h3 hins hr hic hil h1x hvs h1v hxl hwf;rcases hown.2 with⟨rfl,rfl⟩|⟨b,c,cur,rfl,hbg,hb,hnc,hcm,hcs,htake⟩
  ·go_enter Tryz.func135,Tryz.ntmps135;go_wp2_with (at_builtin;refine Lib.wpList_append_run _ rfl _ _ _ _ rfl _ _ rfl rfl _ _ HR.out ?_);go_ret;exact⟨g',cap,rfl,by rw[HI.out];exact HF.out.1,HF.out.2⟩
  ·have hcm':c≤9223372036854775807:=by unfold maxLen at hcm;omega
   clear hcm htake hcs;go_enter Tryz.func135,Tryz.ntmps135;go_wp2_with (at_builtin;refine Lib.wpList_append_run _ rfl _ _ _ _ rfl _ _ rfl rfl _ _ HR.out ?_);all_goals go_ret
   all_goals exact⟨g',cap,rfl,by rw[HI.out];exact HF.out.1,HF.out.2⟩
 ·rcases hown.2 with⟨rfl,rfl⟩|⟨b,c,cur,rfl,hbg,hb,hnc,hcm,hcs,htake⟩
  ·omega
  ·have hgb:g≠b:=by intro e;subst e;exact hgv rfl
   have hcm':c≤9223372036854775807:=by unfold maxLen at hcm;omega
   have hcsz:cur.size=c * 2:=hcs;generalize hxs:l.flatMap blkE.enc=xs at *;have hcur:∀j v,xs[j]? =some v→w.cell? ⟨b,0 + j,none⟩=some v:=by
    intro j v hj;have:=hown.cells (g:=b) rfl j v hj
    rwa[jcl]at this
   have hcj:∀j,j < n * 2→cur[j]? =xs[j]? :=by
    intro j hj;rw[←htake,List.getElem?_take,if_pos (by omega),Array.getElem?_toList]
   have hfz:∀j,w.frozen? ⟨b,j,none⟩=false:=fun j=>frozen_of_row _ _ _ _ _ hb
   have hfg:∀j,w.frozen? ⟨g,j,none⟩=false:=fun j=>frozen_of_row _ _ _ _ _ hg
   have hdl:(xs.drop (i * 2)).length=(n - i) * 2:=by rw[List.length_drop,hxl];omega
   by_cases hroom:n + 1≤c
   ·have hsa:w.shape? g=some (160,2):=by unfold World.shape?;rw[hg];rfl
    have hsb:w.shape? b=some (160,c * 2):=by unfold World.shape?;rw[hb,←hcsz]
    refine(insBlk_shift b 0 n c i g 0 1 1 xs [Value.int .u32 x.num, .string x.data] w (by omega) (by omega) hroom hcm' hgb hxl rfl hcur (fun j hj=>by
     rw[cell_of_row _ _ _ _ _ _ hb,Array.getElem?_eq_getElem (by omega)];rfl) (fun j _=>hfz _) hvs h1x h1v _ _ 2 (c * 2) hsa hsb (by omega) (hfg _) (hfg _)).mono ?_
    rintro e w' ⟨rfl,rfl⟩;obtain⟨cur1,k1,k2,k3,k4⟩:=jbq b (xs.drop (i * 2)) (0 + (i + 1) * 2) w.drew cur _ hb;obtain⟨cur2,m1,m2,m3,m4⟩:=jbq b [Value.int .u32 x.num, .string x.data] (0 + i * 2) _ cur1 _ k1;have hget:∀j,j < (n + 1) * 2→cur2[j]? =((l.insertIdx i x).flatMap blkE.enc)[j]? :=by
     intro j hj;rw[hic j,m3,k3];simp only[List.length_cons,List.length_nil,hdl,k2,Nat.zero_add];by_cases h1:j < i * 2
     ·rw[if_neg (by omega),if_neg (by omega),if_pos h1];exact hcj j (by omega)
     ·by_cases h2:j < i * 2 + 2
      ·rw[if_pos (by omega),if_neg h1,if_pos h2]
      ·rw[if_neg (by omega),if_pos (by omega),if_neg h1,if_neg h2,List.getElem?_drop];congr 1;omega
    refine⟨b,c,rfl,⟨hil,Or.inr ⟨b,c,cur2,rfl,hbg,m1,hroom,hcm,by rw[m2,k2,hcs],?_⟩⟩,?_,Or.inl rfl⟩
    ·exact je6 cur2 _ _ hil (by rw[m2,k2];omega) hget
    ·exact⟨m4.os.trans k4.os,m4.tape.trans k4.tape,m4.output.trans k4.output,Nat.le_trans k4.size m4.size,fun k hk hne=>(m4.block k (Nat.lt_of_lt_of_le hk k4.size) hne).trans (k4.block k hk hne)⟩
   ·refine(insBlk_grow b 0 n c i g 0 1 1 xs [Value.int .u32 x.num, .string x.data] w (by omega) (by omega) hnc (by omega) (by omega) hxl rfl hcur hvs h1x h1v).mono ?_;rintro e w' ⟨ROW,hRs,hRg,rfl,rfl⟩;have hge:=grownCap_ge w (n + 1) c 160;have hcmx:grownCap w (n + 1) c 160≤maxLen:=grownCap_le_maxLen w (n + 1) c 160 (by unfold maxLen;omega);generalize grownCap w (n + 1) c 160=G at *;have hnew:(w.alloc (.cells ROW 160)).drew.heap[w.heap.size]? =some (.cells ROW 160 (0,0)):=heap_alloc_new _ _;obtain⟨cur1,k1,k2,k3,k4⟩:=jbq w.heap.size [Value.int .u32 x.num, .string x.data] (i * 2) _ ROW _ hnew;have k1':((w.alloc (.cells ROW 160)).drew.setCells w.heap.size (i * 2) [Value.int .u32 x.num, .string x.data]).drew.heap[w.heap.size]? =some (.cells cur1 160 (0,0)):=k1;obtain⟨cur2,m1,m2,m3,m4⟩:=jbq w.heap.size (xs.drop (i * 2)) ((i + 1) * 2) _ cur1 _ k1';have hget:∀j,j < (n + 1) * 2→cur2[j]? =((l.insertIdx i x).flatMap blkE.enc)[j]? :=by
     intro j hj;rw[hic j,m3,k3];simp only[List.length_cons,List.length_nil,hdl,k2];by_cases h1:j < i * 2
     ·rw[if_neg (by omega),if_neg (by omega),if_pos h1];exact hRg j h1
     ·by_cases h2:j < i * 2 + 2
      ·rw[if_neg (by omega),if_pos (by omega),if_neg h1,if_pos h2]
      ·rw[if_pos (by omega),if_neg h1,if_neg h2,List.getElem?_drop];congr 1;omega
    refine⟨w.heap.size,G,rfl,⟨hil,Or.inr ⟨w.heap.size,G,cur2,rfl,hB,m1,hge,hcmx,by rw[m2,k2,hRs],?_⟩⟩,?_,Or.inr (Nat.le_refl _)⟩
    ·exact je6 cur2 _ _ hil (by rw[m2,k2];omega) hget
    ·refine⟨m4.os.trans k4.os,m4.tape.trans k4.tape,m4.output.trans k4.output,?_,fun k hk _=>?_⟩
     ·exact Nat.le_trans (show w.heap.size≤(w.alloc (.cells ROW 160)).drew.heap.size by simp[World.drew]) (Nat.le_trans k4.size m4.size)
     ·have hkn:k≠w.heap.size:=by omega
      have hk1:k < (w.alloc (.cells ROW 160)).drew.heap.size:=by simp[World.drew];omega
      rw[m4.block k (Nat.lt_of_lt_of_le hk1 k4.size) (by simpa using hkn),show((w.alloc (.cells ROW 160)).drew.setCells w.heap.size (i * 2) [Value.int .u32 x.num, .string x.data]).drew.heap[k]? =((w.alloc (.cells ROW 160)).drew.setCells w.heap.size (i * 2) [Value.int .u32 x.num, .string x.data]).heap[k]? from rfl,k4.block k hk1 (by simpa using hkn)];exact Lib.alloc_old w _ k hk
end Go.Proofs.YtpaohkkhejpgjaaGreatDoor
