/- Texts of the proof: Ik Tm. -/
import Derived.Test.YtpaohkkhejpgjaaGreatDoorM23
import Derived.Test.YtpaohkkhejpgjaaGreatDoorM19
import Derived.Test.YtpaohkkhejpgjaaGreatDoorM20
set_option linter.all false
set_option maxRecDepth 100000
set_option maxHeartbeats 8000000
namespace Go.Proofs.YtpaohkkhejpgjaaGreatDoor
open Go Go.RowKit Go.Lib
theorem Cel_szI:(Tryz.prog.info? 91).map (·.size)=some 3:=by kernel_rfl
theorem Cel_sizeOf(w:World):(Go.sizeOf 91).run Tryz.prog w= .ok 3 w:=by kernel_rfl
theorem insCel_shift(b off n c i vb voff m vc:Nat)(cs vs:List Value)(w:World)(hi:i < n)(hm:0 < m)(hroom:n + m≤c)(hc63:c≤9223372036854775807)(hvb:vb≠b)
 (hcl:cs.length=n * 3) (hvl:vs.length=m * 3)
 (hcs:∀j v,cs[j]? =some v→w.cell? ⟨b,off + j,none⟩=some v) (hsp:∀j,j < (n + m) * 3→(w.cell? ⟨b,off + j,none⟩).isSome=true) (hfz:∀j,j < (n + m) * 3→w.frozen? ⟨b,off + j,none⟩=false)
 (hvs:∀j v,vs[j]? =some v→w.cell? ⟨vb,voff + j,none⟩=some v) (h1c:∀v∈cs,v.oneCell'=true) (h1v:∀v∈vs,v.oneCell'=true)
 (tA tB:TypeId) (kA kB:Nat) (hsa:w.shape? vb=some (tA,kA)) (hsb:w.shape? b=some (tB,kB)) (hkB:kB≠0) (hfa:w.frozen? ⟨vb,voff,none⟩=false) (hfe:w.frozen? ⟨vb,kA,none⟩=false):
 Calls Tryz.prog 108 #[.slice (some ⟨b,off,none⟩) n c, .int .i64 i, .slice (some ⟨vb,voff,none⟩) m vc] w fun e w'=>
  e= .returned (.slice (some ⟨b,off,none⟩) (n + m) c)∧w'=(w.drew.setCells b (off + (i + m) * 3) (cs.drop (i * 3))).setCells b (off + i * 3) vs:=by
 have hz1:¬((m:Int)=0):=by omega
 have hz2:¬((i:Int)=(n:Int)):=by omega
 have hsz:=Cel_szI;have hov:∀lb cb,(callFunc 165 #[.slice (some ⟨vb,voff,none⟩) m vc, .slice (some ⟨b,off + (i + m) * 3,none⟩) lb cb]).run Tryz.prog w= .ok (.value (.bool false)) w:=fun lb cb=>by
  rw[run_callFunc_extern Tryz.func165 (by kernel_rfl) (by kernel_rfl) (by kernel_rfl) (e:=Extern.SlicesOverlaps.overlaps #[30,30] #[4]) (by kernel_rfl),
   Lib.run_overlaps_apart w 30 4 91 Tryz.underlying30 3 Cel_sizeOf ⟨vb,voff,none⟩ ⟨b,off + (i + m) * 3,none⟩ m vc lb cb hvb tA tB kA kB hsa hsb hkB hfa hfe]
  rfl
 have hdl:(cs.drop (i * 3)).length=(n - i) * 3:=by rw[List.length_drop,hcl];omega
 have mixed:Tryz.prog.follows .mixedOrders=true:=by kernel_rfl
 have hw1:IntKind.i64.wrap ((i:Int) + (m:Int))=(i:Int) + (m:Int):=by rw[IntKind.wrap_i64];omega
 have hb1:(0:Int)≤(i:Int) + (m:Int):=by omega
 have hin:i≤n:=by omega
 have htn:((i:Int) + (m:Int)).toNat=i + m:=by omega
 have hb2:¬(c=i + m):=by omega
 have hb3:(i:Int)≤(n:Int) + (m:Int):=by omega
 have hb4:¬(c=i):=by omega
 have hcp1:∀ty dc sc,(Builtin.copy_ #[30,30] ty #[.slice (some ⟨b,off + (i + m) * 3,none⟩) (n + m - (i + m)) dc, .slice (some ⟨b,off + i * 3,none⟩) (n + m - i) sc]).run Tryz.prog w.drew= .ok (goInt ((n - i:Nat):Int)) (w.drew.setCells b (off + (i + m) * 3) (cs.drop (i * 3))):=fun ty dc sc=>
  jco w.drew _ _ ty 91 3 b (off + (i + m) * 3) (n + m - (i + m)) dc ⟨b,off + i * 3,none⟩ (n + m - i) sc (cs.drop (i * 3)) (n - i) Tryz.underlying30 hsz (by simp only[Nat.min_def];split <;>omega) hdl
   (fun j v hj=>by rw[Addr.add_lit,Nat.add_assoc];exact hcs (i * 3 + j) v (by rwa[List.getElem?_drop]at hj))
   (fun j hj=>by rw[Nat.add_assoc];exact hsp _ (by omega)) (fun j hj=>by rw[Nat.add_assoc];exact hfz _ (by omega)) (fun v hv=>h1c v (List.mem_of_mem_drop hv))
 obtain⟨W1,hW1⟩:∃W1,W1=w.drew.setCells b (off + (i + m) * 3) (cs.drop (i * 3)):=⟨_,rfl⟩
 have hsp1:∀k,k < (n + m) * 3→(W1.cell? ⟨b,off + k,none⟩).isSome=true:=fun k hk=>by
  rw[hW1];exact isSome_setCells b _ _ _ (fun j hj=>by rw[Nat.add_assoc];exact hsp _ (by omega)) _ (hsp k hk)
 have hcp2:∀(W:World),(∀x,W.cell? x=W1.cell? x)→(∀x,W.frozen? x=W1.frozen? x)→∀ty dc,(Builtin.copy_ #[30,30] ty #[.slice (some ⟨b,off + i * 3,none⟩) (n + m - i) dc, .slice (some ⟨vb,voff,none⟩) m vc]).run Tryz.prog W= .ok (goInt m) (W.setCells b (off + i * 3) vs):=fun W hWc hWf ty dc=>
  jco W _ _ ty 91 3 b (off + i * 3) (n + m - i) dc ⟨vb,voff,none⟩ m vc vs m Tryz.underlying30 hsz (by simp only[Nat.min_def];split <;>omega) hvl
   (fun j v hj=>by
    rw[Addr.add_lit,hWc,hW1,World.cell?_setCells_out b _ _ _ _ (fun h _=>absurd h hvb)];exact hvs j v hj)
   (fun j hj=>by rw[hWc,Nat.add_assoc];exact hsp1 _ (by omega)) (fun j hj=>by rw[hWf,hW1,World.frozen?_setCells,Nat.add_assoc];exact hfz _ (by omega)) h1v
 rw[←hW1]at hcp1;go_enter Tryz.func108,Tryz.ntmps108;go_wp2_with (simp only[hov]);go_region_law_o (refine step_copy_runI rfl _ _ 30 30 rfl _ _ (by simp[Act.eval,Act.put]) (by simp[Act.eval,Act.put]) (hcp1 _ _ _) ?_);go_wp2_with (at_builtin;refine wpList_copy_runI _ rfl _ _ 30 30 rfl _ _ rfl rfl (hcp2 _ (fun _=>rfl) (fun _=>rfl) _ _) ?_);go_ret;first|exact⟨rfl,rfl⟩|exact⟨rfl,by rw[hW1]⟩
theorem insCel_grow(b off n c i vb voff m vc:Nat)(cs vs:List Value)(w:World)(hi:i < n)(hm:0 < m)(hnc:n≤c)(hroom:c < n + m)(hbig:(n + m) * 32≤140737488355328)
 (hcl:cs.length=n * 3) (hvl:vs.length=m * 3)
 (hcs:∀j v,cs[j]? =some v→w.cell? ⟨b,off + j,none⟩=some v)
 (hvs:∀j v,vs[j]? =some v→w.cell? ⟨vb,voff + j,none⟩=some v) (h1c:∀v∈cs,v.oneCell'=true) (h1v:∀v∈vs,v.oneCell'=true):
 Calls Tryz.prog 108 #[.slice (some ⟨b,off,none⟩) n c, .int .i64 i, .slice (some ⟨vb,voff,none⟩) m vc] w fun e w'=>
  ∃ROW:Array Value,ROW.size=grownCap w (n + m) c 91 * 3∧(∀j,j < i * 3→ROW[j]? =cs[j]?)∧e= .returned (.slice (some ⟨w.heap.size,0,none⟩) (n + m) (grownCap w (n + m) c 91))∧
  w'=(((w.alloc (.cells ROW 91)).drew.setCells w.heap.size (i * 3) vs).drew).setCells w.heap.size ((i + m) * 3) (cs.drop (i * 3)):=by
 have mixed:Tryz.prog.follows .mixedOrders=true:=by kernel_rfl
 obtain⟨i0,z0,hi0,hz0,hz1',hzs,hzz⟩:=jbw jks;have hz1:¬((m:Int)=0):=by omega
 have hz2:¬((i:Int)=(n:Int)):=by omega
 have hz3:(c:Int) < (n:Int) + (m:Int):=by omega
 have hsz:=Cel_szI;have hbw:b < w.heap.size:=block_lt_of_cell (hcs 0 _ (List.getElem?_eq_getElem (by omega)));have hvw:vb < w.heap.size:=block_lt_of_cell (hvs 0 _ (List.getElem?_eq_getElem (by omega)));have hkk:(n:Int) + (m:Int) - (i:Int)=((n + m - i:Nat):Int):=by omega
 have hik:i + (n + m - i)=n + m:=by omega
 have hold:(Builtin.firstCells i0.size i (.slice (some ⟨b,off,none⟩) i c)).run Tryz.prog w.drew= .ok (cs.take (i * 3)).toArray w.drew:=by
  rw[hz1'];exact run_firstCells_some w.drew 3 i ⟨b,off,none⟩ i c (cs.take (i * 3)) (by rw[List.length_take];omega) (fun j v hj=>by
   rw[Addr.add_lit];rw[List.getElem?_take]at hj;split at hj
   ·exact hcs j v hj
   ·cases hj)
 obtain⟨ROW,hROW⟩:∃ROW:Array Value,ROW=(cs.take (i * 3)).toArray ++ Builtin.zeroCells z0.cells (n + m - i) ++ Builtin.zeroCells z0.cells (grownCap w (n + m) c 91 - (n + m)):=⟨_,rfl⟩
 have hrz:∀ty,(Builtin.append_ #[30,3] ty #[.slice (some ⟨b,off,none⟩) i c, .int .i64 ((n:Int) + (m:Int) - (i:Int))]).run Tryz.prog w=
  .ok (.slice (some ⟨w.heap.size,0,none⟩) (n + m) (grownCap w (n + m) c 91)) (w.drew.alloc (.cells ROW 91)):=fun ty=>by
  have h:=Lib.run_append_grow_zeros w 30 3 ty 91 i0 _ .i64 .i64 Tryz.underlying30 Tryz.underlying3 hi0 hz0 (some ⟨b,off,none⟩) i c (cs.take (i * 3)) hold (n + m - i) (by omega) (by omega) (by omega) (by omega) (by rw[hzs];omega) (by rw[hzs,hik];exact growslice_fits hroom hbig);rw[hik]at h;rw[hkk,hROW];exact h
 have hGe:n + m≤grownCap w (n + m) c 91:=grownCap_ge w _ _ _;have hRs:ROW.size=grownCap w (n + m) c 91 * 3:=by
  rw[hROW];have hzl:∀k,(Builtin.zeroCells z0.cells k).size=k * 3:=by
   intro k;simp[Builtin.zeroCells,hzz]
  rw[Array.size_append,Array.size_append,hzl,hzl];simp only[List.size_toArray,List.length_take];omega
 have hRg:∀j,j < i * 3→ROW[j]? =cs[j]? :=by
  intro j hj;rw[hROW,Array.append_assoc,Array.getElem?_append_left (by simp;omega),List.getElem?_toArray,List.getElem?_take,if_pos hj]
 obtain⟨G,hG⟩:∃G,G=grownCap w (n + m) c 91:=⟨_,rfl⟩
 rw[←hG]at hrz hRs hGe ⊢;have hRl:(n + m) * 3≤ROW.size:=by omega
 obtain⟨W1,hW1⟩:∃W1,W1=w.drew.alloc (.cells ROW 91):=⟨_,rfl⟩
 rw[←hW1]at hrz;have hN:∀j,j < (n + m) * 3→(W1.cell? ⟨w.heap.size,j,none⟩).isSome=true:=fun j hj=>by
  rw[hW1,World.cell?_alloc_at (w:=w.drew) ROW _ w.heap.size j rfl,Array.getElem?_eq_getElem (by omega)];rfl
 have hNf:∀j,W1.frozen? ⟨w.heap.size,j,none⟩=false:=fun j=>by rw[hW1];exact World.frozen?_alloc_at (w:=w.drew) ROW _ w.heap.size j rfl
 have hOb:∀j v,w.cell? ⟨b,j,none⟩=some v→W1.cell? ⟨b,j,none⟩=some v:=fun j v h=>by rw[hW1,World.cell?_alloc_past (w:=w.drew) _ b j hbw];exact h
 have hOv:∀j v,w.cell? ⟨vb,j,none⟩=some v→W1.cell? ⟨vb,j,none⟩=some v:=fun j v h=>by rw[hW1,World.cell?_alloc_past (w:=w.drew) _ vb j hvw];exact h
 have hcpA:∀(W:World),(∀x,W.cell? x=W1.cell? x)→(∀x,W.frozen? x=W1.frozen? x)→∀ty dc,(Builtin.copy_ #[30,30] ty #[.slice (some ⟨w.heap.size,i * 3,none⟩) (n + m - i) dc, .slice (some ⟨vb,voff,none⟩) m vc]).run Tryz.prog W= .ok (goInt m) (W.setCells w.heap.size (i * 3) vs):=fun W hWc hWf ty dc=>
  jco W _ _ ty 91 3 w.heap.size (i * 3) (n + m - i) dc ⟨vb,voff,none⟩ m vc vs m Tryz.underlying30 hsz (by simp only[Nat.min_def];split <;>omega) hvl
   (fun j v hj=>by rw[Addr.add_lit,hWc];exact hOv _ v (hvs j v hj))
   (fun j hj=>by rw[hWc];exact hN _ (by omega)) (fun j hj=>by rw[hWf];exact hNf _) h1v
 have hG63:G≤9223372036854775807:=by
  have:=grownCap_le_maxLen w (n + m) c 91 (by unfold maxLen;omega);rw[←hG]at this;unfold maxLen at this;omega
 have hGi:¬(G=i):=by omega
 have hGim:¬(G=i + m):=by omega
 have hci:¬(c=i):=by omega
 have hbN:b≠w.heap.size:=by omega
 have hdl:(cs.drop (i * 3)).length=(n - i) * 3:=by rw[List.length_drop,hcl];omega
 have hcpB:∀(W:World),(∀x,W.cell? x=(W1.setCells w.heap.size (i * 3) vs).cell? x)→(∀x,W.frozen? x=(W1.setCells w.heap.size (i * 3) vs).frozen? x)→∀ty dc sc,(Builtin.copy_ #[30,30] ty #[.slice (some ⟨w.heap.size,(i + m) * 3,none⟩) (n + m - (i + m)) dc, .slice (some ⟨b,off + i * 3,none⟩) (n - i) sc]).run Tryz.prog W= .ok (goInt ((n - i:Nat):Int)) (W.setCells w.heap.size ((i + m) * 3) (cs.drop (i * 3))):=fun W hWc hWf ty dc sc=>
  jco W _ _ ty 91 3 w.heap.size ((i + m) * 3) (n + m - (i + m)) dc ⟨b,off + i * 3,none⟩ (n - i) sc (cs.drop (i * 3)) (n - i) Tryz.underlying30 hsz (by simp only[Nat.min_def];split <;>omega) hdl
   (fun j v hj=>by
    rw[Addr.add_lit,hWc,World.cell?_setCells_out _ _ _ _ _ (fun h _=>absurd h hbN),Nat.add_assoc];exact hOb _ v (hcs (i * 3 + j) v (by rwa[List.getElem?_drop]at hj)))
   (fun j hj=>by rw[hWc];exact isSome_setCells _ _ _ _ (fun t ht=>hN _ (by omega)) _ (hN _ (by omega)))
   (fun j hj=>by rw[hWf,World.frozen?_setCells];exact hNf _) (fun v hv=>h1c v (List.mem_of_mem_drop hv))
 subst hW1;have hE1:∀x,((w.alloc (.cells ROW 91)).drew).cell? x=(w.drew.alloc (.cells ROW 91)).cell? x:=fun x=>rfl
 have hE2:∀x,((w.alloc (.cells ROW 91)).drew).frozen? x=(w.drew.alloc (.cells ROW 91)).frozen? x:=fun x=>rfl
 have hF1:∀x,(((w.alloc (.cells ROW 91)).drew.setCells w.heap.size (i * 3) vs).drew).cell? x=((w.drew.alloc (.cells ROW 91)).setCells w.heap.size (i * 3) vs).cell? x:=fun x=>rfl
 have hF2:∀x,(((w.alloc (.cells ROW 91)).drew.setCells w.heap.size (i * 3) vs).drew).frozen? x=((w.drew.alloc (.cells ROW 91)).setCells w.heap.size (i * 3) vs).frozen? x:=fun x=>rfl
 have hw1:IntKind.i64.wrap ((i:Int) + (m:Int))=(i:Int) + (m:Int):=by rw[IntKind.wrap_i64];omega
 have hb1:(0:Int)≤(i:Int) + (m:Int):=by omega
 have hin:i≤n:=by omega
 have htn:((i:Int) + (m:Int)).toNat=i + m:=by omega
 have hb3:(i:Int)≤(n:Int):=by omega
 have HRR:=Lib.hid (And.intro hRs hRg);clear hkk hik hold hROW hG hRl hRs hRg;go_enter Tryz.func108,Tryz.ntmps108;go_wp2_with (first
  |(at_builtin;refine Lib.wpList_append_run _ rfl _ _ _ _ rfl _ _ rfl rfl _ _ (hrz _) ?_)
  |(at_builtin;refine wpList_copy_runI _ rfl _ _ 30 30 rfl _ _ rfl rfl (hcpA _ hE1 hE2 _ _) ?_)
  |(at_builtin;refine wpList_copy_runI _ rfl _ _ 30 30 rfl _ _ rfl rfl (hcpB _ (fun _=>rfl) (fun _=>rfl) _ _ _) ?_))
 go_region_law_o (refine step_copy_runI rfl _ _ 30 30 rfl (.slice (some ⟨w.heap.size,(i + m) * 3,none⟩) (n + m - (i + m)) (G - (i + m))) (.slice (some ⟨b,off + i * 3,none⟩) (n - i) (c - i)) (by simp[Act.eval,Act.put]) (by simp[Act.eval,Act.put]) (hcpB _ hF1 hF2 3 (G - (i + m)) (c - i)) ?_);go_wp2;go_ret;exact⟨ROW,HRR.out.1,HRR.out.2,rfl,rfl⟩
theorem ins_cellsCel(x:Cel){l:List Cel}{i:Nat}(hwf:∀y∈l,celE.wf y)(h:i≤l.length)(j:Nat):
 ((l.insertIdx i x).flatMap celE.enc)[j]? =if j < i * 3 then(l.flatMap celE.enc)[j]? else if j < i * 3 + 3 then[Value.int .u32 x.num, .string x.data, .int .i64 x.refs][j - i * 3]? else(l.flatMap celE.enc)[j - 3]? :=by
 have hwt:∀y∈l.take i,celE.wf y:=fun y hy=>hwf y ((List.take_sublist _ _).subset hy)
 have htl:((l.take i).flatMap celE.enc).length=i * 3:=by rw[jbb celE _ hwt,List.length_take,Nat.min_eq_left h];rfl
 have h8:l.flatMap celE.enc=(l.take i).flatMap celE.enc ++ (l.drop i).flatMap celE.enc:=by rw[←List.flatMap_append,List.take_append_drop]
 have h9:(l.insertIdx i x).flatMap celE.enc=(l.take i).flatMap celE.enc ++ ([Value.int .u32 x.num, .string x.data, .int .i64 x.refs] ++ (l.drop i).flatMap celE.enc):=by
  rw[je5 x h,List.flatMap_append,List.flatMap_cons];rfl
 rw[h9,h8];by_cases h1:j < i * 3
 ·rw[if_pos h1,List.getElem?_append_left (by omega),List.getElem?_append_left (by omega)]
 ·rw[if_neg h1,List.getElem?_append_right (by omega),htl];by_cases h2:j < i * 3 + 3
  ·rw[if_pos h2,List.getElem?_append_left (by simp;omega)]
  ·rw[if_neg h2,List.getElem?_append_right (by simp;omega),List.getElem?_append_right (by omega),htl];congr 1
   simp only[List.length_cons,List.length_nil];omega
theorem ins_clenCel(x:Cel){l:List Cel}{i:Nat}(hwf:∀y∈l,celE.wf y)(h:i≤l.length):((l.insertIdx i x).flatMap celE.enc).length=(l.length + 1) * 3:=by
 have h8:l.flatMap celE.enc=(l.take i).flatMap celE.enc ++ (l.drop i).flatMap celE.enc:=by rw[←List.flatMap_append,List.take_append_drop]
 have h7:=jbb celE l hwf;have h9:(l.insertIdx i x).flatMap celE.enc=(l.take i).flatMap celE.enc ++ ([Value.int .u32 x.num, .string x.data, .int .i64 x.refs] ++ (l.drop i).flatMap celE.enc):=by
  rw[je5 x h,List.flatMap_append,List.flatMap_cons];rfl
 rw[h8]at h7;rw[h9];simp only[List.length_append,List.length_cons,List.length_nil]at h7 ⊢;have:celE.sz=3:=rfl;rw[this]at h7;omega
theorem insCel_any(B:Nat)(w:World)(v:Value)(n i g:Nat)(x:Cel)(l:List Cel)(hln:l.length=n)(hown:w.ownsRow B 91 3 v n (l.flatMap celE.enc))(hwf:∀y∈l,celE.wf y)(hi:i≤n)
 (hg:w.heap[g]? =some (.cells #[Value.int .u32 x.num, .string x.data, .int .i64 x.refs] 91 (0,0))) (hgv:v.ownBlock≠some g) (hn:n + 1≤1073741825) (hB:B≤w.heap.size):
 Calls Tryz.prog 108 #[v, .int .i64 i, .slice (some ⟨g,0,none⟩) 1 1] w fun e w'=>∃g' cap,e= .returned (.slice (some ⟨g',0,none⟩) (n + 1) cap)∧
  w'.ownsRow B 91 3 (.slice (some ⟨g',0,none⟩) (n + 1) cap) (n + 1) ((l.insertIdx i x).flatMap celE.enc)∧w.grownBy w' v.ownBlock∧(v.ownBlock=some g'∨w.heap.size≤g'):=by
 obtain⟨i0,z0,hi0,hz0,hz1,hz2,hzs⟩:=jbw jks;have hxl:(l.flatMap celE.enc).length=n * 3:=by rw[jbb celE l hwf,hln];rfl
 have hic:=ins_cellsCel x (l:=l) (i:=i) hwf (by omega);have hil:=ins_clenCel x (l:=l) (i:=i) hwf (by omega);rw[hln]at hil;have h1x:=jh8 celE l hwf;have hvs:∀j v,[Value.int .u32 x.num, .string x.data, .int .i64 x.refs][j]? =some v→w.cell? ⟨g,0 + j,none⟩=some v:=by
  intro j v hj;rw[cell_of_row _ _ _ _ _ _ hg,Nat.zero_add]
  match j with
  |0=>simpa using hj
  |1=>simpa using hj
  |2=>simpa using hj
  |j + 3=>simp at hj
 have h1v:∀v∈[Value.int .u32 x.num, .string x.data, .int .i64 x.refs],v.oneCell'=true:=by intro v hv;simp at hv;rcases hv with rfl|rfl|rfl <;>rfl
 by_cases hin:i=n
 ·subst hin;obtain⟨g',cap,w',hr,h1,h2,h3,_⟩:=run_append_lies (P:=Tryz.prog) w 30 30 B 91 i0 z0 3 32 Tryz.underlying30 hi0 hz0 hz1 hz2 hzs (by decide) v i (l.flatMap celE.enc) hown ⟨g,0,none⟩ 1 1 [Value.int .u32 x.num, .string x.data, .int .i64 x.refs] rfl (fun j u hj=>by rw[jcl];exact hvs j u hj) h1v (by decide) (by unfold maxLen;omega) (by omega) hB _ rfl;have hins:(l.insertIdx i x).flatMap celE.enc=l.flatMap celE.enc ++ [Value.int .u32 x.num, .string x.data, .int .i64 x.refs]:=by
   rw[je5 x (by omega),List.take_of_length_le (by omega),List.drop_of_length_le (by omega),List.flatMap_append];rfl
  have HF:=Lib.hid (And.intro h1 (And.intro h2 (h3.imp id (fun e=>Nat.le_of_eq e.symm))));have HR:=Lib.hid hr;have HI:=Lib.hid hins;clear h1 h2 h3 hins hr hic hil h1x hvs h1v hxl hwf;rcases hown.2 with⟨rfl,rfl⟩|⟨b,c,cur,rfl,hbg,hb,hnc,hcm,hcs,htake⟩
  ·go_enter Tryz.func108,Tryz.ntmps108;go_wp2_with (at_builtin;refine Lib.wpList_append_run _ rfl _ _ _ _ rfl _ _ rfl rfl _ _ HR.out ?_);go_ret;exact⟨g',cap,rfl,by rw[HI.out];exact HF.out.1,HF.out.2⟩
  ·have hcm':c≤9223372036854775807:=by unfold maxLen at hcm;omega
   clear hcm htake hcs;go_enter Tryz.func108,Tryz.ntmps108;go_wp2_with (at_builtin;refine Lib.wpList_append_run _ rfl _ _ _ _ rfl _ _ rfl rfl _ _ HR.out ?_);all_goals go_ret
   all_goals exact⟨g',cap,rfl,by rw[HI.out];exact HF.out.1,HF.out.2⟩
 ·rcases hown.2 with⟨rfl,rfl⟩|⟨b,c,cur,rfl,hbg,hb,hnc,hcm,hcs,htake⟩
  ·omega
  ·have hgb:g≠b:=by intro e;subst e;exact hgv rfl
   have hcm':c≤9223372036854775807:=by unfold maxLen at hcm;omega
   have hcsz:cur.size=c * 3:=hcs;generalize hxs:l.flatMap celE.enc=xs at *;have hcur:∀j v,xs[j]? =some v→w.cell? ⟨b,0 + j,none⟩=some v:=by
    intro j v hj;have:=hown.cells (g:=b) rfl j v hj
    rwa[jcl]at this
   have hcj:∀j,j < n * 3→cur[j]? =xs[j]? :=by
    intro j hj;rw[←htake,List.getElem?_take,if_pos (by omega),Array.getElem?_toList]
   have hfz:∀j,w.frozen? ⟨b,j,none⟩=false:=fun j=>frozen_of_row _ _ _ _ _ hb
   have hfg:∀j,w.frozen? ⟨g,j,none⟩=false:=fun j=>frozen_of_row _ _ _ _ _ hg
   have hdl:(xs.drop (i * 3)).length=(n - i) * 3:=by rw[List.length_drop,hxl];omega
   by_cases hroom:n + 1≤c
   ·have hsa:w.shape? g=some (91,3):=by unfold World.shape?;rw[hg];rfl
    have hsb:w.shape? b=some (91,c * 3):=by unfold World.shape?;rw[hb,←hcsz]
    refine(insCel_shift b 0 n c i g 0 1 1 xs [Value.int .u32 x.num, .string x.data, .int .i64 x.refs] w (by omega) (by omega) hroom hcm' hgb hxl rfl hcur (fun j hj=>by
     rw[cell_of_row _ _ _ _ _ _ hb,Array.getElem?_eq_getElem (by omega)];rfl) (fun j _=>hfz _) hvs h1x h1v _ _ 3 (c * 3) hsa hsb (by omega) (hfg _) (hfg _)).mono ?_
    rintro e w' ⟨rfl,rfl⟩;obtain⟨cur1,k1,k2,k3,k4⟩:=jbq b (xs.drop (i * 3)) (0 + (i + 1) * 3) w.drew cur _ hb;obtain⟨cur2,m1,m2,m3,m4⟩:=jbq b [Value.int .u32 x.num, .string x.data, .int .i64 x.refs] (0 + i * 3) _ cur1 _ k1;have hget:∀j,j < (n + 1) * 3→cur2[j]? =((l.insertIdx i x).flatMap celE.enc)[j]? :=by
     intro j hj;rw[hic j,m3,k3];simp only[List.length_cons,List.length_nil,hdl,k2,Nat.zero_add];by_cases h1:j < i * 3
     ·rw[if_neg (by omega),if_neg (by omega),if_pos h1];exact hcj j (by omega)
     ·by_cases h2:j < i * 3 + 3
      ·rw[if_pos (by omega),if_neg h1,if_pos h2]
      ·rw[if_neg (by omega),if_pos (by omega),if_neg h1,if_neg h2,List.getElem?_drop];congr 1;omega
    refine⟨b,c,rfl,⟨hil,Or.inr ⟨b,c,cur2,rfl,hbg,m1,hroom,hcm,by rw[m2,k2,hcs],?_⟩⟩,?_,Or.inl rfl⟩
    ·exact je6 cur2 _ _ hil (by rw[m2,k2];omega) hget
    ·exact⟨m4.os.trans k4.os,m4.tape.trans k4.tape,m4.output.trans k4.output,Nat.le_trans k4.size m4.size,fun k hk hne=>(m4.block k (Nat.lt_of_lt_of_le hk k4.size) hne).trans (k4.block k hk hne)⟩
   ·refine(insCel_grow b 0 n c i g 0 1 1 xs [Value.int .u32 x.num, .string x.data, .int .i64 x.refs] w (by omega) (by omega) hnc (by omega) (by omega) hxl rfl hcur hvs h1x h1v).mono ?_;rintro e w' ⟨ROW,hRs,hRg,rfl,rfl⟩;have hge:=grownCap_ge w (n + 1) c 91;have hcmx:grownCap w (n + 1) c 91≤maxLen:=grownCap_le_maxLen w (n + 1) c 91 (by unfold maxLen;omega);generalize grownCap w (n + 1) c 91=G at *;have hnew:(w.alloc (.cells ROW 91)).drew.heap[w.heap.size]? =some (.cells ROW 91 (0,0)):=heap_alloc_new _ _;obtain⟨cur1,k1,k2,k3,k4⟩:=jbq w.heap.size [Value.int .u32 x.num, .string x.data, .int .i64 x.refs] (i * 3) _ ROW _ hnew;have k1':((w.alloc (.cells ROW 91)).drew.setCells w.heap.size (i * 3) [Value.int .u32 x.num, .string x.data, .int .i64 x.refs]).drew.heap[w.heap.size]? =some (.cells cur1 91 (0,0)):=k1;obtain⟨cur2,m1,m2,m3,m4⟩:=jbq w.heap.size (xs.drop (i * 3)) ((i + 1) * 3) _ cur1 _ k1';have hget:∀j,j < (n + 1) * 3→cur2[j]? =((l.insertIdx i x).flatMap celE.enc)[j]? :=by
     intro j hj;rw[hic j,m3,k3];simp only[List.length_cons,List.length_nil,hdl,k2];by_cases h1:j < i * 3
     ·rw[if_neg (by omega),if_neg (by omega),if_pos h1];exact hRg j h1
     ·by_cases h2:j < i * 3 + 3
      ·rw[if_neg (by omega),if_pos (by omega),if_neg h1,if_pos h2]
      ·rw[if_pos (by omega),if_neg h1,if_neg h2,List.getElem?_drop];congr 1;omega
    refine⟨w.heap.size,G,rfl,⟨hil,Or.inr ⟨w.heap.size,G,cur2,rfl,hB,m1,hge,hcmx,by rw[m2,k2,hRs],?_⟩⟩,?_,Or.inr (Nat.le_refl _)⟩
    ·exact je6 cur2 _ _ hil (by rw[m2,k2];omega) hget
    ·refine⟨m4.os.trans k4.os,m4.tape.trans k4.tape,m4.output.trans k4.output,?_,fun k hk _=>?_⟩
     ·exact Nat.le_trans (show w.heap.size≤(w.alloc (.cells ROW 91)).drew.heap.size by simp[World.drew]) (Nat.le_trans k4.size m4.size)
     ·have hkn:k≠w.heap.size:=by omega
      have hk1:k < (w.alloc (.cells ROW 91)).drew.heap.size:=by simp[World.drew];omega
      rw[m4.block k (Nat.lt_of_lt_of_le hk1 k4.size) (by simpa using hkn),show((w.alloc (.cells ROW 91)).drew.setCells w.heap.size (i * 3) [Value.int .u32 x.num, .string x.data, .int .i64 x.refs]).drew.heap[k]? =((w.alloc (.cells ROW 91)).drew.setCells w.heap.size (i * 3) [Value.int .u32 x.num, .string x.data, .int .i64 x.refs]).heap[k]? from rfl,k4.block k hk1 (by simpa using hkn)];exact Lib.alloc_old w _ k hk
end Go.Proofs.YtpaohkkhejpgjaaGreatDoor
namespace Go.Proofs.YtpaohkkhejpgjaaGreatDoor
open Go Go.RowKit
theorem jh0(w:World)(n:Int)(d:ByteArray)(r t:Int):
 Calls Tryz.prog 111 #[.agg #[.int .u32 n, .string d, .int .i64 r], .int .u32 t] w fun e w'=>e= .returned (.int .i64 (cmpI n t))∧Below w.heap.size w w':=by
 go_enter Tryz.func111,Tryz.ntmps111;go_wp2_with (go_at_call 112;refine(jji _ _ _).mono ?_;rintro e _ ⟨rfl,rfl⟩);go_ret;exact⟨rfl,(Below.refl _ _).alloc (Nat.le_refl _) _⟩
theorem bsCelM_any(w:World)(v:Value)(xs:List Cel)(t:Int)(hv:Sl celE w v xs)(hso:jdk (xs.map (·.num)))(hlen:xs.length≤4398046511104):
 Calls Tryz.prog 110 #[v, .int .u32 t, .func (.func 111) #[] #[]] w fun e w'=>e= .returned (.tuple #[.int .i64 (ja5 (xs.map (·.num)) t), .bool (jba (xs.map (·.num)) t)])∧Below w.heap.size w w':=by
 obtain⟨A,c,rfl,hc,hc2,hrow⟩:=hv;have HR:=Lib.hid hrow;have HS:=Lib.hid hso;clear hrow hso;go_enter Tryz.func110,Tryz.ntmps110;go_wp2;go_loopw [9,10,11] (fun vi vj _ wr=>∃i j:Nat,i≤j∧j≤xs.length∧vi= .int .i64 i∧vj= .int .i64 j∧(∀k (h:k < xs.length),k < i→xs[k].num < t)∧(∀k (h:k < xs.length),j≤k→t≤xs[k].num)∧Below w.heap.size w wr) (fun vi vj _ _=>(intOf vj).toNat - (intOf vi).toNat)
 case atStart=>exact⟨0,xs.length,Nat.zero_le _,Nat.le_refl _,rfl,rfl,fun k _ h=>by omega,fun k h h'=>by omega,Below.refl _ _⟩
 case round=>
  obtain⟨i,j,hij,hj,rfl,rfl,hlo,hhi,hB⟩:=hrel;by_cases hlt:i < j
  ·have hm:(i + j) / 2 < xs.length:=by omega
   obtain⟨b,o,rfl,hat,hwf⟩:=HR.out ((i + j) / 2) hm;have hb:b < w.heap.size:=hat.lt (by simp[celE]);have hat2:=hat.below hB (Nat.le_refl _);have d0:=hat2.cell 0 _ rfl;have d1:=hat2.cell 1 _ rfl;have d2:=hat2.cell 2 _ rfl;have hbr:b < wr.heap.size:=Nat.lt_of_lt_of_le hb hB.size;have HL:=Lib.hid (And.intro hlo (And.intro hhi hB));clear hlo hhi hB hat hat2 hwf;simp only[celE,Nat.add_zero]at d0 d1 d2;by_cases hbl:xs[(i + j) / 2].num < t
   ·have hn:=jia xs[(i + j) / 2].num t;rw[decide_eq_true hbl]at hn;have HBL:=Lib.hid (show ∀k (h:k < xs.length),k < (i + j) / 2 + 1→xs[k].num < t from fun k hk hki=>by have:=jea HS.out t k ((i + j) / 2) (by simpa using hk) (by simpa using hm) (by omega) (by simpa using hbl);simpa using this);clear hbl;generalize xs[(i + j) / 2].num=kk at *;generalize xs[(i + j) / 2].data=kv at *;generalize xs[(i + j) / 2].refs=kr at *;go_wp2_with (go_at_call 111;refine(jh0 _ _ _ _ _).mono ?_;rintro e w1 ⟨rfl,hb1⟩);refine⟨⟨(i + j) / 2 + 1,j,by omega,hj,by go_num,rfl,HBL.out,HL.out.2.1,Below.step HL.out.2.2 hb1⟩,?_⟩;simp[intOf];omega
   ·have hn:=jia xs[(i + j) / 2].num t;rw[decide_eq_false hbl]at hn;have HBL:=Lib.hid (show ∀k (h:k < xs.length),(i + j) / 2≤k→t≤xs[k].num from fun k hk hki=>Int.not_lt.1 fun hh=>hbl (by have:=jea HS.out t ((i + j) / 2) k (by simpa using hm) (by simpa using hk) hki (by simpa using hh);simpa using this));clear hbl;generalize xs[(i + j) / 2].num=kk at *;generalize xs[(i + j) / 2].data=kv at *;generalize xs[(i + j) / 2].refs=kr at *;go_wp2_with (go_at_call 111;refine(jh0 _ _ _ _ _).mono ?_;rintro e w1 ⟨rfl,hb1⟩);refine⟨⟨i,(i + j) / 2,by omega,by omega,rfl,by go_num,HL.out.1,HBL.out,Below.step HL.out.2.2 hb1⟩,?_⟩;simp[intOf];omega
  ·obtain rfl:i=j:=by omega
   have hpos:ja5 (xs.map (·.num)) t=i:=by
    refine jd0 _ (xs.map (·.num)) i (by simpa using hj) (fun k h hk=>?_) (fun h=>?_)
    ·have:=hlo k (by simpa using h) hk;simpa using this
    ·have:=hhi i (by simpa using h) (Nat.le_refl _);simpa using this
   by_cases hi:i < xs.length
   ·obtain⟨b,o,rfl,hat,hwf⟩:=HR.out i hi;have hb:b < w.heap.size:=hat.lt (by simp[celE]);have hat2:=hat.below hB (Nat.le_refl _);have d0:=hat2.cell 0 _ rfl;have d1:=hat2.cell 1 _ rfl;have d2:=hat2.cell 2 _ rfl;have hbr:b < wr.heap.size:=Nat.lt_of_lt_of_le hb hB.size;have hhas:jba (xs.map (·.num)) t=(cmpI xs[i].num t==0):=by unfold jba hasAt;rw[hpos,List.getElem?_map,List.getElem?_eq_getElem hi,jla];rfl
    have HL:=Lib.hid (And.intro hpos (And.intro hhas hB));clear hlo hhi hB hat hat2 hwf hpos hhas;simp only[celE,Nat.add_zero]at d0 d1 d2;generalize xs[i].num=kk at *;generalize xs[i].data=kv at *;generalize xs[i].refs=kr at *;go_wp2_with (go_at_call 111;refine(jh0 _ _ _ _ _).mono ?_;rintro e w1 ⟨rfl,hb1⟩);go_ret2;obtain⟨e1,e2,e3⟩:=HL.out;exact⟨by rw[e1,e2];rfl,Below.step e3 hb1⟩
   ·have hhas:jba (xs.map (·.num)) t=false:=by unfold jba hasAt;rw[hpos,List.getElem?_eq_none (by rw[List.length_map];omega)]
    have HL:=Lib.hid (And.intro hpos (And.intro hhas hB));clear hlo hhi hB hpos hhas;go_wp2;go_ret2;obtain⟨e1,e2,e3⟩:=HL.out;exact⟨by rw[e1,e2];rfl,e3⟩
theorem jhe(w:World)(v:Value)(xs:List Cel)(t:Int)(hv:Sl celE w v xs)(hso:jdk (xs.map (·.num)))(hlen:xs.length≤4398046511104):
 Calls Tryz.prog 48 #[v, .int .u32 t] w fun e w'=>e= .returned (.tuple #[.int .i64 (ja5 (xs.map (·.num)) t), .bool (jba (xs.map (·.num)) t)])∧Below w.heap.size w w':=by
 have HV:=Lib.hid hv;obtain⟨A,n,c,rfl⟩:=jax hv;clear hv;go_enter Tryz.func48,Tryz.ntmps48;go_wp2_with (fail);go_at_call 110;refine(bsCelM_any w _ xs t HV.out hso hlen).mono ?_;rintro e w1 ⟨rfl,hb1⟩;have HB:=Lib.hid hb1;clear hb1;go_wp2_with (fail);go_ret2;exact⟨rfl,HB.out⟩
end Go.Proofs.YtpaohkkhejpgjaaGreatDoor
