/- Texts of the proof: Hs Hs2 Hs3. -/
import Derived.Test.YtpaohkkhejpgjaaGreatDoorM3
import Derived.BigRegion
import Derived.StillTailTactics
set_option linter.all false
set_option maxRecDepth 100000
set_option maxHeartbeats 8000000
namespace Go.Proofs.YtpaohkkhejpgjaaGreatDoor
open Go Go.RowKit
def rotl(x:Int)(j:Nat):Int:=bits BinOp.or IntKind.u32 (x * 2 ^ j % 4294967296) (x / 2 ^ (32 - j))
theorem rotl_any(w:World)(x k:Int)(j:Nat)(hj:bits BinOp.and IntKind.u64 (IntKind.u64.wrap k) 31=(j:Int))(h1:j≤31):
 Calls Tryz.prog 213 #[.int .u32 x, .int .i64 k] w fun e w'=>e= .returned (.int .u32 (rotl x j))∧w=w':=by
 go_enter Tryz.func213,Tryz.ntmps213;go_wp2;go_ret;exact⟨rfl,rfl⟩
theorem jdl(w:World)(x k:Int)(j:Nat)(hk0:0≤k)(hk1:k≤32)(hj:bits BinOp.and IntKind.u64 (IntKind.u64.wrap (-k)) 31=(j:Int))(h1:j≤31):
 Calls Tryz.prog 148 #[.int .u32 x, .int .i64 k] w fun e w'=>e= .returned (.int .u32 (rotl x j))∧w'=w:=by
 have HJ:=Lib.hid hj;clear hj;go_enter Tryz.func148,Tryz.ntmps148;go_wp2_with (go_at_call 213;refine(rotl_any _ _ _ j HJ.out h1).mono ?_;rintro e w' ⟨rfl,rfl⟩);go_ret;exact⟨rfl,rfl⟩
theorem right7(w:World)(x:Int):Calls Tryz.prog 148 #[.int .u32 x, .int .i64 7] w fun e w'=>e= .returned (.int .u32 (rotl x 25))∧w'=w:=jdl w x 7 25 (by decide) (by decide) (by decide) (by decide)
theorem right18(w:World)(x:Int):Calls Tryz.prog 148 #[.int .u32 x, .int .i64 18] w fun e w'=>e= .returned (.int .u32 (rotl x 14))∧w'=w:=jdl w x 18 14 (by decide) (by decide) (by decide) (by decide)
theorem right17(w:World)(x:Int):Calls Tryz.prog 148 #[.int .u32 x, .int .i64 17] w fun e w'=>e= .returned (.int .u32 (rotl x 15))∧w'=w:=jdl w x 17 15 (by decide) (by decide) (by decide) (by decide)
theorem right19(w:World)(x:Int):Calls Tryz.prog 148 #[.int .u32 x, .int .i64 19] w fun e w'=>e= .returned (.int .u32 (rotl x 13))∧w'=w:=jdl w x 19 13 (by decide) (by decide) (by decide) (by decide)
theorem right6(w:World)(x:Int):Calls Tryz.prog 148 #[.int .u32 x, .int .i64 6] w fun e w'=>e= .returned (.int .u32 (rotl x 26))∧w'=w:=jdl w x 6 26 (by decide) (by decide) (by decide) (by decide)
theorem right11(w:World)(x:Int):Calls Tryz.prog 148 #[.int .u32 x, .int .i64 11] w fun e w'=>e= .returned (.int .u32 (rotl x 21))∧w'=w:=jdl w x 11 21 (by decide) (by decide) (by decide) (by decide)
theorem right25(w:World)(x:Int):Calls Tryz.prog 148 #[.int .u32 x, .int .i64 25] w fun e w'=>e= .returned (.int .u32 (rotl x 7))∧w'=w:=jdl w x 25 7 (by decide) (by decide) (by decide) (by decide)
theorem right2(w:World)(x:Int):Calls Tryz.prog 148 #[.int .u32 x, .int .i64 2] w fun e w'=>e= .returned (.int .u32 (rotl x 30))∧w'=w:=jdl w x 2 30 (by decide) (by decide) (by decide) (by decide)
theorem right13(w:World)(x:Int):Calls Tryz.prog 148 #[.int .u32 x, .int .i64 13] w fun e w'=>e= .returned (.int .u32 (rotl x 19))∧w'=w:=jdl w x 13 19 (by decide) (by decide) (by decide) (by decide)
theorem right22(w:World)(x:Int):Calls Tryz.prog 148 #[.int .u32 x, .int .i64 22] w fun e w'=>e= .returned (.int .u32 (rotl x 10))∧w'=w:=jdl w x 22 10 (by decide) (by decide) (by decide) (by decide)
def u32s(l:List Int):Array Value:=(l.map (Value.int .u32)).toArray
theorem jle(l:List Int):(u32s l).size=l.length:=by simp[u32s]
theorem u32s_one(l:List Int):∀v∈(u32s l).toList,v.oneCell'=true:=by
 intro v hv;simp only[u32s,List.mem_map]at hv;obtain⟨x,_,rfl⟩:=hv;rfl
theorem size64:(Tryz.prog.info? 250).map (·.size)=some 64:=by kernel_rfl
theorem u32s_get(l:List Int)(i:Nat)(h:i < l.length):(u32s l)[i]? =some (.int .u32 (l.getD i 0)):=by
 simp[u32s,h]
theorem u32s_set(l:List Int)(i:Nat)(v:Int):(u32s l).setIfInBounds i (.int .u32 v)=u32s (l.set i v):=by
 simp[u32s,List.map_set]
def W1(s:List UInt8):Nat→List Int
 |0=>List.replicate 64 0
 |n + 1=>(W1 s n).set (n / 4) (bits BinOp.or IntKind.u32 ((W1 s n).getD (n / 4) 0 * 256 % 4294967296) ((s.getD n 0).toNat % 4294967296))
theorem W1_length(s:List UInt8)(n:Nat):(W1 s n).length=64:=by
 induction n with
 |zero=>rfl
 |succ n ih=>rw[W1,List.length_set,ih]
def sig0(x:Int):Int:=bits BinOp.xor IntKind.u32 (bits BinOp.xor IntKind.u32 (rotl x 25) (rotl x 14)) (x / 8)
def sig1(x:Int):Int:=bits BinOp.xor IntKind.u32 (bits BinOp.xor IntKind.u32 (rotl x 15) (rotl x 13)) (x / 1024)
def wNext(a b c d:Int):Int:=(a + b + sig0 c + sig1 d) % 4294967296
def W2(s:List UInt8):Nat→List Int
 |0=>W1 s 64
 |n + 1=>(W2 s n).set (n + 16) (wNext ((W2 s n).getD n 0) ((W2 s n).getD (n + 9) 0) ((W2 s n).getD (n + 1) 0) ((W2 s n).getD (n + 14) 0))
theorem jdy(s:List UInt8)(n:Nat):(W2 s n).length=64:=by
 induction n with
 |zero=>exact W1_length s 64
 |succ n ih=>rw[W2,List.length_set,ih]
theorem jcc{w:World}{g:Nat}{l:List Int}{t:TypeId}(h:w.heap[g]? =some (.cells (u32s l) t (0,0)))(i:Nat)(hi:i < l.length):w.cell? ⟨g,i,none⟩=some (.int .u32 (l.getD i 0)):=by
 rw[cell_of_row w g i _ _ _ h,u32s_get l i hi]
theorem jjj{w:World}{g:Nat}{l:List Int}{t:TypeId}(h:w.heap[g]? =some (.cells (u32s l) t (0,0)))(i:Nat)(v:Int):(w.setCell ⟨g,i,none⟩ (.int .u32 v)).heap[g]? =some (.cells (u32s (l.set i v)) t (0,0)):=by
 rw[←u32s_set];exact ja2 h i _
theorem words_any(w:World)(s:ByteArray)(hs:s.size=64):
 Calls Tryz.prog 147 #[.string s] w fun e w'=>e= .returned (.agg (u32s (W2 s.data.toList 48)))∧Below w.heap.size w w':=by
 have HS:=Lib.hid hs;have hs':64≤s.size:=by omega
 clear hs;go_enter Tryz.func147,Tryz.ntmps147;go_wp2;go_loopw [3,4,8,11,12,13,14,15,16,17,18,19,20,21,22,23,24,25,26,27,28] (fun _ _ i _ _ _ _ _ _ _ _ _ _ _ _ _ _ _ _ _ _ wr=>∃k:Nat,k≤16∧i= .int .i64 k∧Below w.heap.size w wr∧wr.heap[w.heap.size]? =some (.cells (u32s (W1 s.data.toList (4 * k))) 250 (0,0))) (fun _ _ i _ _ _ _ _ _ _ _ _ _ _ _ _ _ _ _ _ _ _=>16 - (intOf i).toNat)
 case atStart=>exact⟨0,by omega,rfl,(Below.refl _ _).alloc (Nat.le_refl _) _,heap_alloc_new _ _⟩
 case round=>
  obtain⟨k,hk,rfl,hB,hW⟩:=hrel;have HB:=Lib.hid hB;have HW:=Lib.hid hW;clear hB hW;by_cases hlt:k < 16
  ·go_wp2;go_loopw [4,11,12,13,14,15,16,17,18,19,20,21,22,23,24,25,26,27,28] (fun _ i _ _ _ _ _ _ _ _ _ _ _ _ _ _ _ _ _ wx=>∃j:Nat,j≤4∧i= .int .i64 j∧Below w.heap.size w wx∧wx.heap[w.heap.size]? =some (.cells (u32s (W1 s.data.toList (4 * k + j))) 250 (0,0))) (fun _ i _ _ _ _ _ _ _ _ _ _ _ _ _ _ _ _ _ _=>4 - (intOf i).toNat)
   case atStart=>exact⟨0,by omega,rfl,HB.out,HW.out⟩
   case round=>
    obtain⟨j,hj,rfl,hB,hW⟩:=hrel;have HB:=Lib.hid hB;have c0:=jcc hW k (by rw[W1_length];omega);have f0:=frozen_of_row wr _ k _ _ hW;have HW:=Lib.hid hW;clear hB hW;by_cases hl2:j < 4
    ·have hb:4 * k + j < s.size:=by omega
     have hi1:(k:Int) < 64:=by omega
     have hi2:4 * (k:Int) + (j:Int) < (s.size:Int):=by omega
     have hix:∀W:World,(Instr.index 9 (.string s) (.int .i64 (4 * (k:Int) + (j:Int)))).run Tryz.prog W= .ok (.int .u8 ((s[4 * k + j].toNat:Nat):Int)) W:=by
      intro W;have e:(4 * (k:Int) + (j:Int))=((4 * k + j:Nat):Int):=by omega
      have h1:=run_index_string (P:=Tryz.prog) (w:=W) 9 s .i64 ((4 * k + j:Nat):Int) Tryz.underlying9;rw[dif_pos ⟨by omega,by omega⟩]at h1;rw[e,h1];rfl
     generalize hcc:(W1 s.data.toList (4 * k + j)).getD k 0=c at *;have HC:=Lib.hid hcc;clear hcc;go_wp2;go_region;go_wp2;refine⟨⟨j + 1,by omega,by go_num,(HB.out.setCell (Nat.le_refl _) _).drew,?_⟩,by simp[intOf];omega⟩;show(World.setCell _ _ _).heap[w.heap.size]? =_
     have e1:(4 * k + j) / 4=k:=by omega
     rw[show 4 * k + (j + 1)=(4 * k + j) + 1 from rfl,W1,e1,HC.out];refine(jjj HW.out k _).trans ?_;have e2:s.data.toList.getD (4 * k + j) 0=s[4 * k + j]:=by
      rw[List.getD_eq_getElem?_getD,List.getElem?_eq_getElem (by simpa using hb)];rfl
     rw[e2]
    ·obtain rfl:j=4:=by omega
     go_wp2;exact⟨⟨k + 1,by omega,by go_num,HB.out,HW.out⟩,by simp[intOf];omega⟩
  ·have hk16:k=16:=by omega
   have HK:=Lib.hid hk16;clear hk16;go_wp2;go_loopw [5,6,7,30,31,32,33,34,35,36,37,38,39,40,41,42,43,44,45,46,47,48,49,50,51,52,53,54,55,56,57,58,59,60,61,62,63,64,65,66,67,68,69,70] (fun i _ _ _ _ _ _ _ _ _ _ _ _ _ _ _ _ _ _ _ _ _ _ _ _ _ _ _ _ _ _ _ _ _ _ _ _ _ _ _ _ _ _ _ wx=>∃j:Nat,16≤j∧j≤64∧i= .int .i64 j∧Below w.heap.size w wx∧wx.heap[w.heap.size]? =some (.cells (u32s (W2 s.data.toList (j - 16))) 250 (0,0))) (fun i _ _ _ _ _ _ _ _ _ _ _ _ _ _ _ _ _ _ _ _ _ _ _ _ _ _ _ _ _ _ _ _ _ _ _ _ _ _ _ _ _ _ _ _=>64 - (intOf i).toNat)
   case atStart=>exact⟨16,by omega,by omega,rfl,HB.out,by have:=HW.out;rw[HK.out]at this;exact this⟩
   case round=>
    obtain⟨j,hj0,hj,rfl,hB,hW⟩:=hrel;have HB:=Lib.hid hB;by_cases hl2:j < 64
    ·have c0:=jcc hW (j - 16) (by rw[jdy];omega);have c1:=jcc hW (j - 7) (by rw[jdy];omega);have c2:=jcc hW (j - 15) (by rw[jdy];omega);have c3:=jcc hW (j - 2) (by rw[jdy];omega);have c4:=jcc hW j (by rw[jdy];omega);have f0:=frozen_of_row wr _ j _ _ hW;have HW:=Lib.hid hW;clear hB hW;generalize hx0:(W2 s.data.toList (j - 16)).getD (j - 16) 0=x0 at *;generalize hx1:(W2 s.data.toList (j - 16)).getD (j - 7) 0=x1 at *;generalize hx2:(W2 s.data.toList (j - 16)).getD (j - 15) 0=x2 at *;generalize hx3:(W2 s.data.toList (j - 16)).getD (j - 2) 0=x3 at *;have HX:=Lib.hid (And.intro hx0 (And.intro hx1 (And.intro hx2 hx3)));clear hx0 hx1 hx2 hx3;go_wp2;go_quiet (fail);go_wp2;have e16:IntKind.i64.wrap ((j:Int) - 16)=((j - 16:Nat):Int):=by rw[IntKind.wrap_i64];omega
     have e7:IntKind.i64.wrap ((j:Int) - 7)=((j - 7:Nat):Int):=by rw[IntKind.wrap_i64];omega
     have b16:((j - 16:Nat):Int) < 64:=by omega
     have b7:((j - 7:Nat):Int) < 64:=by omega
     refine wp_region_still_tail 29 (by kernel_rfl) (by kernel_rfl) ?_;simp only[List.take_succ_cons,List.take_zero,List.drop_succ_cons,List.drop_zero];change wpStill _ _ (World.drew _) _ _ _;rename_i nq;obtain⟨w2,hw2⟩:∃w2,w2=(wr.drewN nq).drew:=⟨_,rfl⟩
     have d0:w2.cell? {block:=w.heap.size,off:=j - 16}=some (Value.int IntKind.u32 x0):=by rw[hw2];exact c0
     have d1:w2.cell? {block:=w.heap.size,off:=j - 7}=some (Value.int IntKind.u32 x1):=by rw[hw2];exact c1
     have d4:w2.cell? {block:=w.heap.size,off:=j}=some (Value.int IntKind.u32 ((W2 s.data.toList (j - 16)).getD j 0)):=by rw[hw2];exact c4
     have g0:w2.frozen? {block:=w.heap.size,off:=j}=false:=by rw[hw2];exact f0
     rw[←hw2];have HW2:=Lib.hid hw2;clear hw2 c0 c1 c2 c3 c4 f0
     repeat still_step
     still_call (right7 _ _)
     repeat still_step
     still_call (right18 _ _)
     repeat still_step
     still_call (right17 _ _)
     repeat still_step
     still_call (right19 _ _)
     repeat still_step
     refine wpStill_nil ?_;change wpList _ _ _ _ _ (World.drew _);rw[←HW2.out];go_wp2;go_roundw
     case rel=>
      refine⟨j + 1,by omega,by omega,by go_num,?_,?_⟩
      ·rw[HW2.out];exact((Below.drewN' HB.out nq).drew).setCell (Nat.le_refl _) _
      ·have hW3:w2.heap[w.heap.size]? =some (.cells (u32s (W2 s.data.toList (j - 16))) 250 (0,0)):=by rw[HW2.out];exact HW.out
       rw[show j + 1 - 16=(j - 16) + 1 by omega,W2];have e1:j - 16 + 16=j:=by omega
       have e2:j - 16 + 9=j - 7:=by omega
       have e3:j - 16 + 1=j - 15:=by omega
       have e4:j - 16 + 14=j - 2:=by omega
       rw[e1,e2,e3,e4,HX.out.1,HX.out.2.1,HX.out.2.2.1,HX.out.2.2.2];exact jjj hW3 j (wNext x0 x1 x2 x3)
     case measure=>simp[intOf];omega
    ·have hj64:j=64:=by omega
     rw[hj64]at hW;clear hj64;have HW:=Lib.hid hW;clear hB hW;go_wp2_with (first|(refine wpList_load_row rfl 250 _ rfl w.heap.size rfl 250 _ (0,0) _ HW.out Tryz.underlying250 rfl (by rw[jle,jdy];exact size64) ?_)|(refine jd9 rfl 250 _ _ rfl w.heap.size rfl _ rfl 250 HW.out (u32s_one _) (by rw[jle,jdy];exact size64) ?_));exact bodyPost_ret (results_cell_row rfl _ _ w.heap.size 250 _ (0,0) _ rfl HW.out Tryz.underlying250 rfl (by rw[jle,jdy];exact size64)) rfl ⟨rfl,HB.out⟩
def rotr(x k:Int):Int:=rotl x (32 - k).toNat
theorem rotr_any(w:World)(x k:Int)(hk:[2,6,11,13,22,25].contains k=true):Calls Tryz.prog 148 #[.int .u32 x, .int .i64 k] w fun e w'=>e= .returned (.int .u32 (rotr x k))∧w'=w:=by
 simp only[List.contains_cons,List.contains_nil,Bool.or_false,Bool.or_eq_true,beq_iff_eq]at hk;rcases hk with rfl|rfl|rfl|rfl|rfl|rfl
 ·exact right2 w x
 ·exact right6 w x
 ·exact right11 w x
 ·exact right13 w x
 ·exact right22 w x
 ·exact right25 w x
theorem rotr_eq(w:World)(x k:Int)(hk:[2,6,11,13,22,25].contains k=true):Calls Tryz.prog 148 #[.int .u32 x, .int .i64 k] w fun e w'=>e= .returned (.int .u32 (rotr x k))∧w=w':=
 (rotr_any w x k hk).mono fun _ _ h=>⟨h.1,h.2.symm⟩
structure S8 where
 (a b c d e f g z:Int)
def S8.t1(s:S8)(k w:Int):Int:=
 (s.z + bits BinOp.xor IntKind.u32 (bits BinOp.xor IntKind.u32 (rotr s.e 6) (rotr s.e 11)) (rotr s.e 25) + bits BinOp.xor IntKind.u32 s.g (bits BinOp.and IntKind.u32 s.e (bits BinOp.xor IntKind.u32 s.f s.g)) + k + w) % 4294967296
def S8.t2(s:S8):Int:=
 (bits BinOp.xor IntKind.u32 (bits BinOp.xor IntKind.u32 (rotr s.a 2) (rotr s.a 13)) (rotr s.a 22) + bits BinOp.or IntKind.u32 (bits BinOp.and IntKind.u32 s.a s.b) (bits BinOp.and IntKind.u32 s.c (bits BinOp.or IntKind.u32 s.a s.b))) % 4294967296
def S8.next(s:S8)(k w:Int):S8:=⟨(s.t1 k w + s.t2) % 4294967296,s.a,s.b,s.c,(s.d + s.t1 k w) % 4294967296,s.e,s.f,s.g⟩
def S8.rounds(s:S8)(ks ws:List Int):Nat→S8
 |0=>s
 |n + 1=>(s.rounds ks ws n).next (ks.getD n 0) (ws.getD n 0)
def S8.list(s:S8):List Int:=[s.a,s.b,s.c,s.d,s.e,s.f,s.g,s.z]
def addUp(h l:List Int):Nat→List Int
 |0=>h
 |n + 1=>(addUp h l n).set n (((addUp h l n).getD n 0 + l.getD n 0) % 4294967296)
theorem addUp_length(h l:List Int)(n:Nat):(addUp h l n).length=h.length:=by
 induction n with
 |zero=>rfl
 |succ n ih=>rw[addUp,List.length_set,ih]
def S8.add(s r:S8):S8:=⟨(s.a + r.a) % 4294967296,(s.b + r.b) % 4294967296,(s.c + r.c) % 4294967296,(s.d + r.d) % 4294967296,(s.e + r.e) % 4294967296,(s.f + r.f) % 4294967296,(s.g + r.g) % 4294967296,(s.z + r.z) % 4294967296⟩
def S8.take(h:S8)(ks:List Int)(s:List UInt8):S8:=h.add (h.rounds ks (W2 s 48) 64)
theorem addUp_all(h r:S8):addUp h.list r.list 8=(h.add r).list:=rfl
theorem jhl(ty n:Nat)(hu:Tryz.prog.underlying ty=some (.array n 22))(l:List Int)(k:Nat)(hk:k < l.length)(hl:l.length=n)(W:World):
 (Instr.index ty (.agg (u32s l)) (.int .i64 k)).run Tryz.prog W= .ok (.int .u32 (l.getD k 0)) W:=by
 have hg:=u32s_get l k hk;have hz:(sizeOf 22).run Tryz.prog W= .ok 1 W:=Tryz.sizeOf22 W;simp[Instr.index,asIntOf,run_underlying hu,hz,part,hg,hl ▸ hk]
theorem hashTake_any(w:World)(s:ByteArray)(hs:s.size=64)(gh gk:Nat)(h:S8)(ks:List Int)(hk:ks.length=64)
 (hgh:w.heap[gh]? =some (.cells (u32s h.list) 188 (0,0))) (hgk:w.heap[gk]? =some (.cells (u32s ks) 250 (0,0))):
 Calls Tryz.prog 90 #[.pointer (some ⟨gh,0,none⟩), .string s, .pointer (some ⟨gk,0,none⟩)] w fun e w'=>e= .returned (.tuple #[])∧w.grownBy w' (some gh)∧w'.heap[gh]? =some (.cells (u32s (h.take ks s.data.toList).list) 188 (0,0)):=by
 have c0:w.cell? ⟨gh,0,none⟩=some (.int .u32 h.a):=jcc hgh 0 (by simp[S8.list]);have c1:w.cell? ⟨gh,1,none⟩=some (.int .u32 h.b):=jcc hgh 1 (by simp[S8.list]);have c2:w.cell? ⟨gh,2,none⟩=some (.int .u32 h.c):=jcc hgh 2 (by simp[S8.list]);have c3:w.cell? ⟨gh,3,none⟩=some (.int .u32 h.d):=jcc hgh 3 (by simp[S8.list]);have c4:w.cell? ⟨gh,4,none⟩=some (.int .u32 h.e):=jcc hgh 4 (by simp[S8.list]);have c5:w.cell? ⟨gh,5,none⟩=some (.int .u32 h.f):=jcc hgh 5 (by simp[S8.list]);have c6:w.cell? ⟨gh,6,none⟩=some (.int .u32 h.g):=jcc hgh 6 (by simp[S8.list]);have c7:w.cell? ⟨gh,7,none⟩=some (.int .u32 h.z):=jcc hgh 7 (by simp[S8.list]);have HH:=Lib.hid (And.intro hk (And.intro hgh (And.intro hgk hs)));clear hk hgh hgk hs;go_enter Tryz.func90,Tryz.ntmps90;go_wp2;go_quiet (fail);rename_i nq;go_wp2_with (go_at_call 147;refine(words_any _ _ HH.out.2.2.2).mono ?_;rintro e w1 ⟨rfl,hb1⟩);clear c0 c1 c2 c3 c4 c5 c6 c7;have hB0:Below w.heap.size w w1:=(Below.drewN' (Below.refl _ w) nq).trans hb1;have hlw:(W2 s.data.toList 48).length=64:=jdy _ _;generalize hws:W2 s.data.toList 48=ws at *;have HWS:=Lib.hid (And.intro hws hlw);have HB0:=Lib.hid hB0;clear hws hlw hb1 hB0
 go_loopw [6,7,8,9,10,11,12,13,14,15,16,17,54] (fun a b c d e f g z _ _ _ _ i wr=>∃k:Nat,k≤64∧i= .int .i64 k∧a= .int .u32 (h.rounds ks ws k).a∧b= .int .u32 (h.rounds ks ws k).b∧c= .int .u32 (h.rounds ks ws k).c∧d= .int .u32 (h.rounds ks ws k).d∧e= .int .u32 (h.rounds ks ws k).e∧f= .int .u32 (h.rounds ks ws k).f∧g= .int .u32 (h.rounds ks ws k).g∧z= .int .u32 (h.rounds ks ws k).z∧Below w.heap.size w wr) (fun _ _ _ _ _ _ _ _ _ _ _ _ i _=>64 - (intOf i).toNat)
 case atStart=>exact⟨0,by omega,rfl,rfl,rfl,rfl,rfl,rfl,rfl,rfl,rfl,HB0.out⟩
 case round=>
  obtain⟨k,hk,rfl,rfl,rfl,rfl,rfl,rfl,rfl,rfl,rfl,hB⟩:=hrel;have HB:=Lib.hid hB;by_cases hlt:k < 64
  ·have hr:h.rounds ks ws (k + 1)=(h.rounds ks ws k).next (ks.getD k 0) (ws.getD k 0):=rfl
   have hck:=jcc (hB.block gk (lt_of_block HH.out.2.2.1)|>.trans HH.out.2.2.1) k (by rw[HH.out.1];exact hlt);have hix:=jhl 250 64 Tryz.underlying250 ws k (by rw[HWS.out.2];exact hlt) HWS.out.2;clear hB;generalize ks.getD k 0=kk at *;generalize ws.getD k 0=ww at *;have HR:=Lib.hid hr;clear hr;generalize h.rounds ks ws k=st at *;obtain⟨sa,sb,sc,sd,se,sf,sg,sz⟩:=st;go_wp2;go_quiet ((go_at_call 148;exact Calls.quiet_of_same (rotr_any _ _ _ (by decide))));rename_i nq2;go_wp2_with (go_at_call 148;refine(rotr_eq _ _ _ (by decide)).mono ?_;rintro e _ ⟨rfl,rfl⟩);have hr1:∀{p q:Int},p=q→Value.int IntKind.u32 p=Value.int IntKind.u32 q:=fun h=>by rw[h]
   exact⟨⟨k + 1,by omega,by go_num,hr1 (by rw[HR.out];rfl),hr1 (by rw[HR.out];rfl),hr1 (by rw[HR.out];rfl),hr1 (by rw[HR.out];rfl),hr1 (by rw[HR.out];rfl),hr1 (by rw[HR.out];rfl),hr1 (by rw[HR.out];rfl),hr1 (by rw[HR.out];rfl),Below.drewN' HB.out _⟩,by simp[intOf];omega⟩
  ·obtain rfl:k=64:=by omega
   have hgh2:=hB.block gh (lt_of_block HH.out.2.1)|>.trans HH.out.2.1
   have HG:=Lib.hid hgh2;clear hB hgh2;generalize hst:h.rounds ks ws 64=st at *;have HST:=Lib.hid hst;clear hst;go_wp2;go_loopw [18,19,124] (fun _ _ i wx=>∃j:Nat,j≤8∧i= .int .i64 j∧w.grownBy wx (some gh)∧wx.heap[gh]? =some (.cells (u32s (addUp h.list st.list j)) 188 (0,0))) (fun _ _ i _=>8 - (intOf i).toNat)
   case atStart=>exact⟨0,by omega,rfl,⟨HB.out.os,HB.out.tape,HB.out.output,HB.out.size,fun k hk _=>HB.out.block k hk⟩,HG.out⟩
   case round=>
    obtain⟨j,hj,rfl,hG,hW⟩:=hrel;have HG2:=Lib.hid hG;by_cases hl2:j < 8
    ·have hc:=jcc hW j (by rw[addUp_length];exact hl2);have hf:=frozen_of_row wr _ j _ _ hW;have hix:=jhl 187 8 Tryz.underlying187 st.list j hl2 rfl;have hadd:addUp h.list st.list (j + 1)=(addUp h.list st.list j).set j (((addUp h.list st.list j).getD j 0 + st.list.getD j 0) % 4294967296):=rfl;have HW2:=Lib.hid hW;clear hG hW;generalize(addUp h.list st.list j).getD j 0=x at *;generalize st.list.getD j 0=y at *;have HA:=Lib.hid hadd;clear hadd;change ∀(W:World),Sem.run Tryz.prog (Instr.index 187 (Value.agg #[.int .u32 st.a, .int .u32 st.b, .int .u32 st.c, .int .u32 st.d, .int .u32 st.e, .int .u32 st.f, .int .u32 st.g, .int .u32 st.z]) (Value.int IntKind.i64 j)) W=_ at hix;have hj8:(j:Int) < 8:=by omega
     go_wp2;go_region;go_wp2;refine⟨⟨j + 1,by omega,by go_num,jec (jap HG2.out j _),?_⟩,by simp[intOf];omega⟩;rw[HA.out];exact jjj HW2.out j _
    ·obtain rfl:j=8:=by omega
     have HW2:=Lib.hid hW;clear hG hW;go_wp2;go_end0;refine⟨rfl,HG2.out,?_⟩;have:=HW2.out;rw[addUp_all]at this;rw[S8.take,HWS.out.1,HST.out];exact this
def tailZ(n:Nat):Nat:=(119 - n % 64) % 64
def tailL(n:Nat):List Int:=[128] ++ List.replicate (tailZ n) 0 ++ numL ((n:Int) * 8) 8
def jde(n j:Nat):List Int:=[128] ++ List.replicate (tailZ n) 0 ++ jc9 ((n:Int) * 8) 8 j
theorem numPart_length(m:Int)(k j:Nat):(jc9 m k j).length=k:=by
 unfold jc9;simp[jc0]
theorem jdz(n j:Nat):(jde n j).length=9 + tailZ n:=by
 unfold jde;simp[numPart_length];omega
theorem tailPart_set(n j:Nat)(h:j < 8):(jdi (jde n j)).set (8 + tailZ n - j) (.int .u8 ((n:Int) * 8 / 2 ^ (8 * j) % 256))=jdi (jde n (j + 1)):=by
 have:=jlv ((n:Int) * 8) 8 j h;unfold jde jdi at *;rw[List.map_append,List.set_append_right _ _ (by simp;omega),show 8 + tailZ n - j - (List.map (Value.int IntKind.u8) ([128] ++ List.replicate (tailZ n) 0)).length=8 - 1 - j by simp;omega,this];simp only[List.map_append]
theorem tailPart_get(n j:Nat)(h:j < 8):∃x,(jdi (jde n j))[8 + tailZ n - j]? =some (.int .u8 x):=by
 have hl:8 + tailZ n - j < (jde n j).length:=by rw[jdz];omega
 exact⟨_,by unfold jdi;rw[List.getElem?_map,List.getElem?_eq_getElem hl];rfl⟩
theorem tailPart_start(n:Nat):(List.replicate (9 + tailZ n) (Value.int .u8 0)).set 0 (.int .u8 128)=jdi (jde n 0):=by
 unfold jdi jde jc9;rw[show 9 + tailZ n=(tailZ n + 8) + 1 by omega,List.replicate_succ,←List.replicate_append_replicate];simp[jc0]
theorem jj4(n:Nat):jde n 8=tailL n:=by
 unfold jde tailL jc9;simp
theorem tail_any(w:World)(n:Nat)(hn:n≤281474976710656):
 Calls Tryz.prog 91 #[.int .i64 n] w fun e w'=>e= .returned (.string (strOfNums (tailL n)))∧Below w.heap.size w w':=by
 obtain⟨i0,hi,hz0,hz1,hz2⟩:=info_parts u8_info;have hz:(119 - (n:Int) % 64) % 64=(tailZ n:Int):=by unfold tailZ;omega
 have hzb:tailZ n < 64:=by unfold tailZ;omega
 have e1:IntKind.i64.wrap (IntKind.i64.wrap (1 + (tailZ n:Int)) + 8)=((9 + tailZ n:Nat):Int):=by rw[IntKind.wrap_i64,IntKind.wrap_i64];omega
 have HE:=Lib.hid e1;have hzb2:(tailZ n:Int) < 64:=by omega
 clear e1;go_enter Tryz.func91,Tryz.ntmps91;go_wp2_with (at_make;refine wpList_make_full _ rfl (.tmp 12) (.tmp 12) 167 rfl w.heap.size 5 i0 (.int .u8 0) 1 Tryz.underlying167 hi hz0 hz1 .i64 .i64 (1 + (tailZ n:Int) + 8) (1 + (tailZ n:Int) + 8) (9 + tailZ n) rfl rfl (by omega) (by omega) (by rw[hz2];omega) (by unfold maxLen;omega) (Nat.le_refl _) ?_;intro w1 hown hgr;rw[show(Value.int IntKind.u8 0).cells= #[Value.int IntKind.u8 0]from rfl,toList_madeCells_one,Nat.mul_one]at hown;have c0:=(World.ownsRow.cellAt hown 0 (by omega));have f0:=World.ownsRow.frozenAt hown 0;rw[List.getElem?_replicate,if_pos (by omega)]at c0;have HO:=Lib.hid (And.intro hown hgr);clear hown hgr);go_loopw [5,16] (fun _ i wr=>∃j:Nat,j≤8∧i= .int .i64 j∧Below w.heap.size w wr∧wr.ownsRow w.heap.size 5 1 (.slice (some ⟨w.heap.size,0,none⟩) (9 + tailZ n) (9 + tailZ n)) (9 + tailZ n) (jdi (jde n j))) (fun _ i _=>8 - (intOf i).toNat)
 case atStart=>
  refine⟨0,Nat.zero_le _,rfl,((Below.refl _ _).grown HO.out.2 (Nat.le_refl _) (fun _ h=>by cases h)).setCell (Nat.le_refl _) _,?_⟩;rw[←tailPart_start];exact(HO.out.1.stored 0 _).1
 case round=>
  obtain⟨j,hj,rfl,hB,hO⟩:=hrel;have HB:=Lib.hid hB;by_cases hlt:j < 8
  ·obtain⟨x,hx⟩:=tailPart_get n j hlt;have c1:=World.ownsRow.cellAt hO (8 + tailZ n - j) (by omega);rw[hx]at c1;have f1:=World.ownsRow.frozenAt hO (8 + tailZ n - j);have HO2:=Lib.hid hO;clear hB hO hx c0 f0;have e2:(9:Int) + (tailZ n:Int) - 1 - (j:Int)=((8 + tailZ n - j:Nat):Int):=by omega
   have HE2:=Lib.hid e2;clear e2;go_wp2;refine⟨⟨j + 1,by omega,by go_num,HB.out.setCell (Nat.le_refl _) _,?_⟩,by simp[intOf];omega⟩;rw[←tailPart_set n j hlt];exact(HO2.out.stored _ _).1
  ·obtain rfl:j=8:=by omega
   have hc:=fun i hi=>World.ownsRow.cellAt hO i hi
   have hst:(convert 167 9 (.slice (some ⟨w.heap.size,0,none⟩) (9 + tailZ n) (9 + tailZ n))).run Tryz.prog wr= .ok (.string (strOfNums (tailL n))) wr:=by
    rw[←jj4];refine run_convert_bytes_arg wr 167 5 Tryz.underlying167 Tryz.underlying5 w.heap.size 0 _ _ (jde n 8) (jdz n 8) (fun i hi=>?_) 9 Tryz.underlying9;rw[Nat.zero_add,hc _ (by omega),jdi,List.getElem?_map,List.getD_eq_getElem?_getD,List.getElem?_eq_getElem (by rw[jdz];exact hi)];rfl
   clear hB hO hc c0 f0;go_wp2;go_ret;exact⟨rfl,HB.out⟩
/-! The whole. -/
def k64:List Int:=[1116352408,1899447441,3049323471,3921009573,961987163,1508970993,2453635748,2870763221,3624381080,310598401,607225278,1426881987,1925078388,2162078206,2614888103,3248222580,3835390401,4022224774,264347078,604807628,770255983,1249150122,1555081692,1996064986,2554220882,2821834349,2952996808,3210313671,3336571891,3584528711,113926993,338241895,666307205,773529912,1294757372,1396182291,1695183700,1986661051,2177026350,2456956037,2730485921,2820302411,3259730800,3345764771,3516065817,3600352804,4094571909,275423344,430227734,506948616,659060556,883997877,958139571,1322822218,1537002063,1747873779,1955562222,2024104815,2227730452,2361852424,2428436474,2756734187,3204031479,3329325298]
def h0S:S8:=⟨1779033703,3144134277,1013904242,2773480762,1359893119,2600822924,528734635,1541459225⟩
def padL(s:List UInt8):List UInt8:=s ++ (tailL s.length).map fun n=>UInt8.ofNat n.toNat
def shaN(l:List UInt8):Nat→S8
 |0=>h0S
 |k + 1=>(shaN l k).take k64 ((l.drop (64 * k)).take 64)
def outL(st:S8):List Int:=(List.range 32).map fun i=>st.list.getD (i / 4) 0 / 2 ^ (24 - 8 * (i % 4)) % 256
def shaOf(s:List UInt8):List Int:=outL (shaN (padL s) ((padL s).length / 64))
def u8s(l:List Int):Array Value:=(jdi l).toArray
theorem jcs(st:S8):(outL st).length=32:=by simp[outL]
theorem jgs(s:List UInt8):(shaOf s).length=32:=jcs _
theorem rounds_any(w:World):Calls Tryz.prog 89 #[] w fun e w'=>e= .returned (.pointer (some ⟨w.heap.size,0,none⟩))∧w'=w.alloc (.cells (u32s k64) 250):=by
 go_enter Tryz.func89,Tryz.ntmps89;go_wp2;go_ret;exact⟨rfl,rfl⟩
end Go.Proofs.YtpaohkkhejpgjaaGreatDoor
