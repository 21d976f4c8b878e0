/- Texts of the proof: Zc. -/
import Derived.Test.YtpaohkkhejpgjaaGreatDoorM41
set_option linter.all false
set_option maxRecDepth 100000
set_option maxHeartbeats 8000000
namespace Go.Proofs.YtpaohkkhejpgjaaGreatDoor
open Go Go.RowKit
theorem gen_snoc(l:List Sup)(x:Sup):(l ++ [x]).foldl (fun n y=>max n y.gen) (0:Int)=max (l.foldl (fun n y=>max n y.gen) 0) x.gen:=by
 rw[List.foldl_append];rfl
theorem gen_any(w:World)(v:Value)(s:Sto)(hv:StoV w v s):
 Calls Tryz.prog 64 #[v] w fun e w'=>e= .returned (.int .u64 (genS s))∧Below w.heap.size w w':=by
 have HVV:=Lib.hid hv;obtain⟨bv,wv,cv,rfl,hdv,hhv,hw0,hw1,hkw⟩:=hv;have HSL:=Lib.hid (ja4 (d:=s.dev) (bv:=bv) (wv:=wv) (x:= .int .u32 s.heap.size) (cv:=cv) (p:=s.v0) (q:=s.v1) hw0 hw1 hkw);clear hdv hhv hw0 hw1 hkw;have HLN:=Lib.hid (jb4 HSL.out);obtain⟨st,hst⟩:∃st,stoL (devL s.dev bv wv) [.int .u32 s.heap.size,cv] (supA s.s0).toList (supA s.s1).toList [.bool s.v0, .bool s.v1] (kidE.enc s.table)=st:=⟨_,rfl⟩
 rw[hst]at HLN HVV ⊢;clear HSL hst;have hnb:=heap_alloc_new w (.cells st.toArray 42);have hbb:=(Below.refl w.heap.size w).alloc (Nat.le_refl _) (.cells st.toArray 42);go_enter Tryz.func64,Tryz.ntmps64;go_upto_region 1 with(fail);generalize w.alloc (.cells st.toArray 42)=wx at *;have HB:=Lib.hid hbb;have hats:At wx w.heap.size 0 st:=fun j hj=>by
  rw[cell_of_row _ _ _ _ _ _ hnb,Nat.zero_add];simp[hj]
 have hsi:(Tryz.prog.info? 42).map (·.size)=some st.length:=by rw[HLN.out];exact ja6
 have HVA:=Lib.hid (ji7 wx _ s (HVV.out.below hbb (Nat.le_refl _)));obtain⟨sta,hsta⟩:∃sta,st.toArray=sta:=⟨_,rfl⟩
 have HSTA:=Lib.hid hsta;rw[hsta]at HVA;clear hnb hbb hsta;go_wp2_with (refine jae rfl 42 (.tmp 1) rfl w.heap.size 0 rfl st _ hats Tryz.underlying42 rfl hsi sta HSTA.out ?_);refine HVA.out.mono ?_;rintro e wv ⟨r,rfl,hown,hbv⟩;have hwfs:∀x∈jbh s,supE.wf x:=fun x hx=>jk5 HVV.out x hx
 have hslv:=jct (E:=supE) hown rfl hwfs;obtain⟨VA,vc,rfl,hv1,hv2,_⟩:=hslv;have hslv:=jct (E:=supE) hown rfl hwfs;have HSV:=Lib.hid hslv;have HBV:=Lib.hid (HB.out.trans (hbv.mono HB.out.size));have HVL:=Lib.hid (show(jbh s).length≤2 by unfold jbh;cases s.v0 <;>cases s.v1 <;>simp);have HGE:=Lib.hid (show genS s=(jbh s).foldl (fun n x=>max n x.gen) 0 from rfl);clear hown hbv hslv hats HVA hwfs;obtain⟨vl,hvl⟩:∃vl,jbh s=vl:=⟨_,rfl⟩
 rw[hvl]at HSV HVL HGE hv1 ⊢;clear hvl;go_wp2_with (fail);go_loopw [3,5,9,10,11,12,13,14,15,16,17] (fun u _ i _ _ _ _ _ _ _ _ wr2=>∃j:Nat,j≤vl.length∧i= .int .i64 j∧u= .int .u64 ((vl.take j).foldl (fun n x=>max n x.gen) 0)∧Below wv.heap.size wv wr2) (fun _ _ i _ _ _ _ _ _ _ _ _=>vl.length - (intOf i).toNat)
 case atStart=>exact⟨0,Nat.zero_le _,rfl,rfl,Below.refl _ _⟩
 case round=>
  obtain⟨j,hj,rfl,rfl,hbr⟩:=hrel;by_cases hjl:j < vl.length
  ·obtain⟨b',o',rfl,hat,hwf⟩:=jgk (HSV.out.below hbr (Nat.le_refl _)) j hjl;have HSN:=Lib.hid (show(vl.take (j + 1)).foldl (fun n x=>max n x.gen) (0:Int)=max ((vl.take j).foldl (fun n x=>max n x.gen) 0) vl[j].gen by rw[List.take_succ_eq_append_getElem hjl,gen_snoc]);have HWX:=Lib.hid (show supWf vl[j]from hwf);have s1:=jbt vl[j];have s2:=jbx HWX.out;have s3:(supA vl[j]).toList.length=35:=by rw[Array.length_toList];exact jbn HWX.out
   have s4:(supA vl[j])[1]? =some (.int .u64 vl[j].gen):=rfl;have hat2:At wr b' (o' + j * 35) (supA vl[j]).toList:=hat;obtain⟨xs,hxs⟩:∃xs,(supA vl[j]).toList=xs:=⟨_,rfl⟩
   rw[hxs]at s1 s2 s3 hat2;rw[←Array.getElem?_toList,hxs,←List.getElem?_toArray]at s4;obtain⟨xa,hxa⟩:∃xa,xs.toArray=xa:=⟨_,rfl⟩
   have HXA:=Lib.hid hxa;obtain⟨tb,htb⟩:∃z,vl[j].gen=z:=⟨_,rfl⟩
   rw[htb]at HSN s4;have hnb8:=heap_alloc_new wr (.cells xs.toArray 36);have t2:(wr.alloc (.cells xs.toArray 36)).cell? ⟨wr.heap.size,1,none⟩=some (.int .u64 tb):=by rw[cell_of_row _ _ _ _ _ _ hnb8];exact s4
   have HBR:=Lib.hid (hbr.alloc hbr.size (.cells xs.toArray 36));have hi3:(0:Int)≤j:=by omega
   have hi4:(j:Int) < vl.length:=by omega
   clear hat hwf hxs hxa htb hbr hnb8 s4;generalize(vl.take j).foldl (fun n x=>max n x.gen) (0:Int)=cj at *;go_wp2_with (first
    |(refine jae rfl 36 (.tmp 11) rfl b' (o' + j * 35) rfl xs _ hat2 Tryz.underlying36 rfl s2 xa HXA.out ?_)
    |((with_reducible refine jab ?_);refine jaa rfl 36 (.tmp 5) (.tmp 12) rfl 36 _ rfl xs (by rw[HXA.out];rfl) (by rw[s3];rfl) s1 s2 ?_))
   exact⟨⟨j + 1,by omega,by go_num,by rw[HSN.out],HBR.out⟩,by simp[intOf];omega⟩
  ·obtain rfl:j=vl.length:=by omega
   rw[List.take_length];rw[←HGE.out];have HFB:=Lib.hid (HBV.out.trans (hbr.mono HBV.out.size));clear hbr;go_wp2_with (fail);go_ret;exact⟨rfl,HFB.out⟩
end Go.Proofs.YtpaohkkhejpgjaaGreatDoor
