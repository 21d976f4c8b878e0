/- MountTwice of every store of bulk at most 1048576: the law answers true, and the input reads as it did. No conditions. -/
import Derived.Test.YtpaohkkhejpgjaaGreatDoorM53
import Derived.Test.YtpaohkkhejpgjaaGreatDoorM52
import Derived.Test.YtpaohkkhejpgjaaGreatDoorCards
import Derived.Test.YtpaohkkhejpgjaaGreatDoorM55
import Derived.Test.YtpaohkkhejpgjaaGreatDoorTie
import Derived.WideKeyArgs
import Derived.WalkKit
import Derived.ProofKit
import Derived.OpenShut
import Derived.Deep.DeepHandedRow
import Derived.Lib.LaidTab
import Derived.Lay
import Derived.LaidMore
import Derived.SevenTiedAt
set_option linter.all false
set_option maxRecDepth 100000
set_option maxHeartbeats 8000000
namespace Go.Proofs.YtpaohkkhejpgjaaGreatDoor.mountTwice
open Go.ChangeShapes Go.WideShapes Go.ChangeAt Go.RowKit
section
variable {H:Type} {enc:TypeId×Value→H} {P:Program}
theorem post_of_below{f:Func}{s:ChangeSpec}{apart fresh handsOn again:Bool}{W W':World}{args:Array Value}{v:Value}{ds gs:List (DataW H)}{before pa pv:List MemPlace}
 (hW:DataW.Whole enc P f.params.toList s.vars apart W args.toList ds gs before)
 (hres:∀(b:Nat) (sp:Nat→Bool) (hd:Bool),DataW.TrodAll enc P W' b sp hd f.resultTypes.toList (v.resultList f.resultTypes.size) (s.fn H (ds ++ gs)).results [])
 (hargs:∀sp:Nat→Bool,(∀p∈before,sp p.block=true)→DataW.TrodAll enc P W' 0 sp true f.params.toList args.toList (s.fn H (ds ++ gs)).args pa)
 (hvars:∀sp:Nat→Bool,(∀p∈before,sp p.block=true)→DataW.TrodVars enc P W' sp s.vars (s.fn H (ds ++ gs)).vars pv)
 (hps:before=pa ++ pv) (hb:Below W.heap.size W W')
 (hok:∀(j:Nat) (t:TypeId) (r:Value),f.resultTypes[j]? =some t→(v.resultList f.resultTypes.size)[j]? =some r→Value.okWide P W' .any 0 t r):
 s.post enc P f apart fresh handsOn again W args v W':=by
 have hlt:∀p∈before,p.block < W.heap.size:=fun p hp=>hW.lt p hp
 have hold:∀p∈before,(fun b=>decide (b < W.heap.size)) p.block=true:=fun p hp=>by simpa using hlt p hp
 refine⟨ds,gs,before,[],pa,pv,hW,hres _ _ _,hargs _ hold,hvars _ hold,World.keptBut_mono (fun p hp=>⟨hp,?_⟩) (hb.frame (· ∈before)),fun _=>?_⟩
 ·rw[hps,List.mem_append]at hp;exact Or.inr hp
 ·obtain⟨_,_,_,_,_,hz,hn⟩:=hW;refine⟨hok,_,_,([] ++ pa) ++ pv,⟨[] ++ pa,pv,trodAll_append (hargs _ (fun _ _=>rfl)) (hres _ _ _),hvars _ (fun _ _=>rfl),rfl,?_,?_⟩,?_⟩
  ·intro b off hp;have hin:MemPlace.cell b off∈before:=by rw[hps];simpa using hp
   rw[hb.frozen (hlt _ hin)];exact hz b off hin
  ·intro ha;have:=hn ha;rw[hps]at this;simpa using this
  ·intro p hp _;rw[hps];simpa using hp
end
theorem laidP:laidOutB Tryz.prog=true:=by kernel_rfl
theorem readS:Tryz.prog.readableRec 42=true:=by kernel_rfl
theorem own:ownKnob Tryz.prog.godebug=none:=by kernel_rfl
theorem contract(H:Type)(enc:TypeId×Value→H)(W:World)(base:Nat)(args:Array Value)(ds gs:List (DataW H))(before:List MemPlace)
 (hval:∀(j:Nat) t v,Tryz.f5.params[j]? =some t→args[j]? =some v→Value.okWide Tryz.prog W .any base t v)
 (hW:DataW.Whole enc Tryz.prog Tryz.f5.params.toList (Rows.OpenSpec.upto Rows.mountTwiceSpec).vars false W args.toList ds gs before) (hk:Rows.uptoSmall H (ds ++ gs)=true):
 Calls Tryz.prog 5 args W fun e W'=>∃v,e= .returned v∧Rows.mountTwiceSpec.post enc Tryz.prog Tryz.f5 false true false false W args v W':=by
 have hW':=hW;obtain⟨p,q,hA0,hV,rfl,hfz,hnd⟩:=hW;have hA:DataW.TrodAll enc Tryz.prog W 0 (fun _=>true) true Tryz.f5.params.toList args.toList ds p:=hA0;rw[Tryz.params5]at hA hval;obtain⟨v0,vs0,d0,ds0,p0,q0,hargs,rfl,rfl,h0,r0⟩:=trodAll_cons hA;obtain⟨rfl,rfl,rfl⟩:=trodAll_nil r0;obtain rfl:args= #[v0]:=by cases args;simp_all
 obtain⟨rfl,rfl⟩:=trodVars_none hV;have hb:Rows.uptoBulkAll [d0]≤1048576:=by
  have:Rows.uptoBulkAll ([d0] ++ [])≤1048576:=of_decide_eq_true hk;simpa using this
 simp only[Rows.uptoBulkAll]at hb;obtain⟨s,hv0,hl0,hl1,hl2⟩:=sto_read (hval 0 42 v0 rfl rfl) h0 (by omega);have hlt:∀x∈p0,x.block < W.heap.size:=fun x hx=>hW'.lt x (by simp[hx])
 clear hA0;simp only[List.append_nil]at hW' ⊢;refine(twice_any W v0 s hv0 (by omega) (by omega) (by omega)).mono fun e W' ⟨he,hB⟩=>?_
 subst he;refine⟨_,rfl,post_of_below (pa:=p0) (pv:=[]) hW' (fun _ _ _=>trodAll_cons_mk (shut_bool Tryz.underlying4 _) trodAll_mk0) (fun sp hsp=>?_) (fun _ _=>rfl) (by simp) hB
  (ok_one (by kernel_rfl) rfl (okWide_bool_mk Tryz.underlying4 _))⟩
 rw[Tryz.params5];have h0':=WideElems.Trod_stays laidP readS (of_decide_eq_true (by kernel_rfl)) h0 (fun x hx=>hB.same (hlt x hx)) (fun x hx=>hsp x (by simp[hx]));have:=trodAll_cons_mk h0' trodAll_mk0;rw[List.append_nil]at this;exact this
noncomputable def jgo (os:Os):World:=World.laidAll Tryz.prog os Rows.mountTwiceUptoRow.laid
def je0:Array Value:= #[.agg zSto.toArray]
def zSupD{H:Type}:DataW H:= .agg [.lit (.int .u32 0), .lit (.int .u64 0), .lit (.int .u32 0), .agg (List.replicate 32 (.lit (.int .u8 0)))]
def zStoD{H:Type}:DataW H:= .agg [.agg [.lit (.int .u32 0), .nil, .nil, .lit (.bool false), .lit (.int .i64 0)], .agg [.lit (.int .u32 0), .nil], .agg [zSupD,zSupD], .agg [.lit (.bool false), .lit (.bool false)], .agg [.lit (.string []), .lit (.int .u32 0), .agg (List.replicate 32 (.lit (.int .u8 0)))]]
theorem reads(os:Os){H:Type}(enc:TypeId×Value→H):∃places,DataW.whole enc Tryz.prog ((jgo os).forCall (fun _ _=>0) ⟨#[],je0,[]⟩).memory Tryz.f5.params.toList (Rows.OpenSpec.upto Rows.mountTwiceSpec).vars false je0.toList 8=
 some ([zStoD],[],places):=
 ⟨[],by kernel_rfl⟩
theorem lifted(os:Os)(started:os.Started)(H:Type)(enc:TypeId×Value→H)(F:Stop.Interp):
 ReturnsInHanded {} Tryz.checked os 5 .any ((Rows.OpenSpec.upto Rows.mountTwiceSpec).preRow enc Tryz.prog Tryz.f5 Rows.mountTwiceUptoRow.domain false Rows.mountTwiceUptoRow.laid) (((Rows.OpenSpec.upto Rows.mountTwiceSpec).at F).post enc Tryz.prog Tryz.f5 false true false false):=by
 obtain⟨places,hx⟩:=reads os enc;have hok:Input.okWideB Tryz.prog ((jgo os).forCall (fun _ _=>0) ⟨#[],je0,[]⟩) 5 ⟨#[],je0,[]⟩=true:=by kernel_rfl
 refine returnsInHanded_of_row (C:=Tryz.checked) (s:=Rows.OpenSpec.upto Rows.mountTwiceSpec) own started (by kernel_rfl) Tryz.func5
  ⟨jgo os,fun _ _=>0,⟨#[],je0,[]⟩,World.laidAll_os _ _ _,World.shaped_of_ZipB (by kernel_rfl) (by kernel_rfl),(Input.okWide_of_okWideB (base:=0) hok).1,(Input.okWide_of_okWideB hok).2,
   OpenSpec.preRow_of_cond 8 hx (by kernel_rfl) (fun k hk=>by cases hk;kernel_rfl) (by kernel_rfl) (laidMet_laidAll _ (by kernel_rfl) (by kernel_rfl)),by simp only[Assume.holds];exact⟨by simp,by simp,by simp,by simp⟩⟩ ?_
 intro W base args ds gs before hval hW _ hcond _ _ _ _;exact contract H enc W base args ds gs before hval hW (hcond _ rfl)
theorem namedFact:Tryz.pinned.checked.prog.funcNamed Rows.mountTwiceUptoRow.func=some 5:=by kernel_rfl
theorem instanceFact:Tryz.f5.isInstance Tryz.pinned.checked.prog Rows.mountTwiceUptoRow.origin Rows.mountTwiceUptoRow.targs:=of_decide_eq_true (by kernel_rfl)
theorem wrapperFact:Tryz.f5.isWrapper Tryz.pinned.checked.prog Rows.mountTwiceUptoRow.wrapper Rows.mountTwiceUptoRow.mainSum:=by
 unfold Func.isWrapper;first|(rw[if_pos (by decide +kernel)];kernel_rfl)|(rw[if_neg (by decide +kernel)];exact⟨rfl,rfl⟩)
theorem said:Rows.MountTwiceUptoSaid:=
 OpenClaim.holds_of_cond 5 Tryz.f5 rfl rfl rfl rfl rfl rfl rfl ⟨rfl,rfl,rfl,rfl,rfl⟩ rfl rfl rfl rfl rfl namedFact Tryz.func5 closedFacts instanceFact wrapperFact
  (fun os started H enc _ F=>by rw[OpenClaim.pre_eq_preRow];exact lifted os started H enc F)
theorem plain(f:FuncId)(fn:Func)(hf:Tryz.pinned.checked.prog.funcNamed "cambium/cambiumlaw10.MountTwice" =some f)(hfn:Tryz.pinned.checked.prog.funcs[f]? =some fn):
 false=Tryz.pinned.checked.prog.looks []∧∀(j:Nat) t,fn.params[j]? =some t→Tryz.pinned.checked.prog.wantsStandIn t=false:=by
 obtain rfl:f=5:=Option.some.inj ((show Tryz.prog.funcNamed "cambium/cambiumlaw10.MountTwice" =some 5 by kernel_rfl).symm.trans hf)|>.symm
 obtain rfl:fn=Tryz.f5:=(Option.some.inj (Tryz.func5.symm.trans hfn)).symm;refine⟨by kernel_rfl,fun j t ht=>?_⟩;rw[Tryz.params5]at ht;have hm:t∈[42]:=by simpa using Array.mem_of_getElem? ht
 have hall:([42].all fun u=> !Tryz.prog.wantsStandIn u)=true:=by kernel_rfl
 exact(show Tryz.prog.wantsStandIn t=false by simpa using List.all_eq_true.1 hall t hm)
theorem card:Rows.MountTwiceUptoCardSaid:=
 Claim7.holds_tied_plain_at .later [] _ _ _ _ said (fun _ h=>by cases h) (by kernel_rfl) (fun _ h=>by cases h) mountTwiceUpto_row_tie rfl ⟨rfl,rfl⟩ (by kernel_rfl) rfl plain (by kernel_rfl)
#print axioms card
end Go.Proofs.YtpaohkkhejpgjaaGreatDoor.mountTwice
