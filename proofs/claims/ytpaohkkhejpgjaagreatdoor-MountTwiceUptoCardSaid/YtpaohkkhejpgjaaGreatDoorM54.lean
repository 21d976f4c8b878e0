/- Texts of the proof: Jo Jq. -/
import Derived.JoinedOf
import Derived.KernelRfl
import Derived.Test.YtpaohkkhejpgjaaGreatDoorRows
set_option linter.all false
set_option maxRecDepth 100000
set_option maxHeartbeats 8000000
namespace Go.Proofs.YtpaohkkhejpgjaaGreatDoor
open Go
theorem joined_of{P:Program}{f:FuncId}{fn:Func}{s:ChangeSpec}{c:OpenClaim}
 (g1:(c.wf (OpenSpec.ofChange s) && laidOutB P && mapsRowed P && fn.params.all (P.readableRec ·) && namedTie P c.named s.vars && (c.stops==[]) && (P.stops==[]) && (c.knobs==[]) && (P.stopKnobs==[]))=true)
 (g2:(c.inPlace==P.inPlace f)=true) (g3:(c.unfollowed==P.unfollowed f)=true) (g4:(c.recurses==P.recurses f)=true) (g5:(c.named==P.varsNamed f)=true)
 (g6:((c.maps==(fn.params.toList ++ s.plain.varTypes P).any (P.mapsRec ·)) && (c.ifaces==(fn.params.toList ++ s.plain.varTypes P).any (P.ifacesRec ·)) && (c.mapsOut==P.mapsAmong fn.resultTypes.toList) &&
  (c.loops==(fn.params.toList ++ s.plain.varTypes P).any (P.loopsFrom ·)) && (c.wideKeys==(fn.params.toList ++ s.plain.varTypes P ++ fn.resultTypes.toList).any (P.wideKeysFrom ·)))=true)
 (g7:(s.vars.all (P.varReadable ·) && fn.resultTypes.all (fun t=>P.readableRec t && decide (t < P.types.size)) && (c.ifacesOut==fn.resultTypes.toList.any (P.ifacesRec ·)) && (c.loopsOut==fn.resultTypes.toList.any (P.loopsFrom ·)) && (c.plainKeys==P.plainKeys) && c.shortTexts.isNone)=true)
 (g8:(P.stopsHeard && P.mayEnter && (c.lifted==P.liftsFinal) && (P.make==some c.make) && (c.kinds==(if c.domain.isEmpty then[]else fn.params.toList.map fun t=>match P.underlying t with|some (.int k)=>some k|_=>none)) && (c.pinned==c.pinnedBy))=true)
 (g9:((c.veiled==(fn.params.toList ++ s.plain.varTypes P ++ fn.resultTypes.toList).any (P.veiledRec ·)) && c.veiledFits P fn.params.toList (fn.params.toList ++ s.plain.varTypes P ++ fn.resultTypes.toList))=true):
 joinedFacts P f fn s c=true:=by
 unfold joinedFacts;simp only[Bool.and_eq_true,and_assoc]at g1 g6 g7 g8 g9 ⊢;obtain⟨a1,a2,a3,a4,a5,a6,a7,a8,a9⟩:=g1;obtain⟨b1,b2,b3,b4,b5⟩:=g6;obtain⟨c1,c2,c3,c4,c5,c6⟩:=g7;obtain⟨d1,d2,d3,d4,d5,d6⟩:=g8;exact⟨a1,a2,a3,a4,a5,a6,a7,a8,a9,g2,g3,g4,g5,b1,b2,b3,b4,b5,c1,c2,c3,c4,c5,c6,d1,d2,d3,d4,d5,d6,g9.1,g9.2⟩
end Go.Proofs.YtpaohkkhejpgjaaGreatDoor
namespace Go.Proofs.YtpaohkkhejpgjaaGreatDoor.mountTwice
open Go
theorem cf1:(Rows.mountTwiceUptoRow.wf (OpenSpec.ofChange (Rows.OpenSpec.upto Rows.mountTwiceSpec).bare) && laidOutB Tryz.pinned.checked.prog && mapsRowed Tryz.pinned.checked.prog && Tryz.f5.params.all (Tryz.pinned.checked.prog.readableRec ·) && namedTie Tryz.pinned.checked.prog Rows.mountTwiceUptoRow.named (Rows.OpenSpec.upto Rows.mountTwiceSpec).bare.vars && (Rows.mountTwiceUptoRow.stops==[]) && (Tryz.pinned.checked.prog.stops==[]) && (Rows.mountTwiceUptoRow.knobs==[]) && (Tryz.pinned.checked.prog.stopKnobs==[]))=true:=by kernel_rfl
theorem cf2:(Rows.mountTwiceUptoRow.inPlace==Tryz.pinned.checked.prog.inPlace 5)=true:=by kernel_rfl
theorem cf3:(Rows.mountTwiceUptoRow.unfollowed==Tryz.pinned.checked.prog.unfollowed 5)=true:=by kernel_rfl
theorem cf4:(Rows.mountTwiceUptoRow.recurses==Tryz.pinned.checked.prog.recurses 5)=true:=by kernel_rfl
theorem cf5:(Rows.mountTwiceUptoRow.named==Tryz.pinned.checked.prog.varsNamed 5)=true:=by kernel_rfl
end Go.Proofs.YtpaohkkhejpgjaaGreatDoor.mountTwice
