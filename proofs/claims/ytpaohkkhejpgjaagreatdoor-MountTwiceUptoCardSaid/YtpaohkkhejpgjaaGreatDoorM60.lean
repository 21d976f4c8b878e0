/- Texts of the proof: Zp. -/
import Derived.Test.YtpaohkkhejpgjaaGreatDoorM49
set_option linter.all false
set_option maxRecDepth 100000
set_option maxHeartbeats 8000000
namespace Go.Proofs.YtpaohkkhejpgjaaGreatDoor
open Go Go.RowKit
theorem chk_cells{s:Sto}(h:jdm s=true):s.heap.cells.length≤65536:=by
 have hg:=je4 _ (jmt h).2.1;have h1:=jg2 (jaj (jav s.heap)) 0 65536 hg.ris (fun x hx=>by
  obtain⟨c,hc,rfl⟩:=List.mem_map.1 hx;have:=(hg.dec c hc).2.2.2;have:=hg.hi;omega) (by omega)
 unfold jaj at h1;rw[jb5,List.length_map,List.length_map,List.length_map]at h1;omega
end Go.Proofs.YtpaohkkhejpgjaaGreatDoor
