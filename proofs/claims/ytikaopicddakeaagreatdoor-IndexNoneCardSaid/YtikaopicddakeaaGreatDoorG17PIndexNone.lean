/- Walks: how many bytes of each file of a disk are not sure. -/
import Derived.Test.YtikaopicddakeaaGreatDoorG15PIndexNone
import Derived.IntWalk
import Derived.Deep.RegionHeld3
set_option linter.unusedVariables false
set_option linter.unusedSimpArgs false
namespace Go.Proofs.YtikaopicddakeaaGreatDoor
open Go.RowKit

theorem info_i : (Tryz.prog.info? 3).map (fun i => (i.zero, i.size, i.bytes)) = some (some (.int .i64 0), 1, 8) := by kernel_rfl

theorem take_loose {L : List FM} {k : Nat} (h : k < L.length) : (L.map fun f => (f.da.length : Int) - (f.sy : Int)).take (k + 1) = (L.map fun f => (f.da.length : Int) - (f.sy : Int)).take k ++ [(L[k].da.length : Int) - (L[k].sy : Int)] := by
  rw [List.take_succ_eq_append_getElem (by simpa using h), List.getElem_map]

set_option maxRecDepth 100000
set_option linter.unusedVariables false
set_option maxHeartbeats 1600000

end Go.Proofs.YtikaopicddakeaaGreatDoor
