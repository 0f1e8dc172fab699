/- Walks. -/
import Derived.Test.YtfiibpgoplcgkaaGreatDoorG8SA
import Derived.Lib.OthersKept
import Derived.Test.YtfiibpgoplcgkaaGreatDoorG35SA
set_option linter.unusedVariables false
set_option linter.unusedSimpArgs false
set_option maxRecDepth 100000
set_option maxHeartbeats 6400000
namespace Go.Proofs.YtfiibpgoplcgkaaGreatDoor
section
open Go.RowKit
section
variable {wb w W W':World}{g gs rate u n:Nat}{sd c s:Int}{bs:List Bt}{K K':Nat->Prop}
theorem y0k{bs:List Bt}{st:List UInt8}{fr ct:Int}:(q3y bs st fr ct).length<=(q0N bs st).length:=by
 unfold q3y q8z
 split
 ·rw[Θ,List.length_drop,q2N];omega
 ·simp
end
section
variable {wb w W W':World}{g gs rate u n:Nat}{sd c s:Int}{bs:List Bt}{K K':Nat->Prop}
end
section
variable {wb w W W':World}{g gs rate u n:Nat}{sd c s:Int}{bs:List Bt}{K K':Nat->Prop}
end
end
end Go.Proofs.YtfiibpgoplcgkaaGreatDoor
