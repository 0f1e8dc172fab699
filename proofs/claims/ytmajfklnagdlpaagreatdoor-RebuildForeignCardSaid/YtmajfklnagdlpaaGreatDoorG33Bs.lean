/- Walks: sorted lists made one (merges.Merge). -/
import Derived.Test.YtmajfklnagdlpaaGreatDoorG11Bs
import Derived.Test.YtmajfklnagdlpaaGreatDoorG15Bs
import Derived.Test.YtmajfklnagdlpaaGreatDoorG32Bs
import Derived.BigRegion
import Derived.Test.YtmajfklnagdlpaaGreatDoorG18Bs
set_option linter.unusedVariables false
set_option linter.unusedSimpArgs false
namespace Go.Proofs.YtmajfklnagdlpaaGreatDoor
open Go.RowKit
set_option maxRecDepth 100000
set_option linter.unusedVariables false
set_option maxHeartbeats 12800000
end Go.Proofs.YtmajfklnagdlpaaGreatDoor
