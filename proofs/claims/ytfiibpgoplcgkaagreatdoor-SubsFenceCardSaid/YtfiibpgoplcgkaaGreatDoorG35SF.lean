/- Walks. -/
import Derived.Test.YtfiibpgoplcgkaaGreatDoorG8SF
import Derived.Lib.OthersKept
import Derived.Test.YtfiibpgoplcgkaaGreatDoorG34SF
set_option linter.unusedVariables false
set_option linter.unusedSimpArgs false
set_option maxRecDepth 100000
set_option maxHeartbeats 6400000
namespace Go.Proofs.YtfiibpgoplcgkaaGreatDoor
section
open Go.RowKit
section
variable {wb w W W':World}{g gs rate u n:Nat}{sd c s:Int}{bs:List Bt}{K K':Nat->Prop}
theorem SKS.pokeK(h:SK wb W g gs rate sd c s u n bs K){x:Nat}(hK:K x)(d:wb.heap.size<=x)(j:Nat)(v:Value):SK wb (W.setCell ⟨x,j,none⟩ v) g gs rate sd c s u n bs K:=by
 refine h.sideM (by rw[World.size_setCell];exact ι _) (Below.setCell h.base d v) (fun i b l=>?_) fun i b=> .inl b
 exact heap_setCell_other W ⟨x,j,none⟩ i v fun e=>l (by have:i=x:=e;rw[this];exact hK)
theorem z9D{bs:List Bt}{st:List UInt8}{fr ct:Int}:(q6H bs st fr ct).length<=(q0T bs st).length:=by
 unfold q6H q8G
 split
 ·rw[Θ,List.length_drop,q2P];omega
 ·simp
end
section
variable {wb w W W':World}{g gs rate u n:Nat}{sd c s:Int}{bs:List Bt}{K K':Nat->Prop}
end
section
variable {wb w W W':World}{g gs rate u n:Nat}{sd c s:Int}{bs:List Bt}{K K':Nat->Prop}
end
end
end Go.Proofs.YtfiibpgoplcgkaaGreatDoor
