/- Walks. -/
import Derived.LaidEql
import Derived.Stop.Asserts
import Derived.RowKitTokens
import Derived.Test.YtfiibpgoplcgkaaGreatDoorG34SY
set_option linter.unusedVariables false
set_option linter.unusedSimpArgs false
set_option maxRecDepth 100000
set_option maxHeartbeats 6400000
namespace Go.Proofs.YtfiibpgoplcgkaaGreatDoor
section
open Go.RowKit Go.Extern.Stop Go.Stop Go.Extern
end
section
open Go.RowKit
section
variable {wb w W W':World}{g gs gw rate u n:Nat}{sd c s:Int}{bs:List Bt}{K K':Nat->Prop}
end
theorem q8n(sd:Int)(rate:Nat)(b:Int)(w:World)(r:0<=sd)(v:sd<18446744073709551616):
  Calls Tryz.prog 28 #[.agg #[.int .u64 sd,.float .f64 rate,.int .u16 b]] w fun e w'=> ∃g gs,e= .returned (.tuple #[.pointer (some ⟨g,0,none⟩),.pointer (some ⟨gs,0,none⟩),.bool true])/\SK w w' g gs rate sd 1048576 0 0 0 [] noI:=by
 have j:=q0B w (.cells #[.int .u64 sd,.float .f64 rate,.int .u16 b] 27);have i:=Blk.new w 27 #[.int .u64 sd,.float .f64 rate,.int .u16 b];have l:=η i;have m:=η j;have E:=η (fun W=>DkK.new24 W 1048576 (by decide) (by decide));clear j i;go_enter Tryz.func28,Tryz.ntmps28;go_wp2_with fail;refine(E.o _).mono ?_;rintro e w1 ⟨g,rfl,q⟩;have C:=DkK.base q;have d:=l.o.ext C;have k0:=d.cell 0;have k1:=d.cell 1;have y:=η ((DkK.sq (q.rebase m.o) sd r v).open (by omega) rate);clear q C d;go_wp2_with fail;refine y.o.mono ?_;rintro e F ⟨gs,rfl,B,x⟩;have D:=η B;clear B x y k0 k1;go_wp2_with fail;go_ret3;exact⟨g,gs,rfl,D.o⟩
section
variable {wb w W W':World}{g gs gw rate u n:Nat}{sd c s:Int}{bs:List Bt}{K K':Nat->Prop}
end
section
variable {wb w W W':World}{g gs gw rate u n:Nat}{sd c s:Int}{bs:List Bt}{K K':Nat->Prop}
end
end
end Go.Proofs.YtfiibpgoplcgkaaGreatDoor
