/- Walks. -/
import Derived.LaidEql
import Derived.Stop.Asserts
import Derived.RowKitTokens
import Derived.Test.YthdekbmdkpcooaaGreatDoorG45CT
set_option linter.unusedVariables false
set_option linter.unusedSimpArgs false
set_option maxRecDepth 100000
set_option maxHeartbeats 6400000
namespace Go.Proofs.YthdekbmdkpcooaaGreatDoor
section
open Go.RowKit Go.Extern.Stop Go.Stop Go.Extern
end
section
open Go.RowKit
section
variable {wb w W W':World} {g gs gw rate u n:Nat} {sd c s:Int} {bs:List Bt} {K K':Nat→Prop}
end
end
section
open Go.RowKit
theorem z3U (sd:Int) (rate:Nat) (room:Int) (w:World) (hs0:0≤sd) (hs1:sd<18446744073709551616):
  Calls Tryz.prog 9 #[.agg #[.int .u64 sd,.float .f64 rate,.int .u16 room]] w fun e w'=> ∃g gs,e= .returned (.tuple #[.pointer (some ⟨g,0,none⟩),.pointer (some ⟨gs,0,none⟩),.bool true])∧SK w w' g gs rate sd 1048576 0 0 0 [] noI:=by
 have hx1:=q0B w (.cells #[.int .u64 sd,.float .f64 rate,.int .u16 room] 27);have hbk:=Blk.new w 27 #[.int .u64 sd,.float .f64 rate,.int .u16 room];have HBk:=Lib.hid hbk;have HX1:=Lib.hid hx1;have HN:=Lib.hid (fun W=>DkK.new24 W 1048576 (by decide) (by decide));clear hx1 hbk;go_enter Tryz.func9,Tryz.ntmps9;go_wp2_with fail;refine (HN.out _).mono ?_;rintro e w1 ⟨g,rfl,hd⟩;have hx:=DkK.base hd;have hb1:=HBk.out.ext hx;have k0:=hb1.cell 0;have k1:=hb1.cell 1;have HS:=Lib.hid ((DkK.sq (hd.rebase HX1.out) sd hs0 hs1).open (by omega) rate);clear hd hx hb1;go_wp2_with fail;refine HS.out.mono ?_;rintro e w2 ⟨gs,rfl,hk,hst⟩;have HK:=Lib.hid hk;clear hk hst HS k0 k1;go_wp2_with fail;go_ret3;exact ⟨g,gs,rfl,HK.out⟩
section
variable {wb w W W':World} {g gs gw rate u n:Nat} {sd c s:Int} {bs:List Bt} {K K':Nat→Prop}
end
section
variable {wb w W W':World} {g gs gw rate u n:Nat} {sd c s:Int} {bs:List Bt} {K K':Nat→Prop}
end
abbrev z7x :Ev:=⟨[99],[],0⟩
end
end Go.Proofs.YthdekbmdkpcooaaGreatDoor
