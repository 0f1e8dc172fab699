/- The shelf's contracts of strings.Builder and strings.Repeat at this seat, in plain words: written by a tool of the kit (lay-plain) from a short module of mine, turned into a template. Walks: a filter's file. Walks: the probes of a hash, one by one. A row of bytes that came of a string: append of a string onto it, and the string of it. A region that draws its order, in a round of a range over a function: reads in any order, then the rest one behind the other. Walks: the bits of some hashes. Walks: the bytes of a filter of entries. Walks: the bytes of a table. -/
import Derived.Shelf.Strings.Builder1
import Derived.Shelf.Strings.Repeat
import Derived.Test.YtjjfiejoeelndaaGreatDoorProg
import Derived.Test.YtjjfiejoeelndaaGreatDoorG15Bw
import Derived.Test.YtjjfiejoeelndaaGreatDoorG9Bw
import Derived.Test.YtjjfiejoeelndaaGreatDoorG14Bw
import Derived.Test.YtjjfiejoeelndaaGreatDoorG12Bw
import Derived.Test.YtjjfiejoeelndaaGreatDoorG1Bw
import Derived.Lib.FrozenHead
import Derived.Lib.ConvBytes
import Derived.StillTailTactics
import Derived.OrdersIn
import Derived.RangeFuncCalls
import Derived.OwnWalkIn
import Derived.TacticsIn
set_option linter.unusedVariables false
set_option linter.unusedSimpArgs false
namespace Go.Proofs
open Go.Shelf
def Tryz.lays105_ren :Go.Shelf.Ren:=⟨fun|105=>263|212=>272|99=>152|165=>273|166=>260|170=>274|169=>261|263=>279|264=>280|206=>196|240=>270|241=>281|276=>278|277=>286|n=>n,fun|9=>9|3=>3|4=>4|20=>20|0=>0|46=>209|109=>355|5=>5|72=>340|76=>341|51=>276|146=>361|53=>23|148=>363|70=>338|37=>128|75=>132|127=>354|164=>359|80=>343|n=>n,fun|n=>n⟩
theorem Tryz.lays105 :Go.Proofs.Lays.n105 Tryz.prog Tryz.lays105_ren:={
  mixed:=by kernel_rfl
  f99:=Tryz.func152.trans (congrArg some (by kernel_rfl))
  f105:=Tryz.func263.trans (congrArg some (by kernel_rfl))
  f165:=Tryz.func273.trans (congrArg some (by kernel_rfl))
  f166:=Tryz.func260.trans (congrArg some (by kernel_rfl))
  f169:=Tryz.func261.trans (congrArg some (by kernel_rfl))
  f170:=Tryz.func274.trans (congrArg some (by kernel_rfl))
  f206:=Tryz.func196.trans (congrArg some (by kernel_rfl))
  f212:=Tryz.func272.trans (congrArg some (by kernel_rfl))
  f240:=Tryz.func270.trans (congrArg some (by kernel_rfl))
  f241:=Tryz.func281.trans (congrArg some (by kernel_rfl))
  f263:=Tryz.func279.trans (congrArg some (by kernel_rfl))
  f264:=Tryz.func280.trans (congrArg some (by kernel_rfl))
  f276:=Tryz.func278.trans (congrArg some (by kernel_rfl))
  f277:=Tryz.func286.trans (congrArg some (by kernel_rfl))
  t0:=Tryz.underlying0
  a0:=Tryz.isAgg0
  z0:=Tryz.sizeOf0
  v0:=Tryz.zeroValue0
  t3:=Tryz.underlying3
  a3:=Tryz.isAgg3
  z3:=Tryz.sizeOf3
  v3:=Tryz.zeroValue3
  t4:=Tryz.underlying4
  a4:=Tryz.isAgg4
  z4:=Tryz.sizeOf4
  v4:=Tryz.zeroValue4
  t5:=Tryz.underlying5
  a5:=Tryz.isAgg5
  z5:=Tryz.sizeOf5
  v5:=Tryz.zeroValue5
  t9:=Tryz.underlying9
  a9:=Tryz.isAgg9
  z9:=Tryz.sizeOf9
  v9:=Tryz.zeroValue9
  t20:=Tryz.underlying20
  a20:=Tryz.isAgg20
  z20:=Tryz.sizeOf20
  v20:=Tryz.zeroValue20
  t37:=Tryz.underlying128
  a37:=Tryz.isAgg128
  z37:=Tryz.sizeOf128
  v37:=Tryz.zeroValue128
  t46:=Tryz.underlying209
  a46:=Tryz.isAgg209
  z46:=Tryz.sizeOf209
  v46:=Tryz.zeroValue209
  t51:=Tryz.underlying276
  a51:=Tryz.isAgg276
  z51:=Tryz.sizeOf276
  v51:=Tryz.zeroValue276
  t53:=Tryz.underlying23
  a53:=Tryz.isAgg23
  z53:=Tryz.sizeOf23
  v53:=Tryz.zeroValue23
  t70:=Tryz.underlying338
  a70:=Tryz.isAgg338
  z70:=Tryz.sizeOf338
  v70:=Tryz.zeroValue338
  t72:=Tryz.underlying340
  a72:=Tryz.isAgg340
  z72:=Tryz.sizeOf340
  v72:=Tryz.zeroValue340
  t75:=Tryz.underlying132
  a75:=Tryz.isAgg132
  z75:=Tryz.sizeOf132
  v75:=Tryz.zeroValue132
  t76:=Tryz.underlying341
  a76:=Tryz.isAgg341
  z76:=Tryz.sizeOf341
  v76:=Tryz.zeroValue341
  t109:=Tryz.underlying355
  a109:=Tryz.isAgg355
  z109:=Tryz.sizeOf355
  v109:=Tryz.zeroValue355
  t127:=Tryz.underlying354
  a127:=Tryz.isAgg354
  z127:=Tryz.sizeOf354
  v127:=Tryz.zeroValue354
  t146:=Tryz.underlying361
  a146:=Tryz.isAgg361
  z146:=Tryz.sizeOf361
  v146:=Tryz.zeroValue361
  t148:=Tryz.underlying363
  a148:=Tryz.isAgg363
  z148:=Tryz.sizeOf363
  v148:=Tryz.zeroValue363
  t164:=Tryz.underlying359
  a164:=Tryz.isAgg359
  z164:=Tryz.sizeOf359
  v164:=Tryz.zeroValue359}
theorem Tryz.Builder_Extra_105 :Builder.Extra Tryz.prog Tryz.lays105_ren:={
  sizeBuilder:=by kernel_rfl
  liesBuilder:=by kernel_rfl
  t5:=Tryz.underlying5
  a5:=Tryz.isAgg5
  z5:=Tryz.sizeOf5
  v5:=Tryz.zeroValue5
  infoByte:=by kernel_rfl
  cellsByte:=by kernel_rfl
  sizeByte:=by kernel_rfl
  neB5:=by decide}
open Go.RowKit Go.Lib in
theorem Tryz.strings_Repeat (s:ByteArray) (c:Nat) (w:World) (hc:c≤9223372036854775807) (hlen:s.size*c≤140737488355328):
    Calls Tryz.prog 263 #[.string s,.int .i64 c] w fun e w'=>e= .returned (.string ⟨(Lib.repeatL s.data.toList c).toArray⟩)∧Below w.heap.size w w':=Any.strings_Repeat Tryz.lays105 Tryz.Builder_Extra_105 s c w hc hlen
end Go.Proofs
namespace Go.Proofs.YtjjfiejoeelndaaGreatDoor
open Go.RowKit
set_option maxRecDepth 100000
set_option linter.unusedVariables false
set_option maxHeartbeats 6400000
def z1E (s p:Int):Bool:=decide (0<s∧s≤120000∧s % 60=0∧1≤p∧p≤16)
theorem y1O (s p:Int) (w:World) (hs:0≤s) (hs9:s≤4294967295):Calls Tryz.prog 236 #[.int .i64 s,.int .i64 p] w fun r w'=>r= .returned (.bool (z1E s p))∧w=w':=by
  have e1:Int.tmod s 60=s % 60:=Int.tmod_eq_emod_of_nonneg hs
  have e2:IntKind.i64.wrap (s % 60)=s % 60:=by rw[IntKind.wrap_i64];omega
  by_cases h1:0<s
  case neg=>
    have HV:Hid (z1E s p=false):=Lib.hid (by unfold z1E;rw[decide_eq_false];omega)
    have d1:decide (0<s)=false:=by simpa using h1
    go_enter Tryz.func236,Tryz.ntmps236
    go_wp2_with fail
    go_ret
    exact ⟨rb HV.out,rfl⟩
  have d1:decide (0<s)=true:=by simpa using h1
  by_cases h2:s≤120000
  case neg=>
    have HV:Hid (z1E s p=false):=Lib.hid (by unfold z1E;rw[decide_eq_false];omega)
    have d2:decide (s≤120000)=false:=by simpa using h2
    go_enter Tryz.func236,Tryz.ntmps236
    go_wp2_with fail
    go_ret
    exact ⟨rb HV.out,rfl⟩
  have d2:decide (s≤120000)=true:=by simpa using h2
  by_cases h3:s % 60=0
  case neg=>
    have HV:Hid (z1E s p=false):=Lib.hid (by unfold z1E;rw[decide_eq_false];omega)
    have d3:(s % 60==0)=false:=by simpa using h3
    go_enter Tryz.func236,Tryz.ntmps236
    go_wp2_with fail
    go_ret
    exact ⟨rb HV.out,rfl⟩
  have d3:(s % 60==0)=true:=by simpa using h3
  by_cases h4:1≤p
  case neg=>
    have HV:Hid (z1E s p=false):=Lib.hid (by unfold z1E;rw[decide_eq_false];omega)
    have d4:decide (1≤p)=false:=by simpa using h4
    go_enter Tryz.func236,Tryz.ntmps236
    go_wp2_with fail
    go_ret
    exact ⟨rb HV.out,rfl⟩
  have d4:decide (1≤p)=true:=by simpa using h4
  by_cases h5:p≤16
  case neg=>
    have HV:Hid (z1E s p=false):=Lib.hid (by unfold z1E;rw[decide_eq_false];omega)
    have d5:decide (p≤16)=false:=by simpa using h5
    go_enter Tryz.func236,Tryz.ntmps236
    go_wp2_with fail
    go_ret
    exact ⟨rb HV.out,rfl⟩
  have d5:decide (p≤16)=true:=by simpa using h5
  have HV:Hid (z1E s p=true):=Lib.hid (by unfold z1E;rw[decide_eq_true];omega)
  go_enter Tryz.func236,Tryz.ntmps236
  go_wp2_with fail
  go_ret
  exact ⟨rb HV.out,rfl⟩
def pad52 :List UInt8:=Lib.repeatL [0] 52
theorem z0M :pad52.length=52:=by unfold pad52;rw[Lib.repeatL_length];rfl
def z6f (s p:Nat):List UInt8:=q1I ((([98,108,109]++be 1 p)++be 4 s)++pad52)
theorem y1U (w:World):Calls Tryz.prog 263 #[.string ⟨#[0]⟩,.int .i64 52] w fun e w'=>e= .returned (.string ⟨pad52.toArray⟩)∧Ext w w':=
  Tryz.strings_Repeat ⟨#[0]⟩ 52 w (by omega) (by show 1*52≤_;omega)
theorem y0k (s p:Nat) (w:World) (hs:s≤4294967295) (hp:p≤255):Calls Tryz.prog 237 #[.int .i64 (s:Int),.int .i64 (p:Int)] w fun e w'=>e= .returned (.string ⟨(z6f s p).toArray⟩)∧Ext w w':=by
  have P1:=Lib.hid (fun W=>q7I (p:Int) 1 W (by omega) (by omega) (by omega) (by omega))
  have P2:=Lib.hid (fun W=>q7I (s:Int) 4 W (by omega) (by omega) (by omega) (by omega))
  rw[show ((p:Int)).toNat=p by omega] at P1
  rw[show ((s:Int)).toNat=s by omega] at P2
  have e1:IntKind.u64.wrap (p:Int)=(p:Int):=by rw[IntKind.wrap_u64];omega
  have e2:IntKind.u64.wrap (s:Int)=(s:Int):=by rw[IntKind.wrap_u64];omega
  have l1:=q0H 1 p;have l2:=q0H 4 s
  have HH:Hid (z6f s p=q1I ((([98,108,109]++be 1 p)++be 4 s)++pad52)):=Lib.hid rfl
  obtain ⟨A,hA⟩: ∃A,be 1 p=A:=⟨_,rfl⟩
  obtain ⟨B,hB⟩: ∃B,be 4 s=B:=⟨_,rfl⟩
  rw[hA] at l1 P1 HH
  rw[hB] at l2 P2 HH
  obtain ⟨H,hH⟩: ∃H,z6f s p=H:=⟨_,rfl⟩
  rw[hH] at HH
  rw[hH]
  have hp5:=z0M
  have HPd:=Lib.hid (fun W=>y1U W)
  obtain ⟨Z,hZ⟩: ∃Z,pad52=Z:=⟨_,rfl⟩
  rw[hZ] at HH hp5 HPd
  have HSe:=Lib.hid (fun W=>z3E ((([98,108,109]++A)++B)++Z) W (by simp;omega))
  clear hA hB hH hZ
  go_enter Tryz.func237,Tryz.ntmps237
  have q1:¬(9223372036854775807<(3:Nat)+A.length):=by omega
  have q2:¬(9223372036854775807<(3:Nat)+A.length+B.length):=by omega
  have q3:¬(9223372036854775807<(3:Nat)+A.length+B.length+Z.length):=by omega
  have e3:IntKind.i64.wrap (60-((3:Int)+(A.length:Int)+(B.length:Int)))=52:=by rw[l1,l2];kernel_rfl
  go_wp2_with fail
  refine (P1.out _).mono ?_
  rintro e w1 ⟨rfl,hb⟩
  have HB1:=Lib.hid hb;clear hb
  go_wp2_with fail
  refine (P2.out _).mono ?_
  rintro e w2 ⟨rfl,hb⟩
  have HB2:=Lib.hid (HB1.out.trans hb);clear hb
  go_wp2_with fail
  refine (HPd.out _).mono ?_
  rintro e w3 ⟨rfl,hb⟩
  have HB3:=Lib.hid (HB2.out.trans hb);clear hb
  go_wp2_with fail
  have hc:(((⟨#[98,108,109]⟩:ByteArray)++⟨A.toArray⟩)++⟨B.toArray⟩)++⟨Z.toArray⟩=⟨((([98,108,109]++A)++B)++Z).toArray⟩:=by
    rw[show ((⟨#[98,108,109]⟩:ByteArray)++⟨A.toArray⟩)=⟨([98,108,109]++A).toArray⟩ from q3I [98,108,109] A,q3I,q3I]
  rw[hc]
  refine (HSe.out _).mono ?_
  rintro e w4 ⟨rfl,hb⟩
  have HB4:=Lib.hid (HB3.out.trans hb);clear hb
  go_wp2_with fail
  go_ret
  exact ⟨by rw[HH.out,show (([98,108,109]:List UInt8)++A++B++Z)=98::108::109::(A++(B++Z)) by simp];rfl,HB4.out⟩
end Go.Proofs.YtjjfiejoeelndaaGreatDoor
namespace Go.Proofs.YtjjfiejoeelndaaGreatDoor
open Go.RowKit Go.Shelf
attribute [local go_sem] Oper.semAt_some
set_option maxRecDepth 100000
set_option linter.unusedVariables false
set_option maxHeartbeats 1600000
end Go.Proofs.YtjjfiejoeelndaaGreatDoor
namespace Go.Proofs.YtjjfiejoeelndaaGreatDoor
open Go.RowKit Go.Lib
section
variable {P :Program} (w:World)
end
end Go.Proofs.YtjjfiejoeelndaaGreatDoor
namespace Go.Proofs.YtjjfiejoeelndaaGreatDoor
section
variable {P :Program} {ops:Array Oper} {Q:Exit→Act→World→Prop} {n lo:Nat}
end
end Go.Proofs.YtjjfiejoeelndaaGreatDoor
namespace Go.Proofs.YtjjfiejoeelndaaGreatDoor
open Go.RowKit Go.Shelf
attribute [local go_sem] Oper.semAt_some
set_option maxRecDepth 100000
set_option linter.unusedVariables false
set_option maxHeartbeats 1600000
end Go.Proofs.YtjjfiejoeelndaaGreatDoor
namespace Go.Proofs.YtjjfiejoeelndaaGreatDoor
open Go.RowKit
set_option maxRecDepth 100000
set_option linter.unusedVariables false
set_option maxHeartbeats 6400000
end Go.Proofs.YtjjfiejoeelndaaGreatDoor
namespace Go.Proofs.YtjjfiejoeelndaaGreatDoor
open Go.RowKit
set_option maxRecDepth 100000
set_option linter.unusedVariables false
set_option maxHeartbeats 6400000
end Go.Proofs.YtjjfiejoeelndaaGreatDoor
