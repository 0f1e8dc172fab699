/- The shelf's contracts of strings.Builder and strings.Repeat at this seat, in plain words. -/
import Derived.Shelf.Strings.Builder1
import Derived.Shelf.Strings.Repeat
import Derived.Test.YthdekbmdkpcooaaGreatDoorProg
import Derived.Test.YthdekbmdkpcooaaGreatDoorG17CT
import Derived.Test.YthdekbmdkpcooaaGreatDoorG13CT
import Derived.Lib.FrozenHead
import Derived.Lib.ConvBytes
import Derived.StillTailTactics
import Derived.OrdersIn
import Derived.TacticsIn
set_option linter.unusedVariables false
set_option linter.unusedSimpArgs false
set_option maxRecDepth 100000
set_option maxHeartbeats 6400000
namespace Go.Proofs
open Go.Shelf
def Tryz.lays105_ren :Go.Shelf.Ren:=⟨fun|105=>290|212=>305|99=>139|165=>306|166=>292|170=>307|169=>293|263=>313|264=>314|206=>190|240=>308|241=>315|276=>316|277=>317|n=>n,fun|9=>9|3=>3|4=>4|20=>20|0=>0|46=>198|109=>387|5=>5|72=>372|76=>373|51=>271|146=>322|53=>23|148=>399|70=>370|37=>154|75=>156|127=>390|164=>401|80=>375|n=>n,fun|n=>n⟩
theorem Tryz.lays105 :Go.Proofs.Lays.n105 Tryz.prog Tryz.lays105_ren:={
 mixed:=by kernel_rfl
 f99:=Tryz.func139.trans (congrArg some (by kernel_rfl))
 f105:=Tryz.func290.trans (congrArg some (by kernel_rfl))
 f165:=Tryz.func306.trans (congrArg some (by kernel_rfl))
 f166:=Tryz.func292.trans (congrArg some (by kernel_rfl))
 f169:=Tryz.func293.trans (congrArg some (by kernel_rfl))
 f170:=Tryz.func307.trans (congrArg some (by kernel_rfl))
 f206:=Tryz.func190.trans (congrArg some (by kernel_rfl))
 f212:=Tryz.func305.trans (congrArg some (by kernel_rfl))
 f240:=Tryz.func308.trans (congrArg some (by kernel_rfl))
 f241:=Tryz.func315.trans (congrArg some (by kernel_rfl))
 f263:=Tryz.func313.trans (congrArg some (by kernel_rfl))
 f264:=Tryz.func314.trans (congrArg some (by kernel_rfl))
 f276:=Tryz.func316.trans (congrArg some (by kernel_rfl))
 f277:=Tryz.func317.trans (congrArg some (by kernel_rfl))
 t0:=Tryz.underlying0
 a0:=Tryz.isAgg0
 z0:=Tryz.sizeOf0
 v0:=Tryz.zeroValue0
 t3:=Tryz.underlying3
 a3:=Tryz.isAgg3
 z3:=Tryz.sizeOf3
 v3:=Tryz.zeroValue3
 t4:=Tryz.underlying4
 a4:=Tryz.isAgg4
 z4:=Tryz.sizeOf4
 v4:=Tryz.zeroValue4
 t5:=Tryz.underlying5
 a5:=Tryz.isAgg5
 z5:=Tryz.sizeOf5
 v5:=Tryz.zeroValue5
 t9:=Tryz.underlying9
 a9:=Tryz.isAgg9
 z9:=Tryz.sizeOf9
 v9:=Tryz.zeroValue9
 t20:=Tryz.underlying20
 a20:=Tryz.isAgg20
 z20:=Tryz.sizeOf20
 v20:=Tryz.zeroValue20
 t37:=Tryz.underlying154
 a37:=Tryz.isAgg154
 z37:=Tryz.sizeOf154
 v37:=Tryz.zeroValue154
 t46:=Tryz.underlying198
 a46:=Tryz.isAgg198
 z46:=Tryz.sizeOf198
 v46:=Tryz.zeroValue198
 t51:=Tryz.underlying271
 a51:=Tryz.isAgg271
 z51:=Tryz.sizeOf271
 v51:=Tryz.zeroValue271
 t53:=Tryz.underlying23
 a53:=Tryz.isAgg23
 z53:=Tryz.sizeOf23
 v53:=Tryz.zeroValue23
 t70:=Tryz.underlying370
 a70:=Tryz.isAgg370
 z70:=Tryz.sizeOf370
 v70:=Tryz.zeroValue370
 t72:=Tryz.underlying372
 a72:=Tryz.isAgg372
 z72:=Tryz.sizeOf372
 v72:=Tryz.zeroValue372
 t75:=Tryz.underlying156
 a75:=Tryz.isAgg156
 z75:=Tryz.sizeOf156
 v75:=Tryz.zeroValue156
 t76:=Tryz.underlying373
 a76:=Tryz.isAgg373
 z76:=Tryz.sizeOf373
 v76:=Tryz.zeroValue373
 t109:=Tryz.underlying387
 a109:=Tryz.isAgg387
 z109:=Tryz.sizeOf387
 v109:=Tryz.zeroValue387
 t127:=Tryz.underlying390
 a127:=Tryz.isAgg390
 z127:=Tryz.sizeOf390
 v127:=Tryz.zeroValue390
 t146:=Tryz.underlying322
 a146:=Tryz.isAgg322
 z146:=Tryz.sizeOf322
 v146:=Tryz.zeroValue322
 t148:=Tryz.underlying399
 a148:=Tryz.isAgg399
 z148:=Tryz.sizeOf399
 v148:=Tryz.zeroValue399
 t164:=Tryz.underlying401
 a164:=Tryz.isAgg401
 z164:=Tryz.sizeOf401
 v164:=Tryz.zeroValue401}
theorem Tryz.Builder_Extra_105 :Builder.Extra Tryz.prog Tryz.lays105_ren:={
 sizeBuilder:=by kernel_rfl
 liesBuilder:=by kernel_rfl
 t5:=Tryz.underlying5
 a5:=Tryz.isAgg5
 z5:=Tryz.sizeOf5
 v5:=Tryz.zeroValue5
 infoByte:=by kernel_rfl
 cellsByte:=by kernel_rfl
 sizeByte:=by kernel_rfl
 neB5:=by decide}
open Go.RowKit Go.Lib in
theorem Tryz.strings_Repeat (s:ByteArray) (c:Nat) (w:World) (hc:c≤9223372036854775807) (hlen:s.size*c≤140737488355328):
  Calls Tryz.prog 290 #[.string s,.int .i64 c] w fun e w'=>e= .returned (.string ⟨(Lib.repeatL s.data.toList c).toArray⟩)∧Below w.heap.size w w':=Any.strings_Repeat Tryz.lays105 Tryz.Builder_Extra_105 s c w hc hlen
end Go.Proofs
namespace Go.Proofs.YthdekbmdkpcooaaGreatDoor
section
open Go.RowKit
def z1r (s p:Int):Bool:=decide (0<s∧s≤120000∧s % 60=0∧1≤p∧p≤16)
theorem y1e (s p:Int) (w:World) (hs:0≤s) (hs9:s≤4294967295):Calls Tryz.prog 265 #[.int .i64 s,.int .i64 p] w fun r w'=>r= .returned (.bool (z1r s p))∧w=w':=by
 have e1:Int.tmod s 60=s % 60:=Int.tmod_eq_emod_of_nonneg hs;have e2:IntKind.i64.wrap (s % 60)=s % 60:=by rw[IntKind.wrap_i64];omega
 by_cases h1:0<s
 case neg=>
  have HV:Hid (z1r s p=false):=Lib.hid (by unfold z1r;rw[decide_eq_false];omega);have d1:decide (0<s)=false:=by simpa using h1
  go_enter Tryz.func265,Tryz.ntmps265;go_wp2_with fail;go_ret;exact ⟨rb HV.out,rfl⟩
 have d1:decide (0<s)=true:=by simpa using h1
 by_cases h2:s≤120000
 case neg=>
  have HV:Hid (z1r s p=false):=Lib.hid (by unfold z1r;rw[decide_eq_false];omega);have d2:decide (s≤120000)=false:=by simpa using h2
  go_enter Tryz.func265,Tryz.ntmps265;go_wp2_with fail;go_ret;exact ⟨rb HV.out,rfl⟩
 have d2:decide (s≤120000)=true:=by simpa using h2
 by_cases h3:s % 60=0
 case neg=>
  have HV:Hid (z1r s p=false):=Lib.hid (by unfold z1r;rw[decide_eq_false];omega);have d3:(s % 60==0)=false:=by simpa using h3
  go_enter Tryz.func265,Tryz.ntmps265;go_wp2_with fail;go_ret;exact ⟨rb HV.out,rfl⟩
 have d3:(s % 60==0)=true:=by simpa using h3
 by_cases h4:1≤p
 case neg=>
  have HV:Hid (z1r s p=false):=Lib.hid (by unfold z1r;rw[decide_eq_false];omega);have d4:decide (1≤p)=false:=by simpa using h4
  go_enter Tryz.func265,Tryz.ntmps265;go_wp2_with fail;go_ret;exact ⟨rb HV.out,rfl⟩
 have d4:decide (1≤p)=true:=by simpa using h4
 by_cases h5:p≤16
 case neg=>
  have HV:Hid (z1r s p=false):=Lib.hid (by unfold z1r;rw[decide_eq_false];omega);have d5:decide (p≤16)=false:=by simpa using h5
  go_enter Tryz.func265,Tryz.ntmps265;go_wp2_with fail;go_ret;exact ⟨rb HV.out,rfl⟩
 have d5:decide (p≤16)=true:=by simpa using h5
 have HV:Hid (z1r s p=true):=Lib.hid (by unfold z1r;rw[decide_eq_true];omega);go_enter Tryz.func265,Tryz.ntmps265;go_wp2_with fail;go_ret;exact ⟨rb HV.out,rfl⟩
def pad52 :List UInt8:=Lib.repeatL [0] 52
theorem q9w :pad52.length=52:=by unfold pad52;rw[Lib.repeatL_length];rfl
def z7R (s p:Nat):List UInt8:=q1M ((([98,108,109]++be 1 p)++be 4 s)++pad52)
theorem y1S (w:World):Calls Tryz.prog 290 #[.string ⟨#[0]⟩,.int .i64 52] w fun e w'=>e= .returned (.string ⟨pad52.toArray⟩)∧Ext w w':=
 Tryz.strings_Repeat ⟨#[0]⟩ 52 w (by omega) (by show 1*52≤_;omega)
theorem y0k (s p:Nat) (w:World) (hs:s≤4294967295) (hp:p≤255):Calls Tryz.prog 266 #[.int .i64 (s:Int),.int .i64 (p:Int)] w fun e w'=>e= .returned (.string ⟨(z7R s p).toArray⟩)∧Ext w w':=by
 have P1:=Lib.hid (fun W=>q6v (p:Int) 1 W (by omega) (by omega) (by omega) (by omega));have P2:=Lib.hid (fun W=>q6v (s:Int) 4 W (by omega) (by omega) (by omega) (by omega));rw[show ((p:Int)).toNat=p by omega] at P1;rw[show ((s:Int)).toNat=s by omega] at P2;have e1:IntKind.u64.wrap (p:Int)=(p:Int):=by rw[IntKind.wrap_u64];omega
 have e2:IntKind.u64.wrap (s:Int)=(s:Int):=by rw[IntKind.wrap_u64];omega
 have l1:=q0I 1 p;have l2:=q0I 4 s;have HH:Hid (z7R s p=q1M ((([98,108,109]++be 1 p)++be 4 s)++pad52)):=Lib.hid rfl;obtain ⟨A,hA⟩: ∃A,be 1 p=A:=⟨_,rfl⟩
 obtain ⟨B,hB⟩: ∃B,be 4 s=B:=⟨_,rfl⟩
 rw[hA] at l1 P1 HH;rw[hB] at l2 P2 HH;obtain ⟨H,hH⟩: ∃H,z7R s p=H:=⟨_,rfl⟩
 rw[hH] at HH;rw[hH];have hp5:=q9w;have HPd:=Lib.hid (fun W=>y1S W);obtain ⟨Z,hZ⟩: ∃Z,pad52=Z:=⟨_,rfl⟩
 rw[hZ] at HH hp5 HPd;have HSe:=Lib.hid (fun W=>z1z ((([98,108,109]++A)++B)++Z) W (by simp;omega));clear hA hB hH hZ;go_enter Tryz.func266,Tryz.ntmps266;have q1:¬(9223372036854775807<(3:Nat)+A.length):=by omega
 have q2:¬(9223372036854775807<(3:Nat)+A.length+B.length):=by omega
 have q3:¬(9223372036854775807<(3:Nat)+A.length+B.length+Z.length):=by omega
 have e3:IntKind.i64.wrap (60-((3:Int)+(A.length:Int)+(B.length:Int)))=52:=by rw[l1,l2];kernel_rfl
 go_wp2_with fail;refine (P1.out _).mono ?_;rintro e w1 ⟨rfl,hb⟩;have HB1:=Lib.hid hb;clear hb;go_wp2_with fail;refine (P2.out _).mono ?_;rintro e w2 ⟨rfl,hb⟩;have HB2:=Lib.hid (HB1.out.trans hb);clear hb;go_wp2_with fail;refine (HPd.out _).mono ?_;rintro e w3 ⟨rfl,hb⟩;have HB3:=Lib.hid (HB2.out.trans hb);clear hb;go_wp2_with fail;have hc:(((⟨#[98,108,109]⟩:ByteArray)++⟨A.toArray⟩)++⟨B.toArray⟩)++⟨Z.toArray⟩=⟨((([98,108,109]++A)++B)++Z).toArray⟩:=by
  rw[show ((⟨#[98,108,109]⟩:ByteArray)++⟨A.toArray⟩)=⟨([98,108,109]++A).toArray⟩ from q2i [98,108,109] A,q2i,q2i]
 rw[hc];refine (HSe.out _).mono ?_;rintro e w4 ⟨rfl,hb⟩;have HB4:=Lib.hid (HB3.out.trans hb);clear hb;go_wp2_with fail;go_ret;exact ⟨by rw[HH.out,show (([98,108,109]:List UInt8)++A++B++Z)=98::108::109::(A++(B++Z)) by simp];rfl,HB4.out⟩
end
section
open Go.RowKit Go.Shelf
attribute [local go_sem] Oper.semAt_some
end
section
open Go.RowKit Go.Lib
section
variable {P :Program} (w:World)
end
end
section
section
variable {P :Program} {ops:Array Oper} {Q:Exit→Act→World→Prop} {n lo:Nat}
end
end
section
open Go.RowKit Go.Shelf
attribute [local go_sem] Oper.semAt_some
end
section
open Go.RowKit
end
section
open Go.RowKit
end
end Go.Proofs.YthdekbmdkpcooaaGreatDoor
