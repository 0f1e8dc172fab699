/- The shelf's contracts of strings.Builder and strings.Repeat at this seat, in plain words. -/
import Derived.Shelf.Strings.Builder1
import Derived.Shelf.Strings.Repeat
import Derived.Test.YtjlcdfpbllobaaaGreatDoorProg
import Derived.Test.YtjlcdfpbllobaaaGreatDoorG11AT
import Derived.Test.YtjlcdfpbllobaaaGreatDoorG10AT
import Derived.Lib.FrozenHead
import Derived.Lib.ConvBytes
import Derived.StillTailTactics
import Derived.OrdersIn
import Derived.TacticsIn
set_option linter.unusedVariables false
set_option linter.unusedSimpArgs false
set_option maxRecDepth 100000
set_option maxHeartbeats 6400000
namespace Go.Proofs
open Go.Shelf
def Tryz.lays105_ren :Go.Shelf.Ren:=⟨fun|105=>305|212=>320|99=>155|165=>321|166=>307|170=>322|169=>308|263=>328|264=>329|206=>205|240=>323|241=>330|276=>331|277=>332|n=>n,fun|9=>9|3=>3|4=>4|20=>20|0=>0|46=>222|109=>410|5=>5|72=>393|76=>394|51=>294|146=>352|53=>46|148=>422|70=>391|37=>177|75=>179|127=>413|164=>424|80=>396|n=>n,fun|n=>n⟩
theorem Tryz.lays105 :Go.Proofs.Lays.n105 Tryz.prog Tryz.lays105_ren:={
 mixed:=by kernel_rfl
 f99:=Tryz.func155.trans (congrArg some (by kernel_rfl))
 f105:=Tryz.func305.trans (congrArg some (by kernel_rfl))
 f165:=Tryz.func321.trans (congrArg some (by kernel_rfl))
 f166:=Tryz.func307.trans (congrArg some (by kernel_rfl))
 f169:=Tryz.func308.trans (congrArg some (by kernel_rfl))
 f170:=Tryz.func322.trans (congrArg some (by kernel_rfl))
 f206:=Tryz.func205.trans (congrArg some (by kernel_rfl))
 f212:=Tryz.func320.trans (congrArg some (by kernel_rfl))
 f240:=Tryz.func323.trans (congrArg some (by kernel_rfl))
 f241:=Tryz.func330.trans (congrArg some (by kernel_rfl))
 f263:=Tryz.func328.trans (congrArg some (by kernel_rfl))
 f264:=Tryz.func329.trans (congrArg some (by kernel_rfl))
 f276:=Tryz.func331.trans (congrArg some (by kernel_rfl))
 f277:=Tryz.func332.trans (congrArg some (by kernel_rfl))
 t0:=Tryz.underlying0
 a0:=Tryz.isAgg0
 z0:=Tryz.sizeOf0
 v0:=Tryz.zeroValue0
 t3:=Tryz.underlying3
 a3:=Tryz.isAgg3
 z3:=Tryz.sizeOf3
 v3:=Tryz.zeroValue3
 t4:=Tryz.underlying4
 a4:=Tryz.isAgg4
 z4:=Tryz.sizeOf4
 v4:=Tryz.zeroValue4
 t5:=Tryz.underlying5
 a5:=Tryz.isAgg5
 z5:=Tryz.sizeOf5
 v5:=Tryz.zeroValue5
 t9:=Tryz.underlying9
 a9:=Tryz.isAgg9
 z9:=Tryz.sizeOf9
 v9:=Tryz.zeroValue9
 t20:=Tryz.underlying20
 a20:=Tryz.isAgg20
 z20:=Tryz.sizeOf20
 v20:=Tryz.zeroValue20
 t37:=Tryz.underlying177
 a37:=Tryz.isAgg177
 z37:=Tryz.sizeOf177
 v37:=Tryz.zeroValue177
 t46:=Tryz.underlying222
 a46:=Tryz.isAgg222
 z46:=Tryz.sizeOf222
 v46:=Tryz.zeroValue222
 t51:=Tryz.underlying294
 a51:=Tryz.isAgg294
 z51:=Tryz.sizeOf294
 v51:=Tryz.zeroValue294
 t53:=Tryz.underlying46
 a53:=Tryz.isAgg46
 z53:=Tryz.sizeOf46
 v53:=Tryz.zeroValue46
 t70:=Tryz.underlying391
 a70:=Tryz.isAgg391
 z70:=Tryz.sizeOf391
 v70:=Tryz.zeroValue391
 t72:=Tryz.underlying393
 a72:=Tryz.isAgg393
 z72:=Tryz.sizeOf393
 v72:=Tryz.zeroValue393
 t75:=Tryz.underlying179
 a75:=Tryz.isAgg179
 z75:=Tryz.sizeOf179
 v75:=Tryz.zeroValue179
 t76:=Tryz.underlying394
 a76:=Tryz.isAgg394
 z76:=Tryz.sizeOf394
 v76:=Tryz.zeroValue394
 t109:=Tryz.underlying410
 a109:=Tryz.isAgg410
 z109:=Tryz.sizeOf410
 v109:=Tryz.zeroValue410
 t127:=Tryz.underlying413
 a127:=Tryz.isAgg413
 z127:=Tryz.sizeOf413
 v127:=Tryz.zeroValue413
 t146:=Tryz.underlying352
 a146:=Tryz.isAgg352
 z146:=Tryz.sizeOf352
 v146:=Tryz.zeroValue352
 t148:=Tryz.underlying422
 a148:=Tryz.isAgg422
 z148:=Tryz.sizeOf422
 v148:=Tryz.zeroValue422
 t164:=Tryz.underlying424
 a164:=Tryz.isAgg424
 z164:=Tryz.sizeOf424
 v164:=Tryz.zeroValue424}
theorem Tryz.Builder_Extra_105 :Builder.Extra Tryz.prog Tryz.lays105_ren:={
 sizeBuilder:=by kernel_rfl
 liesBuilder:=by kernel_rfl
 t5:=Tryz.underlying5
 a5:=Tryz.isAgg5
 z5:=Tryz.sizeOf5
 v5:=Tryz.zeroValue5
 infoByte:=by kernel_rfl
 cellsByte:=by kernel_rfl
 sizeByte:=by kernel_rfl
 neB5:=by decide}
open Go.RowKit Go.Lib in
theorem Tryz.strings_Repeat(s:ByteArray)(c:Nat)(w:World)(hc:c<=9223372036854775807)(b:s.size*c<=140737488355328):
  Calls Tryz.prog 305 #[.string s,.int .i64 c] w fun e w'=>e= .returned (.string ⟨(Lib.repeatL s.data.toList c).toArray⟩)/\Below w.heap.size w w':=Any.strings_Repeat Tryz.lays105 Tryz.Builder_Extra_105 s c w hc b
end Go.Proofs
namespace Go.Proofs.YtjlcdfpbllobaaaGreatDoor
section
open Go.RowKit
def z1i(s p:Int):Bool:=decide (0<s/\s<=120000/\s % 60=0/\1<=p/\p<=16)
theorem y2P(s p:Int)(w:World)(u:0<=s)(v:s<=4294967295):Calls Tryz.prog 280 #[.int .i64 s,.int .i64 p] w fun r w'=>r= .returned (.bool (z1i s p))/\w=w':=by
 have x:Int.tmod s 60=s % 60:=Int.tmod_eq_emod_of_nonneg u;have y:IntKind.i64.wrap (s % 60)=s % 60:=by rw[ν];omega
 by_cases h1:0<s
 case neg=>
  have b:Hd (z1i s p=false):=η (by unfold z1i;rw[ε];omega);have i:decide (0<s)=false:=by simpa using h1
  go_enter Tryz.func280,Tryz.ntmps280;go_wp2_with fail;go_ret;exact⟨rb b.o,rfl⟩
 have i:decide (0<s)=true:=by simpa using h1
 by_cases h2:s<=120000
 case neg=>
  have b:Hd (z1i s p=false):=η (by unfold z1i;rw[ε];omega);have j:decide (s<=120000)=false:=by simpa using h2
  go_enter Tryz.func280,Tryz.ntmps280;go_wp2_with fail;go_ret;exact⟨rb b.o,rfl⟩
 have j:decide (s<=120000)=true:=by simpa using h2
 by_cases h3:s % 60=0
 case neg=>
  have b:Hd (z1i s p=false):=η (by unfold z1i;rw[ε];omega);have l:(s % 60==0)=false:=by simpa using h3
  go_enter Tryz.func280,Tryz.ntmps280;go_wp2_with fail;go_ret;exact⟨rb b.o,rfl⟩
 have l:(s % 60==0)=true:=by simpa using h3
 by_cases h4:1<=p
 case neg=>
  have b:Hd (z1i s p=false):=η (by unfold z1i;rw[ε];omega);have m:decide (1<=p)=false:=by simpa using h4
  go_enter Tryz.func280,Tryz.ntmps280;go_wp2_with fail;go_ret;exact⟨rb b.o,rfl⟩
 have m:decide (1<=p)=true:=by simpa using h4
 by_cases d:p<=16
 case neg=>
  have b:Hd (z1i s p=false):=η (by unfold z1i;rw[ε];omega);have q:decide (p<=16)=false:=by simpa using d
  go_enter Tryz.func280,Tryz.ntmps280;go_wp2_with fail;go_ret;exact⟨rb b.o,rfl⟩
 have q:decide (p<=16)=true:=by simpa using d
 have b:Hd (z1i s p=true):=η (by unfold z1i;rw[ζ];omega);go_enter Tryz.func280,Tryz.ntmps280;go_wp2_with fail;go_ret;exact⟨rb b.o,rfl⟩
def pad52 :List UInt8:=Lib.repeatL [0] 52
theorem z0h :pad52.length=52:=by unfold pad52;rw[Lib.repeatL_length];rfl
def z8C(s p:Nat):List UInt8:=q1Q ((([98,108,109]++be 1 p)++be 4 s)++pad52)
theorem y2T(w:World):Calls Tryz.prog 305 #[.string ⟨#[0]⟩,.int .i64 52] w fun e w'=>e= .returned (.string ⟨pad52.toArray⟩)/\Ext w w':=
 Tryz.strings_Repeat ⟨#[0]⟩ 52 w (by omega) (by show 1*52<=_;omega)
theorem y1B(s p:Nat)(w:World)(N:s<=4294967295)(M:p<=255):Calls Tryz.prog 281 #[.int .i64 (s:Int),.int .i64 (p:Int)] w fun e w'=>e= .returned (.string ⟨(z8C s p).toArray⟩)/\Ext w w':=by
 have u:=η (fun W=>q7c (p:Int) 1 W (by omega) (by omega) (by omega) (by omega));have v:=η (fun W=>q7c (s:Int) 4 W (by omega) (by omega) (by omega) (by omega));rw[show((p:Int)).toNat=p by omega] at u;rw[show((s:Int)).toNat=s by omega] at v;have G:IntKind.u64.wrap (p:Int)=(p:Int):=by rw[IntKind.wrap_u64];omega
 have I:IntKind.u64.wrap (s:Int)=(s:Int):=by rw[IntKind.wrap_u64];omega
 have l1:=q0J 1 p;have F:=q0J 4 s;have d:Hd (z8C s p=q1Q ((([98,108,109]++be 1 p)++be 4 s)++pad52)):=η rfl;obtain⟨A,C⟩: ∃A,be 1 p=A:=⟨_,rfl⟩
 obtain⟨B,D⟩: ∃B,be 4 s=B:=⟨_,rfl⟩
 rw[C] at l1 u d;rw[D] at F v d;obtain⟨H,x⟩: ∃H,z8C s p=H:=⟨_,rfl⟩
 rw[x] at d;rw[x];have y:=z0h;have i:=η (fun W=>y2T W);obtain⟨Z,E⟩: ∃Z,pad52=Z:=⟨_,rfl⟩
 rw[E] at d y i;have r:=η (fun W=>z3Z ((([98,108,109]++A)++B)++Z) W (by simp;omega));clear C D x E;go_enter Tryz.func281,Tryz.ntmps281;have O:¬(9223372036854775807<(3:Nat)+A.length):=by omega
 have R:¬(9223372036854775807<(3:Nat)+A.length+B.length):=by omega
 have S:¬(9223372036854775807<(3:Nat)+A.length+B.length+Z.length):=by omega
 have J:IntKind.i64.wrap (60-((3:Int)+(A.length:Int)+(B.length:Int)))=52:=by rw[l1,F];kernel_rfl
 go_wp2_with fail;refine(u.o _).mono ?_;rintro e w1 ⟨rfl,b⟩;have j:=η b;clear b;go_wp2_with fail;refine(v.o _).mono ?_;rintro e U ⟨rfl,b⟩;have l:=η (j.o.trans b);clear b;go_wp2_with fail;refine(i.o _).mono ?_;rintro e V ⟨rfl,b⟩;have m:=η (l.o.trans b);clear b;go_wp2_with fail;have hc:(((⟨#[98,108,109]⟩:ByteArray)++⟨A.toArray⟩)++⟨B.toArray⟩)++⟨Z.toArray⟩=⟨((([98,108,109]++A)++B)++Z).toArray⟩:=by
  rw[show((⟨#[98,108,109]⟩:ByteArray)++⟨A.toArray⟩)=⟨([98,108,109]++A).toArray⟩ from q3Z [98,108,109] A,q3Z,q3Z]
 rw[hc];refine(r.o _).mono ?_;rintro e X ⟨rfl,b⟩;have q:=η (m.o.trans b);clear b;go_wp2_with fail;go_ret;exact⟨by rw[d.o,show(([98,108,109]:List UInt8)++A++B++Z)=98::108::109::(A++(B++Z)) by simp];rfl,q.o⟩
end
section
open Go.RowKit Go.Shelf
attribute [local go_sem] Oper.semAt_some
end
section
open Go.RowKit Go.Lib
section
variable {P :Program}(w:World)
end
end
section
section
variable {P :Program}{ops:Array Oper}{Q:Exit->Act->World->Prop}{n lo:Nat}
end
end
section
open Go.RowKit Go.Shelf
attribute [local go_sem] Oper.semAt_some
end
section
open Go.RowKit
end
end Go.Proofs.YtjlcdfpbllobaaaGreatDoor
