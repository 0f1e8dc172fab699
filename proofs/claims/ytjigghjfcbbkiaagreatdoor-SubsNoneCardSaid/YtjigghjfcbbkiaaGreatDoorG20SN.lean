/- The shelf's contracts of strings.Builder and strings.Repeat at this seat, in plain words. -/
import Derived.Shelf.Strings.Builder1
import Derived.Shelf.Strings.Repeat
import Derived.Test.YtjigghjfcbbkiaaGreatDoorProg
import Derived.Test.YtjigghjfcbbkiaaGreatDoorG14SN
import Derived.Lib.FrozenHead
import Derived.Lib.ConvBytes
import Derived.StillTailTactics
import Derived.OrdersIn
import Derived.TacticsIn
set_option linter.unusedVariables false
set_option linter.unusedSimpArgs false
set_option maxRecDepth 100000
set_option maxHeartbeats 6400000
namespace Go.Proofs
open Go.Shelf
def Tryz.lays105_ren :Go.Shelf.Ren:=⟨fun|105=>316|212=>331|99=>204|165=>332|166=>333|170=>334|169=>335|263=>343|264=>344|206=>263|240=>345|241=>346|276=>349|277=>350|n=>n,fun|9=>9|3=>3|4=>4|20=>20|0=>0|46=>264|109=>414|5=>5|72=>418|76=>216|51=>329|146=>435|53=>23|148=>437|70=>416|37=>76|75=>173|127=>409|164=>439|80=>420|n=>n,fun|n=>n⟩
theorem Tryz.lays105 :Go.Proofs.Lays.n105 Tryz.prog Tryz.lays105_ren:={
 mixed:=by kernel_rfl
 f99:=Tryz.func204.trans (congrArg some (by kernel_rfl))
 f105:=Tryz.func316.trans (congrArg some (by kernel_rfl))
 f165:=Tryz.func332.trans (congrArg some (by kernel_rfl))
 f166:=Tryz.func333.trans (congrArg some (by kernel_rfl))
 f169:=Tryz.func335.trans (congrArg some (by kernel_rfl))
 f170:=Tryz.func334.trans (congrArg some (by kernel_rfl))
 f206:=Tryz.func263.trans (congrArg some (by kernel_rfl))
 f212:=Tryz.func331.trans (congrArg some (by kernel_rfl))
 f240:=Tryz.func345.trans (congrArg some (by kernel_rfl))
 f241:=Tryz.func346.trans (congrArg some (by kernel_rfl))
 f263:=Tryz.func343.trans (congrArg some (by kernel_rfl))
 f264:=Tryz.func344.trans (congrArg some (by kernel_rfl))
 f276:=Tryz.func349.trans (congrArg some (by kernel_rfl))
 f277:=Tryz.func350.trans (congrArg some (by kernel_rfl))
 t0:=Tryz.underlying0
 a0:=Tryz.isAgg0
 z0:=Tryz.sizeOf0
 v0:=Tryz.zeroValue0
 t3:=Tryz.underlying3
 a3:=Tryz.isAgg3
 z3:=Tryz.sizeOf3
 v3:=Tryz.zeroValue3
 t4:=Tryz.underlying4
 a4:=Tryz.isAgg4
 z4:=Tryz.sizeOf4
 v4:=Tryz.zeroValue4
 t5:=Tryz.underlying5
 a5:=Tryz.isAgg5
 z5:=Tryz.sizeOf5
 v5:=Tryz.zeroValue5
 t9:=Tryz.underlying9
 a9:=Tryz.isAgg9
 z9:=Tryz.sizeOf9
 v9:=Tryz.zeroValue9
 t20:=Tryz.underlying20
 a20:=Tryz.isAgg20
 z20:=Tryz.sizeOf20
 v20:=Tryz.zeroValue20
 t37:=Tryz.underlying76
 a37:=Tryz.isAgg76
 z37:=Tryz.sizeOf76
 v37:=Tryz.zeroValue76
 t46:=Tryz.underlying264
 a46:=Tryz.isAgg264
 z46:=Tryz.sizeOf264
 v46:=Tryz.zeroValue264
 t51:=Tryz.underlying329
 a51:=Tryz.isAgg329
 z51:=Tryz.sizeOf329
 v51:=Tryz.zeroValue329
 t53:=Tryz.underlying23
 a53:=Tryz.isAgg23
 z53:=Tryz.sizeOf23
 v53:=Tryz.zeroValue23
 t70:=Tryz.underlying416
 a70:=Tryz.isAgg416
 z70:=Tryz.sizeOf416
 v70:=Tryz.zeroValue416
 t72:=Tryz.underlying418
 a72:=Tryz.isAgg418
 z72:=Tryz.sizeOf418
 v72:=Tryz.zeroValue418
 t75:=Tryz.underlying173
 a75:=Tryz.isAgg173
 z75:=Tryz.sizeOf173
 v75:=Tryz.zeroValue173
 t76:=Tryz.underlying216
 a76:=Tryz.isAgg216
 z76:=Tryz.sizeOf216
 v76:=Tryz.zeroValue216
 t109:=Tryz.underlying414
 a109:=Tryz.isAgg414
 z109:=Tryz.sizeOf414
 v109:=Tryz.zeroValue414
 t127:=Tryz.underlying409
 a127:=Tryz.isAgg409
 z127:=Tryz.sizeOf409
 v127:=Tryz.zeroValue409
 t146:=Tryz.underlying435
 a146:=Tryz.isAgg435
 z146:=Tryz.sizeOf435
 v146:=Tryz.zeroValue435
 t148:=Tryz.underlying437
 a148:=Tryz.isAgg437
 z148:=Tryz.sizeOf437
 v148:=Tryz.zeroValue437
 t164:=Tryz.underlying439
 a164:=Tryz.isAgg439
 z164:=Tryz.sizeOf439
 v164:=Tryz.zeroValue439}
theorem Tryz.Builder_Extra_105 :Builder.Extra Tryz.prog Tryz.lays105_ren:={
 sizeBuilder:=by kernel_rfl
 liesBuilder:=by kernel_rfl
 t5:=Tryz.underlying5
 a5:=Tryz.isAgg5
 z5:=Tryz.sizeOf5
 v5:=Tryz.zeroValue5
 infoByte:=by kernel_rfl
 cellsByte:=by kernel_rfl
 sizeByte:=by kernel_rfl
 neB5:=by decide}
open Go.RowKit Go.Lib in
theorem Tryz.strings_Repeat(s:ByteArray)(c:Nat)(w:World)(hc:c<=9223372036854775807)(b:s.size*c<=140737488355328):
  Calls Tryz.prog 316 #[.string s,.int .i64 c] w fun e w'=>e= .returned (.string ⟨(Lib.repeatL s.data.toList c).toArray⟩)/\Below w.heap.size w w':=Any.strings_Repeat Tryz.lays105 Tryz.Builder_Extra_105 s c w hc b
end Go.Proofs
namespace Go.Proofs.YtjigghjfcbbkiaaGreatDoor
section
open Go.RowKit
def z1G(s p:Int):Bool:=decide (0<s/\s<=120000/\s % 60=0/\1<=p/\p<=16)
theorem y1S(s p:Int)(w:World)(B:0<=s)(C:s<=4294967295):Calls Tryz.prog 285 #[.int .i64 s,.int .i64 p] w fun r w'=>r= .returned (.bool (z1G s p))/\w=w':=by
 have D:Int.tmod s 60=s % 60:=Int.tmod_eq_emod_of_nonneg B;have E:IntKind.i64.wrap (s % 60)=s % 60:=by rw[ν];omega
 by_cases d:0<s
 case neg=>
  have b:Hd (z1G s p=false):=η (by unfold z1G;rw[ε];omega);have q:decide (0<s)=false:=by simpa using d
  go_enter Tryz.func285,Tryz.ntmps285;go_wp2_with fail;go_ret;exact⟨rb b.o,rfl⟩
 have q:decide (0<s)=true:=by simpa using d
 by_cases i:s<=120000
 case neg=>
  have b:Hd (z1G s p=false):=η (by unfold z1G;rw[ε];omega);have u:decide (s<=120000)=false:=by simpa using i
  go_enter Tryz.func285,Tryz.ntmps285;go_wp2_with fail;go_ret;exact⟨rb b.o,rfl⟩
 have u:decide (s<=120000)=true:=by simpa using i
 by_cases j:s % 60=0
 case neg=>
  have b:Hd (z1G s p=false):=η (by unfold z1G;rw[ε];omega);have v:(s % 60==0)=false:=by simpa using j
  go_enter Tryz.func285,Tryz.ntmps285;go_wp2_with fail;go_ret;exact⟨rb b.o,rfl⟩
 have v:(s % 60==0)=true:=by simpa using j
 by_cases l:1<=p
 case neg=>
  have b:Hd (z1G s p=false):=η (by unfold z1G;rw[ε];omega);have x:decide (1<=p)=false:=by simpa using l
  go_enter Tryz.func285,Tryz.ntmps285;go_wp2_with fail;go_ret;exact⟨rb b.o,rfl⟩
 have x:decide (1<=p)=true:=by simpa using l
 by_cases m:p<=16
 case neg=>
  have b:Hd (z1G s p=false):=η (by unfold z1G;rw[ε];omega);have y:decide (p<=16)=false:=by simpa using m
  go_enter Tryz.func285,Tryz.ntmps285;go_wp2_with fail;go_ret;exact⟨rb b.o,rfl⟩
 have y:decide (p<=16)=true:=by simpa using m
 have b:Hd (z1G s p=true):=η (by unfold z1G;rw[ζ];omega);go_enter Tryz.func285,Tryz.ntmps285;go_wp2_with fail;go_ret;exact⟨rb b.o,rfl⟩
def pad52 :List UInt8:=Lib.repeatL [0] 52
theorem z0F :pad52.length=52:=by unfold pad52;rw[Lib.repeatL_length];rfl
def z7S(s p:Nat):List UInt8:=q1M ((([98,108,109]++be 1 p)++be 4 s)++pad52)
theorem y1W(w:World):Calls Tryz.prog 316 #[.string ⟨#[0]⟩,.int .i64 52] w fun e w'=>e= .returned (.string ⟨pad52.toArray⟩)/\Ext w w':=
 Tryz.strings_Repeat ⟨#[0]⟩ 52 w (by omega) (by show 1*52<=_;omega)
theorem y0M(s p:Nat)(w:World)(O:s<=4294967295)(N:p<=255):Calls Tryz.prog 286 #[.int .i64 (s:Int),.int .i64 (p:Int)] w fun e w'=>e= .returned (.string ⟨(z7S s p).toArray⟩)/\Ext w w':=by
 have u:=η (fun W=>q7D (p:Int) 1 W (by omega) (by omega) (by omega) (by omega));have v:=η (fun W=>q7D (s:Int) 4 W (by omega) (by omega) (by omega) (by omega));rw[show((p:Int)).toNat=p by omega] at u;rw[show((s:Int)).toNat=s by omega] at v;have I:IntKind.u64.wrap (p:Int)=(p:Int):=by rw[IntKind.wrap_u64];omega
 have J:IntKind.u64.wrap (s:Int)=(s:Int):=by rw[IntKind.wrap_u64];omega
 have F:=q0G 1 p;have G:=q0G 4 s;have d:Hd (z7S s p=q1M ((([98,108,109]++be 1 p)++be 4 s)++pad52)):=η rfl;obtain⟨A,C⟩: ∃A,be 1 p=A:=⟨_,rfl⟩
 obtain⟨B,D⟩: ∃B,be 4 s=B:=⟨_,rfl⟩
 rw[C] at F u d;rw[D] at G v d;obtain⟨H,x⟩: ∃H,z7S s p=H:=⟨_,rfl⟩
 rw[x] at d;rw[x];have y:=z0F;have i:=η (fun W=>y1W W);obtain⟨Z,E⟩: ∃Z,pad52=Z:=⟨_,rfl⟩
 rw[E] at d y i;have r:=η (fun W=>z2w ((([98,108,109]++A)++B)++Z) W (by simp;omega));clear C D x E;go_enter Tryz.func286,Tryz.ntmps286;have R:¬(9223372036854775807<(3:Nat)+A.length):=by omega
 have S:¬(9223372036854775807<(3:Nat)+A.length+B.length):=by omega
 have U:¬(9223372036854775807<(3:Nat)+A.length+B.length+Z.length):=by omega
 have M:IntKind.i64.wrap (60-((3:Int)+(A.length:Int)+(B.length:Int)))=52:=by rw[F,G];kernel_rfl
 go_wp2_with fail;refine(u.o _).mono ?_;rintro e w1 ⟨rfl,b⟩;have j:=η b;clear b;go_wp2_with fail;refine(v.o _).mono ?_;rintro e V ⟨rfl,b⟩;have l:=η (j.o.trans b);clear b;go_wp2_with fail;refine(i.o _).mono ?_;rintro e X ⟨rfl,b⟩;have m:=η (l.o.trans b);clear b;go_wp2_with fail;have hc:(((⟨#[98,108,109]⟩:ByteArray)++⟨A.toArray⟩)++⟨B.toArray⟩)++⟨Z.toArray⟩=⟨((([98,108,109]++A)++B)++Z).toArray⟩:=by
  rw[show((⟨#[98,108,109]⟩:ByteArray)++⟨A.toArray⟩)=⟨([98,108,109]++A).toArray⟩ from q3J [98,108,109] A,q3J,q3J]
 rw[hc];refine(r.o _).mono ?_;rintro e Y ⟨rfl,b⟩;have q:=η (m.o.trans b);clear b;go_wp2_with fail;go_ret;exact⟨by rw[d.o,show(([98,108,109]:List UInt8)++A++B++Z)=98::108::109::(A++(B++Z)) by simp];rfl,q.o⟩
end
section
open Go.RowKit Go.Shelf
attribute [local go_sem] Oper.semAt_some
end
section
open Go.RowKit Go.Lib
section
variable {P :Program}(w:World)
end
end
section
section
variable {P :Program}{ops:Array Oper}{Q:Exit->Act->World->Prop}{n lo:Nat}
end
end
section
open Go.RowKit Go.Shelf
attribute [local go_sem] Oper.semAt_some
end
section
open Go.RowKit
end
end Go.Proofs.YtjigghjfcbbkiaaGreatDoor
