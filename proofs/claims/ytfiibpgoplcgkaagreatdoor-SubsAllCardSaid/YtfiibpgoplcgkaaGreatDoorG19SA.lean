/- The shelf's contracts of strings.Builder and strings.Repeat at this seat, in plain words. -/
import Derived.Shelf.Strings.Builder1
import Derived.Shelf.Strings.Repeat
import Derived.Test.YtfiibpgoplcgkaaGreatDoorProg
import Derived.Test.YtfiibpgoplcgkaaGreatDoorG14SA
import Derived.Lib.FrozenHead
import Derived.Lib.ConvBytes
import Derived.StillTailTactics
import Derived.OrdersIn
import Derived.TacticsIn
set_option linter.unusedVariables false
set_option linter.unusedSimpArgs false
set_option maxRecDepth 100000
set_option maxHeartbeats 6400000
namespace Go.Proofs
open Go.Shelf
def Tryz.lays105_ren :Go.Shelf.Ren:=⟨fun|105=>335|212=>346|99=>221|165=>347|166=>122|170=>348|169=>128|263=>355|264=>356|206=>244|240=>184|241=>357|276=>242|277=>359|n=>n,fun|9=>9|3=>3|4=>4|20=>20|0=>0|46=>272|109=>422|5=>5|72=>204|76=>207|51=>269|146=>435|53=>23|148=>437|70=>202|37=>75|75=>206|127=>271|164=>324|80=>213|n=>n,fun|n=>n⟩
theorem Tryz.lays105 :Go.Proofs.Lays.n105 Tryz.prog Tryz.lays105_ren:={
 mixed:=by kernel_rfl
 f99:=Tryz.func221.trans (congrArg some (by kernel_rfl))
 f105:=Tryz.func335.trans (congrArg some (by kernel_rfl))
 f165:=Tryz.func347.trans (congrArg some (by kernel_rfl))
 f166:=Tryz.func122.trans (congrArg some (by kernel_rfl))
 f169:=Tryz.func128.trans (congrArg some (by kernel_rfl))
 f170:=Tryz.func348.trans (congrArg some (by kernel_rfl))
 f206:=Tryz.func244.trans (congrArg some (by kernel_rfl))
 f212:=Tryz.func346.trans (congrArg some (by kernel_rfl))
 f240:=Tryz.func184.trans (congrArg some (by kernel_rfl))
 f241:=Tryz.func357.trans (congrArg some (by kernel_rfl))
 f263:=Tryz.func355.trans (congrArg some (by kernel_rfl))
 f264:=Tryz.func356.trans (congrArg some (by kernel_rfl))
 f276:=Tryz.func242.trans (congrArg some (by kernel_rfl))
 f277:=Tryz.func359.trans (congrArg some (by kernel_rfl))
 t0:=Tryz.underlying0
 a0:=Tryz.isAgg0
 z0:=Tryz.sizeOf0
 v0:=Tryz.zeroValue0
 t3:=Tryz.underlying3
 a3:=Tryz.isAgg3
 z3:=Tryz.sizeOf3
 v3:=Tryz.zeroValue3
 t4:=Tryz.underlying4
 a4:=Tryz.isAgg4
 z4:=Tryz.sizeOf4
 v4:=Tryz.zeroValue4
 t5:=Tryz.underlying5
 a5:=Tryz.isAgg5
 z5:=Tryz.sizeOf5
 v5:=Tryz.zeroValue5
 t9:=Tryz.underlying9
 a9:=Tryz.isAgg9
 z9:=Tryz.sizeOf9
 v9:=Tryz.zeroValue9
 t20:=Tryz.underlying20
 a20:=Tryz.isAgg20
 z20:=Tryz.sizeOf20
 v20:=Tryz.zeroValue20
 t37:=Tryz.underlying75
 a37:=Tryz.isAgg75
 z37:=Tryz.sizeOf75
 v37:=Tryz.zeroValue75
 t46:=Tryz.underlying272
 a46:=Tryz.isAgg272
 z46:=Tryz.sizeOf272
 v46:=Tryz.zeroValue272
 t51:=Tryz.underlying269
 a51:=Tryz.isAgg269
 z51:=Tryz.sizeOf269
 v51:=Tryz.zeroValue269
 t53:=Tryz.underlying23
 a53:=Tryz.isAgg23
 z53:=Tryz.sizeOf23
 v53:=Tryz.zeroValue23
 t70:=Tryz.underlying202
 a70:=Tryz.isAgg202
 z70:=Tryz.sizeOf202
 v70:=Tryz.zeroValue202
 t72:=Tryz.underlying204
 a72:=Tryz.isAgg204
 z72:=Tryz.sizeOf204
 v72:=Tryz.zeroValue204
 t75:=Tryz.underlying206
 a75:=Tryz.isAgg206
 z75:=Tryz.sizeOf206
 v75:=Tryz.zeroValue206
 t76:=Tryz.underlying207
 a76:=Tryz.isAgg207
 z76:=Tryz.sizeOf207
 v76:=Tryz.zeroValue207
 t109:=Tryz.underlying422
 a109:=Tryz.isAgg422
 z109:=Tryz.sizeOf422
 v109:=Tryz.zeroValue422
 t127:=Tryz.underlying271
 a127:=Tryz.isAgg271
 z127:=Tryz.sizeOf271
 v127:=Tryz.zeroValue271
 t146:=Tryz.underlying435
 a146:=Tryz.isAgg435
 z146:=Tryz.sizeOf435
 v146:=Tryz.zeroValue435
 t148:=Tryz.underlying437
 a148:=Tryz.isAgg437
 z148:=Tryz.sizeOf437
 v148:=Tryz.zeroValue437
 t164:=Tryz.underlying324
 a164:=Tryz.isAgg324
 z164:=Tryz.sizeOf324
 v164:=Tryz.zeroValue324}
theorem Tryz.Builder_Extra_105 :Builder.Extra Tryz.prog Tryz.lays105_ren:={
 sizeBuilder:=by kernel_rfl
 liesBuilder:=by kernel_rfl
 t5:=Tryz.underlying5
 a5:=Tryz.isAgg5
 z5:=Tryz.sizeOf5
 v5:=Tryz.zeroValue5
 infoByte:=by kernel_rfl
 cellsByte:=by kernel_rfl
 sizeByte:=by kernel_rfl
 neB5:=by decide}
open Go.RowKit Go.Lib in
theorem Tryz.strings_Repeat(s:ByteArray)(c:Nat)(w:World)(hc:c<=9223372036854775807)(b:s.size*c<=140737488355328):
  Calls Tryz.prog 335 #[.string s,.int .i64 c] w fun e w'=>e= .returned (.string ⟨(Lib.repeatL s.data.toList c).toArray⟩)/\Below w.heap.size w w':=Any.strings_Repeat Tryz.lays105 Tryz.Builder_Extra_105 s c w hc b
end Go.Proofs
namespace Go.Proofs.YtfiibpgoplcgkaaGreatDoor
section
open Go.RowKit
def z2S(s p:Int):Bool:=decide (0<s/\s<=120000/\s % 60=0/\1<=p/\p<=16)
theorem y3P(s p:Int)(w:World)(B:0<=s)(C:s<=4294967295):Calls Tryz.prog 313 #[.int .i64 s,.int .i64 p] w fun r w'=>r= .returned (.bool (z2S s p))/\w=w':=by
 have D:Int.tmod s 60=s % 60:=Int.tmod_eq_emod_of_nonneg B;have E:IntKind.i64.wrap (s % 60)=s % 60:=by rw[ν];omega
 by_cases d:0<s
 case neg=>
  have b:Hd (z2S s p=false):=η (by unfold z2S;rw[ε];omega);have q:decide (0<s)=false:=by simpa using d
  go_enter Tryz.func313,Tryz.ntmps313;go_wp2_with fail;go_ret;exact⟨rb b.o,rfl⟩
 have q:decide (0<s)=true:=by simpa using d
 by_cases i:s<=120000
 case neg=>
  have b:Hd (z2S s p=false):=η (by unfold z2S;rw[ε];omega);have u:decide (s<=120000)=false:=by simpa using i
  go_enter Tryz.func313,Tryz.ntmps313;go_wp2_with fail;go_ret;exact⟨rb b.o,rfl⟩
 have u:decide (s<=120000)=true:=by simpa using i
 by_cases j:s % 60=0
 case neg=>
  have b:Hd (z2S s p=false):=η (by unfold z2S;rw[ε];omega);have v:(s % 60==0)=false:=by simpa using j
  go_enter Tryz.func313,Tryz.ntmps313;go_wp2_with fail;go_ret;exact⟨rb b.o,rfl⟩
 have v:(s % 60==0)=true:=by simpa using j
 by_cases l:1<=p
 case neg=>
  have b:Hd (z2S s p=false):=η (by unfold z2S;rw[ε];omega);have x:decide (1<=p)=false:=by simpa using l
  go_enter Tryz.func313,Tryz.ntmps313;go_wp2_with fail;go_ret;exact⟨rb b.o,rfl⟩
 have x:decide (1<=p)=true:=by simpa using l
 by_cases m:p<=16
 case neg=>
  have b:Hd (z2S s p=false):=η (by unfold z2S;rw[ε];omega);have y:decide (p<=16)=false:=by simpa using m
  go_enter Tryz.func313,Tryz.ntmps313;go_wp2_with fail;go_ret;exact⟨rb b.o,rfl⟩
 have y:decide (p<=16)=true:=by simpa using m
 have b:Hd (z2S s p=true):=η (by unfold z2S;rw[ζ];omega);go_enter Tryz.func313,Tryz.ntmps313;go_wp2_with fail;go_ret;exact⟨rb b.o,rfl⟩
def pad52 :List UInt8:=Lib.repeatL [0] 52
theorem z1P :pad52.length=52:=by unfold pad52;rw[Lib.repeatL_length];rfl
def z9A(s p:Nat):List UInt8:=q1T ((([98,108,109]++be 1 p)++be 4 s)++pad52)
theorem y3T(w:World):Calls Tryz.prog 335 #[.string ⟨#[0]⟩,.int .i64 52] w fun e w'=>e= .returned (.string ⟨pad52.toArray⟩)/\Ext w w':=
 Tryz.strings_Repeat ⟨#[0]⟩ 52 w (by omega) (by show 1*52<=_;omega)
theorem y2F(s p:Nat)(w:World)(O:s<=4294967295)(N:p<=255):Calls Tryz.prog 314 #[.int .i64 (s:Int),.int .i64 (p:Int)] w fun e w'=>e= .returned (.string ⟨(z9A s p).toArray⟩)/\Ext w w':=by
 have u:=η (fun W=>q8A (p:Int) 1 W (by omega) (by omega) (by omega) (by omega));have v:=η (fun W=>q8A (s:Int) 4 W (by omega) (by omega) (by omega) (by omega));rw[show((p:Int)).toNat=p by omega] at u;rw[show((s:Int)).toNat=s by omega] at v;have I:IntKind.u64.wrap (p:Int)=(p:Int):=by rw[IntKind.wrap_u64];omega
 have J:IntKind.u64.wrap (s:Int)=(s:Int):=by rw[IntKind.wrap_u64];omega
 have F:=q0H 1 p;have G:=q0H 4 s;have d:Hd (z9A s p=q1T ((([98,108,109]++be 1 p)++be 4 s)++pad52)):=η rfl;obtain⟨A,C⟩: ∃A,be 1 p=A:=⟨_,rfl⟩
 obtain⟨B,D⟩: ∃B,be 4 s=B:=⟨_,rfl⟩
 rw[C] at F u d;rw[D] at G v d;obtain⟨H,x⟩: ∃H,z9A s p=H:=⟨_,rfl⟩
 rw[x] at d;rw[x];have y:=z1P;have i:=η (fun W=>y3T W);obtain⟨Z,E⟩: ∃Z,pad52=Z:=⟨_,rfl⟩
 rw[E] at d y i;have r:=η (fun W=>z4J ((([98,108,109]++A)++B)++Z) W (by simp;omega));clear C D x E;go_enter Tryz.func314,Tryz.ntmps314;have R:¬(9223372036854775807<(3:Nat)+A.length):=by omega
 have S:¬(9223372036854775807<(3:Nat)+A.length+B.length):=by omega
 have U:¬(9223372036854775807<(3:Nat)+A.length+B.length+Z.length):=by omega
 have M:IntKind.i64.wrap (60-((3:Int)+(A.length:Int)+(B.length:Int)))=52:=by rw[F,G];kernel_rfl
 go_wp2_with fail;refine(u.o _).mono ?_;rintro e w1 ⟨rfl,b⟩;have j:=η b;clear b;go_wp2_with fail;refine(v.o _).mono ?_;rintro e V ⟨rfl,b⟩;have l:=η (j.o.trans b);clear b;go_wp2_with fail;refine(i.o _).mono ?_;rintro e X ⟨rfl,b⟩;have m:=η (l.o.trans b);clear b;go_wp2_with fail;have hc:(((⟨#[98,108,109]⟩:ByteArray)++⟨A.toArray⟩)++⟨B.toArray⟩)++⟨Z.toArray⟩=⟨((([98,108,109]++A)++B)++Z).toArray⟩:=by
  rw[show((⟨#[98,108,109]⟩:ByteArray)++⟨A.toArray⟩)=⟨([98,108,109]++A).toArray⟩ from q3d [98,108,109] A,q3d,q3d]
 rw[hc];refine(r.o _).mono ?_;rintro e Y ⟨rfl,b⟩;have q:=η (m.o.trans b);clear b;go_wp2_with fail;go_ret;exact⟨by rw[d.o,show(([98,108,109]:List UInt8)++A++B++Z)=98::108::109::(A++(B++Z)) by simp];rfl,q.o⟩
end
section
open Go.RowKit Go.Shelf
attribute [local go_sem] Oper.semAt_some
end
section
open Go.RowKit Go.Lib
section
variable {P :Program}(w:World)
end
end
section
section
variable {P :Program}{ops:Array Oper}{Q:Exit->Act->World->Prop}{n lo:Nat}
end
end
section
open Go.RowKit Go.Shelf
attribute [local go_sem] Oper.semAt_some
end
section
open Go.RowKit
end
end Go.Proofs.YtfiibpgoplcgkaaGreatDoor
