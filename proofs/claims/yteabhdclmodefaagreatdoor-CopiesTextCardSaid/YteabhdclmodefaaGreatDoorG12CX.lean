/- The shelf's contracts of strings.Builder and strings.Repeat at this seat, in plain words. -/
import Derived.Shelf.Strings.Builder1
import Derived.Shelf.Strings.Repeat
import Derived.Test.YteabhdclmodefaaGreatDoorProg
import Derived.Test.YteabhdclmodefaaGreatDoorG11CX
import Derived.Lib.FrozenHead
import Derived.Lib.ConvBytes
import Derived.StillTailTactics
import Derived.OrdersIn
import Derived.TacticsIn
set_option linter.unusedVariables false
set_option linter.unusedSimpArgs false
set_option maxRecDepth 100000
set_option maxHeartbeats 6400000
namespace Go.Proofs
open Go.Shelf
def Tryz.lays169_ren :Go.Shelf.Ren:=⟨fun|169=>35|n=>n,fun|70=>84|9=>9|0=>0|72=>86|37=>31|127=>150|3=>3|5=>5|n=>n,fun|n=>n⟩
theorem Tryz.lays169 :Go.Proofs.Lays.n169 Tryz.prog Tryz.lays169_ren:={
 mixed:=by kernel_rfl
 f169:=Tryz.func35.trans (congrArg some (by kernel_rfl))
 t0:=Tryz.underlying0
 a0:=Tryz.isAgg0
 z0:=Tryz.sizeOf0
 v0:=Tryz.zeroValue0
 t3:=Tryz.underlying3
 a3:=Tryz.isAgg3
 z3:=Tryz.sizeOf3
 v3:=Tryz.zeroValue3
 t9:=Tryz.underlying9
 a9:=Tryz.isAgg9
 z9:=Tryz.sizeOf9
 v9:=Tryz.zeroValue9
 t37:=Tryz.underlying31
 a37:=Tryz.isAgg31
 z37:=Tryz.sizeOf31
 v37:=Tryz.zeroValue31
 t70:=Tryz.underlying84
 a70:=Tryz.isAgg84
 z70:=Tryz.sizeOf84
 v70:=Tryz.zeroValue84
 t72:=Tryz.underlying86
 a72:=Tryz.isAgg86
 z72:=Tryz.sizeOf86
 v72:=Tryz.zeroValue86
 t127:=Tryz.underlying150
 a127:=Tryz.isAgg150
 z127:=Tryz.sizeOf150
 v127:=Tryz.zeroValue150}
theorem Tryz.Builder_Extra_169 :Builder.Extra Tryz.prog Tryz.lays169_ren:={
 sizeBuilder:=by kernel_rfl
 liesBuilder:=by kernel_rfl
 t5:=Tryz.underlying5
 a5:=Tryz.isAgg5
 z5:=Tryz.sizeOf5
 v5:=Tryz.zeroValue5
 infoByte:=by kernel_rfl
 cellsByte:=by kernel_rfl
 sizeByte:=by kernel_rfl
 neB5:=by decide}
open Go.RowKit in
theorem Tryz.Builder_String(B b:Nat)(l:List UInt8)(w:World)(h:Lib.IsBuilder 86 5 B b (Lib.byteCells l) w)(d:l≠[]):
  Calls Tryz.prog 35 #[.pointer (some ⟨b,0,none⟩)] w fun e w'=>e= .returned (.string ⟨l.toArray⟩)/\Below B w w':=Any.Builder_String Tryz.lays169 Tryz.Builder_Extra_169 B b l w h d
def Tryz.lays105_ren :Go.Shelf.Ren:=⟨fun|105=>280|212=>288|99=>147|165=>289|166=>28|170=>290|169=>35|263=>297|264=>298|206=>130|240=>77|241=>299|276=>127|277=>301|n=>n,fun|9=>9|3=>3|4=>4|20=>20|0=>0|46=>151|109=>353|5=>5|72=>86|76=>89|51=>148|146=>364|53=>41|148=>366|70=>84|37=>31|75=>88|127=>150|164=>197|80=>95|n=>n,fun|n=>n⟩
theorem Tryz.lays105 :Go.Proofs.Lays.n105 Tryz.prog Tryz.lays105_ren:={
 mixed:=by kernel_rfl
 f99:=Tryz.func147.trans (congrArg some (by kernel_rfl))
 f105:=Tryz.func280.trans (congrArg some (by kernel_rfl))
 f165:=Tryz.func289.trans (congrArg some (by kernel_rfl))
 f166:=Tryz.func28.trans (congrArg some (by kernel_rfl))
 f169:=Tryz.func35.trans (congrArg some (by kernel_rfl))
 f170:=Tryz.func290.trans (congrArg some (by kernel_rfl))
 f206:=Tryz.func130.trans (congrArg some (by kernel_rfl))
 f212:=Tryz.func288.trans (congrArg some (by kernel_rfl))
 f240:=Tryz.func77.trans (congrArg some (by kernel_rfl))
 f241:=Tryz.func299.trans (congrArg some (by kernel_rfl))
 f263:=Tryz.func297.trans (congrArg some (by kernel_rfl))
 f264:=Tryz.func298.trans (congrArg some (by kernel_rfl))
 f276:=Tryz.func127.trans (congrArg some (by kernel_rfl))
 f277:=Tryz.func301.trans (congrArg some (by kernel_rfl))
 t0:=Tryz.underlying0
 a0:=Tryz.isAgg0
 z0:=Tryz.sizeOf0
 v0:=Tryz.zeroValue0
 t3:=Tryz.underlying3
 a3:=Tryz.isAgg3
 z3:=Tryz.sizeOf3
 v3:=Tryz.zeroValue3
 t4:=Tryz.underlying4
 a4:=Tryz.isAgg4
 z4:=Tryz.sizeOf4
 v4:=Tryz.zeroValue4
 t5:=Tryz.underlying5
 a5:=Tryz.isAgg5
 z5:=Tryz.sizeOf5
 v5:=Tryz.zeroValue5
 t9:=Tryz.underlying9
 a9:=Tryz.isAgg9
 z9:=Tryz.sizeOf9
 v9:=Tryz.zeroValue9
 t20:=Tryz.underlying20
 a20:=Tryz.isAgg20
 z20:=Tryz.sizeOf20
 v20:=Tryz.zeroValue20
 t37:=Tryz.underlying31
 a37:=Tryz.isAgg31
 z37:=Tryz.sizeOf31
 v37:=Tryz.zeroValue31
 t46:=Tryz.underlying151
 a46:=Tryz.isAgg151
 z46:=Tryz.sizeOf151
 v46:=Tryz.zeroValue151
 t51:=Tryz.underlying148
 a51:=Tryz.isAgg148
 z51:=Tryz.sizeOf148
 v51:=Tryz.zeroValue148
 t53:=Tryz.underlying41
 a53:=Tryz.isAgg41
 z53:=Tryz.sizeOf41
 v53:=Tryz.zeroValue41
 t70:=Tryz.underlying84
 a70:=Tryz.isAgg84
 z70:=Tryz.sizeOf84
 v70:=Tryz.zeroValue84
 t72:=Tryz.underlying86
 a72:=Tryz.isAgg86
 z72:=Tryz.sizeOf86
 v72:=Tryz.zeroValue86
 t75:=Tryz.underlying88
 a75:=Tryz.isAgg88
 z75:=Tryz.sizeOf88
 v75:=Tryz.zeroValue88
 t76:=Tryz.underlying89
 a76:=Tryz.isAgg89
 z76:=Tryz.sizeOf89
 v76:=Tryz.zeroValue89
 t109:=Tryz.underlying353
 a109:=Tryz.isAgg353
 z109:=Tryz.sizeOf353
 v109:=Tryz.zeroValue353
 t127:=Tryz.underlying150
 a127:=Tryz.isAgg150
 z127:=Tryz.sizeOf150
 v127:=Tryz.zeroValue150
 t146:=Tryz.underlying364
 a146:=Tryz.isAgg364
 z146:=Tryz.sizeOf364
 v146:=Tryz.zeroValue364
 t148:=Tryz.underlying366
 a148:=Tryz.isAgg366
 z148:=Tryz.sizeOf366
 v148:=Tryz.zeroValue366
 t164:=Tryz.underlying197
 a164:=Tryz.isAgg197
 z164:=Tryz.sizeOf197
 v164:=Tryz.zeroValue197}
theorem Tryz.Builder_Extra_105 :Builder.Extra Tryz.prog Tryz.lays105_ren:={
 sizeBuilder:=by kernel_rfl
 liesBuilder:=by kernel_rfl
 t5:=Tryz.underlying5
 a5:=Tryz.isAgg5
 z5:=Tryz.sizeOf5
 v5:=Tryz.zeroValue5
 infoByte:=by kernel_rfl
 cellsByte:=by kernel_rfl
 sizeByte:=by kernel_rfl
 neB5:=by decide}
open Go.RowKit Go.Lib in
theorem Tryz.strings_Repeat(s:ByteArray)(c:Nat)(w:World)(hc:c<=9223372036854775807)(b:s.size*c<=140737488355328):
  Calls Tryz.prog 280 #[.string s,.int .i64 c] w fun e w'=>e= .returned (.string ⟨(Lib.repeatL s.data.toList c).toArray⟩)/\Below w.heap.size w w':=Any.strings_Repeat Tryz.lays105 Tryz.Builder_Extra_105 s c w hc b
open Go.RowKit in
theorem Tryz.Builder_WriteString(B b:Nat)(i:List Value)(s:ByteArray)(w:World)(h:Lib.IsBuilder 86 5 B b i w)(d:i.length+s.size<=140737488355328)(j:B<=w.heap.size):
  Calls Tryz.prog 28 #[.pointer (some ⟨b,0,none⟩),.string s] w fun e w'=>e= .returned (.tuple #[.int .i64 s.size,.nilIface])/\(Lib.BuilderAt 86 5 B b (.pointer (some ⟨b,0,none⟩)) (i++Lib.strCells s) w'/\Below B w w'):=Any.Builder_WriteString {Tryz.lays105 with} Tryz.Builder_Extra_105 B b i s w h d j
end Go.Proofs
namespace Go.Proofs.YteabhdclmodefaaGreatDoor
section
open Go.RowKit
def z1Y(s p:Int):Bool:=decide (0<s/\s<=120000/\s % 60=0/\1<=p/\p<=16)
theorem y1m(s p:Int)(w:World)(u:0<=s)(v:s<=4294967295):Calls Tryz.prog 264 #[.int .i64 s,.int .i64 p] w fun r w'=>r= .returned (.bool (z1Y s p))/\w=w':=by
 have x:Int.tmod s 60=s % 60:=Int.tmod_eq_emod_of_nonneg u;have y:IntKind.i64.wrap (s % 60)=s % 60:=by rw[ν];omega
 by_cases h1:0<s
 case neg=>
  have b:Hd (z1Y s p=false):=η (by unfold z1Y;rw[ε];omega);have i:decide (0<s)=false:=by simpa using h1
  go_enter Tryz.func264,Tryz.ntmps264;go_wp2_with fail;go_ret;exact⟨rb b.o,rfl⟩
 have i:decide (0<s)=true:=by simpa using h1
 by_cases h2:s<=120000
 case neg=>
  have b:Hd (z1Y s p=false):=η (by unfold z1Y;rw[ε];omega);have j:decide (s<=120000)=false:=by simpa using h2
  go_enter Tryz.func264,Tryz.ntmps264;go_wp2_with fail;go_ret;exact⟨rb b.o,rfl⟩
 have j:decide (s<=120000)=true:=by simpa using h2
 by_cases h3:s % 60=0
 case neg=>
  have b:Hd (z1Y s p=false):=η (by unfold z1Y;rw[ε];omega);have l:(s % 60==0)=false:=by simpa using h3
  go_enter Tryz.func264,Tryz.ntmps264;go_wp2_with fail;go_ret;exact⟨rb b.o,rfl⟩
 have l:(s % 60==0)=true:=by simpa using h3
 by_cases h4:1<=p
 case neg=>
  have b:Hd (z1Y s p=false):=η (by unfold z1Y;rw[ε];omega);have m:decide (1<=p)=false:=by simpa using h4
  go_enter Tryz.func264,Tryz.ntmps264;go_wp2_with fail;go_ret;exact⟨rb b.o,rfl⟩
 have m:decide (1<=p)=true:=by simpa using h4
 by_cases d:p<=16
 case neg=>
  have b:Hd (z1Y s p=false):=η (by unfold z1Y;rw[ε];omega);have q:decide (p<=16)=false:=by simpa using d
  go_enter Tryz.func264,Tryz.ntmps264;go_wp2_with fail;go_ret;exact⟨rb b.o,rfl⟩
 have q:decide (p<=16)=true:=by simpa using d
 have b:Hd (z1Y s p=true):=η (by unfold z1Y;rw[ζ];omega);go_enter Tryz.func264,Tryz.ntmps264;go_wp2_with fail;go_ret;exact⟨rb b.o,rfl⟩
def pad52 :List UInt8:=Lib.repeatL [0] 52
theorem z0V :pad52.length=52:=by unfold pad52;rw[Lib.repeatL_length];rfl
def z7m(s p:Nat):List UInt8:=q0W ((([98,108,109]++be 1 p)++be 4 s)++pad52)
theorem y1q(w:World):Calls Tryz.prog 280 #[.string ⟨#[0]⟩,.int .i64 52] w fun e w'=>e= .returned (.string ⟨pad52.toArray⟩)/\Ext w w':=
 Tryz.strings_Repeat ⟨#[0]⟩ 52 w (by omega) (by show 1*52<=_;omega)
theorem y0b(s p:Nat)(w:World)(O:s<=4294967295)(N:p<=255):Calls Tryz.prog 265 #[.int .i64 (s:Int),.int .i64 (p:Int)] w fun e w'=>e= .returned (.string ⟨(z7m s p).toArray⟩)/\Ext w w':=by
 have u:=η (fun W=>q7U (p:Int) 1 W (by omega) (by omega) (by omega) (by omega));have v:=η (fun W=>q7U (s:Int) 4 W (by omega) (by omega) (by omega) (by omega));rw[show((p:Int)).toNat=p by omega] at u;rw[show((s:Int)).toNat=s by omega] at v;have I:IntKind.u64.wrap (p:Int)=(p:Int):=by rw[IntKind.wrap_u64];omega
 have J:IntKind.u64.wrap (s:Int)=(s:Int):=by rw[IntKind.wrap_u64];omega
 have F:=q0F 1 p;have G:=q0F 4 s;have d:Hd (z7m s p=q0W ((([98,108,109]++be 1 p)++be 4 s)++pad52)):=η rfl;obtain⟨A,C⟩: ∃A,be 1 p=A:=⟨_,rfl⟩
 obtain⟨B,D⟩: ∃B,be 4 s=B:=⟨_,rfl⟩
 rw[C] at F u d;rw[D] at G v d;obtain⟨H,x⟩: ∃H,z7m s p=H:=⟨_,rfl⟩
 rw[x] at d;rw[x];have y:=z0V;have i:=η (fun W=>y1q W);obtain⟨Z,E⟩: ∃Z,pad52=Z:=⟨_,rfl⟩
 rw[E] at d y i;have r:=η (fun W=>z0g ((([98,108,109]++A)++B)++Z) W (by simp;omega));clear C D x E;go_enter Tryz.func265,Tryz.ntmps265;have R:¬(9223372036854775807<(3:Nat)+A.length):=by omega
 have S:¬(9223372036854775807<(3:Nat)+A.length+B.length):=by omega
 have U:¬(9223372036854775807<(3:Nat)+A.length+B.length+Z.length):=by omega
 have M:IntKind.i64.wrap (60-((3:Int)+(A.length:Int)+(B.length:Int)))=52:=by rw[F,G];kernel_rfl
 go_wp2_with fail;refine(u.o _).mono ?_;rintro e w1 ⟨rfl,b⟩;have j:=η b;clear b;go_wp2_with fail;refine(v.o _).mono ?_;rintro e V ⟨rfl,b⟩;have l:=η (j.o.trans b);clear b;go_wp2_with fail;refine(i.o _).mono ?_;rintro e X ⟨rfl,b⟩;have m:=η (l.o.trans b);clear b;go_wp2_with fail;have hc:(((⟨#[98,108,109]⟩:ByteArray)++⟨A.toArray⟩)++⟨B.toArray⟩)++⟨Z.toArray⟩=⟨((([98,108,109]++A)++B)++Z).toArray⟩:=by
  rw[show((⟨#[98,108,109]⟩:ByteArray)++⟨A.toArray⟩)=⟨([98,108,109]++A).toArray⟩ from q1w [98,108,109] A,q1w,q1w]
 rw[hc];refine(r.o _).mono ?_;rintro e Y ⟨rfl,b⟩;have q:=η (m.o.trans b);clear b;go_wp2_with fail;go_ret;exact⟨by rw[d.o,show(([98,108,109]:List UInt8)++A++B++Z)=98::108::109::(A++(B++Z)) by simp];rfl,q.o⟩
end
section
open Go.RowKit Go.Shelf
attribute [local go_sem] Oper.semAt_some
end
section
open Go.RowKit Go.Lib
section
variable {P :Program}(w:World)
end
end
section
section
variable {P :Program}{ops:Array Oper}{Q:Exit->Act->World->Prop}{n lo:Nat}
end
end
section
open Go.RowKit Go.Shelf
attribute [local go_sem] Oper.semAt_some
end
section
open Go.RowKit
end
end Go.Proofs.YteabhdclmodefaaGreatDoor
