/- The shelf's contracts of strings.Builder and strings.Repeat at this seat, in plain words: written by a tool of the kit (lay-plain) from a short module of mine, turned into a template. Walks: a filter's file. -/
import Derived.Shelf.Strings.Builder1
import Derived.Shelf.Strings.Repeat
import Derived.Test.YtmajfklnagdlpaaGreatDoorProg
import Derived.Test.YtmajfklnagdlpaaGreatDoorG13Bs
import Derived.Test.YtmajfklnagdlpaaGreatDoorG10Bs
import Derived.Test.YtmajfklnagdlpaaGreatDoorG16Bs
set_option linter.unusedVariables false
set_option linter.unusedSimpArgs false
namespace Go.Proofs
open Go.Shelf
def Tryz.lays169_ren :Go.Shelf.Ren:=⟨fun|169=>270|n=>n,fun|70=>326|9=>9|0=>0|72=>328|37=>125|127=>343|3=>3|5=>5|n=>n,fun|n=>n⟩
theorem Tryz.lays169 :Go.Proofs.Lays.n169 Tryz.prog Tryz.lays169_ren:={
  mixed:=by kernel_rfl
  f169:=Tryz.func270.trans (congrArg some (by kernel_rfl))
  t0:=Tryz.underlying0
  a0:=Tryz.isAgg0
  z0:=Tryz.sizeOf0
  v0:=Tryz.zeroValue0
  t3:=Tryz.underlying3
  a3:=Tryz.isAgg3
  z3:=Tryz.sizeOf3
  v3:=Tryz.zeroValue3
  t9:=Tryz.underlying9
  a9:=Tryz.isAgg9
  z9:=Tryz.sizeOf9
  v9:=Tryz.zeroValue9
  t37:=Tryz.underlying125
  a37:=Tryz.isAgg125
  z37:=Tryz.sizeOf125
  v37:=Tryz.zeroValue125
  t70:=Tryz.underlying326
  a70:=Tryz.isAgg326
  z70:=Tryz.sizeOf326
  v70:=Tryz.zeroValue326
  t72:=Tryz.underlying328
  a72:=Tryz.isAgg328
  z72:=Tryz.sizeOf328
  v72:=Tryz.zeroValue328
  t127:=Tryz.underlying343
  a127:=Tryz.isAgg343
  z127:=Tryz.sizeOf343
  v127:=Tryz.zeroValue343}
theorem Tryz.Builder_Extra_169 :Builder.Extra Tryz.prog Tryz.lays169_ren:={
  sizeBuilder:=by kernel_rfl
  liesBuilder:=by kernel_rfl
  t5:=Tryz.underlying5
  a5:=Tryz.isAgg5
  z5:=Tryz.sizeOf5
  v5:=Tryz.zeroValue5
  infoByte:=by kernel_rfl
  cellsByte:=by kernel_rfl
  sizeByte:=by kernel_rfl
  neB5:=by decide}
open Go.RowKit in
theorem Tryz.Builder_String (B b:Nat) (l:List UInt8) (w:World) (h:Lib.IsBuilder 328 5 B b (Lib.byteCells l) w) (h0:l≠[]):
    Calls Tryz.prog 270 #[.pointer (some ⟨b,0,none⟩)] w fun e w'=>e= .returned (.string ⟨l.toArray⟩)∧Below B w w':=Any.Builder_String Tryz.lays169 Tryz.Builder_Extra_169 B b l w h h0
def Tryz.lays105_ren :Go.Shelf.Ren:=⟨fun|105=>261|212=>278|99=>218|165=>279|166=>269|170=>280|169=>270|263=>289|264=>290|206=>256|240=>282|241=>291|276=>292|277=>294|n=>n,fun|9=>9|3=>3|4=>4|20=>20|0=>0|46=>249|109=>338|5=>5|72=>328|76=>331|51=>238|146=>352|53=>35|148=>354|70=>326|37=>125|75=>330|127=>343|164=>356|80=>333|n=>n,fun|n=>n⟩
theorem Tryz.lays105 :Go.Proofs.Lays.n105 Tryz.prog Tryz.lays105_ren:={
  mixed:=by kernel_rfl
  f99:=Tryz.func218.trans (congrArg some (by kernel_rfl))
  f105:=Tryz.func261.trans (congrArg some (by kernel_rfl))
  f165:=Tryz.func279.trans (congrArg some (by kernel_rfl))
  f166:=Tryz.func269.trans (congrArg some (by kernel_rfl))
  f169:=Tryz.func270.trans (congrArg some (by kernel_rfl))
  f170:=Tryz.func280.trans (congrArg some (by kernel_rfl))
  f206:=Tryz.func256.trans (congrArg some (by kernel_rfl))
  f212:=Tryz.func278.trans (congrArg some (by kernel_rfl))
  f240:=Tryz.func282.trans (congrArg some (by kernel_rfl))
  f241:=Tryz.func291.trans (congrArg some (by kernel_rfl))
  f263:=Tryz.func289.trans (congrArg some (by kernel_rfl))
  f264:=Tryz.func290.trans (congrArg some (by kernel_rfl))
  f276:=Tryz.func292.trans (congrArg some (by kernel_rfl))
  f277:=Tryz.func294.trans (congrArg some (by kernel_rfl))
  t0:=Tryz.underlying0
  a0:=Tryz.isAgg0
  z0:=Tryz.sizeOf0
  v0:=Tryz.zeroValue0
  t3:=Tryz.underlying3
  a3:=Tryz.isAgg3
  z3:=Tryz.sizeOf3
  v3:=Tryz.zeroValue3
  t4:=Tryz.underlying4
  a4:=Tryz.isAgg4
  z4:=Tryz.sizeOf4
  v4:=Tryz.zeroValue4
  t5:=Tryz.underlying5
  a5:=Tryz.isAgg5
  z5:=Tryz.sizeOf5
  v5:=Tryz.zeroValue5
  t9:=Tryz.underlying9
  a9:=Tryz.isAgg9
  z9:=Tryz.sizeOf9
  v9:=Tryz.zeroValue9
  t20:=Tryz.underlying20
  a20:=Tryz.isAgg20
  z20:=Tryz.sizeOf20
  v20:=Tryz.zeroValue20
  t37:=Tryz.underlying125
  a37:=Tryz.isAgg125
  z37:=Tryz.sizeOf125
  v37:=Tryz.zeroValue125
  t46:=Tryz.underlying249
  a46:=Tryz.isAgg249
  z46:=Tryz.sizeOf249
  v46:=Tryz.zeroValue249
  t51:=Tryz.underlying238
  a51:=Tryz.isAgg238
  z51:=Tryz.sizeOf238
  v51:=Tryz.zeroValue238
  t53:=Tryz.underlying35
  a53:=Tryz.isAgg35
  z53:=Tryz.sizeOf35
  v53:=Tryz.zeroValue35
  t70:=Tryz.underlying326
  a70:=Tryz.isAgg326
  z70:=Tryz.sizeOf326
  v70:=Tryz.zeroValue326
  t72:=Tryz.underlying328
  a72:=Tryz.isAgg328
  z72:=Tryz.sizeOf328
  v72:=Tryz.zeroValue328
  t75:=Tryz.underlying330
  a75:=Tryz.isAgg330
  z75:=Tryz.sizeOf330
  v75:=Tryz.zeroValue330
  t76:=Tryz.underlying331
  a76:=Tryz.isAgg331
  z76:=Tryz.sizeOf331
  v76:=Tryz.zeroValue331
  t109:=Tryz.underlying338
  a109:=Tryz.isAgg338
  z109:=Tryz.sizeOf338
  v109:=Tryz.zeroValue338
  t127:=Tryz.underlying343
  a127:=Tryz.isAgg343
  z127:=Tryz.sizeOf343
  v127:=Tryz.zeroValue343
  t146:=Tryz.underlying352
  a146:=Tryz.isAgg352
  z146:=Tryz.sizeOf352
  v146:=Tryz.zeroValue352
  t148:=Tryz.underlying354
  a148:=Tryz.isAgg354
  z148:=Tryz.sizeOf354
  v148:=Tryz.zeroValue354
  t164:=Tryz.underlying356
  a164:=Tryz.isAgg356
  z164:=Tryz.sizeOf356
  v164:=Tryz.zeroValue356}
theorem Tryz.Builder_Extra_105 :Builder.Extra Tryz.prog Tryz.lays105_ren:={
  sizeBuilder:=by kernel_rfl
  liesBuilder:=by kernel_rfl
  t5:=Tryz.underlying5
  a5:=Tryz.isAgg5
  z5:=Tryz.sizeOf5
  v5:=Tryz.zeroValue5
  infoByte:=by kernel_rfl
  cellsByte:=by kernel_rfl
  sizeByte:=by kernel_rfl
  neB5:=by decide}
open Go.RowKit Go.Lib in
theorem Tryz.strings_Repeat (s:ByteArray) (c:Nat) (w:World) (hc:c≤9223372036854775807) (hlen:s.size*c≤140737488355328):
    Calls Tryz.prog 261 #[.string s,.int .i64 c] w fun e w'=>e= .returned (.string ⟨(Lib.repeatL s.data.toList c).toArray⟩)∧Below w.heap.size w w':=Any.strings_Repeat Tryz.lays105 Tryz.Builder_Extra_105 s c w hc hlen
open Go.RowKit in
theorem Tryz.Builder_WriteString (B b:Nat) (bs:List Value) (s:ByteArray) (w:World) (h:Lib.IsBuilder 328 5 B b bs w) (hlen:bs.length+s.size≤140737488355328) (hBw:B≤w.heap.size):
    Calls Tryz.prog 269 #[.pointer (some ⟨b,0,none⟩),.string s] w fun e w'=>e= .returned (.tuple #[.int .i64 s.size,.nilIface])∧(Lib.BuilderAt 328 5 B b (.pointer (some ⟨b,0,none⟩)) (bs++Lib.strCells s) w'∧Below B w w'):=Any.Builder_WriteString {Tryz.lays105 with} Tryz.Builder_Extra_105 B b bs s w h hlen hBw
end Go.Proofs
namespace Go.Proofs.YtmajfklnagdlpaaGreatDoor
open Go.RowKit
set_option maxRecDepth 100000
set_option linter.unusedVariables false
set_option maxHeartbeats 6400000
def q9Q (s p:Int):Bool:=decide (0<s∧s≤120000∧s % 60=0∧1≤p∧p≤16)
theorem z8c (s p:Int) (w:World) (hs:0≤s) (hs9:s≤4294967295):Calls Tryz.prog 232 #[.int .i64 s,.int .i64 p] w fun r w'=>r= .returned (.bool (q9Q s p))∧w=w':=by
  have e1:Int.tmod s 60=s % 60:=Int.tmod_eq_emod_of_nonneg hs
  have e2:IntKind.i64.wrap (s % 60)=s % 60:=by rw[IntKind.wrap_i64];omega
  by_cases h1:0<s
  case neg=>
    have HV:Hid (q9Q s p=false):=Lib.hid (by unfold q9Q;rw[decide_eq_false];omega)
    have d1:decide (0<s)=false:=by simpa using h1
    go_enter Tryz.func232,Tryz.ntmps232
    go_wp2_with fail
    go_ret
    exact ⟨rb HV.out,rfl⟩
  have d1:decide (0<s)=true:=by simpa using h1
  by_cases h2:s≤120000
  case neg=>
    have HV:Hid (q9Q s p=false):=Lib.hid (by unfold q9Q;rw[decide_eq_false];omega)
    have d2:decide (s≤120000)=false:=by simpa using h2
    go_enter Tryz.func232,Tryz.ntmps232
    go_wp2_with fail
    go_ret
    exact ⟨rb HV.out,rfl⟩
  have d2:decide (s≤120000)=true:=by simpa using h2
  by_cases h3:s % 60=0
  case neg=>
    have HV:Hid (q9Q s p=false):=Lib.hid (by unfold q9Q;rw[decide_eq_false];omega)
    have d3:(s % 60==0)=false:=by simpa using h3
    go_enter Tryz.func232,Tryz.ntmps232
    go_wp2_with fail
    go_ret
    exact ⟨rb HV.out,rfl⟩
  have d3:(s % 60==0)=true:=by simpa using h3
  by_cases h4:1≤p
  case neg=>
    have HV:Hid (q9Q s p=false):=Lib.hid (by unfold q9Q;rw[decide_eq_false];omega)
    have d4:decide (1≤p)=false:=by simpa using h4
    go_enter Tryz.func232,Tryz.ntmps232
    go_wp2_with fail
    go_ret
    exact ⟨rb HV.out,rfl⟩
  have d4:decide (1≤p)=true:=by simpa using h4
  by_cases h5:p≤16
  case neg=>
    have HV:Hid (q9Q s p=false):=Lib.hid (by unfold q9Q;rw[decide_eq_false];omega)
    have d5:decide (p≤16)=false:=by simpa using h5
    go_enter Tryz.func232,Tryz.ntmps232
    go_wp2_with fail
    go_ret
    exact ⟨rb HV.out,rfl⟩
  have d5:decide (p≤16)=true:=by simpa using h5
  have HV:Hid (q9Q s p=true):=Lib.hid (by unfold q9Q;rw[decide_eq_true];omega)
  go_enter Tryz.func232,Tryz.ntmps232
  go_wp2_with fail
  go_ret
  exact ⟨rb HV.out,rfl⟩
def pad52 :List UInt8:=Lib.repeatL [0] 52
theorem q5i :pad52.length=52:=by unfold pad52;rw[Lib.repeatL_length];rfl
def q8K (s p:Nat):List UInt8:=q0w ((([98,108,109]++be 1 p)++be 4 s)++pad52)
theorem q5d (s p:Nat):(q8K s p).length=64:=by
  unfold q8K
  rw[q0b]
  simp[q0G,q5i]
theorem z9k (w:World):Calls Tryz.prog 261 #[.string ⟨#[0]⟩,.int .i64 52] w fun e w'=>e= .returned (.string ⟨pad52.toArray⟩)∧Ext w w':=
  Tryz.strings_Repeat ⟨#[0]⟩ 52 w (by omega) (by show 1*52≤_;omega)
theorem z6s (s p:Nat) (w:World) (hs:s≤4294967295) (hp:p≤255):Calls Tryz.prog 233 #[.int .i64 (s:Int),.int .i64 (p:Int)] w fun e w'=>e= .returned (.string ⟨(q8K s p).toArray⟩)∧Ext w w':=by
  have P1:=Lib.hid (fun W=>q5l (p:Int) 1 W (by omega) (by omega) (by omega) (by omega))
  have P2:=Lib.hid (fun W=>q5l (s:Int) 4 W (by omega) (by omega) (by omega) (by omega))
  rw[show ((p:Int)).toNat=p by omega] at P1
  rw[show ((s:Int)).toNat=s by omega] at P2
  have e1:IntKind.u64.wrap (p:Int)=(p:Int):=by rw[IntKind.wrap_u64];omega
  have e2:IntKind.u64.wrap (s:Int)=(s:Int):=by rw[IntKind.wrap_u64];omega
  have l1:=q0G 1 p;have l2:=q0G 4 s
  have HH:Hid (q8K s p=q0w ((([98,108,109]++be 1 p)++be 4 s)++pad52)):=Lib.hid rfl
  obtain ⟨A,hA⟩: ∃A,be 1 p=A:=⟨_,rfl⟩
  obtain ⟨B,hB⟩: ∃B,be 4 s=B:=⟨_,rfl⟩
  rw[hA] at l1 P1 HH
  rw[hB] at l2 P2 HH
  obtain ⟨H,hH⟩: ∃H,q8K s p=H:=⟨_,rfl⟩
  rw[hH] at HH
  rw[hH]
  have hp5:=q5i
  have HPd:=Lib.hid (fun W=>z9k W)
  obtain ⟨Z,hZ⟩: ∃Z,pad52=Z:=⟨_,rfl⟩
  rw[hZ] at HH hp5 HPd
  have HSe:=Lib.hid (fun W=>q7u ((([98,108,109]++A)++B)++Z) W (by simp;omega))
  clear hA hB hH hZ
  go_enter Tryz.func233,Tryz.ntmps233
  have q1:¬(9223372036854775807<(3:Nat)+A.length):=by omega
  have q2:¬(9223372036854775807<(3:Nat)+A.length+B.length):=by omega
  have q3:¬(9223372036854775807<(3:Nat)+A.length+B.length+Z.length):=by omega
  have e3:IntKind.i64.wrap (60-((3:Int)+(A.length:Int)+(B.length:Int)))=52:=by rw[l1,l2];kernel_rfl
  go_wp2_with fail
  refine (P1.out _).mono ?_
  rintro e w1 ⟨rfl,hb⟩
  have HB1:=Lib.hid hb;clear hb
  go_wp2_with fail
  refine (P2.out _).mono ?_
  rintro e w2 ⟨rfl,hb⟩
  have HB2:=Lib.hid (HB1.out.trans hb);clear hb
  go_wp2_with fail
  refine (HPd.out _).mono ?_
  rintro e w3 ⟨rfl,hb⟩
  have HB3:=Lib.hid (HB2.out.trans hb);clear hb
  go_wp2_with fail
  have hc:(((⟨#[98,108,109]⟩:ByteArray)++⟨A.toArray⟩)++⟨B.toArray⟩)++⟨Z.toArray⟩=⟨((([98,108,109]++A)++B)++Z).toArray⟩:=by
    rw[show ((⟨#[98,108,109]⟩:ByteArray)++⟨A.toArray⟩)=⟨([98,108,109]++A).toArray⟩ from q2g [98,108,109] A,q2g,q2g]
  rw[hc]
  refine (HSe.out _).mono ?_
  rintro e w4 ⟨rfl,hb⟩
  have HB4:=Lib.hid (HB3.out.trans hb);clear hb
  go_wp2_with fail
  go_ret
  exact ⟨by rw[HH.out,show (([98,108,109]:List UInt8)++A++B++Z)=98::108::109::(A++(B++Z)) by simp];rfl,HB4.out⟩
theorem z0O (w:World):Lib.IsBuilder 328 5 w.heap.size w.heap.size [] (w.alloc (.cells #[.pointer none,.slice none 0 0] 328)):=
  .inl ⟨Nat.le_refl _,_,heap_alloc_new w _,World.ownsRow_nil _ _ _ _,by simp[Value.ownBlock]⟩
theorem z4Y {T e:TypeId} {B b:Nat} {bs:List Value} {w w':World} (h:Lib.IsBuilder T e B b bs w) (k:Ext w w'):Lib.IsBuilder T e B b bs w':=by
  have f: ∀q,Lib.BuilderAt T e B b q bs w→Lib.BuilderAt T e B b q bs w':=fun q ⟨h1,v,h2,h3,h4⟩=>
    ⟨h1,v,(k.block b (Array.getElem?_eq_some_iff.1 h2).1).trans h2,q0U h3 k,h4⟩
  exact h.elim (fun x=> .inl (f _ x)) (fun x=> .inr (f _ x))
def z3G (a:List UInt8) (k:Nat):List UInt8:=q0w ((a.drop (60*k)).take 60)
theorem q5V {a:List UInt8} {k:Nat} (h:60*(k+1)≤a.length):(z3G a k).length=64:=by
  unfold z3G;rw[q0b,List.length_take,List.length_drop];omega
def z2H (a:List UInt8) (p k:Nat):List UInt8:=q8K a.length p++((List.range k).map (z3G a)).flatten
theorem q9R (a:List UInt8) (p k:Nat):z2H a p (k+1)=z2H a p k++z3G a k:=by
  unfold z2H;rw[List.range_succ];simp
theorem q4O (a:List UInt8) (p:Nat): ∀k,60*k≤a.length→(z2H a p k).length=64*(k+1)
  |0,_=>by unfold z2H;simp[q5d]
  |k+1,h=>by rw[q9R,List.length_append,q4O a p k (by omega),q5V h];omega
theorem z8P (a:List UInt8) (p g:Nat) (w:World) (hl:a.length=60*g) (hg:1≤g) (hg9:g≤1000) (hp:1≤p) (hp9:p≤16):
    Calls Tryz.prog 247 #[.string ⟨a.toArray⟩,.int .i64 (p:Int)] w fun e w'=> ∃s:List UInt8,e= .returned (.string ⟨s.toArray⟩)∧s.length=64*(g+1)∧Ext w w':=by
  have HL:=Lib.hid hl
  have hm:q9Q (a.length:Int) (p:Int)=true:=by unfold q9Q;rw[decide_eq_true];omega
  have HM:=Lib.hid (fun W=>z8c (a.length:Int) (p:Int) W (by omega) (by omega))
  rw[hm] at HM
  have HH:=Lib.hid (fun W=>z6s a.length p W (by omega) (by omega))
  have hal:a.length≤60000:=by omega
  have hBn:=Lib.hid (z0O w)
  have HX0:=Lib.hid (q0C w (.cells #[.pointer none,.slice none 0 0] 328))
  clear hl hm
  go_enter Tryz.func247,Tryz.ntmps247
  go_wp2_with fail
  refine (HM.out _).mono ?_
  rintro e w1 ⟨rfl,rfl⟩
  clear HM
  go_wp2_with fail
  refine (HH.out _).mono ?_
  rintro e w2 ⟨rfl,hb⟩
  have HB2:=Lib.hid (HX0.out.trans hb)
  have HBd:=Lib.hid (z4Y hBn.out hb)
  clear hb HH
  have hhl:=q5d a.length p
  have HP0:Hid (z2H a p 0=q8K a.length p):=Lib.hid (by unfold z2H;simp)
  generalize q8K a.length p=H at*
  go_wp2_with fail
  refine (Tryz.Builder_WriteString w.heap.size w.heap.size [] ⟨H.toArray⟩ w2 HBd.out (by show 0+H.length≤_;omega) HB2.out.size).mono ?_
  rintro e w3 ⟨rfl,hbd,hb⟩
  have HB3:=Lib.hid (Below.trans (B:=w.heap.size) HB2.out hb)
  have HBd3:Hid (Lib.IsBuilder 328 5 w.heap.size w.heap.size (Lib.byteCells (z2H a p 0)) w3):=Lib.hid (.inr (by rw[HP0.out];exact hbd))
  clear hb hbd
  go_wp2_with fail
  go_loopw [6] (fun i W=> ∃k:Nat,k≤g∧i= .int .i64 (60*(k:Int))∧Lib.IsBuilder 328 5 w.heap.size w.heap.size (Lib.byteCells (z2H a p k)) W∧Ext w W) (fun i _=>60*g-(intOf i).toNat)
  case atStart=>exact ⟨0,Nat.zero_le _,rfl,HBd3.out,HB3.out⟩
  case round=>
    obtain ⟨k,hk,rfl,hbd,hb⟩:=hrel
    have HBk:=Lib.hid hb;have HBdk:=Lib.hid hbd
    have hll:=HL.out
    by_cases hlt:k<g
    · have hd:decide (60*(k:Int)<(a.length:Int))=true:=by simp;omega
      have e1:IntKind.i64.wrap (60*(k:Int)+60)=60*(k:Int)+60:=by rw[IntKind.wrap_i64];omega
      have hsl:=q2I a (60*(k:Int)) (60*(k:Int)+60) (60*k) (60*k+60) (by push_cast;rfl) (by push_cast;rfl) (by omega) (by omega) (X:=(a.drop (60*k)).take 60) (by rw[List.drop_take];congr 1;omega)
      have HSe:=Lib.hid (fun W=>q7u ((a.drop (60*k)).take 60) W (by rw[List.length_take];omega))
      have HPg:Hid (q0w ((a.drop (60*k)).take 60)=z3G a k):=Lib.hid rfl
      have hpgl:=q5V (a:=a) (k:=k) (by omega)
      have HSp:=Lib.hid (q9R a p k)
      have hpl:=q4O a p k (by omega)
      rw[HPg.out] at HSe
      generalize z3G a k=PG at*
      generalize z2H a p k=PB at*
      generalize (a.drop (60*k)).take 60=SG at*
      clear hbd hb HPg hll
      go_wp2_with fail
      refine (HSe.out _).mono ?_
      rintro e w5 ⟨rfl,hb⟩
      have HB5:=Lib.hid (HBk.out.trans hb)
      have HBd5:=Lib.hid (z4Y HBdk.out hb)
      clear hb
      go_wp2_with fail
      refine (Tryz.Builder_WriteString w.heap.size w.heap.size (Lib.byteCells PB) ⟨PG.toArray⟩ w5 HBd5.out (by rw[Lib.byteCells_length];show PB.length+PG.length≤_;omega) HB5.out.size).mono ?_
      rintro e w6 ⟨rfl,hbd,hb⟩
      have HB6:=Lib.hid (Below.trans (B:=w.heap.size) HB5.out hb)
      have HBd6:Hid (Lib.IsBuilder 328 5 w.heap.size w.heap.size (Lib.byteCells (z2H a p (k+1))) w6):=Lib.hid (.inr (by rw[HSp.out];unfold Lib.byteCells;rw[List.map_append];exact hbd))
      clear hb hbd
      go_wp2_with fail
      go_roundw
      case rel=>exact ⟨k+1,hlt,by go_num,HBd6.out,HB6.out⟩
      case measure=>simp[intOf];omega
    · have hd:decide (60*(k:Int)<(a.length:Int))=false:=by simp;omega
      have hkg:k=g:=by omega
      subst hkg
      have hpl:=q4O a p k (by omega)
      have HSt:=Lib.hid (Tryz.Builder_String w.heap.size w.heap.size (z2H a p k) wr hbd (fun h=>by rw[h] at hpl;simp at hpl))
      have HPl:=Lib.hid hpl
      generalize z2H a p k=PB at*
      clear hbd hb hpl hll
      go_wp2_with fail
      refine HSt.out.mono ?_
      rintro e w5 ⟨rfl,hb⟩
      have HB5:=Lib.hid (Below.trans (B:=w.heap.size) HBk.out hb)
      clear hb
      go_wp2_with fail
      go_ret
      exact ⟨_,rfl,HPl.out,HB5.out⟩
end Go.Proofs.YtmajfklnagdlpaaGreatDoor
