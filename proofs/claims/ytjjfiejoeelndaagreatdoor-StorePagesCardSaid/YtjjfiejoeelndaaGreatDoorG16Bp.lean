/- The shelf's contracts of strings.Builder and strings.Repeat at this seat, in plain words. -/
import Derived.Shelf.Strings.Builder1
import Derived.Shelf.Strings.Repeat
import Derived.Test.YtjjfiejoeelndaaGreatDoorProg
import Derived.Test.YtjjfiejoeelndaaGreatDoorG15Bp
set_option linter.unusedVariables false
set_option linter.unusedSimpArgs false
set_option maxRecDepth 100000
set_option maxHeartbeats 6400000
namespace Go.Proofs
open Go.Shelf
def Tryz.lays169_ren :Go.Shelf.Ren:=⟨fun|169=>261|n=>n,fun|70=>338|9=>9|0=>0|72=>340|37=>128|127=>354|3=>3|5=>5|n=>n,fun|n=>n⟩
theorem Tryz.lays169 :Go.Proofs.Lays.n169 Tryz.prog Tryz.lays169_ren:={
 mixed:=by kernel_rfl
 f169:=Tryz.func261.trans (congrArg some (by kernel_rfl))
 t0:=Tryz.underlying0
 a0:=Tryz.isAgg0
 z0:=Tryz.sizeOf0
 v0:=Tryz.zeroValue0
 t3:=Tryz.underlying3
 a3:=Tryz.isAgg3
 z3:=Tryz.sizeOf3
 v3:=Tryz.zeroValue3
 t9:=Tryz.underlying9
 a9:=Tryz.isAgg9
 z9:=Tryz.sizeOf9
 v9:=Tryz.zeroValue9
 t37:=Tryz.underlying128
 a37:=Tryz.isAgg128
 z37:=Tryz.sizeOf128
 v37:=Tryz.zeroValue128
 t70:=Tryz.underlying338
 a70:=Tryz.isAgg338
 z70:=Tryz.sizeOf338
 v70:=Tryz.zeroValue338
 t72:=Tryz.underlying340
 a72:=Tryz.isAgg340
 z72:=Tryz.sizeOf340
 v72:=Tryz.zeroValue340
 t127:=Tryz.underlying354
 a127:=Tryz.isAgg354
 z127:=Tryz.sizeOf354
 v127:=Tryz.zeroValue354}
theorem Tryz.Builder_Extra_169 :Builder.Extra Tryz.prog Tryz.lays169_ren:={
 sizeBuilder:=by kernel_rfl
 liesBuilder:=by kernel_rfl
 t5:=Tryz.underlying5
 a5:=Tryz.isAgg5
 z5:=Tryz.sizeOf5
 v5:=Tryz.zeroValue5
 infoByte:=by kernel_rfl
 cellsByte:=by kernel_rfl
 sizeByte:=by kernel_rfl
 neB5:=by decide}
open Go.RowKit in
theorem Tryz.Builder_String (B b:Nat) (l:List UInt8) (w:World) (h:Lib.IsBuilder 340 5 B b (Lib.byteCells l) w) (h0:l≠[]):
  Calls Tryz.prog 261 #[.pointer (some ⟨b,0,none⟩)] w fun e w'=>e= .returned (.string ⟨l.toArray⟩)∧Below B w w':=Any.Builder_String Tryz.lays169 Tryz.Builder_Extra_169 B b l w h h0
def Tryz.lays105_ren :Go.Shelf.Ren:=⟨fun|105=>263|212=>272|99=>152|165=>273|166=>260|170=>274|169=>261|263=>279|264=>280|206=>196|240=>270|241=>281|276=>278|277=>286|n=>n,fun|9=>9|3=>3|4=>4|20=>20|0=>0|46=>209|109=>355|5=>5|72=>340|76=>341|51=>276|146=>361|53=>23|148=>363|70=>338|37=>128|75=>132|127=>354|164=>359|80=>343|n=>n,fun|n=>n⟩
theorem Tryz.lays105 :Go.Proofs.Lays.n105 Tryz.prog Tryz.lays105_ren:={
 mixed:=by kernel_rfl
 f99:=Tryz.func152.trans (congrArg some (by kernel_rfl))
 f105:=Tryz.func263.trans (congrArg some (by kernel_rfl))
 f165:=Tryz.func273.trans (congrArg some (by kernel_rfl))
 f166:=Tryz.func260.trans (congrArg some (by kernel_rfl))
 f169:=Tryz.func261.trans (congrArg some (by kernel_rfl))
 f170:=Tryz.func274.trans (congrArg some (by kernel_rfl))
 f206:=Tryz.func196.trans (congrArg some (by kernel_rfl))
 f212:=Tryz.func272.trans (congrArg some (by kernel_rfl))
 f240:=Tryz.func270.trans (congrArg some (by kernel_rfl))
 f241:=Tryz.func281.trans (congrArg some (by kernel_rfl))
 f263:=Tryz.func279.trans (congrArg some (by kernel_rfl))
 f264:=Tryz.func280.trans (congrArg some (by kernel_rfl))
 f276:=Tryz.func278.trans (congrArg some (by kernel_rfl))
 f277:=Tryz.func286.trans (congrArg some (by kernel_rfl))
 t0:=Tryz.underlying0
 a0:=Tryz.isAgg0
 z0:=Tryz.sizeOf0
 v0:=Tryz.zeroValue0
 t3:=Tryz.underlying3
 a3:=Tryz.isAgg3
 z3:=Tryz.sizeOf3
 v3:=Tryz.zeroValue3
 t4:=Tryz.underlying4
 a4:=Tryz.isAgg4
 z4:=Tryz.sizeOf4
 v4:=Tryz.zeroValue4
 t5:=Tryz.underlying5
 a5:=Tryz.isAgg5
 z5:=Tryz.sizeOf5
 v5:=Tryz.zeroValue5
 t9:=Tryz.underlying9
 a9:=Tryz.isAgg9
 z9:=Tryz.sizeOf9
 v9:=Tryz.zeroValue9
 t20:=Tryz.underlying20
 a20:=Tryz.isAgg20
 z20:=Tryz.sizeOf20
 v20:=Tryz.zeroValue20
 t37:=Tryz.underlying128
 a37:=Tryz.isAgg128
 z37:=Tryz.sizeOf128
 v37:=Tryz.zeroValue128
 t46:=Tryz.underlying209
 a46:=Tryz.isAgg209
 z46:=Tryz.sizeOf209
 v46:=Tryz.zeroValue209
 t51:=Tryz.underlying276
 a51:=Tryz.isAgg276
 z51:=Tryz.sizeOf276
 v51:=Tryz.zeroValue276
 t53:=Tryz.underlying23
 a53:=Tryz.isAgg23
 z53:=Tryz.sizeOf23
 v53:=Tryz.zeroValue23
 t70:=Tryz.underlying338
 a70:=Tryz.isAgg338
 z70:=Tryz.sizeOf338
 v70:=Tryz.zeroValue338
 t72:=Tryz.underlying340
 a72:=Tryz.isAgg340
 z72:=Tryz.sizeOf340
 v72:=Tryz.zeroValue340
 t75:=Tryz.underlying132
 a75:=Tryz.isAgg132
 z75:=Tryz.sizeOf132
 v75:=Tryz.zeroValue132
 t76:=Tryz.underlying341
 a76:=Tryz.isAgg341
 z76:=Tryz.sizeOf341
 v76:=Tryz.zeroValue341
 t109:=Tryz.underlying355
 a109:=Tryz.isAgg355
 z109:=Tryz.sizeOf355
 v109:=Tryz.zeroValue355
 t127:=Tryz.underlying354
 a127:=Tryz.isAgg354
 z127:=Tryz.sizeOf354
 v127:=Tryz.zeroValue354
 t146:=Tryz.underlying361
 a146:=Tryz.isAgg361
 z146:=Tryz.sizeOf361
 v146:=Tryz.zeroValue361
 t148:=Tryz.underlying363
 a148:=Tryz.isAgg363
 z148:=Tryz.sizeOf363
 v148:=Tryz.zeroValue363
 t164:=Tryz.underlying359
 a164:=Tryz.isAgg359
 z164:=Tryz.sizeOf359
 v164:=Tryz.zeroValue359}
theorem Tryz.Builder_Extra_105 :Builder.Extra Tryz.prog Tryz.lays105_ren:={
 sizeBuilder:=by kernel_rfl
 liesBuilder:=by kernel_rfl
 t5:=Tryz.underlying5
 a5:=Tryz.isAgg5
 z5:=Tryz.sizeOf5
 v5:=Tryz.zeroValue5
 infoByte:=by kernel_rfl
 cellsByte:=by kernel_rfl
 sizeByte:=by kernel_rfl
 neB5:=by decide}
open Go.RowKit Go.Lib in
theorem Tryz.strings_Repeat (s:ByteArray) (c:Nat) (w:World) (hc:c≤9223372036854775807) (hlen:s.size*c≤140737488355328):
  Calls Tryz.prog 263 #[.string s,.int .i64 c] w fun e w'=>e= .returned (.string ⟨(Lib.repeatL s.data.toList c).toArray⟩)∧Below w.heap.size w w':=Any.strings_Repeat Tryz.lays105 Tryz.Builder_Extra_105 s c w hc hlen
open Go.RowKit in
theorem Tryz.Builder_WriteString (B b:Nat) (bs:List Value) (s:ByteArray) (w:World) (h:Lib.IsBuilder 340 5 B b bs w) (hlen:bs.length+s.size≤140737488355328) (hBw:B≤w.heap.size):
  Calls Tryz.prog 260 #[.pointer (some ⟨b,0,none⟩),.string s] w fun e w'=>e= .returned (.tuple #[.int .i64 s.size,.nilIface])∧(Lib.BuilderAt 340 5 B b (.pointer (some ⟨b,0,none⟩)) (bs++Lib.strCells s) w'∧Below B w w'):=Any.Builder_WriteString {Tryz.lays105 with} Tryz.Builder_Extra_105 B b bs s w h hlen hBw
end Go.Proofs
namespace Go.Proofs.YtjjfiejoeelndaaGreatDoor
theorem η16 {p:Prop} (h:p):Go.RowKit.Hid p:=Lib.hid h
open Go.RowKit
def z1o (s p:Int):Bool:=decide (0<s∧s≤120000∧s % 60=0∧1≤p∧p≤16)
theorem y3K (s p:Int) (w:World) (hs:0≤s) (hs9:s≤4294967295):Calls Tryz.prog 236 #[.int .i64 s,.int .i64 p] w fun r w'=>r= .returned (.bool (z1o s p))∧w=w':=by
 have e1:Int.tmod s 60=s % 60:=Int.tmod_eq_emod_of_nonneg hs;have e2:IntKind.i64.wrap (s % 60)=s % 60:=by rw[IntKind.wrap_i64];omega
 by_cases h1:0<s
 case neg=>
  have HV:Hid (z1o s p=false):=η16 (by unfold z1o;rw[decide_eq_false];omega);have d1:decide (0<s)=false:=by simpa using h1
  go_enter Tryz.func236,Tryz.ntmps236;go_wp2_with fail;go_ret;exact ⟨rb HV.out,rfl⟩
 have d1:decide (0<s)=true:=by simpa using h1
 by_cases h2:s≤120000
 case neg=>
  have HV:Hid (z1o s p=false):=η16 (by unfold z1o;rw[decide_eq_false];omega);have d2:decide (s≤120000)=false:=by simpa using h2
  go_enter Tryz.func236,Tryz.ntmps236;go_wp2_with fail;go_ret;exact ⟨rb HV.out,rfl⟩
 have d2:decide (s≤120000)=true:=by simpa using h2
 by_cases h3:s % 60=0
 case neg=>
  have HV:Hid (z1o s p=false):=η16 (by unfold z1o;rw[decide_eq_false];omega);have d3:(s % 60==0)=false:=by simpa using h3
  go_enter Tryz.func236,Tryz.ntmps236;go_wp2_with fail;go_ret;exact ⟨rb HV.out,rfl⟩
 have d3:(s % 60==0)=true:=by simpa using h3
 by_cases h4:1≤p
 case neg=>
  have HV:Hid (z1o s p=false):=η16 (by unfold z1o;rw[decide_eq_false];omega);have d4:decide (1≤p)=false:=by simpa using h4
  go_enter Tryz.func236,Tryz.ntmps236;go_wp2_with fail;go_ret;exact ⟨rb HV.out,rfl⟩
 have d4:decide (1≤p)=true:=by simpa using h4
 by_cases h5:p≤16
 case neg=>
  have HV:Hid (z1o s p=false):=η16 (by unfold z1o;rw[decide_eq_false];omega);have d5:decide (p≤16)=false:=by simpa using h5
  go_enter Tryz.func236,Tryz.ntmps236;go_wp2_with fail;go_ret;exact ⟨rb HV.out,rfl⟩
 have d5:decide (p≤16)=true:=by simpa using h5
 have HV:Hid (z1o s p=true):=η16 (by unfold z1o;rw[decide_eq_true];omega);go_enter Tryz.func236,Tryz.ntmps236;go_wp2_with fail;go_ret;exact ⟨rb HV.out,rfl⟩
def pad52 :List UInt8:=Lib.repeatL [0] 52
theorem q7H :pad52.length=52:=by unfold pad52;rw[Lib.repeatL_length];rfl
def z0V (s p:Nat):List UInt8:=q1O ((([98,108,109]++be 1 p)++be 4 s)++pad52)
theorem q7R (s p:Nat):(z0V s p).length=64:=by
 unfold z0V;rw[q0m];simp[q0I,q7H]
theorem y4O (w:World):Calls Tryz.prog 263 #[.string ⟨#[0]⟩,.int .i64 52] w fun e w'=>e= .returned (.string ⟨pad52.toArray⟩)∧Ext w w':=
 Tryz.strings_Repeat ⟨#[0]⟩ 52 w (by omega) (by show 1*52≤_;omega)
theorem y0m (s p:Nat) (w:World) (hs:s≤4294967295) (hp:p≤255):Calls Tryz.prog 237 #[.int .i64 (s:Int),.int .i64 (p:Int)] w fun e w'=>e= .returned (.string ⟨(z0V s p).toArray⟩)∧Ext w w':=by
 have P1:=η16 (fun W=>q7e (p:Int) 1 W (by omega) (by omega) (by omega) (by omega));have P2:=η16 (fun W=>q7e (s:Int) 4 W (by omega) (by omega) (by omega) (by omega));rw[show ((p:Int)).toNat=p by omega] at P1;rw[show ((s:Int)).toNat=s by omega] at P2;have e1:IntKind.u64.wrap (p:Int)=(p:Int):=by rw[IntKind.wrap_u64];omega
 have e2:IntKind.u64.wrap (s:Int)=(s:Int):=by rw[IntKind.wrap_u64];omega
 have l1:=q0I 1 p;have l2:=q0I 4 s;have HH:Hid (z0V s p=q1O ((([98,108,109]++be 1 p)++be 4 s)++pad52)):=η16 rfl;obtain ⟨A,hA⟩: ∃A,be 1 p=A:=⟨_,rfl⟩
 obtain ⟨B,hB⟩: ∃B,be 4 s=B:=⟨_,rfl⟩
 rw[hA] at l1 P1 HH;rw[hB] at l2 P2 HH;obtain ⟨H,hH⟩: ∃H,z0V s p=H:=⟨_,rfl⟩
 rw[hH] at HH;rw[hH];have hp5:=q7H;have HPd:=η16 (fun W=>y4O W);obtain ⟨Z,hZ⟩: ∃Z,pad52=Z:=⟨_,rfl⟩
 rw[hZ] at HH hp5 HPd;have HSe:=η16 (fun W=>q9t ((([98,108,109]++A)++B)++Z) W (by simp;omega));clear hA hB hH hZ;go_enter Tryz.func237,Tryz.ntmps237;have q1:¬(9223372036854775807<(3:Nat)+A.length):=by omega
 have q2:¬(9223372036854775807<(3:Nat)+A.length+B.length):=by omega
 have q3:¬(9223372036854775807<(3:Nat)+A.length+B.length+Z.length):=by omega
 have e3:IntKind.i64.wrap (60-((3:Int)+(A.length:Int)+(B.length:Int)))=52:=by rw[l1,l2];kernel_rfl
 go_wp2_with fail;refine (P1.out _).mono ?_;rintro e w1 ⟨rfl,hb⟩;have HB1:=η16 hb;clear hb;go_wp2_with fail;refine (P2.out _).mono ?_;rintro e w2 ⟨rfl,hb⟩;have HB2:=η16 (HB1.out.trans hb);clear hb;go_wp2_with fail;refine (HPd.out _).mono ?_;rintro e w3 ⟨rfl,hb⟩;have HB3:=η16 (HB2.out.trans hb);clear hb;go_wp2_with fail;have hc:(((⟨#[98,108,109]⟩:ByteArray)++⟨A.toArray⟩)++⟨B.toArray⟩)++⟨Z.toArray⟩=⟨((([98,108,109]++A)++B)++Z).toArray⟩:=by
  rw[show ((⟨#[98,108,109]⟩:ByteArray)++⟨A.toArray⟩)=⟨([98,108,109]++A).toArray⟩ from q3k [98,108,109] A,q3k,q3k]
 rw[hc];refine (HSe.out _).mono ?_;rintro e w4 ⟨rfl,hb⟩;have HB4:=η16 (HB3.out.trans hb);clear hb;go_wp2_with fail;go_ret;exact ⟨by rw[HH.out,show (([98,108,109]:List UInt8)++A++B++Z)=98::108::109::(A++(B++Z)) by simp];rfl,HB4.out⟩
theorem z3Y (w:World):Lib.IsBuilder 340 5 w.heap.size w.heap.size [] (w.alloc (.cells #[.pointer none,.slice none 0 0] 340)):=
 .inl ⟨Nat.le_refl _,_,heap_alloc_new w _,World.ownsRow_nil _ _ _ _,by simp[Value.ownBlock]⟩
theorem z8I {T e:TypeId} {B b:Nat} {bs:List Value} {w w':World} (h:Lib.IsBuilder T e B b bs w) (k:Ext w w'):Lib.IsBuilder T e B b bs w':=by
 have f: ∀q,Lib.BuilderAt T e B b q bs w→Lib.BuilderAt T e B b q bs w':=fun q ⟨h1,v,h2,h3,h4⟩=>
  ⟨h1,v,(k.block b (Array.getElem?_eq_some_iff.1 h2).1).trans h2,q0J h3 k,h4⟩
 exact h.elim (fun x=> .inl (f _ x)) (fun x=> .inr (f _ x))
def z5m (a:List UInt8) (k:Nat):List UInt8:=q1O ((a.drop (60*k)).take 60)
theorem q7U {a:List UInt8} {k:Nat} (h:60*(k+1)≤a.length):(z5m a k).length=64:=by
 unfold z5m;rw[q0m,List.length_take,List.length_drop];omega
def z6P (a:List UInt8) (p k:Nat):List UInt8:=z0V a.length p++((List.range k).map (z5m a)).flatten
theorem z1j (a:List UInt8) (p k:Nat):z6P a p (k+1)=z6P a p k++z5m a k:=by
 unfold z6P;rw[List.range_succ];simp
theorem q5w (a:List UInt8) (p:Nat): ∀k,60*k≤a.length→(z6P a p k).length=64*(k+1)
 |0,_=>by unfold z6P;simp[q7R]
 |k+1,h=>by rw[z1j,List.length_append,q5w a p k (by omega),q7U h];omega
theorem y3O (a:List UInt8) (p g:Nat) (w:World) (hl:a.length=60*g) (hg:1≤g) (hg9:g≤1000) (hp:1≤p) (hp9:p≤16):
  Calls Tryz.prog 233 #[.string ⟨a.toArray⟩,.int .i64 (p:Int)] w fun e w'=> ∃s:List UInt8,e= .returned (.string ⟨s.toArray⟩)∧s.length=64*(g+1)∧Ext w w':=by
 have HL:=η16 hl;have hm:z1o (a.length:Int) (p:Int)=true:=by unfold z1o;rw[decide_eq_true];omega
 have HM:=η16 (fun W=>y3K (a.length:Int) (p:Int) W (by omega) (by omega));rw[hm] at HM;have HH:=η16 (fun W=>y0m a.length p W (by omega) (by omega));have hal:a.length≤60000:=by omega
 have hBn:=η16 (z3Y w);have HX0:=η16 (q0D w (.cells #[.pointer none,.slice none 0 0] 340));clear hl hm;go_enter Tryz.func233,Tryz.ntmps233;go_wp2_with fail;refine (HM.out _).mono ?_;rintro e w1 ⟨rfl,rfl⟩;clear HM;go_wp2_with fail;refine (HH.out _).mono ?_;rintro e w2 ⟨rfl,hb⟩;have HB2:=η16 (HX0.out.trans hb);have HBd:=η16 (z8I hBn.out hb);clear hb HH;have hhl:=q7R a.length p;have HP0:Hid (z6P a p 0=z0V a.length p):=η16 (by unfold z6P;simp);generalize z0V a.length p=H at*;go_wp2_with fail;refine (Tryz.Builder_WriteString w.heap.size w.heap.size [] ⟨H.toArray⟩ w2 HBd.out (by show 0+H.length≤_;omega) HB2.out.size).mono ?_;rintro e w3 ⟨rfl,hbd,hb⟩;have HB3:=η16 (Below.trans (B:=w.heap.size) HB2.out hb);have HBd3:Hid (Lib.IsBuilder 340 5 w.heap.size w.heap.size (Lib.byteCells (z6P a p 0)) w3):=η16 (.inr (by rw[HP0.out];exact hbd));clear hb hbd;go_wp2_with fail
 go_loopw [6] (fun i W=> ∃k:Nat,k≤g∧i= .int .i64 (60*(k:Int))∧Lib.IsBuilder 340 5 w.heap.size w.heap.size (Lib.byteCells (z6P a p k)) W∧Ext w W) (fun i _=>60*g-(intOf i).toNat)
 case atStart=>exact ⟨0,Nat.zero_le _,rfl,HBd3.out,HB3.out⟩
 case round=>
  obtain ⟨k,hk,rfl,hbd,hb⟩:=hrel;have HBk:=η16 hb;have HBdk:=η16 hbd;have hll:=HL.out;by_cases hlt:k<g
  ·have hd:decide (60*(k:Int)<(a.length:Int))=true:=by simp;omega
   have e1:IntKind.i64.wrap (60*(k:Int)+60)=60*(k:Int)+60:=by rw[IntKind.wrap_i64];omega
   have hsl:=q2w a (60*(k:Int)) (60*(k:Int)+60) (60*k) (60*k+60) (by push_cast;rfl) (by push_cast;rfl) (by omega) (by omega) (X:=(a.drop (60*k)).take 60) (by rw[List.drop_take];congr 1;omega);have HSe:=η16 (fun W=>q9t ((a.drop (60*k)).take 60) W (by rw[List.length_take];omega));have HPg:Hid (q1O ((a.drop (60*k)).take 60)=z5m a k):=η16 rfl;have hpgl:=q7U (a:=a) (k:=k) (by omega);have HSp:=η16 (z1j a p k);have hpl:=q5w a p k (by omega);rw[HPg.out] at HSe;generalize z5m a k=PG at*;generalize z6P a p k=PB at*;generalize (a.drop (60*k)).take 60=SG at*;clear hbd hb HPg hll;go_wp2_with fail;refine (HSe.out _).mono ?_;rintro e w5 ⟨rfl,hb⟩;have HB5:=η16 (HBk.out.trans hb);have HBd5:=η16 (z8I HBdk.out hb);clear hb;go_wp2_with fail;refine (Tryz.Builder_WriteString w.heap.size w.heap.size (Lib.byteCells PB) ⟨PG.toArray⟩ w5 HBd5.out (by rw[Lib.byteCells_length];show PB.length+PG.length≤_;omega) HB5.out.size).mono ?_
   rintro e w6 ⟨rfl,hbd,hb⟩;have HB6:=η16 (Below.trans (B:=w.heap.size) HB5.out hb);have HBd6:Hid (Lib.IsBuilder 340 5 w.heap.size w.heap.size (Lib.byteCells (z6P a p (k+1))) w6):=η16 (.inr (by rw[HSp.out];unfold Lib.byteCells;rw[List.map_append];exact hbd));clear hb hbd;go_wp2_with fail
   go_roundw
   case rel=>exact ⟨k+1,hlt,by go_num,HBd6.out,HB6.out⟩
   case measure=>simp[intOf];omega
  ·have hd:decide (60*(k:Int)<(a.length:Int))=false:=by simp;omega
   have hkg:k=g:=by omega
   subst hkg;have hpl:=q5w a p k (by omega);have HSt:=η16 (Tryz.Builder_String w.heap.size w.heap.size (z6P a p k) wr hbd (fun h=>by rw[h] at hpl;simp at hpl));have HPl:=η16 hpl;generalize z6P a p k=PB at*;clear hbd hb hpl hll;go_wp2_with fail;refine HSt.out.mono ?_;rintro e w5 ⟨rfl,hb⟩;have HB5:=η16 (Below.trans (B:=w.heap.size) HBk.out hb);clear hb;go_wp2_with fail;go_ret;exact ⟨_,rfl,HPl.out,HB5.out⟩
end Go.Proofs.YtjjfiejoeelndaaGreatDoor
