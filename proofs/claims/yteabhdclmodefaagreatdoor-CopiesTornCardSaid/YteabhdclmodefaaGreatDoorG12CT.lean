/- The shelf's contracts of strings.Builder and strings.Repeat at this seat, in plain words. -/
import Derived.Shelf.Strings.Builder1
import Derived.Shelf.Strings.Repeat
import Derived.Test.YteabhdclmodefaaGreatDoorProg
import Derived.Test.YteabhdclmodefaaGreatDoorG11CT
set_option linter.unusedVariables false
set_option linter.unusedSimpArgs false
set_option maxRecDepth 100000
set_option maxHeartbeats 6400000
namespace Go.Proofs
open Go.Shelf
def Tryz.lays169_ren :Go.Shelf.Ren:=⟨fun|169=>35|n=>n,fun|70=>84|9=>9|0=>0|72=>86|37=>31|127=>150|3=>3|5=>5|n=>n,fun|n=>n⟩
theorem Tryz.lays169 :Go.Proofs.Lays.n169 Tryz.prog Tryz.lays169_ren:={
 mixed:=by kernel_rfl
 f169:=Tryz.func35.trans (congrArg some (by kernel_rfl))
 t0:=Tryz.underlying0
 a0:=Tryz.isAgg0
 z0:=Tryz.sizeOf0
 v0:=Tryz.zeroValue0
 t3:=Tryz.underlying3
 a3:=Tryz.isAgg3
 z3:=Tryz.sizeOf3
 v3:=Tryz.zeroValue3
 t9:=Tryz.underlying9
 a9:=Tryz.isAgg9
 z9:=Tryz.sizeOf9
 v9:=Tryz.zeroValue9
 t37:=Tryz.underlying31
 a37:=Tryz.isAgg31
 z37:=Tryz.sizeOf31
 v37:=Tryz.zeroValue31
 t70:=Tryz.underlying84
 a70:=Tryz.isAgg84
 z70:=Tryz.sizeOf84
 v70:=Tryz.zeroValue84
 t72:=Tryz.underlying86
 a72:=Tryz.isAgg86
 z72:=Tryz.sizeOf86
 v72:=Tryz.zeroValue86
 t127:=Tryz.underlying150
 a127:=Tryz.isAgg150
 z127:=Tryz.sizeOf150
 v127:=Tryz.zeroValue150}
theorem Tryz.Builder_Extra_169 :Builder.Extra Tryz.prog Tryz.lays169_ren:={
 sizeBuilder:=by kernel_rfl
 liesBuilder:=by kernel_rfl
 t5:=Tryz.underlying5
 a5:=Tryz.isAgg5
 z5:=Tryz.sizeOf5
 v5:=Tryz.zeroValue5
 infoByte:=by kernel_rfl
 cellsByte:=by kernel_rfl
 sizeByte:=by kernel_rfl
 neB5:=by decide}
open Go.RowKit in
theorem Tryz.Builder_String(B b:Nat)(l:List UInt8)(w:World)(h:Lib.IsBuilder 86 5 B b (Lib.byteCells l) w)(d:l≠[]):
  Calls Tryz.prog 35 #[.pointer (some ⟨b,0,none⟩)] w fun e w'=>e= .returned (.string ⟨l.toArray⟩)/\Below B w w':=Any.Builder_String Tryz.lays169 Tryz.Builder_Extra_169 B b l w h d
def Tryz.lays105_ren :Go.Shelf.Ren:=⟨fun|105=>280|212=>288|99=>147|165=>289|166=>28|170=>290|169=>35|263=>297|264=>298|206=>130|240=>77|241=>299|276=>127|277=>301|n=>n,fun|9=>9|3=>3|4=>4|20=>20|0=>0|46=>151|109=>353|5=>5|72=>86|76=>89|51=>148|146=>364|53=>41|148=>366|70=>84|37=>31|75=>88|127=>150|164=>197|80=>95|n=>n,fun|n=>n⟩
theorem Tryz.lays105 :Go.Proofs.Lays.n105 Tryz.prog Tryz.lays105_ren:={
 mixed:=by kernel_rfl
 f99:=Tryz.func147.trans (congrArg some (by kernel_rfl))
 f105:=Tryz.func280.trans (congrArg some (by kernel_rfl))
 f165:=Tryz.func289.trans (congrArg some (by kernel_rfl))
 f166:=Tryz.func28.trans (congrArg some (by kernel_rfl))
 f169:=Tryz.func35.trans (congrArg some (by kernel_rfl))
 f170:=Tryz.func290.trans (congrArg some (by kernel_rfl))
 f206:=Tryz.func130.trans (congrArg some (by kernel_rfl))
 f212:=Tryz.func288.trans (congrArg some (by kernel_rfl))
 f240:=Tryz.func77.trans (congrArg some (by kernel_rfl))
 f241:=Tryz.func299.trans (congrArg some (by kernel_rfl))
 f263:=Tryz.func297.trans (congrArg some (by kernel_rfl))
 f264:=Tryz.func298.trans (congrArg some (by kernel_rfl))
 f276:=Tryz.func127.trans (congrArg some (by kernel_rfl))
 f277:=Tryz.func301.trans (congrArg some (by kernel_rfl))
 t0:=Tryz.underlying0
 a0:=Tryz.isAgg0
 z0:=Tryz.sizeOf0
 v0:=Tryz.zeroValue0
 t3:=Tryz.underlying3
 a3:=Tryz.isAgg3
 z3:=Tryz.sizeOf3
 v3:=Tryz.zeroValue3
 t4:=Tryz.underlying4
 a4:=Tryz.isAgg4
 z4:=Tryz.sizeOf4
 v4:=Tryz.zeroValue4
 t5:=Tryz.underlying5
 a5:=Tryz.isAgg5
 z5:=Tryz.sizeOf5
 v5:=Tryz.zeroValue5
 t9:=Tryz.underlying9
 a9:=Tryz.isAgg9
 z9:=Tryz.sizeOf9
 v9:=Tryz.zeroValue9
 t20:=Tryz.underlying20
 a20:=Tryz.isAgg20
 z20:=Tryz.sizeOf20
 v20:=Tryz.zeroValue20
 t37:=Tryz.underlying31
 a37:=Tryz.isAgg31
 z37:=Tryz.sizeOf31
 v37:=Tryz.zeroValue31
 t46:=Tryz.underlying151
 a46:=Tryz.isAgg151
 z46:=Tryz.sizeOf151
 v46:=Tryz.zeroValue151
 t51:=Tryz.underlying148
 a51:=Tryz.isAgg148
 z51:=Tryz.sizeOf148
 v51:=Tryz.zeroValue148
 t53:=Tryz.underlying41
 a53:=Tryz.isAgg41
 z53:=Tryz.sizeOf41
 v53:=Tryz.zeroValue41
 t70:=Tryz.underlying84
 a70:=Tryz.isAgg84
 z70:=Tryz.sizeOf84
 v70:=Tryz.zeroValue84
 t72:=Tryz.underlying86
 a72:=Tryz.isAgg86
 z72:=Tryz.sizeOf86
 v72:=Tryz.zeroValue86
 t75:=Tryz.underlying88
 a75:=Tryz.isAgg88
 z75:=Tryz.sizeOf88
 v75:=Tryz.zeroValue88
 t76:=Tryz.underlying89
 a76:=Tryz.isAgg89
 z76:=Tryz.sizeOf89
 v76:=Tryz.zeroValue89
 t109:=Tryz.underlying353
 a109:=Tryz.isAgg353
 z109:=Tryz.sizeOf353
 v109:=Tryz.zeroValue353
 t127:=Tryz.underlying150
 a127:=Tryz.isAgg150
 z127:=Tryz.sizeOf150
 v127:=Tryz.zeroValue150
 t146:=Tryz.underlying364
 a146:=Tryz.isAgg364
 z146:=Tryz.sizeOf364
 v146:=Tryz.zeroValue364
 t148:=Tryz.underlying366
 a148:=Tryz.isAgg366
 z148:=Tryz.sizeOf366
 v148:=Tryz.zeroValue366
 t164:=Tryz.underlying197
 a164:=Tryz.isAgg197
 z164:=Tryz.sizeOf197
 v164:=Tryz.zeroValue197}
theorem Tryz.Builder_Extra_105 :Builder.Extra Tryz.prog Tryz.lays105_ren:={
 sizeBuilder:=by kernel_rfl
 liesBuilder:=by kernel_rfl
 t5:=Tryz.underlying5
 a5:=Tryz.isAgg5
 z5:=Tryz.sizeOf5
 v5:=Tryz.zeroValue5
 infoByte:=by kernel_rfl
 cellsByte:=by kernel_rfl
 sizeByte:=by kernel_rfl
 neB5:=by decide}
open Go.RowKit Go.Lib in
theorem Tryz.strings_Repeat(s:ByteArray)(c:Nat)(w:World)(hc:c<=9223372036854775807)(b:s.size*c<=140737488355328):
  Calls Tryz.prog 280 #[.string s,.int .i64 c] w fun e w'=>e= .returned (.string ⟨(Lib.repeatL s.data.toList c).toArray⟩)/\Below w.heap.size w w':=Any.strings_Repeat Tryz.lays105 Tryz.Builder_Extra_105 s c w hc b
open Go.RowKit in
theorem Tryz.Builder_WriteString(B b:Nat)(i:List Value)(s:ByteArray)(w:World)(h:Lib.IsBuilder 86 5 B b i w)(d:i.length+s.size<=140737488355328)(j:B<=w.heap.size):
  Calls Tryz.prog 28 #[.pointer (some ⟨b,0,none⟩),.string s] w fun e w'=>e= .returned (.tuple #[.int .i64 s.size,.nilIface])/\(Lib.BuilderAt 86 5 B b (.pointer (some ⟨b,0,none⟩)) (i++Lib.strCells s) w'/\Below B w w'):=Any.Builder_WriteString {Tryz.lays105 with} Tryz.Builder_Extra_105 B b i s w h d j
end Go.Proofs
namespace Go.Proofs.YteabhdclmodefaaGreatDoor
open Go.RowKit
def z2l(s p:Int):Bool:=decide (0<s/\s<=120000/\s % 60=0/\1<=p/\p<=16)
theorem y4C(s p:Int)(w:World)(u:0<=s)(v:s<=4294967295):Calls Tryz.prog 264 #[.int .i64 s,.int .i64 p] w fun r w'=>r= .returned (.bool (z2l s p))/\w=w':=by
 have x:Int.tmod s 60=s % 60:=Int.tmod_eq_emod_of_nonneg u;have y:IntKind.i64.wrap (s % 60)=s % 60:=by rw[ν];omega
 by_cases h1:0<s
 case neg=>
  have b:Hd (z2l s p=false):=η (by unfold z2l;rw[ε];omega);have i:decide (0<s)=false:=by simpa using h1
  go_enter Tryz.func264,Tryz.ntmps264;go_wp2_with fail;go_ret;exact⟨rb b.o,rfl⟩
 have i:decide (0<s)=true:=by simpa using h1
 by_cases h2:s<=120000
 case neg=>
  have b:Hd (z2l s p=false):=η (by unfold z2l;rw[ε];omega);have j:decide (s<=120000)=false:=by simpa using h2
  go_enter Tryz.func264,Tryz.ntmps264;go_wp2_with fail;go_ret;exact⟨rb b.o,rfl⟩
 have j:decide (s<=120000)=true:=by simpa using h2
 by_cases h3:s % 60=0
 case neg=>
  have b:Hd (z2l s p=false):=η (by unfold z2l;rw[ε];omega);have l:(s % 60==0)=false:=by simpa using h3
  go_enter Tryz.func264,Tryz.ntmps264;go_wp2_with fail;go_ret;exact⟨rb b.o,rfl⟩
 have l:(s % 60==0)=true:=by simpa using h3
 by_cases h4:1<=p
 case neg=>
  have b:Hd (z2l s p=false):=η (by unfold z2l;rw[ε];omega);have m:decide (1<=p)=false:=by simpa using h4
  go_enter Tryz.func264,Tryz.ntmps264;go_wp2_with fail;go_ret;exact⟨rb b.o,rfl⟩
 have m:decide (1<=p)=true:=by simpa using h4
 by_cases d:p<=16
 case neg=>
  have b:Hd (z2l s p=false):=η (by unfold z2l;rw[ε];omega);have q:decide (p<=16)=false:=by simpa using d
  go_enter Tryz.func264,Tryz.ntmps264;go_wp2_with fail;go_ret;exact⟨rb b.o,rfl⟩
 have q:decide (p<=16)=true:=by simpa using d
 have b:Hd (z2l s p=true):=η (by unfold z2l;rw[ζ];omega);go_enter Tryz.func264,Tryz.ntmps264;go_wp2_with fail;go_ret;exact⟨rb b.o,rfl⟩
def pad52 :List UInt8:=Lib.repeatL [0] 52
theorem q7m :pad52.length=52:=by unfold pad52;rw[Lib.repeatL_length];rfl
def z1M(s p:Nat):List UInt8:=q0T ((([98,108,109]++be 1 p)++be 4 s)++pad52)
theorem q7i(s p:Nat):(z1M s p).length=64:=by
 unfold z1M;rw[q0d];simp[q0F,q7m]
theorem y5O(w:World):Calls Tryz.prog 280 #[.string ⟨#[0]⟩,.int .i64 52] w fun e w'=>e= .returned (.string ⟨pad52.toArray⟩)/\Ext w w':=
 Tryz.strings_Repeat ⟨#[0]⟩ 52 w (by omega) (by show 1*52<=_;omega)
theorem y1m(s p:Nat)(w:World)(O:s<=4294967295)(N:p<=255):Calls Tryz.prog 265 #[.int .i64 (s:Int),.int .i64 (p:Int)] w fun e w'=>e= .returned (.string ⟨(z1M s p).toArray⟩)/\Ext w w':=by
 have u:=η (fun W=>q8B (p:Int) 1 W (by omega) (by omega) (by omega) (by omega));have v:=η (fun W=>q8B (s:Int) 4 W (by omega) (by omega) (by omega) (by omega));rw[show((p:Int)).toNat=p by omega] at u;rw[show((s:Int)).toNat=s by omega] at v;have I:IntKind.u64.wrap (p:Int)=(p:Int):=by rw[IntKind.wrap_u64];omega
 have J:IntKind.u64.wrap (s:Int)=(s:Int):=by rw[IntKind.wrap_u64];omega
 have F:=q0F 1 p;have G:=q0F 4 s;have d:Hd (z1M s p=q0T ((([98,108,109]++be 1 p)++be 4 s)++pad52)):=η rfl;obtain⟨A,C⟩: ∃A,be 1 p=A:=⟨_,rfl⟩
 obtain⟨B,D⟩: ∃B,be 4 s=B:=⟨_,rfl⟩
 rw[C] at F u d;rw[D] at G v d;obtain⟨H,x⟩: ∃H,z1M s p=H:=⟨_,rfl⟩
 rw[x] at d;rw[x];have y:=q7m;have i:=η (fun W=>y5O W);obtain⟨Z,E⟩: ∃Z,pad52=Z:=⟨_,rfl⟩
 rw[E] at d y i;have r:=η (fun W=>q9S ((([98,108,109]++A)++B)++Z) W (by simp;omega));clear C D x E;go_enter Tryz.func265,Tryz.ntmps265;have Q:¬(9223372036854775807<(3:Nat)+A.length):=by omega
 have R:¬(9223372036854775807<(3:Nat)+A.length+B.length):=by omega
 have S:¬(9223372036854775807<(3:Nat)+A.length+B.length+Z.length):=by omega
 have M:IntKind.i64.wrap (60-((3:Int)+(A.length:Int)+(B.length:Int)))=52:=by rw[F,G];kernel_rfl
 go_wp2_with fail;refine(u.o _).mono ?_;rintro e w1 ⟨rfl,b⟩;have j:=η b;clear b;go_wp2_with fail;refine(v.o _).mono ?_;rintro e U ⟨rfl,b⟩;have l:=η (j.o.trans b);clear b;go_wp2_with fail;refine(i.o _).mono ?_;rintro e V ⟨rfl,b⟩;have m:=η (l.o.trans b);clear b;go_wp2_with fail;have hc:(((⟨#[98,108,109]⟩:ByteArray)++⟨A.toArray⟩)++⟨B.toArray⟩)++⟨Z.toArray⟩=⟨((([98,108,109]++A)++B)++Z).toArray⟩:=by
  rw[show((⟨#[98,108,109]⟩:ByteArray)++⟨A.toArray⟩)=⟨([98,108,109]++A).toArray⟩ from q2B [98,108,109] A,q2B,q2B]
 rw[hc];refine(r.o _).mono ?_;rintro e X ⟨rfl,b⟩;have q:=η (m.o.trans b);clear b;go_wp2_with fail;go_ret;exact⟨by rw[d.o,show(([98,108,109]:List UInt8)++A++B++Z)=98::108::109::(A++(B++Z)) by simp];rfl,q.o⟩
theorem z3l(w:World):Lib.IsBuilder 86 5 w.heap.size w.heap.size [] (w.alloc (.cells #[.pointer none,.slice none 0 0] 86)):=
 .inl ⟨ι _,_,heap_alloc_new w _,World.ownsRow_nil _ _ _ _,by simp[Value.ownBlock]⟩
theorem z8d{T e:TypeId}{B b:Nat}{d:List Value}{w w':World}(h:Lib.IsBuilder T e B b d w)(k:Ext w w'):Lib.IsBuilder T e B b d w':=by
 have f: ∀q,Lib.BuilderAt T e B b q d w->Lib.BuilderAt T e B b q d w':=fun q ⟨h1,v,h2,h3,h4⟩=>
  ⟨h1,v,(k.block b (Array.getElem?_eq_some_iff.1 h2).1).trans h2,q0I h3 k,h4⟩
 exact h.elim (fun x=> .inl (f _ x)) (fun x=> .inr (f _ x))
def z6t(a:List UInt8)(k:Nat):List UInt8:=q0T ((a.drop (60*k)).take 60)
theorem q7n{a:List UInt8}{k:Nat}(h:60*(k+1)<=a.length):(z6t a k).length=64:=by
 unfold z6t;rw[q0d,Θ,List.length_drop];omega
def z6w(a:List UInt8)(p k:Nat):List UInt8:=z1M a.length p++((List.range k).map (z6t a)).flatten
theorem z2y(a:List UInt8)(p k:Nat):z6w a p (k+1)=z6w a p k++z6t a k:=by
 unfold z6w;rw[List.range_succ];simp
theorem q6E(a:List UInt8)(p:Nat): ∀k,60*k<=a.length->(z6w a p k).length=64*(k+1)
 |0,_=>by unfold z6w;simp[q7i]
 |k+1,h=>by rw[z2y,θ,q6E a p k (by omega),q7n h];omega
theorem y4W(a:List UInt8)(p g:Nat)(w:World)(Y:a.length=60*g)(hg:1<=g)(b0:g<=1000)(hp:1<=p)(d0:p<=16):
  Calls Tryz.prog 271 #[.string ⟨a.toArray⟩,.int .i64 (p:Int)] w fun e w'=> ∃s:List UInt8,e= .returned (.string ⟨s.toArray⟩)/\s.length=64*(g+1)/\Ext w w':=by
 have HL:=η Y;have hm:z2l (a.length:Int) (p:Int)=true:=by unfold z2l;rw[ζ];omega
 have I:=η (fun W=>y4C (a.length:Int) (p:Int) W (by omega) (by omega));rw[hm] at I;have V:=η (fun W=>y1m a.length p W (by omega) (by omega));have a0:a.length<=60000:=by omega
 have R:=η (z3l w);have Q:=η (q0B w (.cells #[.pointer none,.slice none 0 0] 86));clear Y hm;go_enter Tryz.func271,Tryz.ntmps271;go_wp2_with fail;refine(I.o _).mono ?_;rintro e w1 ⟨rfl,rfl⟩;clear I;go_wp2_with fail;refine(V.o _).mono ?_;rintro e w2 ⟨rfl,d⟩;have m:=η (Q.o.trans d);have G:=η (z8d R.o d);clear d V;have c0:=q7i a.length p;have J:Hd (z6w a p 0=z1M a.length p):=η (by unfold z6w;simp);generalize z1M a.length p=H at*;go_wp2_with fail;refine(Tryz.Builder_WriteString w.heap.size w.heap.size [] ⟨H.toArray⟩ w2 G.o (by show 0+H.length<=_;omega) m.o.size).mono ?_;rintro e w3 ⟨rfl,b,d⟩;have E:=η (Below.trans (B:=w.heap.size) m.o d);have q:Hd (Lib.IsBuilder 86 5 w.heap.size w.heap.size (Lib.byteCells (z6w a p 0)) w3):=η (.inr (by rw[J.o];exact b));clear d b;go_wp2_with fail
 go_loopw [6] (fun i W=> ∃k:Nat,k<=g/\i= .int .i64 (60*(k:Int))/\Lib.IsBuilder 86 5 w.heap.size w.heap.size (Lib.byteCells (z6w a p k)) W/\Ext w W) (fun i _=>60*g-(intOf i).toNat)
 case atStart=>exact⟨0,υ _,rfl,q.o,E.o⟩
 case round=>
  obtain⟨k,hk,rfl,b,d⟩:=hrel;have x:=η d;have v:=η b;have D:=HL.o;by_cases U:k<g
  ·have hd:decide (60*(k:Int)<(a.length:Int))=true:=by simp;omega
   have e1:IntKind.i64.wrap (60*(k:Int)+60)=60*(k:Int)+60:=by rw[ν];omega
   have e0:=q3O a (60*(k:Int)) (60*(k:Int)+60) (60*k) (60*k+60) (by push_cast;rfl) (by push_cast;rfl) (by omega) (by omega) (X:=(a.drop (60*k)).take 60) (by rw[List.drop_take];congr 1;omega);have C:=η (fun W=>q9S ((a.drop (60*k)).take 60) W (by rw[Θ];omega));have y:Hd (q0T ((a.drop (60*k)).take 60)=z6t a k):=η rfl;have Z:=q7n (a:=a) (k:=k) (by omega);have N:=η (z2y a p k);have j:=q6E a p k (by omega);rw[y.o] at C;generalize z6t a k=PG at*;generalize z6w a p k=PB at*;generalize (a.drop (60*k)).take 60=SG at*;clear b d y D;go_wp2_with fail;refine(C.o _).mono ?_;rintro e w5 ⟨rfl,d⟩;have l:=η (x.o.trans d);have r:=η (z8d v.o d);clear d;go_wp2_with fail;refine(Tryz.Builder_WriteString w.heap.size w.heap.size (Lib.byteCells PB) ⟨PG.toArray⟩ w5 r.o (by rw[Lib.byteCells_length];show PB.length+PG.length<=_;omega) l.o.size).mono ?_;rintro e w6 ⟨rfl,b,d⟩;have F:=η (Below.trans (B:=w.heap.size) l.o d);have u:Hd (Lib.IsBuilder 86 5 w.heap.size w.heap.size (Lib.byteCells (z6w a p (k+1))) w6):=η (.inr (by rw[N.o];unfold Lib.byteCells;rw[List.map_append];exact b));clear d b;go_wp2_with fail
   go_roundw
   case rel=>exact⟨k+1,U,by go_num,u.o,F.o⟩
   case measure=>simp[intOf];omega
  ·have hd:decide (60*(k:Int)<(a.length:Int))=false:=by simp;omega
   have S:k=g:=by omega
   subst S;have j:=q6E a p k (by omega);have O:=η (Tryz.Builder_String w.heap.size w.heap.size (z6w a p k) wr b (fun h=>by rw[h] at j;simp at j));have M:=η j;generalize z6w a p k=PB at*;clear b d j D;go_wp2_with fail;refine O.o.mono ?_;rintro e w5 ⟨rfl,d⟩;have l:=η (Below.trans (B:=w.heap.size) x.o d);clear d;go_wp2_with fail;go_ret;exact⟨_,rfl,M.o,l.o⟩
end Go.Proofs.YteabhdclmodefaaGreatDoor
