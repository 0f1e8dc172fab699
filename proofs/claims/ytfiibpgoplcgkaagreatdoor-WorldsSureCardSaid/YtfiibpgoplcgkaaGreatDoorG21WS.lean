/- The shelf's contracts of strings.Builder and strings.Repeat at this seat, in plain words. -/
import Derived.Shelf.Strings.Builder1
import Derived.Shelf.Strings.Repeat
import Derived.Test.YtfiibpgoplcgkaaGreatDoorProg
import Derived.Test.YtfiibpgoplcgkaaGreatDoorG20WS
set_option linter.unusedVariables false
set_option linter.unusedSimpArgs false
set_option maxRecDepth 100000
set_option maxHeartbeats 6400000
namespace Go.Proofs
open Go.Shelf
def Tryz.lays169_ren :Go.Shelf.Ren:=⟨fun|169=>128|n=>n,fun|70=>202|9=>9|0=>0|72=>204|37=>75|127=>271|3=>3|5=>5|n=>n,fun|n=>n⟩
theorem Tryz.lays169 :Go.Proofs.Lays.n169 Tryz.prog Tryz.lays169_ren:={
 mixed:=by kernel_rfl
 f169:=Tryz.func128.trans (congrArg some (by kernel_rfl))
 t0:=Tryz.underlying0
 a0:=Tryz.isAgg0
 z0:=Tryz.sizeOf0
 v0:=Tryz.zeroValue0
 t3:=Tryz.underlying3
 a3:=Tryz.isAgg3
 z3:=Tryz.sizeOf3
 v3:=Tryz.zeroValue3
 t9:=Tryz.underlying9
 a9:=Tryz.isAgg9
 z9:=Tryz.sizeOf9
 v9:=Tryz.zeroValue9
 t37:=Tryz.underlying75
 a37:=Tryz.isAgg75
 z37:=Tryz.sizeOf75
 v37:=Tryz.zeroValue75
 t70:=Tryz.underlying202
 a70:=Tryz.isAgg202
 z70:=Tryz.sizeOf202
 v70:=Tryz.zeroValue202
 t72:=Tryz.underlying204
 a72:=Tryz.isAgg204
 z72:=Tryz.sizeOf204
 v72:=Tryz.zeroValue204
 t127:=Tryz.underlying271
 a127:=Tryz.isAgg271
 z127:=Tryz.sizeOf271
 v127:=Tryz.zeroValue271}
theorem Tryz.Builder_Extra_169 :Builder.Extra Tryz.prog Tryz.lays169_ren:={
 sizeBuilder:=by kernel_rfl
 liesBuilder:=by kernel_rfl
 t5:=Tryz.underlying5
 a5:=Tryz.isAgg5
 z5:=Tryz.sizeOf5
 v5:=Tryz.zeroValue5
 infoByte:=by kernel_rfl
 cellsByte:=by kernel_rfl
 sizeByte:=by kernel_rfl
 neB5:=by decide}
open Go.RowKit in
theorem Tryz.Builder_String(B b:Nat)(l:List UInt8)(w:World)(h:Lib.IsBuilder 204 5 B b (Lib.byteCells l) w)(d:l≠[]):
  Calls Tryz.prog 128 #[.pointer (some ⟨b,0,none⟩)] w fun e w'=>e= .returned (.string ⟨l.toArray⟩)/\Below B w w':=Any.Builder_String Tryz.lays169 Tryz.Builder_Extra_169 B b l w h d
def Tryz.lays105_ren :Go.Shelf.Ren:=⟨fun|105=>335|212=>346|99=>221|165=>347|166=>122|170=>348|169=>128|263=>355|264=>356|206=>244|240=>184|241=>357|276=>242|277=>359|n=>n,fun|9=>9|3=>3|4=>4|20=>20|0=>0|46=>272|109=>422|5=>5|72=>204|76=>207|51=>269|146=>435|53=>23|148=>437|70=>202|37=>75|75=>206|127=>271|164=>324|80=>213|n=>n,fun|n=>n⟩
theorem Tryz.lays105 :Go.Proofs.Lays.n105 Tryz.prog Tryz.lays105_ren:={
 mixed:=by kernel_rfl
 f99:=Tryz.func221.trans (congrArg some (by kernel_rfl))
 f105:=Tryz.func335.trans (congrArg some (by kernel_rfl))
 f165:=Tryz.func347.trans (congrArg some (by kernel_rfl))
 f166:=Tryz.func122.trans (congrArg some (by kernel_rfl))
 f169:=Tryz.func128.trans (congrArg some (by kernel_rfl))
 f170:=Tryz.func348.trans (congrArg some (by kernel_rfl))
 f206:=Tryz.func244.trans (congrArg some (by kernel_rfl))
 f212:=Tryz.func346.trans (congrArg some (by kernel_rfl))
 f240:=Tryz.func184.trans (congrArg some (by kernel_rfl))
 f241:=Tryz.func357.trans (congrArg some (by kernel_rfl))
 f263:=Tryz.func355.trans (congrArg some (by kernel_rfl))
 f264:=Tryz.func356.trans (congrArg some (by kernel_rfl))
 f276:=Tryz.func242.trans (congrArg some (by kernel_rfl))
 f277:=Tryz.func359.trans (congrArg some (by kernel_rfl))
 t0:=Tryz.underlying0
 a0:=Tryz.isAgg0
 z0:=Tryz.sizeOf0
 v0:=Tryz.zeroValue0
 t3:=Tryz.underlying3
 a3:=Tryz.isAgg3
 z3:=Tryz.sizeOf3
 v3:=Tryz.zeroValue3
 t4:=Tryz.underlying4
 a4:=Tryz.isAgg4
 z4:=Tryz.sizeOf4
 v4:=Tryz.zeroValue4
 t5:=Tryz.underlying5
 a5:=Tryz.isAgg5
 z5:=Tryz.sizeOf5
 v5:=Tryz.zeroValue5
 t9:=Tryz.underlying9
 a9:=Tryz.isAgg9
 z9:=Tryz.sizeOf9
 v9:=Tryz.zeroValue9
 t20:=Tryz.underlying20
 a20:=Tryz.isAgg20
 z20:=Tryz.sizeOf20
 v20:=Tryz.zeroValue20
 t37:=Tryz.underlying75
 a37:=Tryz.isAgg75
 z37:=Tryz.sizeOf75
 v37:=Tryz.zeroValue75
 t46:=Tryz.underlying272
 a46:=Tryz.isAgg272
 z46:=Tryz.sizeOf272
 v46:=Tryz.zeroValue272
 t51:=Tryz.underlying269
 a51:=Tryz.isAgg269
 z51:=Tryz.sizeOf269
 v51:=Tryz.zeroValue269
 t53:=Tryz.underlying23
 a53:=Tryz.isAgg23
 z53:=Tryz.sizeOf23
 v53:=Tryz.zeroValue23
 t70:=Tryz.underlying202
 a70:=Tryz.isAgg202
 z70:=Tryz.sizeOf202
 v70:=Tryz.zeroValue202
 t72:=Tryz.underlying204
 a72:=Tryz.isAgg204
 z72:=Tryz.sizeOf204
 v72:=Tryz.zeroValue204
 t75:=Tryz.underlying206
 a75:=Tryz.isAgg206
 z75:=Tryz.sizeOf206
 v75:=Tryz.zeroValue206
 t76:=Tryz.underlying207
 a76:=Tryz.isAgg207
 z76:=Tryz.sizeOf207
 v76:=Tryz.zeroValue207
 t109:=Tryz.underlying422
 a109:=Tryz.isAgg422
 z109:=Tryz.sizeOf422
 v109:=Tryz.zeroValue422
 t127:=Tryz.underlying271
 a127:=Tryz.isAgg271
 z127:=Tryz.sizeOf271
 v127:=Tryz.zeroValue271
 t146:=Tryz.underlying435
 a146:=Tryz.isAgg435
 z146:=Tryz.sizeOf435
 v146:=Tryz.zeroValue435
 t148:=Tryz.underlying437
 a148:=Tryz.isAgg437
 z148:=Tryz.sizeOf437
 v148:=Tryz.zeroValue437
 t164:=Tryz.underlying324
 a164:=Tryz.isAgg324
 z164:=Tryz.sizeOf324
 v164:=Tryz.zeroValue324}
theorem Tryz.Builder_Extra_105 :Builder.Extra Tryz.prog Tryz.lays105_ren:={
 sizeBuilder:=by kernel_rfl
 liesBuilder:=by kernel_rfl
 t5:=Tryz.underlying5
 a5:=Tryz.isAgg5
 z5:=Tryz.sizeOf5
 v5:=Tryz.zeroValue5
 infoByte:=by kernel_rfl
 cellsByte:=by kernel_rfl
 sizeByte:=by kernel_rfl
 neB5:=by decide}
open Go.RowKit Go.Lib in
theorem Tryz.strings_Repeat(s:ByteArray)(c:Nat)(w:World)(hc:c<=9223372036854775807)(b:s.size*c<=140737488355328):
  Calls Tryz.prog 335 #[.string s,.int .i64 c] w fun e w'=>e= .returned (.string ⟨(Lib.repeatL s.data.toList c).toArray⟩)/\Below w.heap.size w w':=Any.strings_Repeat Tryz.lays105 Tryz.Builder_Extra_105 s c w hc b
open Go.RowKit in
theorem Tryz.Builder_WriteString(B b:Nat)(bs:List Value)(s:ByteArray)(w:World)(h:Lib.IsBuilder 204 5 B b bs w)(d:bs.length+s.size<=140737488355328)(i:B<=w.heap.size):
  Calls Tryz.prog 122 #[.pointer (some ⟨b,0,none⟩),.string s] w fun e w'=>e= .returned (.tuple #[.int .i64 s.size,.nilIface])/\(Lib.BuilderAt 204 5 B b (.pointer (some ⟨b,0,none⟩)) (bs++Lib.strCells s) w'/\Below B w w'):=Any.Builder_WriteString {Tryz.lays105 with} Tryz.Builder_Extra_105 B b bs s w h d i
end Go.Proofs
namespace Go.Proofs.YtfiibpgoplcgkaaGreatDoor
open Go.RowKit
def z1v(s p:Int):Bool:=decide (0<s/\s<=120000/\s % 60=0/\1<=p/\p<=16)
theorem y3T(s p:Int)(w:World)(u:0<=s)(v:s<=4294967295):Calls Tryz.prog 313 #[.int .i64 s,.int .i64 p] w fun r w'=>r= .returned (.bool (z1v s p))/\w=w':=by
 have x:Int.tmod s 60=s % 60:=Int.tmod_eq_emod_of_nonneg u;have y:IntKind.i64.wrap (s % 60)=s % 60:=by rw[ν];omega
 by_cases h1:0<s
 case neg=>
  have b:Hd (z1v s p=false):=η (by unfold z1v;rw[ε];omega);have i:decide (0<s)=false:=by simpa using h1
  go_enter Tryz.func313,Tryz.ntmps313;go_wp2_with fail;go_ret;exact⟨rb b.o,rfl⟩
 have i:decide (0<s)=true:=by simpa using h1
 by_cases h2:s<=120000
 case neg=>
  have b:Hd (z1v s p=false):=η (by unfold z1v;rw[ε];omega);have j:decide (s<=120000)=false:=by simpa using h2
  go_enter Tryz.func313,Tryz.ntmps313;go_wp2_with fail;go_ret;exact⟨rb b.o,rfl⟩
 have j:decide (s<=120000)=true:=by simpa using h2
 by_cases h3:s % 60=0
 case neg=>
  have b:Hd (z1v s p=false):=η (by unfold z1v;rw[ε];omega);have l:(s % 60==0)=false:=by simpa using h3
  go_enter Tryz.func313,Tryz.ntmps313;go_wp2_with fail;go_ret;exact⟨rb b.o,rfl⟩
 have l:(s % 60==0)=true:=by simpa using h3
 by_cases h4:1<=p
 case neg=>
  have b:Hd (z1v s p=false):=η (by unfold z1v;rw[ε];omega);have m:decide (1<=p)=false:=by simpa using h4
  go_enter Tryz.func313,Tryz.ntmps313;go_wp2_with fail;go_ret;exact⟨rb b.o,rfl⟩
 have m:decide (1<=p)=true:=by simpa using h4
 by_cases d:p<=16
 case neg=>
  have b:Hd (z1v s p=false):=η (by unfold z1v;rw[ε];omega);have q:decide (p<=16)=false:=by simpa using d
  go_enter Tryz.func313,Tryz.ntmps313;go_wp2_with fail;go_ret;exact⟨rb b.o,rfl⟩
 have q:decide (p<=16)=true:=by simpa using d
 have b:Hd (z1v s p=true):=η (by unfold z1v;rw[ζ];omega);go_enter Tryz.func313,Tryz.ntmps313;go_wp2_with fail;go_ret;exact⟨rb b.o,rfl⟩
def pad52 :List UInt8:=Lib.repeatL [0] 52
theorem q7N :pad52.length=52:=by unfold pad52;rw[Lib.repeatL_length];rfl
def z0V(s p:Nat):List UInt8:=q1S ((([98,108,109]++be 1 p)++be 4 s)++pad52)
theorem q7J(s p:Nat):(z0V s p).length=64:=by
 unfold z0V;rw[q0v];simp[q0G,q7N]
theorem y4c(w:World):Calls Tryz.prog 335 #[.string ⟨#[0]⟩,.int .i64 52] w fun e w'=>e= .returned (.string ⟨pad52.toArray⟩)/\Ext w w':=
 Tryz.strings_Repeat ⟨#[0]⟩ 52 w (by omega) (by show 1*52<=_;omega)
theorem y0u(s p:Nat)(w:World)(O:s<=4294967295)(N:p<=255):Calls Tryz.prog 314 #[.int .i64 (s:Int),.int .i64 (p:Int)] w fun e w'=>e= .returned (.string ⟨(z0V s p).toArray⟩)/\Ext w w':=by
 have u:=η (fun W=>q7a (p:Int) 1 W (by omega) (by omega) (by omega) (by omega));have v:=η (fun W=>q7a (s:Int) 4 W (by omega) (by omega) (by omega) (by omega));rw[show((p:Int)).toNat=p by omega] at u;rw[show((s:Int)).toNat=s by omega] at v;have I:IntKind.u64.wrap (p:Int)=(p:Int):=by rw[IntKind.wrap_u64];omega
 have J:IntKind.u64.wrap (s:Int)=(s:Int):=by rw[IntKind.wrap_u64];omega
 have F:=q0G 1 p;have G:=q0G 4 s;have d:Hd (z0V s p=q1S ((([98,108,109]++be 1 p)++be 4 s)++pad52)):=η rfl;obtain⟨A,C⟩: ∃A,be 1 p=A:=⟨_,rfl⟩
 obtain⟨B,D⟩: ∃B,be 4 s=B:=⟨_,rfl⟩
 rw[C] at F u d;rw[D] at G v d;obtain⟨H,x⟩: ∃H,z0V s p=H:=⟨_,rfl⟩
 rw[x] at d;rw[x];have y:=q7N;have i:=η (fun W=>y4c W);obtain⟨Z,E⟩: ∃Z,pad52=Z:=⟨_,rfl⟩
 rw[E] at d y i;have r:=η (fun W=>q9l ((([98,108,109]++A)++B)++Z) W (by simp;omega));clear C D x E;go_enter Tryz.func314,Tryz.ntmps314;have Q:¬(9223372036854775807<(3:Nat)+A.length):=by omega
 have R:¬(9223372036854775807<(3:Nat)+A.length+B.length):=by omega
 have S:¬(9223372036854775807<(3:Nat)+A.length+B.length+Z.length):=by omega
 have M:IntKind.i64.wrap (60-((3:Int)+(A.length:Int)+(B.length:Int)))=52:=by rw[F,G];kernel_rfl
 go_wp2_with fail;refine(u.o _).mono ?_;rintro e w1 ⟨rfl,b⟩;have j:=η b;clear b;go_wp2_with fail;refine(v.o _).mono ?_;rintro e U ⟨rfl,b⟩;have l:=η (j.o.trans b);clear b;go_wp2_with fail;refine(i.o _).mono ?_;rintro e V ⟨rfl,b⟩;have m:=η (l.o.trans b);clear b;go_wp2_with fail;have hc:(((⟨#[98,108,109]⟩:ByteArray)++⟨A.toArray⟩)++⟨B.toArray⟩)++⟨Z.toArray⟩=⟨((([98,108,109]++A)++B)++Z).toArray⟩:=by
  rw[show((⟨#[98,108,109]⟩:ByteArray)++⟨A.toArray⟩)=⟨([98,108,109]++A).toArray⟩ from q3c [98,108,109] A,q3c,q3c]
 rw[hc];refine(r.o _).mono ?_;rintro e X ⟨rfl,b⟩;have q:=η (m.o.trans b);clear b;go_wp2_with fail;go_ret;exact⟨by rw[d.o,show(([98,108,109]:List UInt8)++A++B++Z)=98::108::109::(A++(B++Z)) by simp];rfl,q.o⟩
theorem z2p(w:World):Lib.IsBuilder 204 5 w.heap.size w.heap.size [] (w.alloc (.cells #[.pointer none,.slice none 0 0] 204)):=
 .inl ⟨ι _,_,heap_alloc_new w _,World.ownsRow_nil _ _ _ _,by simp[Value.ownBlock]⟩
theorem z7k{T e:TypeId}{B b:Nat}{bs:List Value}{w w':World}(h:Lib.IsBuilder T e B b bs w)(k:Ext w w'):Lib.IsBuilder T e B b bs w':=by
 have f: ∀q,Lib.BuilderAt T e B b q bs w->Lib.BuilderAt T e B b q bs w':=fun q ⟨h1,v,h2,h3,h4⟩=>
  ⟨h1,v,(k.block b (Array.getElem?_eq_some_iff.1 h2).1).trans h2,q0J h3 k,h4⟩
 exact h.elim (fun x=> .inl (f _ x)) (fun x=> .inr (f _ x))
def z5y(a:List UInt8)(k:Nat):List UInt8:=q1S ((a.drop (60*k)).take 60)
theorem q7O{a:List UInt8}{k:Nat}(h:60*(k+1)<=a.length):(z5y a k).length=64:=by
 unfold z5y;rw[q0v,Θ,List.length_drop];omega
def z6A(a:List UInt8)(p k:Nat):List UInt8:=z0V a.length p++((List.range k).map (z5y a)).flatten
theorem z2E(a:List UInt8)(p k:Nat):z6A a p (k+1)=z6A a p k++z5y a k:=by
 unfold z6A;rw[List.range_succ];simp
theorem q5t(a:List UInt8)(p:Nat): ∀k,60*k<=a.length->(z6A a p k).length=64*(k+1)
 |0,_=>by unfold z6A;simp[q7J]
 |k+1,h=>by rw[z2E,θ,q5t a p k (by omega),q7O h];omega
theorem y3m(a:List UInt8)(p g:Nat)(w:World)(Y:a.length=60*g)(hg:1<=g)(b0:g<=1000)(hp:1<=p)(d0:p<=16):
  Calls Tryz.prog 327 #[.string ⟨a.toArray⟩,.int .i64 (p:Int)] w fun e w'=> ∃s:List UInt8,e= .returned (.string ⟨s.toArray⟩)/\s.length=64*(g+1)/\Ext w w':=by
 have HL:=η Y;have hm:z1v (a.length:Int) (p:Int)=true:=by unfold z1v;rw[ζ];omega
 have I:=η (fun W=>y3T (a.length:Int) (p:Int) W (by omega) (by omega));rw[hm] at I;have V:=η (fun W=>y0u a.length p W (by omega) (by omega));have a0:a.length<=60000:=by omega
 have R:=η (z2p w);have Q:=η (q0C w (.cells #[.pointer none,.slice none 0 0] 204));clear Y hm;go_enter Tryz.func327,Tryz.ntmps327;go_wp2_with fail;refine(I.o _).mono ?_;rintro e w1 ⟨rfl,rfl⟩;clear I;go_wp2_with fail;refine(V.o _).mono ?_;rintro e w2 ⟨rfl,d⟩;have m:=η (Q.o.trans d);have G:=η (z7k R.o d);clear d V;have c0:=q7J a.length p;have J:Hd (z6A a p 0=z0V a.length p):=η (by unfold z6A;simp);generalize z0V a.length p=H at*;go_wp2_with fail;refine(Tryz.Builder_WriteString w.heap.size w.heap.size [] ⟨H.toArray⟩ w2 G.o (by show 0+H.length<=_;omega) m.o.size).mono ?_;rintro e w3 ⟨rfl,b,d⟩;have E:=η (Below.trans (B:=w.heap.size) m.o d);have q:Hd (Lib.IsBuilder 204 5 w.heap.size w.heap.size (Lib.byteCells (z6A a p 0)) w3):=η (.inr (by rw[J.o];exact b));clear d b;go_wp2_with fail
 go_loopw [6] (fun i W=> ∃k:Nat,k<=g/\i= .int .i64 (60*(k:Int))/\Lib.IsBuilder 204 5 w.heap.size w.heap.size (Lib.byteCells (z6A a p k)) W/\Ext w W) (fun i _=>60*g-(intOf i).toNat)
 case atStart=>exact⟨0,υ _,rfl,q.o,E.o⟩
 case round=>
  obtain⟨k,hk,rfl,b,d⟩:=hrel;have x:=η d;have v:=η b;have D:=HL.o;by_cases U:k<g
  ·have hd:decide (60*(k:Int)<(a.length:Int))=true:=by simp;omega
   have e1:IntKind.i64.wrap (60*(k:Int)+60)=60*(k:Int)+60:=by rw[ν];omega
   have e0:=q3B a (60*(k:Int)) (60*(k:Int)+60) (60*k) (60*k+60) (by push_cast;rfl) (by push_cast;rfl) (by omega) (by omega) (X:=(a.drop (60*k)).take 60) (by rw[List.drop_take];congr 1;omega);have C:=η (fun W=>q9l ((a.drop (60*k)).take 60) W (by rw[Θ];omega));have y:Hd (q1S ((a.drop (60*k)).take 60)=z5y a k):=η rfl;have Z:=q7O (a:=a) (k:=k) (by omega);have N:=η (z2E a p k);have j:=q5t a p k (by omega);rw[y.o] at C;generalize z5y a k=PG at*;generalize z6A a p k=PB at*;generalize (a.drop (60*k)).take 60=SG at*;clear b d y D;go_wp2_with fail;refine(C.o _).mono ?_;rintro e w5 ⟨rfl,d⟩;have l:=η (x.o.trans d);have r:=η (z7k v.o d);clear d;go_wp2_with fail;refine(Tryz.Builder_WriteString w.heap.size w.heap.size (Lib.byteCells PB) ⟨PG.toArray⟩ w5 r.o (by rw[Lib.byteCells_length];show PB.length+PG.length<=_;omega) l.o.size).mono ?_;rintro e w6 ⟨rfl,b,d⟩;have F:=η (Below.trans (B:=w.heap.size) l.o d);have u:Hd (Lib.IsBuilder 204 5 w.heap.size w.heap.size (Lib.byteCells (z6A a p (k+1))) w6):=η (.inr (by rw[N.o];unfold Lib.byteCells;rw[List.map_append];exact b));clear d b;go_wp2_with fail
   go_roundw
   case rel=>exact⟨k+1,U,by go_num,u.o,F.o⟩
   case measure=>simp[intOf];omega
  ·have hd:decide (60*(k:Int)<(a.length:Int))=false:=by simp;omega
   have S:k=g:=by omega
   subst S;have j:=q5t a p k (by omega);have O:=η (Tryz.Builder_String w.heap.size w.heap.size (z6A a p k) wr b (fun h=>by rw[h] at j;simp at j));have M:=η j;generalize z6A a p k=PB at*;clear b d j D;go_wp2_with fail;refine O.o.mono ?_;rintro e w5 ⟨rfl,d⟩;have l:=η (Below.trans (B:=w.heap.size) x.o d);clear d;go_wp2_with fail;go_ret;exact⟨_,rfl,M.o,l.o⟩
end Go.Proofs.YtfiibpgoplcgkaaGreatDoor
