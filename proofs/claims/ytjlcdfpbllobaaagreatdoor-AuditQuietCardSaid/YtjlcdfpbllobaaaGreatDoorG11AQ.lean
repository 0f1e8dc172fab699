/- The shelf's contracts of strings.Builder and strings.Repeat at this seat, in plain words. -/
import Derived.Shelf.Strings.Builder1
import Derived.Shelf.Strings.Repeat
import Derived.Test.YtjlcdfpbllobaaaGreatDoorProg
import Derived.Test.YtjlcdfpbllobaaaGreatDoorG10AQ
set_option linter.unusedVariables false
set_option linter.unusedSimpArgs false
set_option maxRecDepth 100000
set_option maxHeartbeats 6400000
namespace Go.Proofs
open Go.Shelf
def Tryz.lays169_ren :Go.Shelf.Ren:=⟨fun|169=>308|n=>n,fun|70=>391|9=>9|0=>0|72=>393|37=>177|127=>413|3=>3|5=>5|n=>n,fun|n=>n⟩
theorem Tryz.lays169 :Go.Proofs.Lays.n169 Tryz.prog Tryz.lays169_ren:={
 mixed:=by kernel_rfl
 f169:=Tryz.func308.trans (congrArg some (by kernel_rfl))
 t0:=Tryz.underlying0
 a0:=Tryz.isAgg0
 z0:=Tryz.sizeOf0
 v0:=Tryz.zeroValue0
 t3:=Tryz.underlying3
 a3:=Tryz.isAgg3
 z3:=Tryz.sizeOf3
 v3:=Tryz.zeroValue3
 t9:=Tryz.underlying9
 a9:=Tryz.isAgg9
 z9:=Tryz.sizeOf9
 v9:=Tryz.zeroValue9
 t37:=Tryz.underlying177
 a37:=Tryz.isAgg177
 z37:=Tryz.sizeOf177
 v37:=Tryz.zeroValue177
 t70:=Tryz.underlying391
 a70:=Tryz.isAgg391
 z70:=Tryz.sizeOf391
 v70:=Tryz.zeroValue391
 t72:=Tryz.underlying393
 a72:=Tryz.isAgg393
 z72:=Tryz.sizeOf393
 v72:=Tryz.zeroValue393
 t127:=Tryz.underlying413
 a127:=Tryz.isAgg413
 z127:=Tryz.sizeOf413
 v127:=Tryz.zeroValue413}
theorem Tryz.Builder_Extra_169 :Builder.Extra Tryz.prog Tryz.lays169_ren:={
 sizeBuilder:=by kernel_rfl
 liesBuilder:=by kernel_rfl
 t5:=Tryz.underlying5
 a5:=Tryz.isAgg5
 z5:=Tryz.sizeOf5
 v5:=Tryz.zeroValue5
 infoByte:=by kernel_rfl
 cellsByte:=by kernel_rfl
 sizeByte:=by kernel_rfl
 neB5:=by decide}
open Go.RowKit in
theorem Tryz.Builder_String(B b:Nat)(l:List UInt8)(w:World)(h:Lib.IsBuilder 393 5 B b (Lib.byteCells l) w)(d:l≠[]):
  Calls Tryz.prog 308 #[.pointer (some ⟨b,0,none⟩)] w fun e w'=>e= .returned (.string ⟨l.toArray⟩)/\Below B w w':=Any.Builder_String Tryz.lays169 Tryz.Builder_Extra_169 B b l w h d
def Tryz.lays105_ren :Go.Shelf.Ren:=⟨fun|105=>305|212=>320|99=>155|165=>321|166=>307|170=>322|169=>308|263=>328|264=>329|206=>205|240=>323|241=>330|276=>331|277=>332|n=>n,fun|9=>9|3=>3|4=>4|20=>20|0=>0|46=>222|109=>410|5=>5|72=>393|76=>394|51=>294|146=>352|53=>46|148=>422|70=>391|37=>177|75=>179|127=>413|164=>424|80=>396|n=>n,fun|n=>n⟩
theorem Tryz.lays105 :Go.Proofs.Lays.n105 Tryz.prog Tryz.lays105_ren:={
 mixed:=by kernel_rfl
 f99:=Tryz.func155.trans (congrArg some (by kernel_rfl))
 f105:=Tryz.func305.trans (congrArg some (by kernel_rfl))
 f165:=Tryz.func321.trans (congrArg some (by kernel_rfl))
 f166:=Tryz.func307.trans (congrArg some (by kernel_rfl))
 f169:=Tryz.func308.trans (congrArg some (by kernel_rfl))
 f170:=Tryz.func322.trans (congrArg some (by kernel_rfl))
 f206:=Tryz.func205.trans (congrArg some (by kernel_rfl))
 f212:=Tryz.func320.trans (congrArg some (by kernel_rfl))
 f240:=Tryz.func323.trans (congrArg some (by kernel_rfl))
 f241:=Tryz.func330.trans (congrArg some (by kernel_rfl))
 f263:=Tryz.func328.trans (congrArg some (by kernel_rfl))
 f264:=Tryz.func329.trans (congrArg some (by kernel_rfl))
 f276:=Tryz.func331.trans (congrArg some (by kernel_rfl))
 f277:=Tryz.func332.trans (congrArg some (by kernel_rfl))
 t0:=Tryz.underlying0
 a0:=Tryz.isAgg0
 z0:=Tryz.sizeOf0
 v0:=Tryz.zeroValue0
 t3:=Tryz.underlying3
 a3:=Tryz.isAgg3
 z3:=Tryz.sizeOf3
 v3:=Tryz.zeroValue3
 t4:=Tryz.underlying4
 a4:=Tryz.isAgg4
 z4:=Tryz.sizeOf4
 v4:=Tryz.zeroValue4
 t5:=Tryz.underlying5
 a5:=Tryz.isAgg5
 z5:=Tryz.sizeOf5
 v5:=Tryz.zeroValue5
 t9:=Tryz.underlying9
 a9:=Tryz.isAgg9
 z9:=Tryz.sizeOf9
 v9:=Tryz.zeroValue9
 t20:=Tryz.underlying20
 a20:=Tryz.isAgg20
 z20:=Tryz.sizeOf20
 v20:=Tryz.zeroValue20
 t37:=Tryz.underlying177
 a37:=Tryz.isAgg177
 z37:=Tryz.sizeOf177
 v37:=Tryz.zeroValue177
 t46:=Tryz.underlying222
 a46:=Tryz.isAgg222
 z46:=Tryz.sizeOf222
 v46:=Tryz.zeroValue222
 t51:=Tryz.underlying294
 a51:=Tryz.isAgg294
 z51:=Tryz.sizeOf294
 v51:=Tryz.zeroValue294
 t53:=Tryz.underlying46
 a53:=Tryz.isAgg46
 z53:=Tryz.sizeOf46
 v53:=Tryz.zeroValue46
 t70:=Tryz.underlying391
 a70:=Tryz.isAgg391
 z70:=Tryz.sizeOf391
 v70:=Tryz.zeroValue391
 t72:=Tryz.underlying393
 a72:=Tryz.isAgg393
 z72:=Tryz.sizeOf393
 v72:=Tryz.zeroValue393
 t75:=Tryz.underlying179
 a75:=Tryz.isAgg179
 z75:=Tryz.sizeOf179
 v75:=Tryz.zeroValue179
 t76:=Tryz.underlying394
 a76:=Tryz.isAgg394
 z76:=Tryz.sizeOf394
 v76:=Tryz.zeroValue394
 t109:=Tryz.underlying410
 a109:=Tryz.isAgg410
 z109:=Tryz.sizeOf410
 v109:=Tryz.zeroValue410
 t127:=Tryz.underlying413
 a127:=Tryz.isAgg413
 z127:=Tryz.sizeOf413
 v127:=Tryz.zeroValue413
 t146:=Tryz.underlying352
 a146:=Tryz.isAgg352
 z146:=Tryz.sizeOf352
 v146:=Tryz.zeroValue352
 t148:=Tryz.underlying422
 a148:=Tryz.isAgg422
 z148:=Tryz.sizeOf422
 v148:=Tryz.zeroValue422
 t164:=Tryz.underlying424
 a164:=Tryz.isAgg424
 z164:=Tryz.sizeOf424
 v164:=Tryz.zeroValue424}
theorem Tryz.Builder_Extra_105 :Builder.Extra Tryz.prog Tryz.lays105_ren:={
 sizeBuilder:=by kernel_rfl
 liesBuilder:=by kernel_rfl
 t5:=Tryz.underlying5
 a5:=Tryz.isAgg5
 z5:=Tryz.sizeOf5
 v5:=Tryz.zeroValue5
 infoByte:=by kernel_rfl
 cellsByte:=by kernel_rfl
 sizeByte:=by kernel_rfl
 neB5:=by decide}
open Go.RowKit Go.Lib in
theorem Tryz.strings_Repeat(s:ByteArray)(c:Nat)(w:World)(hc:c<=9223372036854775807)(b:s.size*c<=140737488355328):
  Calls Tryz.prog 305 #[.string s,.int .i64 c] w fun e w'=>e= .returned (.string ⟨(Lib.repeatL s.data.toList c).toArray⟩)/\Below w.heap.size w w':=Any.strings_Repeat Tryz.lays105 Tryz.Builder_Extra_105 s c w hc b
open Go.RowKit in
theorem Tryz.Builder_WriteString(B b:Nat)(bs:List Value)(s:ByteArray)(w:World)(h:Lib.IsBuilder 393 5 B b bs w)(d:bs.length+s.size<=140737488355328)(i:B<=w.heap.size):
  Calls Tryz.prog 307 #[.pointer (some ⟨b,0,none⟩),.string s] w fun e w'=>e= .returned (.tuple #[.int .i64 s.size,.nilIface])/\(Lib.BuilderAt 393 5 B b (.pointer (some ⟨b,0,none⟩)) (bs++Lib.strCells s) w'/\Below B w w'):=Any.Builder_WriteString {Tryz.lays105 with} Tryz.Builder_Extra_105 B b bs s w h d i
end Go.Proofs
namespace Go.Proofs.YtjlcdfpbllobaaaGreatDoor
open Go.RowKit
def z3A(s p:Int):Bool:=decide (0<s/\s<=120000/\s % 60=0/\1<=p/\p<=16)
theorem y4v(s p:Int)(w:World)(u:0<=s)(v:s<=4294967295):Calls Tryz.prog 280 #[.int .i64 s,.int .i64 p] w fun r w'=>r= .returned (.bool (z3A s p))/\w=w':=by
 have x:Int.tmod s 60=s % 60:=Int.tmod_eq_emod_of_nonneg u;have y:IntKind.i64.wrap (s % 60)=s % 60:=by rw[ν];omega
 by_cases h1:0<s
 case neg=>
  have b:Hd (z3A s p=false):=η (by unfold z3A;rw[ε];omega);have i:decide (0<s)=false:=by simpa using h1
  go_enter Tryz.func280,Tryz.ntmps280;go_wp2_with fail;go_ret;exact⟨rb b.o,rfl⟩
 have i:decide (0<s)=true:=by simpa using h1
 by_cases h2:s<=120000
 case neg=>
  have b:Hd (z3A s p=false):=η (by unfold z3A;rw[ε];omega);have j:decide (s<=120000)=false:=by simpa using h2
  go_enter Tryz.func280,Tryz.ntmps280;go_wp2_with fail;go_ret;exact⟨rb b.o,rfl⟩
 have j:decide (s<=120000)=true:=by simpa using h2
 by_cases h3:s % 60=0
 case neg=>
  have b:Hd (z3A s p=false):=η (by unfold z3A;rw[ε];omega);have l:(s % 60==0)=false:=by simpa using h3
  go_enter Tryz.func280,Tryz.ntmps280;go_wp2_with fail;go_ret;exact⟨rb b.o,rfl⟩
 have l:(s % 60==0)=true:=by simpa using h3
 by_cases h4:1<=p
 case neg=>
  have b:Hd (z3A s p=false):=η (by unfold z3A;rw[ε];omega);have m:decide (1<=p)=false:=by simpa using h4
  go_enter Tryz.func280,Tryz.ntmps280;go_wp2_with fail;go_ret;exact⟨rb b.o,rfl⟩
 have m:decide (1<=p)=true:=by simpa using h4
 by_cases d:p<=16
 case neg=>
  have b:Hd (z3A s p=false):=η (by unfold z3A;rw[ε];omega);have q:decide (p<=16)=false:=by simpa using d
  go_enter Tryz.func280,Tryz.ntmps280;go_wp2_with fail;go_ret;exact⟨rb b.o,rfl⟩
 have q:decide (p<=16)=true:=by simpa using d
 have b:Hd (z3A s p=true):=η (by unfold z3A;rw[ζ];omega);go_enter Tryz.func280,Tryz.ntmps280;go_wp2_with fail;go_ret;exact⟨rb b.o,rfl⟩
def pad52 :List UInt8:=Lib.repeatL [0] 52
theorem q7t :pad52.length=52:=by unfold pad52;rw[Lib.repeatL_length];rfl
def z1g(s p:Nat):List UInt8:=q1S ((([98,108,109]++be 1 p)++be 4 s)++pad52)
theorem q7p(s p:Nat):(z1g s p).length=64:=by
 unfold z1g;rw[q0v];simp[q0J,q7t]
theorem y6F(w:World):Calls Tryz.prog 305 #[.string ⟨#[0]⟩,.int .i64 52] w fun e w'=>e= .returned (.string ⟨pad52.toArray⟩)/\Ext w w':=
 Tryz.strings_Repeat ⟨#[0]⟩ 52 w (by omega) (by show 1*52<=_;omega)
theorem y2J(s p:Nat)(w:World)(O:s<=4294967295)(N:p<=255):Calls Tryz.prog 281 #[.int .i64 (s:Int),.int .i64 (p:Int)] w fun e w'=>e= .returned (.string ⟨(z1g s p).toArray⟩)/\Ext w w':=by
 have u:=η (fun W=>q8G (p:Int) 1 W (by omega) (by omega) (by omega) (by omega));have v:=η (fun W=>q8G (s:Int) 4 W (by omega) (by omega) (by omega) (by omega));rw[show((p:Int)).toNat=p by omega] at u;rw[show((s:Int)).toNat=s by omega] at v;have I:IntKind.u64.wrap (p:Int)=(p:Int):=by rw[IntKind.wrap_u64];omega
 have J:IntKind.u64.wrap (s:Int)=(s:Int):=by rw[IntKind.wrap_u64];omega
 have F:=q0J 1 p;have G:=q0J 4 s;have d:Hd (z1g s p=q1S ((([98,108,109]++be 1 p)++be 4 s)++pad52)):=η rfl;obtain⟨A,C⟩: ∃A,be 1 p=A:=⟨_,rfl⟩
 obtain⟨B,D⟩: ∃B,be 4 s=B:=⟨_,rfl⟩
 rw[C] at F u d;rw[D] at G v d;obtain⟨H,x⟩: ∃H,z1g s p=H:=⟨_,rfl⟩
 rw[x] at d;rw[x];have y:=q7t;have i:=η (fun W=>y6F W);obtain⟨Z,E⟩: ∃Z,pad52=Z:=⟨_,rfl⟩
 rw[E] at d y i;have r:=η (fun W=>z0y ((([98,108,109]++A)++B)++Z) W (by simp;omega));clear C D x E;go_enter Tryz.func281,Tryz.ntmps281;have Q:¬(9223372036854775807<(3:Nat)+A.length):=by omega
 have R:¬(9223372036854775807<(3:Nat)+A.length+B.length):=by omega
 have S:¬(9223372036854775807<(3:Nat)+A.length+B.length+Z.length):=by omega
 have M:IntKind.i64.wrap (60-((3:Int)+(A.length:Int)+(B.length:Int)))=52:=by rw[F,G];kernel_rfl
 go_wp2_with fail;refine(u.o _).mono ?_;rintro e w1 ⟨rfl,b⟩;have j:=η b;clear b;go_wp2_with fail;refine(v.o _).mono ?_;rintro e U ⟨rfl,b⟩;have l:=η (j.o.trans b);clear b;go_wp2_with fail;refine(i.o _).mono ?_;rintro e V ⟨rfl,b⟩;have m:=η (l.o.trans b);clear b;go_wp2_with fail;have hc:(((⟨#[98,108,109]⟩:ByteArray)++⟨A.toArray⟩)++⟨B.toArray⟩)++⟨Z.toArray⟩=⟨((([98,108,109]++A)++B)++Z).toArray⟩:=by
  rw[show((⟨#[98,108,109]⟩:ByteArray)++⟨A.toArray⟩)=⟨([98,108,109]++A).toArray⟩ from q2X [98,108,109] A,q2X,q2X]
 rw[hc];refine(r.o _).mono ?_;rintro e X ⟨rfl,b⟩;have q:=η (m.o.trans b);clear b;go_wp2_with fail;go_ret;exact⟨by rw[d.o,show(([98,108,109]:List UInt8)++A++B++Z)=98::108::109::(A++(B++Z)) by simp];rfl,q.o⟩
theorem z4B(w:World):Lib.IsBuilder 393 5 w.heap.size w.heap.size [] (w.alloc (.cells #[.pointer none,.slice none 0 0] 393)):=
 .inl ⟨ι _,_,heap_alloc_new w _,World.ownsRow_nil _ _ _ _,by simp[Value.ownBlock]⟩
theorem z8n{T e:TypeId}{B b:Nat}{bs:List Value}{w w':World}(h:Lib.IsBuilder T e B b bs w)(k:Ext w w'):Lib.IsBuilder T e B b bs w':=by
 have f: ∀q,Lib.BuilderAt T e B b q bs w->Lib.BuilderAt T e B b q bs w':=fun q ⟨h1,v,h2,h3,h4⟩=>
  ⟨h1,v,(k.block b (Array.getElem?_eq_some_iff.1 h2).1).trans h2,q0G h3 k,h4⟩
 exact h.elim (fun x=> .inl (f _ x)) (fun x=> .inr (f _ x))
def z7I(a:List UInt8)(k:Nat):List UInt8:=q1S ((a.drop (60*k)).take 60)
theorem q7u{a:List UInt8}{k:Nat}(h:60*(k+1)<=a.length):(z7I a k).length=64:=by
 unfold z7I;rw[q0v,Θ,List.length_drop];omega
def z7N(a:List UInt8)(p k:Nat):List UInt8:=z1g a.length p++((List.range k).map (z7I a)).flatten
theorem z3O(a:List UInt8)(p k:Nat):z7N a p (k+1)=z7N a p k++z7I a k:=by
 unfold z7N;rw[List.range_succ];simp
theorem q6M(a:List UInt8)(p:Nat): ∀k,60*k<=a.length->(z7N a p k).length=64*(k+1)
 |0,_=>by unfold z7N;simp[q7p]
 |k+1,h=>by rw[z3O,θ,q6M a p k (by omega),q7u h];omega
theorem y5P(a:List UInt8)(p g:Nat)(w:World)(Y:a.length=60*g)(hg:1<=g)(b0:g<=1000)(hp:1<=p)(d0:p<=16):
  Calls Tryz.prog 285 #[.string ⟨a.toArray⟩,.int .i64 (p:Int)] w fun e w'=> ∃s:List UInt8,e= .returned (.string ⟨s.toArray⟩)/\s.length=64*(g+1)/\Ext w w':=by
 have HL:=η Y;have hm:z3A (a.length:Int) (p:Int)=true:=by unfold z3A;rw[ζ];omega
 have I:=η (fun W=>y4v (a.length:Int) (p:Int) W (by omega) (by omega));rw[hm] at I;have V:=η (fun W=>y2J a.length p W (by omega) (by omega));have a0:a.length<=60000:=by omega
 have R:=η (z4B w);have Q:=η (q0B w (.cells #[.pointer none,.slice none 0 0] 393));clear Y hm;go_enter Tryz.func285,Tryz.ntmps285;go_wp2_with fail;refine(I.o _).mono ?_;rintro e w1 ⟨rfl,rfl⟩;clear I;go_wp2_with fail;refine(V.o _).mono ?_;rintro e w2 ⟨rfl,d⟩;have m:=η (Q.o.trans d);have G:=η (z8n R.o d);clear d V;have c0:=q7p a.length p;have J:Hd (z7N a p 0=z1g a.length p):=η (by unfold z7N;simp);generalize z1g a.length p=H at*;go_wp2_with fail;refine(Tryz.Builder_WriteString w.heap.size w.heap.size [] ⟨H.toArray⟩ w2 G.o (by show 0+H.length<=_;omega) m.o.size).mono ?_;rintro e w3 ⟨rfl,b,d⟩;have E:=η (Below.trans (B:=w.heap.size) m.o d);have q:Hd (Lib.IsBuilder 393 5 w.heap.size w.heap.size (Lib.byteCells (z7N a p 0)) w3):=η (.inr (by rw[J.o];exact b));clear d b;go_wp2_with fail
 go_loopw [6] (fun i W=> ∃k:Nat,k<=g/\i= .int .i64 (60*(k:Int))/\Lib.IsBuilder 393 5 w.heap.size w.heap.size (Lib.byteCells (z7N a p k)) W/\Ext w W) (fun i _=>60*g-(intOf i).toNat)
 case atStart=>exact⟨0,υ _,rfl,q.o,E.o⟩
 case round=>
  obtain⟨k,hk,rfl,b,d⟩:=hrel;have x:=η d;have v:=η b;have D:=HL.o;by_cases U:k<g
  ·have hd:decide (60*(k:Int)<(a.length:Int))=true:=by simp;omega
   have e1:IntKind.i64.wrap (60*(k:Int)+60)=60*(k:Int)+60:=by rw[ν];omega
   have e0:=q3U a (60*(k:Int)) (60*(k:Int)+60) (60*k) (60*k+60) (by push_cast;rfl) (by push_cast;rfl) (by omega) (by omega) (X:=(a.drop (60*k)).take 60) (by rw[List.drop_take];congr 1;omega);have C:=η (fun W=>z0y ((a.drop (60*k)).take 60) W (by rw[Θ];omega));have y:Hd (q1S ((a.drop (60*k)).take 60)=z7I a k):=η rfl;have Z:=q7u (a:=a) (k:=k) (by omega);have N:=η (z3O a p k);have j:=q6M a p k (by omega);rw[y.o] at C;generalize z7I a k=PG at*;generalize z7N a p k=PB at*;generalize (a.drop (60*k)).take 60=SG at*;clear b d y D;go_wp2_with fail;refine(C.o _).mono ?_;rintro e w5 ⟨rfl,d⟩;have l:=η (x.o.trans d);have r:=η (z8n v.o d);clear d;go_wp2_with fail;refine(Tryz.Builder_WriteString w.heap.size w.heap.size (Lib.byteCells PB) ⟨PG.toArray⟩ w5 r.o (by rw[Lib.byteCells_length];show PB.length+PG.length<=_;omega) l.o.size).mono ?_;rintro e w6 ⟨rfl,b,d⟩;have F:=η (Below.trans (B:=w.heap.size) l.o d);have u:Hd (Lib.IsBuilder 393 5 w.heap.size w.heap.size (Lib.byteCells (z7N a p (k+1))) w6):=η (.inr (by rw[N.o];unfold Lib.byteCells;rw[List.map_append];exact b));clear d b;go_wp2_with fail
   go_roundw
   case rel=>exact⟨k+1,U,by go_num,u.o,F.o⟩
   case measure=>simp[intOf];omega
  ·have hd:decide (60*(k:Int)<(a.length:Int))=false:=by simp;omega
   have S:k=g:=by omega
   subst S;have j:=q6M a p k (by omega);have O:=η (Tryz.Builder_String w.heap.size w.heap.size (z7N a p k) wr b (fun h=>by rw[h] at j;simp at j));have M:=η j;generalize z7N a p k=PB at*;clear b d j D;go_wp2_with fail;refine O.o.mono ?_;rintro e w5 ⟨rfl,d⟩;have l:=η (Below.trans (B:=w.heap.size) x.o d);clear d;go_wp2_with fail;go_ret;exact⟨_,rfl,M.o,l.o⟩
end Go.Proofs.YtjlcdfpbllobaaaGreatDoor
