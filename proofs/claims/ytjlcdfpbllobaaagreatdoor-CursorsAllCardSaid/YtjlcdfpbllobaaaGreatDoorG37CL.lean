/- The shelf's contract of slices.Reverse at []api.Told at this seat, in plain words. -/
import Derived.Shelf.SlicesQ.Reverse
import Derived.Ground.SlgnProg
import Derived.Test.YtjlcdfpbllobaaaGreatDoorG36CL
import Derived.LaidEql
import Derived.Stop.Asserts
import Derived.RowKitTokens
import Derived.Deep.RegionHeldLaw
set_option linter.unusedVariables false
set_option linter.unusedSimpArgs false
set_option maxRecDepth 100000
set_option maxHeartbeats 12800000
namespace Go.Proofs
open Go.Shelf
def Tryz.reverseTold_ren :Go.Shelf.Ren:=⟨fun|35=>78|n=>n,fun|22=>22|23=>99|3=>3|4=>4|0=>0|n=>n,fun|n=>n⟩
theorem Tryz.reverseTold :Go.Proofs.SlLaysE0.n35 Tryz.prog Tryz.reverseTold_ren:={
 mixed:=by kernel_rfl
 f35:=⟨Tryz.f78.name,by decide,Tryz.func78.trans (congrArg some (by kernel_rfl))⟩
 t0:=Tryz.underlying0
 a0:=Tryz.isAgg0
 z0:=Tryz.sizeOf0
 v0:=Tryz.zeroValue0
 t3:=Tryz.underlying3
 a3:=Tryz.isAgg3
 z3:=Tryz.sizeOf3
 v3:=Tryz.zeroValue3
 t4:=Tryz.underlying4
 a4:=Tryz.isAgg4
 z4:=Tryz.sizeOf4
 v4:=Tryz.zeroValue4
 t22:=Tryz.underlying22
 a22:=Tryz.isAgg22
 z22:=Tryz.sizeOf22
 v22:=Tryz.zeroValue22}
end Go.Proofs
namespace Go.Proofs.YtjlcdfpbllobaaaGreatDoor
variable {e t ti:TypeId}{cap q u' n' sz i:Nat}{v vq v2 v3:Value}{T:List To}{ao:Option Addr}{L:List Ev}{ms xs:List Value}{a W8:World}{bs':List Bt}{A:List Acm}
section
open Go.RowKit Go.Sort Go.Lib
theorem z4W{w:World}{base k:Nat}{g n:Nat}{cs:List Value}{F:Array Value}(h:w.ownsRow base e k (.slice (some ⟨g,0,none⟩) n cap) n cs)(hF:F.size=n*k):
  (putRow id (Sort.ahead w q) g 0 F).ownsRow base e k (.slice (some ⟨g,0,none⟩) n cap) n F.toList:=by
 rcases h.2 with⟨e0,_⟩|⟨M,o,b,e0,E,G,x,hm,J,N⟩
 ·cases e0
 ·injection e0 with d _ y
  injection d with d;injection d with d;subst d;subst y;have I:n*k<=cap*k:=Nat.mul_le_mul_right k x;refine⟨by simpa using hF,.inr ⟨g,cap,putCells id 0 F b,rfl,E,?_,x,hm,by simpa [putCells] using J,?_⟩⟩
  ·simp[putRow,mapBlock,Sort.ahead,Array.getElem?_modify,G,onCells]
  ·apply List.ext_getElem?
   intro j;rw[List.getElem?_take,Array.getElem?_toList,Array.getElem?_toList];by_cases r:j<n*k
   ·have l:j<b.size:=by omega
    simp only[ξ r,putCells,Array.getElem?_mapIdx,Array.getElem?_eq_getElem l,Option.map_some];rw[ξ (by omega),Array.getElem?_eq_getElem (by omega)];simp[getElem!_pos,show j<F.size by omega]
   ·rw[κ r,Array.getElem?_eq_none (by omega)]
theorem z1g{w:World}{base k:Nat}{g n:Nat}{cs:List Value}(h:w.ownsRow base e k (.slice (some ⟨g,0,none⟩) n cap) n cs):Holds id w g 0 cs.toArray:=by
 have E:=h.1;rcases h.2 with⟨e0,_⟩|⟨J,o,d,e0,M,r,F,hm,N,I⟩
 ·cases e0
 ·injection e0 with b _ x
  injection b with b;injection b with b;subst b;subst x;have G:n*k<=cap*k:=Nat.mul_le_mul_right k F;intro j y;have l:j<n*k:=by simpa [E] using y
  refine⟨?_,by simp[World.frozen?,r]⟩;have b:(d.toList.take (n*k))[j]? =cs[j]? :=by rw[I]
  rw[List.getElem?_take,ξ l,Array.getElem?_toList] at b;simp only[World.cell?,r,Nat.zero_add];simp only[Option.isSome_none,Bool.false_eq_true,if_false];rw[b,γ (by omega)];simp[getElem!_pos,show j<cs.length by omega]
instance : Inhabited To:=⟨to0⟩
theorem z2a(T:List To):flatK toc 5 T.toArray=(q2m T).toArray:=by
 have b:(flatK toc 5 T.toArray).size=T.length*5:=by simp[flatK]
 refine ext_get! (by rw[b];simp[q3C]) fun t j=>?_
 rw[b] at j;rw[get_flatK _ _ _ _ (by simpa using j)];have d:=q5V T (t/5) (t % 5) (by omega) (Nat.mod_lt _ (by decide));rw[show t/5*5+t % 5=t by omega] at d;have l:t/5<T.length:=by omega
 rw[show(T.toArray)[t/5]! =T.getD (t/5) to0 by simp[getElem!_pos,l,δ]];rw[show(q2m T).toArray[t]! =((q2m T)[t]?).getD default by simp only[getElem!_def,List.getElem?_toArray];cases (q2m T)[t]? <;>rfl,d];simp only[getElem!_def]
 cases (toc (T.getD (t/5) to0))[t % 5]? <;>rfl
theorem z9d{w:World}{base:Nat}(h:w.ownsRow base 99 5 v T.length (q2m T))(I:T.length<=9223372036854775807):
  Calls Tryz.prog 78 #[v] w fun e w'=>e= .returned (.tuple #[])/\w'.ownsRow base 99 5 v T.length (q2m T.reverse)/\(∀w0,Below w0.heap.size w0 w->w0.heap.size<=base->Below w0.heap.size w0 w')/\
   (∀i,v.ownBlock≠some i->w'.heap[i]? =w.heap[i]?)/\w.heap.size<=w'.heap.size:=by
 rcases h.2 with⟨rfl,r⟩|⟨g,cap,l,rfl,R,S,M,N,O,Q⟩
 ·have y:T=[]:=List.length_eq_zero_iff.1 r
  subst y;refine(AnyQ.slices_Reverse_empty Tryz.reverseTold none 0 w).mono ?_;rintro e w' ⟨rfl,rfl⟩;exact⟨rfl,h,fun _ b _=>b,fun _ _=>rfl,ι _⟩
 ·have j:=AnyQ.slices_Reverse Tryz.reverseTold 5 Tryz.isAgg99 Tryz.sizeOf99 toc (fun _=>rfl) (fun x u J=>z1p [x] u (by simpa [q2m] using J)) g 0 cap T.toArray w (by unfold HoldsK;rw[z2a];exact z1g h) (by simpa using I)
  have e0:T.toArray.size=T.length:=by simp
  rw[e0] at j;refine j.mono ?_;rintro e w' ⟨rfl,q,rfl⟩;have o:putRowK toc 5 (Sort.ahead w q) g 0 T.toArray.reverse=putRow id (Sort.ahead w q) g 0 (q2m T.reverse).toArray:=by
   unfold putRowK;rw[show T.toArray.reverse=T.reverse.toArray by simp,z2a]
  rw[o];refine⟨rfl,?_,fun w0 b G=>below_putRow b (by omega),fun i E=>?_,?_⟩
  ·have:=z4W (q:=q) (F:=(q2m T.reverse).toArray) h (by simp[q3C])
   simpa using this
  ·have d:g≠i:=fun e=>E (by rw[e];rfl)
   simp[putRow,mapBlock,Sort.ahead,Array.getElem?_modify,d]
  ·simp[Sort.ahead]
def z7P(bs:List Bt)(str:List UInt8)(fr ct:Int):List To:=if q3T str fr ct=0 then(z0X (q5U bs str) fr ct).reverse else []
section
variable {wb w W W1 W2:World}{g gl gs gx rate:Nat}{m:Man}{ws:List En}{c s sd:Int}{u cnt:Nat}{B:List En}{C:Cks}{P:Pbs}{sure:Int}{K K':Nat->Prop}
theorem z4X(h:StoP wb w g gs gl gx rate m ws sd c s u cnt B C sure P K)(str:List UInt8)(hs:str.length<=4611686018427387903)(fr ct:Int)(f0:fr<=9223372036854775807)(e0:ct<=9223372036854775807)(hl:B.length<=10000)(c0:(q0c (q2P P) str).length<=10000):
  Calls Tryz.prog 79 #[.pointer (some ⟨gs,0,none⟩),.string ⟨str.toArray⟩,.int .i64 fr,.int .i64 ct] w (ToldR wb w g gs gl gx rate m ws sd c s u cnt B C sure P K (z7P (q2P P) str fr ct) (q3T str fr ct)):=by
 have r:=η (z9k h.b str hs fr ct);have HH:=η h;obtain⟨R,y⟩: ∃R,z7P (q2P P) str fr ct=R:=⟨_,rfl⟩
 rw[y];unfold z7P at y;by_cases l:q3T str fr ct=0
 ·have S:0<=fr/\1<=ct:=by
   unfold q3T at l
   split at l
   ·cases l
   ·omega
  rw[ξ l] at y;rw[l] at r⊢;have q1:IntKind.i64.wrap (fr-ct)=fr-ct:=by rw[ν];omega
  have q2:IntKind.i64.wrap (fr-ct+1)=fr-ct+1:=by rw[ν];omega
  have x:=z9N (q2P P) str (f:=fr) (c:=ct) S.1 S.2 (by omega);obtain⟨E,N⟩: ∃E,z0X (q5U (q2P P) str) fr ct=E:=⟨_,rfl⟩
  rw[N] at x y;have d0:E.length<=10000:=by
   rw[<-x];refine Ω (List.length_filter_le _ _) ?_;rw[q2D];exact c0
  have HB:=η (fun W (k:Ext w W)=>q8W (h.grow k) str hs (fr-ct+1) fr hl x);have I:Hd (E.reverse=R):=η y;clear l y h x N;go_enter Tryz.func79,Tryz.ntmps79;go_wp2_with fail;refine r.o.mono ?_;rintro e w1 ⟨rfl,Z⟩;have M:=η Z;clear Z;go_wp2_with fail;refine(HB.o _ M.o).mono ?_;rintro e w2 ⟨v,rfl,hh,V,d,Q⟩;obtain⟨ra,rc,rfl⟩:=q0F d;have J:=η (z9d d (by omega));have G:=η hh;have b0:=η ((HH.o.kExt M.o).trans V);have F:=η Q;clear hh V d Q HB;go_wp2_with fail;refine J.o.mono ?_;rintro e w3 ⟨rfl,d,O,j,Y⟩;rw[I.o] at d;have U:R.length=E.length:=by rw[<-I.o,List.length_reverse]
  have HF:Hd (ToldR wb w g gs gl gx rate m ws sd c s u cnt B C sure P K R 0 (.returned (.tuple #[.slice ra E.length rc,.int .i64 0])) w3):=η
   ⟨_,rfl,G.o.sideM Y (O wb G.o.base (ι _)) (fun i hi hn=>j i fun e=>hn (.inr e)) fun i hi=> .inl hi,b0.o.trans fun i hi=>j i (F.o i hi),by rw[U];exact d,F.o⟩
  clear d O j Y J;go_wp2_with fail;go_ret2;exact HF.o
 ·rw [κ l] at y
  subst y;have a0:q3T str fr ct=2:=by
   unfold q3T at l⊢
   split at l
   ·rename_i h1;rw[ξ h1]
   ·exact absurd rfl l
  rw[a0] at r⊢;clear l a0 h;go_enter Tryz.func79,Tryz.ntmps79;go_wp2_with fail;refine r.o.mono ?_;rintro e w1 ⟨rfl,Z⟩;have M:=η Z;clear Z;go_wp2_with fail;go_ret2;exact ToldR.nil (HH.o.grow M.o) (HH.o.kExt M.o) 2
end
end
section
open Go.RowKit
theorem z2Q : ∀(C:Cks) (b:Nat),(∀ps∈C,ps≠[])->C.length<=(q1M b C).length
 |[],_,_=>ι _
 | ps::t,b,h=>by
  have d:=z2Q t (b+4096) fun q hq=>h q (.tail _ hq)
  have j:0<ps.length:=List.length_pos_iff.2 (h ps (.head _));rw[q1M,θ,q5P,χ];omega
theorem z1q{bs:List Bt}(h:okBs bs):(tos bs).length<=8*bs.length:=by
 induction bs using z1k with
 |h0=>exact ι _
 | h1 l b ih=>
  obtain⟨h1,d,_⟩:=okBs_snoc.1 h;have j:=(q1A d.1).2.2.2.1;have o:=ih h1;rw[q4T,q9a,θ,q4n,θ,List.length_singleton];omega
def SK(wb W:World)(g gs rate:Nat)(sd c s:Int)(u n:Nat)(bs:List Bt)(K:Nat->Prop):Prop:=
 ∃gl gx m ws B C sure P,StoP wb W g gs gl gx rate m ws sd c s u (40+3*n) B C sure P K/\q2P P=bs/\m.nx<=n/\bs.length<=n/\0<=sd/\sd<18446744073709551616
def SQ(wb W:World)(g:Nat)(sd c s:Int)(u n:Nat)(bs:List Bt)(K:Nat->Prop):Prop:=
 ∃m B C P,DKQ wb W g m c s u (40+3*n) B C K/\y6I sd m B C P/\B.Nodup/\q2P P=bs/\m.nx<=n/\bs.length<=n/\0<=sd/\sd<18446744073709551616
section
variable {wb w W W':World}{g gs rate u n:Nat}{sd c s:Int}{bs:List Bt}{K K':Nat->Prop}
theorem StoP.bounds{gl gx:Nat}{m:Man}{ws:List En}{cnt:Nat}{B:List En}{C:Cks}{sure:Int}{P:Pbs}(h:StoP wb W g gs gl gx rate m ws sd c s u cnt B C sure P K)(d:q2P P=bs)(x:bs.length<=n):
  (tos bs).length<=8*n/\B.length<=8*n/\C.length<=n/\okBs bs:=by
 have b:okBs bs:=d▸h.stE.ok;have o:=z1q b;have j:=h.len;rw[d] at j;have l:=z2Q C 0 h.i.cOk.full;rw[h.recE,q9Q] at l;have r:bs.length=P.length:=by rw[<-d];exact List.length_map _
 exact⟨by omega,by omega,by omega,b⟩
theorem SK.few(h:SK wb W g gs rate sd c s u n bs K):bs.length<=n/\(tos bs).length<=8*n:=by
 obtain⟨gl,gx,m,ws,B,C,sure,P,d,j,_,b,_⟩:=h;exact⟨b,(d.bounds j b).1⟩
theorem SK.base(h:SK wb W g gs rate sd c s u n bs K):Ext wb W:=by
 obtain⟨gl,gx,m,ws,B,C,sure,P,b,_⟩:=h;exact b.base
theorem SK.klt(h:SK wb W g gs rate sd c s u n bs K): ∀i,K i->i<W.heap.size:=by
 obtain⟨gl,gx,m,ws,B,C,sure,P,b,_⟩:=h;exact b.klt
theorem SK.grow(h:SK wb W g gs rate sd c s u n bs K)(k:Ext W W'):SK wb W' g gs rate sd c s u n bs K:=by
 obtain⟨gl,gx,m,ws,B,C,sure,P,b,d⟩:=h;exact⟨gl,gx,m,ws,B,C,sure,P,b.grow k,d⟩
theorem SK.kExt(h:SK wb W g gs rate sd c s u n bs K)(k:Ext W W'):Stay K W W':=fun i b=>k.block i (h.klt i b)
theorem SK.more(h:SK wb W g gs rate sd c s u n bs K)(k:Ext W W')(hK: ∀i,K' i->K i\/(W.heap.size<=i/\i<W'.heap.size)):SK wb W' g gs rate sd c s u n bs K':=by
 obtain⟨gl,gx,m,ws,B,C,sure,P,b,d⟩:=h;exact⟨gl,gx,m,ws,B,C,sure,P,b.more k hK,d⟩
theorem SK.beside(h:SK wb W g gs rate sd c s u n bs K)(k: ∀i,K' i->K i):SK wb W g gs rate sd c s u n bs K':=by
 obtain⟨gl,gx,m,ws,B,C,sure,P,b,d⟩:=h;exact⟨gl,gx,m,ws,B,C,sure,P,b.beside k,d⟩
theorem SK.sideM(h:SK wb W g gs rate sd c s u n bs K)(j:W.heap.size<=W'.heap.size)(l:Ext wb W')(k: ∀i,i<W.heap.size->¬K i->W'.heap[i]? =W.heap[i]?)(hK: ∀i,K' i->K i\/(W.heap.size<=i/\i<W'.heap.size)):SK wb W' g gs rate sd c s u n bs K':=by
 obtain⟨gl,gx,m,ws,B,C,sure,P,b,d⟩:=h;exact⟨gl,gx,m,ws,B,C,sure,P,b.sideM j l k hK,d⟩
theorem SK.mono(h:SK wb W g gs rate sd c s u n bs K)(x:u<=u')(r:n<=n'):SK wb W g gs rate sd c s u' n' bs K:=by
 obtain⟨gl,gx,m,ws,B,C,sure,P,b,d,l,o,j⟩:=h;exact⟨gl,gx,m,ws,B,C,sure,P,b.mono (by omega) (by omega),d,by omega,by omega,j⟩
def EvR(wb w:World)(g gs rate:Nat)(sd c s:Int)(u n:Nat)(bs:List Bt)(K:Nat->Prop)(R:List To)(z:Int)(e:Ending)(w':World):Prop:=
 ∃v,e= .returned (.tuple #[v,.int .i64 z])/\SK wb w' g gs rate sd c s u n bs (fun i=>K i\/v.ownBlock=some i)/\Stay K w w'/\w'.ownsRow wb.heap.size 99 5 v R.length (q2m R)/\ ∀i,K i->v.ownBlock≠some i
theorem SK.last(h:SK wb w g gs rate sd c s u n bs K)(G:n<=1000)(str:List UInt8)(r:str.length<=4611686018427387903){x y:Int}(o:z1O bs str=(x,y)):
  Calls Tryz.prog 32 #[.pointer (some ⟨gs,0,none⟩),.string ⟨str.toArray⟩] w fun e w'=>e= .returned (.tuple #[.int .i64 x,.int .i64 y])/\SK wb w' g gs rate sd c s u n bs K/\Stay K w w':=by
 obtain⟨gl,gx,m,ws,B,C,sure,P,b,rfl,j,d,l⟩:=h;obtain⟨b1,b2,b3,b4⟩:=b.bounds rfl d;have F:=q3c (q2P P) str;refine(z9j b str r (by omega) (by omega) o).mono ?_;rintro e w' ⟨rfl,k1,E⟩;exact⟨rfl,⟨gl,gx,m,ws,B,C,sure,P,k1,rfl,j,d,l⟩,E⟩
theorem SK.forward(h:SK wb w g gs rate sd c s u n bs K)(F:n<=1000)(str:List UInt8)(x:str.length<=4611686018427387903)(fr ct:Int)(b: -9223372036854775808<=fr)(d:fr<=9223372036854775807):
  Calls Tryz.prog 33 #[.pointer (some ⟨gs,0,none⟩),.string ⟨str.toArray⟩,.int .i64 fr,.int .i64 ct] w (EvR wb w g gs rate sd c s u n bs K (z2c bs str fr ct) (q3T str fr ct)):=by
 obtain⟨gl,gx,m,ws,B,C,sure,P,j,rfl,o,l,r⟩:=h;obtain⟨b1,b2,b3,b4⟩:=j.bounds rfl l;have E:=q3c (q2P P) str;refine(z7D j str x fr ct b d (by omega) (by omega)).mono ?_;rintro e w' ⟨v,rfl,k1,y⟩;exact⟨v,rfl,⟨gl,gx,m,ws,B,C,sure,P,k1,rfl,o,l,r⟩,y⟩
theorem SK.backward(h:SK wb w g gs rate sd c s u n bs K)(F:n<=1000)(str:List UInt8)(x:str.length<=4611686018427387903)(fr ct:Int)(d:fr<=9223372036854775807)(b:ct<=9223372036854775807):
  Calls Tryz.prog 79 #[.pointer (some ⟨gs,0,none⟩),.string ⟨str.toArray⟩,.int .i64 fr,.int .i64 ct] w (EvR wb w g gs rate sd c s u n bs K (z7P bs str fr ct) (q3T str fr ct)):=by
 obtain⟨gl,gx,m,ws,B,C,sure,P,j,rfl,o,l,r⟩:=h;obtain⟨b1,b2,b3,b4⟩:=j.bounds rfl l;have E:=q3c (q2P P) str;refine(z4X j str x fr ct d b (by omega) (by omega)).mono ?_;rintro e w' ⟨v,rfl,k1,y⟩;exact⟨v,rfl,⟨gl,gx,m,ws,B,C,sure,P,k1,rfl,o,l,r⟩,y⟩
theorem SK.flush(h:SK wb w g gs rate sd c s u n bs K):Calls Tryz.prog 56 #[.pointer (some ⟨gs,0,none⟩)] w fun e w'=>e= .returned (.int .i64 0)/\SK wb w' g gs rate sd c s u n bs K/\Stay K w w':=by
 obtain⟨gl,gx,m,ws,B,C,sure,P,b,d⟩:=h;refine(y1s b).mono ?_;rintro e w' ⟨rfl,k1,j⟩;exact⟨rfl,⟨gl,gx,m,ws,B,C,_,P,k1,d⟩,j⟩
theorem SK.index(h:SK wb w g gs rate sd c s u n bs K)(G:n<=86):Calls Tryz.prog 62 #[.pointer (some ⟨gs,0,none⟩)] w fun e w'=> ∃z,e= .returned (.int .i64 z)/\(z=0\/z=60)/\SK wb w' g gs rate sd c s (u+20000) (n+1) bs K/\Stay K w w':=by
 obtain⟨gl,gx,m,ws,B,C,sure,P,j,rfl,F,l,o⟩:=h;obtain⟨b1,b2,b3,b4⟩:=j.bounds rfl l;refine(y1t j (by omega) (by omega) (by omega)).mono ?_;rintro e w' ⟨z,E,d,b,rfl,x,r,k1,y⟩;exact⟨z,rfl,x,⟨gl,gx,E,d,B,C,b,P,k1.mono (by omega) (by omega),rfl,by omega,by omega,o⟩,y⟩
theorem SK.merge(h:SK wb w g gs rate sd c s u n bs K)(E:n<=86)(lv:Int):Calls Tryz.prog 63 #[.pointer (some ⟨gs,0,none⟩),.int .i64 lv] w fun e w'=>
  ∃z,e= .returned (.int .i64 z)/\(z=0\/z=60\/z=4\/(z=2/\(lv<0\/5<=lv)))/\SK wb w' g gs rate sd c s (u+20000) (n+1) bs K/\Stay K w w':=by
 obtain⟨gl,gx,m,ws,B,C,sure,P,b,rfl,y,d,j⟩:=h;obtain⟨b1,b2,b3,b4⟩:=b.bounds rfl d;refine(y1u b lv (by omega) (by omega) (by omega)).mono ?_;rintro e w' ⟨z,x,rfl,o,l,k1,r⟩;exact⟨z,rfl,o,⟨gl,gx,x,ws,B,C,sure,P,k1.mono (by omega) (by omega),rfl,by omega,by omega,j⟩,r⟩
theorem SK.append(h:SK wb w g gs rate sd c s u n bs K)(R:n<=86)(str:List UInt8)(I:str.length<=4611686018427387903)(ex:Int){k:Nat}(J: ∀W,Ext wb W->Stay K w W->Evs W ao k cap L)(G:q2U L)
  (j: ∀e∈L,e.we<18446744073709551616){z:Int}(M:z3k bs str ex L=z):
  Calls Tryz.prog 19 #[.pointer (some ⟨gs,0,none⟩),.string ⟨str.toArray⟩,.int .i64 ex,.slice ao k cap] w fun e w'=>
   ∃ x y bs',e= .returned (.tuple #[.int .i64 x,.int .i64 y])/\SK wb w' g gs rate sd c s (u+2024) (n+1) bs' K/\Stay K w w'/\
    ((z≠0/\x=0/\y=z/\bs'=bs)\/(z=0/\x=0/\y=60/\bs'=bs/\c-(u:Int)-2024<6000)\/(z=0/\x=((q0c bs str).length:Int)/\y=0/\bs'=bs++[⟨str,(q0c bs str).length,L⟩])):=by
 obtain⟨gl,gx,m,ws,B,C,sure,P,r,rfl,Q,F,d⟩:=h;obtain⟨b1,b2,b3,b4⟩:=r.bounds rfl F;have O:=q3c (q2P P) str;refine(z9g r str I ex J G j (by omega) (by omega) (by omega)).mono ?_;rw[M];rintro e w' ⟨⟨k0,rfl,k1⟩|⟨rfl,rfl,k1,N⟩|⟨rfl,N,pos,o,B',E,b,rfl,k1⟩,l⟩
 ·exact⟨_,_,_,rfl,⟨gl,gx,m,ws,B,C,sure,P,k1.mono (by omega) (by omega),rfl,by omega,by omega,d⟩,l,.inl ⟨k0,rfl,rfl,rfl⟩⟩
 ·exact⟨_,_,_,rfl,⟨gl,gx,m,ws,B,C,sure,P,k1.mono (by omega) (by omega),rfl,by omega,by omega,d⟩,l,.inr (.inl ⟨rfl,rfl,rfl,rfl,by omega⟩)⟩
 ·exact⟨_,_,_,rfl,⟨gl,gx,m,o,B',E,b,_,k1.mono (by omega) (by omega),rfl,by omega,by rw[q6V,θ,List.length_singleton];omega,d⟩,l,.inr (.inr ⟨rfl,rfl,rfl,q6V _ _ _⟩)⟩
theorem SK.disk(h:SK wb W g gs rate sd c s u n bs K):SQ wb W g sd c s u n bs K:=by
 obtain⟨gl,gx,m,ws,B,C,sure,P,j,J,M,N,O⟩:=h;obtain⟨E,k1,G⟩:=j.i.forget;have y:E.Nodup:=by
  obtain⟨st,σ,I,Z,F,rfl,_,_,⟨Q,_⟩,_⟩:=k1;exact Q.okB.sort.imp fun {a b} o e=>by rw[e,q0i] at o;cases o
 obtain⟨st,σ,I,F,S,U,r,V,Y⟩:=k1.dkq;refine⟨m,E,C,P,⟨st,σ,I,F,S,U,⟨r.d,r.bF,r.ext,fun i R=>r.k i (.inl R)⟩,V,Y⟩,⟨j.sdE,j.recE,j.stE.ok,fun x l=>(j.stE.ents x).1 ((G x).2 (.inr l)),fun x l=>?_,j.ckE⟩,y,J,M,N,O⟩;rcases(G x).1 ((j.stE.ents x).2 l) with l|l
 ·exact .inr (j.wsE x l)
 ·exact .inl l
theorem SQ.open(h:SQ wb w g sd c s u n bs K)(G:n<=200)(rate:Nat):Calls Tryz.prog 43 #[.pointer (some ⟨g,0,none⟩),.int .u64 sd,.float .f64 rate] w fun e w'=>
  ∃gs,e= .returned (.tuple #[.pointer (some ⟨gs,0,none⟩),.int .i64 0])/\SK wb w' g gs rate sd c s u n bs K/\Stay K w w':=by
 obtain⟨m,B,C,P,l,b,o,rfl,E,r,d,j⟩:=h;have F:=z1q b.ok;refine(y3m l b d j (by omega) (by omega) o rate).mono ?_;rintro e w' ⟨gs,gl,gx,y,ws,B',sure,rfl,k1,I,x⟩;exact⟨gs,rfl,⟨gl,gx,y,ws,B',C,sure,P,k1,rfl,by omega,r,d,j⟩,x⟩
theorem DkK.sq(h:DkK noO wb w g c s [] K)(sd:Int)(d:0<=sd)(j:sd<18446744073709551616):SQ wb w g sd c s 0 0 [] K:=by
 obtain⟨F,σ,r,y⟩:=h;have o:Pl σ c s []:=by have:=y.pl;simpa [q2q,noO,q1q,q5z,q3y,q4v] using this
 have E:q0b 0 0 []=true:=by decide
 refine⟨⟨0,0,sd,[]⟩,[],[],[],⟨⟨⟨0,0,sd,[]⟩,0,[],fun _=>none,0⟩,σ,fun _=>none,F,rfl,rfl,r,⟨⟨⟨[],o,List.Pairwise.nil,fun _=>rfl,υ _,υ _⟩,⟨E,d,j⟩,(fun n l=>by cases l),(fun n e he=>by cases he),(fun nm l=>absurd rfl l),okM.nil,okM.nil,fun x=>?_⟩,.inr ⟨rfl,rfl,rfl,rfl⟩,fun k _=>by simp⟩,okC.nil⟩,
  ⟨rfl,rfl,okBs.nil,(fun x b=>by cases b),(fun x b=>by cases b),by show(0:Int)<=q4O [];rw[z5C];decide⟩,List.nodup_nil,rfl,Int.le_refl _,ι _,d,j⟩
 constructor
 ·intro b;cases b
 ·rintro(b|⟨n,e,he,_⟩)
  ·cases b
  ·cases he
end
theorem DkK.rebase{E:Oth}{j wb w:World}{g:Nat}{c s:Int}{C:Cks}{K:Nat->Prop}(h:DkK E wb w g c s C K)(k:Ext j wb):DkK E j w g c s C K:=by
 obtain⟨F,σ,b,l⟩:=h;have r:=k.size;exact⟨F,σ,⟨b.d,fun i o=>by have:=b.bF i o;omega,k.trans b.ext,b.k⟩,l⟩
theorem DkK.base{E:Oth}{wb w:World}{g:Nat}{c s:Int}{C:Cks}{K:Nat->Prop}(h:DkK E wb w g c s C K):Ext wb w:=by
 obtain⟨F,σ,b,d⟩:=h;exact b.ext
theorem Blk.rd{w:World}{b:Nat}{cs:Array Value}(h:Blk w b t cs):Rd w (some ⟨b,0,none⟩) cs.toList:=fun j u d=>⟨b,0,rfl,by rw[Nat.zero_add,h.cell j];simpa using d⟩
theorem Blk.evs{w:World}{b:Nat}(h:Blk w b t (q8F L).toArray){k:Nat}(j:k<=L.length)(l:L.length<=1000000):Evs w (some ⟨b,0,none⟩) k L.length (L.take k):=by
 refine⟨by rw[Θ];omega,j,by omega,(fun e=>by cases e),?_⟩;have d:=h.rd.take (k*3);have e:(q8F L).take (k*3)=q8F (L.take k):=by
  conv=>lhs;rw[<-List.take_append_drop k L,q8o]
  exact List.take_left' (by rw[q6D,Θ];omega)
 rw[<-e]
 simpa using d
theorem q6M{w:World}{B:Nat}{n cp:Nat}{L:List To}(h:w.ownsRow B e 5 (.slice ao n cp) L.length (q2m L)):Tos w ao n cp L/\n=L.length:=by
 obtain⟨a,c,b,d⟩:=Tos.of_own (Own.of_row h)
 cases b;exact⟨d,rfl⟩
abbrev evA :Ev:=⟨[97],[],0⟩
abbrev y0p :Ev:=⟨[98],[],0⟩
theorem z1j(h: ∀e∈L,e.ty.length<=300/\e.da.length<=300):q2U L:=fun e he=>by have:=h e he;omega
section
variable {wb w W W1 W2:World}{g gs rate u n:Nat}{sd c s:Int}{bs:List Bt}{K K':Nat->Prop}
theorem SK.row0{m M base:Nat}{O x:List Value}(h:SK wb W g gs rate sd c s u n bs (fun i=>K i\/vq.ownBlock=some i))(Q:wb.heap.size<=base)(hq:W.ownsRow base ti sz vq m O)
  (G:W2.ownsRow base ti sz v2 M x)(j:W.grownBy W2 vq.ownBlock)(y:v2.ownBlock=vq.ownBlock\/v2.ownBlock=some W.heap.size)(F: ∀i,K i->vq.ownBlock≠some i):
  SK wb W2 g gs rate sd c s u n bs (fun i=>K i\/v2.ownBlock=some i)/\Stay K W W2/\ ∀i,K i->v2.ownBlock≠some i:=by
 have N:=j.size;have o: ∀i,vq.ownBlock=some i->base<=i/\i<W.heap.size:=q0e hq;have E: ∀i,i<W.heap.size->vq.ownBlock≠some i->W2.heap[i]? =W.heap[i]? :=fun i b l=>j.block i b fun e=>l e.symm
 have d:=h.base;have r:Ext wb W2:=Below.grown d j d.size fun k I=>by have:=(o k I).1;omega
 refine⟨h.sideM N r (fun i b l=>E i b fun e=>l (.inr e)) fun i b=>?_,fun i b=>E i (h.klt i (.inl b)) (F i b),fun i b e=>?_⟩
 ·rcases b with b|b
  ·exact .inl (.inl b)
  ·rcases y with k|k
   ·exact .inl (.inr (k.symm.trans b))
   ·have J:=(q0e G i b).2
    rw[k] at b
    cases b
    right;omega
 ·rcases y with k|k
  ·exact F i b (k.symm.trans e)
  ·rw[k] at e
   cases e;have:=h.klt _ (.inl b);omega
end
theorem z8N{j:Type}(p:j->Bool)(A:List j)(d:j){k:Nat}(h:k<A.length):(A.take (k+1)).filter p=(A.take k).filter p++if p (A.getD k d)=true then [A.getD k d] else []:=by
 rw[List.take_succ_eq_append_getElem h,List.filter_append,δ,γ h];simp only[Option.getD_some];by_cases b:p A[k]=true
 ·rw[ξ b,List.filter_cons_of_pos b,List.filter_nil]
 ·rw[κ b,List.filter_cons_of_neg b,List.filter_nil]
def wrB(bs:List Bt)(str:List UInt8)(a:Int)(L:List Ev):List Bt:=
 if z3k bs str a L=0 then bs++[⟨str,(q0c bs str).length,L⟩] else bs
section
variable {wb w W W':World}{g gs gw rate u n:Nat}{sd c s:Int}{bs:List Bt}{K K':Nat->Prop}
def WrI(W:World)(gw gs:Nat)(str:List UInt8)(a:Int):Prop:=Blk W gw 116 #[.pointer (some ⟨gs,0,none⟩),.string ⟨str.toArray⟩,.int .i64 a]
end
end
section
open Go.RowKit Go.Extern.Stop Go.Stop Go.Extern
end
section
open Go.RowKit
section
variable {wb w W W':World}{g gs gw rate u n:Nat}{sd c s:Int}{bs:List Bt}{K K':Nat->Prop}
end
theorem z0V(sd:Int)(rate:Nat)(b:Int)(w:World)(E:0<=sd)(F:sd<18446744073709551616):
  Calls Tryz.prog 16 #[.agg #[.int .u64 sd,.float .f64 rate,.int .u16 b]] w fun e w'=> ∃g gs,e= .returned (.tuple #[.pointer (some ⟨g,0,none⟩),.pointer (some ⟨gs,0,none⟩),.bool true])/\SK w w' g gs rate sd 1048576 0 0 0 [] noI:=by
 have l:=q0B w (.cells #[.int .u64 sd,.float .f64 rate,.int .u16 b] 50);have j:=Blk.new w 50 #[.int .u64 sd,.float .f64 rate,.int .u16 b];have r:=η j;have x:=η l;have O:=η (fun W=>DkK.new24 W 1048576 (by decide) (by decide));clear l j;go_enter Tryz.func16,Tryz.ntmps16;go_wp2_with fail;refine(O.o _).mono ?_;rintro e w1 ⟨g,rfl,y⟩;have M:=DkK.base y;have d:=r.o.ext M;have k0:=d.cell 0;have k1:=d.cell 1;have I:=η ((DkK.sq (y.rebase x.o) sd E F).open (by omega) rate);clear y M d;go_wp2_with fail;refine I.o.mono ?_;rintro e Q ⟨gs,rfl,J,G⟩;have N:=η J;clear J G I k0 k1;go_wp2_with fail;go_ret3;exact⟨g,gs,rfl,N.o⟩
section
variable {wb w W W':World}{g gs gw rate u n:Nat}{sd c s:Int}{bs:List Bt}{K K':Nat->Prop}
end
section
variable {wb w W W':World}{g gs gw rate u n:Nat}{sd c s:Int}{bs:List Bt}{K K':Nat->Prop}
end
abbrev y0q :Ev:=⟨[99],[],0⟩
theorem q7m(t d:List UInt8)(k:FloatKind)(b:Nat)(w:World)(F:t.length<=4611686018427387903)(E:d.length<=4611686018427387903):
  Calls Tryz.prog 96 #[.agg #[.string ⟨t.toArray⟩,.string ⟨d.toArray⟩,.float k b]] w fun e w'=>e= .returned (.int .i64 (q0h t d))/\Ext w w':=by
 have j:=Blk.new w 97 #[.string ⟨t.toArray⟩,.string ⟨d.toArray⟩,.float k b];have y:=η (q0B w (.cells #[.string ⟨t.toArray⟩,.string ⟨d.toArray⟩,.float k b] 97));have I:(w.alloc (.cells #[.string ⟨t.toArray⟩,.string ⟨d.toArray⟩,.float k b] 97)).cell? ⟨w.heap.size,0,none⟩=some (.string ⟨t.toArray⟩):=j.cell 0;have J:(w.alloc (.cells #[.string ⟨t.toArray⟩,.string ⟨d.toArray⟩,.float k b] 97)).cell? ⟨w.heap.size,1,none⟩=some (.string ⟨d.toArray⟩):=j.cell 1;have G:(((t.length:Int)==0)=true/\q0h t d=2)\/(((t.length:Int)==0)=false/\((decide ((16:Int)<(t.length:Int))=true/\q0h t d=3)\/(decide ((16:Int)<(t.length:Int))=false/\((decide ((200:Int)<(d.length:Int))=true/\q0h t d=3)\/(decide ((200:Int)<(d.length:Int))=false/\q0h t d=0))))):=by
  unfold q0h;by_cases l:t=[]
  ·exact .inl ⟨by rw[l];rfl,by rw[ξ l]⟩
  ·have M:0<t.length:=List.length_pos_iff.2 l
   refine .inr ⟨by simp;omega,?_⟩;rw[κ l];by_cases r:16<t.length
   ·exact .inl ⟨ζ (by omega),by rw[ξ r]⟩
   ·rw[κ r]
    refine .inr ⟨ε (by omega),?_⟩;by_cases x:200<d.length
    ·exact .inl ⟨ζ (by omega),by rw[ξ x]⟩
    ·exact .inr ⟨ε (by omega),by rw[κ x]⟩
 clear j;rcases G with⟨l,he⟩|⟨l,⟨r,he⟩|⟨r,⟨x,he⟩|⟨x,he⟩⟩⟩
 all_goals
  rw[he];clear he;go_enter Tryz.func96,Tryz.ntmps96;go_wp2_with fail;go_ret;exact⟨rfl,y.o⟩
theorem z4T(e:Ev)(w:World)(he:z9E e):Calls Tryz.prog 99 #[evV e] w fun r w'=>r= .returned (.string ⟨(evB e).toArray⟩)/\Ext w w':=by
 obtain⟨t,d,b⟩:=e;obtain⟨x,h2⟩:=he;obtain⟨_,S,U⟩:=q2F x;simp only at x h2 S U;show Calls _ _ #[.agg #[.string ⟨t.toArray⟩,.string ⟨d.toArray⟩,.float .f64 b]] _ fun r w'=>r= .returned (.string ⟨(q1x t++(q1x d++be 8 b)).toArray⟩)/\Ext w w'
 have O:=η (fun W=>q7m t d .f64 b W (by omega) (by omega));rw[x] at O;have F:=η (fun W=>q9S t W (by omega));have G:=η (fun W=>q9S d W (by omega));have Q:=η (fun W=>z5w (b:Int) 8 8 W rfl (by omega) (by omega) (by omega) (by omega));have l1:(q1x t).length<=1000:=by unfold q1x;split<;>simp[q0H];omega
 have l2:(q1x d).length<=1000:=by unfold q1x;split<;>simp[q0H];omega
 have Y:=q0H 8 ((b:Int)).toNat;obtain⟨R,y⟩: ∃R,be 8 ((b:Int)).toNat=R:=⟨_,rfl⟩
 rw[y] at Q Y;rw[Int.toNat_natCast] at y;rw[y];have b0:R.length<=8:=by omega
 have Z:=η (q0B w (.cells #[.string ⟨t.toArray⟩,.string ⟨d.toArray⟩,.float .f64 b] 97));have j:=Blk.new w 97 #[.string ⟨t.toArray⟩,.string ⟨d.toArray⟩,.float .f64 b];have k0:(w.alloc (.cells #[.string ⟨t.toArray⟩,.string ⟨d.toArray⟩,.float .f64 b] 97)).cell? ⟨w.heap.size,0,none⟩=some (.string ⟨t.toArray⟩):=j.cell 0;have k1:(w.alloc (.cells #[.string ⟨t.toArray⟩,.string ⟨d.toArray⟩,.float .f64 b] 97)).cell? ⟨w.heap.size,1,none⟩=some (.string ⟨d.toArray⟩):=j.cell 1;have k2:(w.alloc (.cells #[.string ⟨t.toArray⟩,.string ⟨d.toArray⟩,.float .f64 b] 97)).cell? ⟨w.heap.size,2,none⟩=some (.float .f64 b):=j.cell 2;have E:=η j;generalize q1x t=A at*;generalize q1x d=D at*;clear j x S U y Y;go_enter Tryz.func99,Tryz.ntmps99;go_wp2_with fail;generalize w.alloc (.cells #[.string ⟨t.toArray⟩,.string ⟨d.toArray⟩,.float .f64 b] 97)=w1 at*;generalize w.heap.size=q at*;refine(O.o _).mono ?_;rintro e N ⟨rfl,M⟩;have I:=η (Z.o.trans M);have l:=E.o.ext M;have c0:N.cell? ⟨q,0,none⟩=some (.string ⟨t.toArray⟩):=l.cell 0;have c1:N.cell? ⟨q,1,none⟩=some (.string ⟨d.toArray⟩):=l.cell 1;have c2:N.cell? ⟨q,2,none⟩=some (.float .f64 b):=l.cell 2;have u0:=q0D c0;have u1:=q0D c1;have u2:=q0D c2;have q1:¬(9223372036854775807<A.length+D.length):=by omega
 have q2:¬(9223372036854775807<(A++D).length+R.length):=by rw[θ];omega
 have q3:¬(9223372036854775807<A.length+D.length+R.length):=by omega
 have a0:=q6k b;clear M l k0 k1 k2;go_wp2_with fail;refine q0E (by kernel_rfl) (by kernel_rfl) ?_
 repeat (go_big_quiet_step (fail))
 go_big_quiet_step (exact Calls.quiet_ext (F.o _))
 repeat (go_big_quiet_step (fail))
 go_big_quiet_step (exact Calls.quiet_ext (G.o _))
 repeat (go_big_quiet_step (fail))
 go_big_quiet_step (exact Calls.quiet_ext (Q.o _))
 repeat (go_big_quiet_step (fail))
 refine wpQuiet_nil ?_;intro w3 V;have J:=η (I.o.trans V);clear V;go_wp2_with fail;go_ret;exact⟨by rw[q2Q,q2Q];simp,J.o⟩
theorem q9R{n:Nat}(st:List UInt8)(fi:Int)(w:World)(O:Evs w ao n cap L)(p0:st.length<=4611686018427387903)(hL:q2U L):
  Calls Tryz.prog 51 #[.agg #[.string ⟨st.toArray⟩,.int .i64 fi,.slice ao n cap]] w fun e w'=>e= .returned (.int .i64 (q0Q st fi L))/\Ext w w':=by
 have b1:=O.fits;have b2:=O.bound;have d:=O.len;have J:=η (q0B w (.cells #[.string ⟨st.toArray⟩,.int .i64 fi,.slice ao n cap] 118));have G:=η (Blk.new w 118 #[.string ⟨st.toArray⟩,.int .i64 fi,.slice ao n cap]);have c0:=G.o.cell 0;have c1:=G.o.cell 1;have c2:=G.o.cell 2;have HE:=η O;have HL:=η hL;clear O hL;by_cases F:st=[]
 ·have x:Hd (q0Q st fi L=2):=η (by unfold q0Q;rw[ξ (.inl F)])
  have hd:((st.length:Int)==0)=true:=by rw[F];rfl
  clear F;go_enter Tryz.func51,Tryz.ntmps51;go_wp2_with fail;go_ret;exact⟨by rw[x.o];rfl,J.o⟩
 have j0:((st.length:Int)==0)=false:=by have:=List.length_pos_iff.2 F;simp;omega
 by_cases M:n=0
 ·have x:Hd (q0Q st fi L=2):=η (by unfold q0Q;rw[ξ (.inr (List.eq_nil_of_length_eq_zero (by omega)))])
  have hd:((n:Int)==0)=true:=by rw[M];rfl
  clear F M d;go_enter Tryz.func51,Tryz.ntmps51;go_wp2_with fail;go_ret;exact⟨by rw[x.o];rfl,J.o⟩
 have k0:((n:Int)==0)=false:=by simpa using M
 have E:L≠[]:=fun e=>M (by rw[<-d,e];rfl)
 have j:¬(st=[]\/L=[]):=fun h=>h.elim F E
 by_cases h3:32<st.length
 ·have x:Hd (q0Q st fi L=3):=η (by unfold q0Q;rw[κ j,ξ (.inl h3)])
  have hd:decide ((32:Int)<(st.length:Int))=true:=ζ (by omega);clear F M E j d h3;go_enter Tryz.func51,Tryz.ntmps51;go_wp2_with fail;go_ret;exact⟨by rw[x.o];rfl,J.o⟩
 have m0:decide ((32:Int)<(st.length:Int))=false:=ε (by omega);by_cases h4:8<n
 ·have x:Hd (q0Q st fi L=3):=η (by unfold q0Q;rw[κ j,ξ (.inr (by omega))])
  have hd:decide ((8:Int)<(n:Int))=true:=ζ (by omega);clear F M E j d h4;go_enter Tryz.func51,Tryz.ntmps51;go_wp2_with fail;go_ret;exact⟨by rw[x.o];rfl,J.o⟩
 have l:¬(32<st.length\/8<L.length):=by omega
 have n0:decide ((8:Int)<(n:Int))=false:=ε (by omega);have q0:IntKind.i64.wrap (1073741824-(n:Int))=1073741824-(n:Int):=by rw[ν];omega
 by_cases h5:fi<0\/1073741824-(n:Int)<fi
 ·have x:Hd (q0Q st fi L=2):=η (by unfold q0Q;rw[κ j,κ l,ξ (by rw[d];exact h5)])
  have I:decide (fi<0)=true\/(decide (fi<0)=false/\decide (1073741824-(n:Int)<fi)=true):=by
   by_cases h:fi<0
   ·exact .inl (ζ h)
   ·exact .inr ⟨ε h,ζ (by omega)⟩
  clear F M E j l d h5 h3 h4;rcases I with I|⟨I,g0⟩
  all_goals
   go_enter Tryz.func51,Tryz.ntmps51;go_wp2_with fail;go_ret;exact⟨by rw[x.o];rfl,J.o⟩
 have I:decide (fi<0)=false:=ε (by omega);have g0:decide (1073741824-(n:Int)<fi)=false:=ε (by omega);have x:Hd (q0Q st fi L=q7N L):=η (by unfold q0Q;rw[κ j,κ l,κ (by rw[d];exact h5)]);have V:=η d;clear F M E j l d h5 h3;go_enter Tryz.func51,Tryz.ntmps51;go_wp2_with fail
 go_loopw [3] (fun i W=> ∃k:Nat,k<=n/\i= .int .i64 (k:Int)/\q7N (L.take k)=0/\Ext (w.alloc (.cells #[.string ⟨st.toArray⟩,.int .i64 fi,.slice ao n cap] 118)) W) (fun i _=>n-(intOf i).toNat)
 case atStart=>exact⟨0,υ _,rfl,rfl,Ext.refl _⟩
 case round=>
  obtain⟨k,hk,rfl,S,Z⟩:=hrel;have U:=η Z;have R:=G.o.ext Z;have d2:=R.cell 2;by_cases a0:k<n
  ·have i0:decide ((k:Int)<(n:Int))=true:=ζ (by omega)
   have o0:(k:Int)<(n:Int):=by omega
   obtain⟨b,off,rfl,e0,e1,e2⟩:=(HE.o.ext (J.o.trans Z)).at a0;have r:k<L.length:=by rw[V.o];exact a0
   have hT:L.take (k+1)=L.take k++[L.getD k ev0]:=by
    rw[List.take_succ_eq_append_getElem r];simp[List.getD,γ r]
   have hS:=q8r (L.take k) (L.getD k ev0) S;rw[<-hT] at hS;have HS:=η hS;have f0:=η (q8q L k r S);have N:L.getD k ev0∈L:=by rw[δ,γ r];exact List.getElem_mem r
   obtain⟨m1,m2⟩:=HL.o _ N;have q1:IntKind.i64.wrap ((k:Int)+1)=(k:Int)+1:=by rw[ν];omega
   generalize L.getD k ev0=y at*;obtain⟨y1,y2,y3⟩:=y;have b0:=η (fun W=>q7m y1 y2 .f64 y3 W m1 m2);simp only at e0 e1 e2;clear hT r S hS N m1 m2 Z R;go_wp2_with fail;refine(b0.o _).mono ?_;rintro e w1 ⟨rfl,O⟩;have Y:=η (U.o.trans O);clear O;by_cases hc:q0h y1 y2=0
   ·have d0:Hd (q7N (L.take (k+1))=0):=η (by rw[HS.o];exact hc)
    rw[hc];go_wp2_with fail
    go_roundw
    case rel=>exact⟨k+1,by omega,by go_num,d0.o,Y.o⟩
    case measure=>simp[intOf];omega
   ·have Q:Hd (q7N L=q0h y1 y2):=η (by rw[f0.o,κ hc])
    have l0:(q0h y1 y2 !=0)=true:=by simpa using hc
    clear hc;go_wp2_with fail
    (try rw[Exit.noGoto_ret])
    go_ret;exact⟨by rw[x.o,Q.o];rfl,J.o.trans Y.o⟩
  ·obtain rfl:k=n:=by omega
   have i0:decide ((k:Int)<(k:Int))=false:=ε (by omega);have Q:Hd (q7N L=0):=η (by rw[<-V.o,List.take_length] at S;exact S);clear S Z R;go_wp2_with fail;go_ret;exact⟨by rw[x.o,Q.o];rfl,J.o.trans U.o⟩
theorem z8H{e:Ev}(h:z9E e):(evB e).length<=300:=by
 obtain⟨_,b,d⟩:=q2F h.1;unfold evB;rw[q1n (by omega),q1n (by omega)];simp[q0H];omega
structure MoI(W:World)(mb base:Nat)(vL vM:Value)(L:List To)(ms:List Value):Prop where
 blk: ∃su:Int,Blk W mb 59 #[vL,vM,.int .i64 su]
 rowL:W.ownsRow base 99 5 vL L.length (q2m L)
 rowM:W.ownsRow base 3 1 vM ms.length ms
def MoB(mb:Nat)(vL vM:Value)(i:Nat):Prop:=i=mb\/vL.ownBlock=some i\/vM.ownBlock=some i
theorem MoI.same{W W':World}{mb base:Nat}{vL vM:Value}{L:List To}(h:MoI W mb base vL vM L ms)(k: ∀i,MoB mb vL vM i->W'.heap[i]? =W.heap[i]?):MoI W' mb base vL vM L ms:=by
 obtain⟨j,d⟩:=h.blk;exact⟨⟨j,d.same (k _ (.inl rfl))⟩,q0Z h.rowL fun i b=>k i (.inr (.inl b)),q0Z h.rowM fun i b=>k i (.inr (.inr b))⟩
theorem MoI.lt{W:World}{mb base:Nat}{vL vM:Value}{L:List To}(h:MoI W mb base vL vM L ms)(b:MoB mb vL vM i):i<W.heap.size:=by
 obtain⟨j,d⟩:=h.blk;rcases b with rfl|b|b
 ·exact d.lt
 ·exact(q0e h.rowL i b).2
 ·exact(q0e h.rowM i b).2
theorem MoI.ext{W W':World}{mb base:Nat}{vL vM:Value}{L:List To}(h:MoI W mb base vL vM L ms)(k:Ext W W'):MoI W' mb base vL vM L ms:=h.same fun i b=>k.block i (h.lt b)
theorem y1o{W W2:World}{w0:World}{n:Nat}{b:Obj}(d:Ext w0 W)(hq:W.ownsRow w0.heap.size ti sz vq n xs)
  (j:(W.alloc b).grownBy W2 vq.ownBlock):Ext w0 W2:=
 Below.grown (d.trans (q0B W b)) j (Ω d.size (q0B W b).size) fun k l=>(q0e hq k l).1
theorem z8x{w:World}{mb base:Nat}{vL vM:Value}{L:List To}(h:MoI w mb base vL vM L ms)(s:List UInt8)(hl:L.length<=100000):
  Calls Tryz.prog 52 #[.pointer (some ⟨mb,0,none⟩),.string ⟨s.toArray⟩] w fun e w'=> ∃v,e= .returned v/\w'.ownsRow w.heap.size 99 5 v (L.filter fun t=>decide (t.s=s)).length (q2m (L.filter fun t=>decide (t.s=s)))/\Ext w w':=by
 obtain⟨la,lc,rfl⟩:=q0F h.rowL;have HM:=η h;obtain⟨n,U⟩: ∃n,L.length=n:=⟨_,rfl⟩
 have R:=(q6M h.rowL).1;rw[U] at R hl HM;have HT:=η R;have b1:=R.fits;have b2:=R.bound;obtain⟨su,d⟩:=h.blk;rw[U] at d;have Y:=η d;have HN:=η U;clear h R d U;go_enter Tryz.func52,Tryz.ntmps52;go_wp2_with fail
 go_loopw [5,6] (fun ov oi W=> ∃(k:Nat) (v:Value) (M:List To),ov=v/\oi= .int .i64 (k:Int)/\k<=n/\Hd ((L.take k).filter (fun t=>decide (t.s=s))=M)/\W.ownsRow w.heap.size 99 5 v M.length (q2m M)/\Ext w W) (fun _ i _=>n-(intOf i).toNat)
 case atStart=>exact⟨0,_,[],rfl,rfl,υ _,η (by simp),⟨rfl,.inl ⟨rfl,rfl⟩⟩,Ext.refl _⟩
 case round=>
  obtain⟨k,v,M,rfl,rfl,hk,r,b,y⟩:=hrel;obtain⟨oa,oc,rfl⟩:=q0F b;have E:=Y.o.ext y;have k0:=E.cell 0;have O:M.length<=n:=by rw[<-r.o];exact Ω (List.length_filter_le _ _) (by rw[Θ,HN.o];omega)
  by_cases Q:k<n
  ·have hd:decide ((k:Int)<(n:Int))=true:=ζ (by omega)
   have e0:(k:Int)<(n:Int):=by omega
   have q1:IntKind.i64.wrap ((k:Int)+1)=(k:Int)+1:=by rw[ν];omega
   obtain⟨bb,off,rfl,c0,c1,c2,c3,c4⟩:=(HT.o.ext y).at Q;have HS:=η (z8N (fun t:To=>decide (t.s=s)) L to0 (k:=k) (by rw[HN.o];exact Q));generalize L.getD k to0=t at*;obtain⟨ts,G,⟨ty,da,we⟩⟩:=t;simp only at c0 c1 c2 c3 c4;obtain⟨V,F⟩: ∃V,M.length=V:=⟨_,rfl⟩
   have I:=η F;have f0:=q3d;rw[F] at b O⊢;have x:=η b;have S:=η y;have b0:=η y.size;have a0:=η (show Rd (wr.alloc (.cells #[.string ⟨ts.toArray⟩,.int .i64 G,.string ⟨ty.toArray⟩,.string ⟨da.toArray⟩,.float .f64 we] 99)) (some ⟨wr.heap.size,0,none⟩) (toc ⟨ts,G,⟨ty,da,we⟩⟩) from Rd.lit wr #[.string ⟨ts.toArray⟩,.int .i64 G,.string ⟨ty.toArray⟩,.string ⟨da.toArray⟩,.float .f64 we] 99);have J:=η (q0I b (q0B wr (.cells #[.string ⟨ts.toArray⟩,.int .i64 G,.string ⟨ty.toArray⟩,.string ⟨da.toArray⟩,.float .f64 we] 99)));clear b y E F;by_cases hs:ts=s
   ·subst hs
    have e1:(ts==ts)=true:=beq_self_eq_true ts
    go_wp2_with (at_builtin;refine q0K rfl _ _ 22 rfl w.heap.size 99 _ 5 64 Tryz.underlying22 Tryz.infoTo (by decide) (by decide) _ V (q2m M) rfl J.o _ 1 1 (toc ⟨ts,G,⟨ty,da,we⟩⟩) rfl rfl (fun h=>by cases h) a0.o (by unfold toc;simp[Value.oneCell']) (by unfold maxLen;omega) (by omega) (by have:=b0.o;simp;omega) ?_;intro v2 w8 l j d0;obtain⟨a2,k2,rfl⟩:=q0F l;have HO:=η l;have HX:Hd (Ext w w8):=η (y1o (w0:=w) (W:=wr) (vq:= .slice oa V oc) S.o x.o j);clear l j d0)
    go_roundw
    case rel=>
     refine⟨k+1,_,M++[⟨ts,G,⟨ty,da,we⟩⟩],rfl,by go_num,by omega,η (by rw[HS.o,r.o];simp),?_,HX.o⟩;rw[z3Q,θ,I.o];exact HO.o
    case measure=>simp[intOf];omega
   ·have e1:(ts==s)=false:=beq_eq_false_iff_ne.2 hs
    go_wp2_with fail
    go_roundw
    case rel=>exact⟨k+1,_,M,rfl,by go_num,by omega,η (by rw[HS.o,r.o];simp[hs]),by rw[I.o];exact x.o,S.o⟩
    case measure=>simp[intOf];omega
  ·obtain rfl:k=n:=by omega
   have hd:decide ((k:Int)<(k:Int))=false:=ε (by omega);have N:M=L.filter fun t=>decide (t.s=s):=by rw[<-r.o,Δ (by rw[HN.o];exact ι _)]
   have x:=η b;have S:=η y;have Z:=η N;clear b y E N O;go_wp2_with fail;go_ret;exact⟨_,rfl,by rw[<-Z.o];exact x.o,S.o⟩
theorem z9b{b:Bt}{n:Nat}(w:World)(E:Evs w ao n cap b.ev)(M:z5g b):
  Calls Tryz.prog 53 #[.agg #[.string ⟨b.st.toArray⟩,.int .i64 (b.fi:Int),.slice ao n cap]] w fun e w'=> ∃S:List UInt8,e= .returned (.tuple #[.string ⟨S.toArray⟩,.int .i64 0])/\Ext w w':=by
 obtain⟨p1,p2,p3,p4,p5,p6,p7⟩:=q1A M.1;have J: ∀e∈b.ev,z9E e:=fun e he=>⟨q6i p7 e he,M.2 e he⟩
 have b0:q2U b.ev:=fun e he=>by
  obtain⟨_,h1,h2⟩:=q2F (J e he).1;exact⟨by omega,by omega⟩
 have G:=E.len;obtain⟨st,fi,L⟩:=b;simp only at p1 p2 p3 p4 p5 p6 p7 J b0 G E;have b1:=E.fits;have b2:=E.bound;have m0:q0Q st (fi:Int) L=0:=M.1;have HC:=η (fun W (h:Evs W ao n cap L)=>q9R st (fi:Int) W h (by omega) b0);rw[m0] at HC;have HT:=η (fun W=>q9S st W (by omega));have j0:=η (fun W=>z5w (fi:Int) 8 8 W rfl (by omega) (by omega) (by omega) (by omega));rw[Int.toNat_natCast] at j0;have l1:(q1x st).length<=50:=by rw[q1n (by omega)];simp[q0H];omega
 have l8:(be 8 fi).length<=8:=by rw[q0H];omega
 have p0:=η J;have o0:=η G;have i0:=η E;have qf:IntKind.u64.wrap (fi:Int)=(fi:Int):=by rw[IntKind.wrap_u64];omega
 have qn:IntKind.u8.wrap (n:Int)=(n:Int):=by unfold IntKind.wrap;simp[IntKind.bits];omega
 have y0:n<=8:=by omega
 have HX:=η (q0B w (.cells #[.string ⟨st.toArray⟩,.int .i64 (fi:Int),.slice ao n cap] 118));have e0:=η (Blk.new w 118 #[.string ⟨st.toArray⟩,.int .i64 (fi:Int),.slice ao n cap]);have x:=e0.o;have k0:=x.cell 0;have k1:=x.cell 1;have k2:=x.cell 2;generalize q1x st=A at*;generalize be 8 fi=D at*;clear x M p1 p2 p3 p4 p5 p6 p7 J b0 G E m0;go_enter Tryz.func53,Tryz.ntmps53;go_wp2_with fail;refine(HC.o _ (i0.o.ext HX.o)).mono ?_;rintro e w1 ⟨rfl,E⟩;have l0:=η (HX.o.trans E);have F:=e0.o.ext E;generalize w.heap.size=q at*;have c0:w1.cell? ⟨q,0,none⟩=some (.string ⟨st.toArray⟩):=F.cell 0;have c1:w1.cell? ⟨q,1,none⟩=some (.int .i64 (fi:Int)):=F.cell 1;have c2:w1.cell? ⟨q,2,none⟩=some (.slice ao n cap):=F.cell 2;have u0:=q0D c0;have u1:=q0D c1;have u2:=q0D c2;have f0:=η F;have q1:¬(9223372036854775807<A.length+D.length):=by omega
 clear E F k0 k1 k2
 go_upto_region 4 with fail
 have d0:=q0A (Ext.refl _).drew c0;have d1:=q0A (Ext.refl _).drew c1;have d2:=q0A (Ext.refl _).drew c2;have I:=η (fun W (k:Ext w1 W)=>(show W.cell? ⟨q,0,none⟩=some (.string ⟨st.toArray⟩)/\W.cell? ⟨q,1,none⟩=some (.int .i64 (fi:Int))/\W.cell? ⟨q,2,none⟩=some (.slice ao n cap) from⟨q0A k c0,q0A k c1,q0A k c2⟩));have U:(n:Int)=((UInt8.ofNat n).toNat:Int):=by rw[UInt8.toNat_ofNat'];omega
 have hcv:=fun W=>z0f (P:=Tryz.prog) W 177 9 5 (n:Int) _ Tryz.underlying177 Tryz.underlying5 Tryz.underlying9 U
 have O:Hd (∀R W,Ext (World.alloc R (.cells #[.int .u8 (n:Int)] 5)) W->(convert 177 9 (.slice (some ⟨R.heap.size,0,none⟩) 1 1)).run Tryz.prog W= .ok (.string ⟨#[UInt8.ofNat n]⟩) W):=η fun R W k=>by
  rw[U] at k;exact q3N (l:=[UInt8.ofNat n]) W 177 9 5 Tryz.underlying177 Tryz.underlying5 Tryz.underlying9 rfl ((Rd.lit R #[.int .u8 ((UInt8.ofNat n).toNat:Int)] 5).ext k)
 have s0:=fun R:World=>O.o R _ ((Ext.refl (World.alloc R (.cells #[.int .u8 (n:Int)] 5))).drew)
 have q2:¬(9223372036854775807<A.length+D.length+1):=by omega
 have q3:¬(9223372036854775807<(A++D).length+1):=by rw[θ];omega
 clear U
 go_cut [5] from 12 to 26 (fun s W=> ∃S:List UInt8,s= .string ⟨S.toArray⟩/\S.length<=100/\Ext w1 W)
 case first=>
  go_region_held_law (fun W=>(W.cell? ⟨q,0,none⟩=some (.string ⟨st.toArray⟩)/\W.cell? ⟨q,1,none⟩=some (.int .i64 (fi:Int))/\W.cell? ⟨q,2,none⟩=some (.slice ao n cap))/\Hd (Ext w1 W))
   (first|assumption|exact⟨I.o _ Q.o,Q⟩|exact(fun h=>⟨I.o _ h,η h⟩) (Ext.trans (Hd.o (And.right (by assumption))) (q0B _ _))|exact(fun h=>⟨I.o _ h,η h⟩) ((Ext.refl w1).drew.trans (q0B _ _))|exact⟨⟨d0,d1,d2⟩,η (Ext.refl _).drew⟩)
   (first|(go_at_call 97;refine(HT.o _).mono ?_;rintro e wa ⟨rfl,j⟩;have Q:=η (Ext.trans (Hd.o (And.right (a:=_) (by assumption))) j);(try have d:=η (show Ext (World.alloc _ (.cells #[.int .u8 (n:Int)] 5)) _ from j));(try have d:=η (Ext.trans ((Ext.refl (World.alloc _ (.cells #[.int .u8 (n:Int)] 5))).drew) j));(try have d:=η (Ext.trans d.o j));(try have V:=O.o _ _ d.o);(try rw[show(World.drew w1).heap.size=w1.heap.size from rfl] at V);clear j)|(go_at_call 98;refine(j0.o _).mono ?_;rintro e wa ⟨rfl,j⟩;have Q:=η (Ext.trans (Hd.o (And.right (a:=_) (by assumption))) j);(try have d:=η (show Ext (World.alloc _ (.cells #[.int .u8 (n:Int)] 5)) _ from j));(try have d:=η (Ext.trans ((Ext.refl (World.alloc _ (.cells #[.int .u8 (n:Int)] 5))).drew) j));(try have d:=η (Ext.trans d.o j));(try have V:=O.o _ _ d.o);(try rw[show(World.drew w1).heap.size=w1.heap.size from rfl] at V);clear j))
  all_goals
   go_wp2_with fail
   go_meet
   case rel=>exact⟨(A++D)++[UInt8.ofNat n],by first|rfl|(rw[q2Q,q2Q];simp),by simp;omega,Hd.o (And.right (by assumption))⟩
 case rest=>
 obtain⟨S,rfl,t0,Z⟩:=hcut;have d:=η Z;have w0:=f0.o.ext Z;clear Z d0 d1 d2 c0 c1 c2 u0 u1 u2 I;go_wp2_with fail
 go_loopw [5,6] (fun sv iv W=> ∃(k:Nat) (T:List UInt8),k<=n/\iv= .int .i64 (k:Int)/\sv= .string ⟨T.toArray⟩/\T.length<=100+300*k/\Ext w1 W) (fun _ i _=>n-(intOf i).toNat)
 case atStart=>exact⟨0,S,υ _,rfl,rfl,by omega,d.o⟩
 case round=>
  obtain⟨k,T,hk,rfl,rfl,v0,hb⟩:=hrel;have g0:=η hb;have x:=f0.o.ext hb;have d0:=x.cell 0;have d1:=x.cell 1;have d2:=x.cell 2;by_cases n0:k<n
  ·have r0:decide ((k:Int)<(n:Int))=true:=ζ (by omega)
   have x0:(k:Int)<(n:Int):=by omega
   obtain⟨b,off,rfl,c0,c1,c2⟩:=(i0.o.ext (l0.o.trans hb)).at n0;have a0:k<L.length:=by rw[o0.o];exact n0
   have N:L.getD k ev0∈L:=by rw[δ,γ a0];exact List.getElem_mem a0
   have he:=p0.o _ N;have q4:IntKind.i64.wrap ((k:Int)+1)=(k:Int)+1:=by rw[ν];omega
   generalize L.getD k ev0=y at*;obtain⟨y1,y2,y3⟩:=y;have hs:=z8H he;have h0:Hd (∀W,Calls Tryz.prog 99 #[.agg #[.string ⟨y1.toArray⟩,.string ⟨y2.toArray⟩,.float .f64 y3]] W fun r w'=>r= .returned (.string ⟨(evB ⟨y1,y2,y3⟩).toArray⟩)/\Ext W w'):=η fun W=>z4T ⟨y1,y2,y3⟩ W he
   obtain⟨Y,hY⟩: ∃Y,evB ⟨y1,y2,y3⟩=Y:=⟨_,rfl⟩
   rw[hY] at h0 hs;simp only at c0 c1 c2;have q5:¬(9223372036854775807<T.length+Y.length):=by omega
   clear a0 N hb he hY x;go_wp2_with fail;refine(h0.o _).mono ?_;rintro e w3 ⟨rfl,E⟩;have q0:=η (g0.o.trans E);clear E;go_wp2_with fail
   go_roundw
   case rel=>exact⟨k+1,T++Y,by omega,by go_num,(by first|rfl|(rw[q2Q])),by rw[θ];omega,q0.o⟩
   case measure=>simp[intOf];omega
  ·obtain rfl:k=n:=by omega
   have r0:decide ((k:Int)<(k:Int))=false:=ε (by omega);clear hb x;go_wp2_with fail;go_ret2;exact⟨T,rfl,l0.o.trans g0.o⟩
def Ios(w W:World):Prop:=W.os=w.os/\W.tape=w.tape/\W.output=w.output
theorem Ios.trans{b c:World}(h:Ios a b)(k:Ios b c):Ios a c:=⟨k.1.trans h.1,k.2.1.trans h.2.1,k.2.2.trans h.2.2⟩
theorem Ios.of_ext{b:World}(h:Ext a b):Ios a b:=⟨h.os,h.tape,h.output⟩
def MoAppR(w:World)(mb base:Nat)(vL vM:Value)(bs:List Bt)(m:Nat)(str:List UInt8)(L:List Ev)(z:Int)(e:Ending)(w':World):Prop:=
 ∃ vL' vM' ms' bs' x y,e= .returned (.tuple #[.int .i64 x,.int .i64 y])/\MoI w' mb base vL' vM' (tos bs') ms'/\ms'.length<=m+1/\w.heap.size<=w'.heap.size/\(∀i,i<w.heap.size->¬MoB mb vL vM i->w'.heap[i]? =w.heap[i]?)/\(∀i,MoB mb vL' vM' i->MoB mb vL vM i\/w.heap.size<=i)/\
  ((z≠0/\x=0/\y=z/\bs'=bs)\/(z=0/\x=((q0c bs str).length:Int)/\y=0/\bs'=bs++[⟨str,(q0c bs str).length,L⟩]))/\Ios w w'
theorem MoAppR.no{w w':World}{mb base:Nat}{vL vM:Value}{bs:List Bt}{str:List UInt8}{z:Int}(h:MoI w mb base vL vM (tos bs) ms)(d:z≠0)(k:Ext w w'):MoAppR w mb base vL vM bs ms.length str L z (.returned (.tuple #[.int .i64 0,.int .i64 z])) w':=
 ⟨vL,vM,ms,bs,0,z,rfl,h.ext k,Nat.le_succ _,k.size,fun i b _=>k.block i b,fun i b=> .inl b,.inl ⟨d,rfl,rfl,rfl⟩,Ios.of_ext k⟩
structure MoMid(w:World)(mb base:Nat)(vL vM:Value)(T:List To)(ms:List Value)(v2:Value)(W:World):Prop where
 mo:MoI W mb base v2 vM T ms
 size:w.heap.size<=W.heap.size
 off: ∀i,i<w.heap.size->¬MoB mb vL vM i->W.heap[i]? =w.heap[i]?
 grew: ∀i,v2.ownBlock=some i->vL.ownBlock=some i\/w.heap.size<=i
 ios:Ios w W
theorem MoMid.start{w j:World}{mb base:Nat}{vL vM:Value}{d:List To}(h:MoI w mb base vL vM T ms)(k:Ext w j)(e:d=T):MoMid w mb base vL vM d ms vL j:=by
 subst e;exact⟨h.ext k,k.size,fun i b _=>k.block i b,fun i b=> .inl b,Ios.of_ext k⟩
theorem z7C{W:World}{B B':Nat}{e':TypeId}{l:Nat}{x:Value}{n:Nat}{o:List Value}(h:W.ownsRow B e sz v n xs)(E:W.ownsRow B' e' l x n' o)(j:e≠e'): ∀i,v.ownBlock=some i->x.ownBlock≠some i:=fun i F d=>by
 obtain⟨y,hc⟩:=q3u h F;obtain⟨r,b⟩:=q3u E d;rw[hc] at b
 cases b;exact j rfl
theorem MoI.apart{W:World}{mb base:Nat}{vL vM:Value}{L:List To}(h:MoI W mb base vL vM L ms):vL.ownBlock≠some mb/\vM.ownBlock≠some mb/\ ∀i,vL.ownBlock=some i->vM.ownBlock≠some i:=by
 obtain⟨d,b⟩:=h.blk;exact⟨b.apart h.rowL (by decide),b.apart h.rowM (by decide),z7C h.rowL h.rowM (by decide)⟩
theorem MoMid.told{w W Wd:World}{mb base:Nat}{vL vM:Value}{t:To}{lit:Obj}(hm:MoMid w mb base vL vM T ms v2 W)(N:mb<w.heap.size)(j:Wd.heap=W.heap)(E:Ios W Wd)
  (y:W8.ownsRow base 99 5 v3 (T.length+1) (q2m T++toc t))(r:(Wd.alloc lit).grownBy W8 v2.ownBlock)(o:v3.ownBlock=v2.ownBlock\/v3.ownBlock=some (Wd.alloc lit).heap.size):
  MoMid w mb base vL vM (T++[t]) ms v3 (W8.setCell ⟨mb,0,none⟩ v3)/\(∀i,i<W.heap.size->v2.ownBlock≠some i->W8.heap[i]? =W.heap[i]?):=by
 obtain⟨O,G⟩:=hm.mo.blk;obtain⟨a1,I,J⟩:=hm.mo.apart;have l:(Wd.alloc lit).heap.size=W.heap.size+1:=by rw[ρ,j]
 have b: ∀i,i<W.heap.size->v2.ownBlock≠some i->W8.heap[i]? =W.heap[i]? :=fun i d x=>by
  rw[r.block i (by omega) (fun e=>x e.symm),(q0B Wd lit).block i (by rw[j];exact d),j]
 have F:mb<W.heap.size:=G.lt;have M:v3.ownBlock≠some mb:=fun e=>by
  rcases o with h|h
  ·exact a1 (h.symm.trans e)
  ·rw[h,l] at e;cases e;omega
 have Q:W.heap.size+1<=W8.heap.size:=by rw[<-l];exact r.size
 refine⟨⟨⟨⟨O,(G.same (b mb F a1)).set 0 v3⟩,?_,?_⟩,?_,fun i d x=>?_,fun i d=>?_,hm.ios.trans (E.trans ⟨r.os,r.tape,r.output⟩)⟩,b⟩
 ·have:=q0f y (a:=⟨mb,0,none⟩) v3 M
  rw[q4m,θ,List.length_singleton]
  simpa [q2m] using this
 ·exact q0f (q0Z hm.mo.rowM fun i d=>b i (q0e hm.mo.rowM i d).2 fun e=>J i e d) v3 I
 ·rw[World.size_setCell];have:=hm.size;omega
 ·rw[heap_setCell_other W8 ⟨mb,0,none⟩ i v3 (fun e=>x (.inl e)),b i (by have:=hm.size;omega) (fun e=>?_),hm.off i d x]
  rcases hm.grew i e with h|h
  ·exact x (.inr (.inl h))
  ·omega
 ·rcases o with h|h
  ·exact hm.grew i (h.symm.trans d)
  ·rw[h,l] at d;cases d;have:=hm.size;exact .inr (by omega)
theorem MoMid.many{w W:World}{mb base:Nat}{vL vM:Value}{c:Value}{lit:Obj}(hm:MoMid w mb base vL vM T ms v2 W)(J:mb<w.heap.size)
  (x:W8.ownsRow base 3 1 v3 (ms.length+1) (ms++[c]))(o:(W.alloc lit).grownBy W8 vM.ownBlock)(l:v3.ownBlock=vM.ownBlock\/v3.ownBlock=some (W.alloc lit).heap.size):
  MoI (W8.setCell ⟨mb,1,none⟩ v3) mb base v2 v3 T (ms++[c])/\w.heap.size<=(W8.setCell ⟨mb,1,none⟩ v3).heap.size/\(∀i,i<w.heap.size->¬MoB mb vL vM i->(W8.setCell ⟨mb,1,none⟩ v3).heap[i]? =w.heap[i]?)/\
   (∀i,MoB mb v2 v3 i->MoB mb vL vM i\/w.heap.size<=i)/\(∀i,i<W.heap.size->vM.ownBlock≠some i->W8.heap[i]? =W.heap[i]?)/\Ios w (W8.setCell ⟨mb,1,none⟩ v3):=by
 obtain⟨M,F⟩:=hm.mo.blk;obtain⟨a1,E,G⟩:=hm.mo.apart;have j:(W.alloc lit).heap.size=W.heap.size+1:=by rw[ρ]
 have d: ∀i,i<W.heap.size->vM.ownBlock≠some i->W8.heap[i]? =W.heap[i]? :=fun i b r=>by
  rw[o.block i (by omega) (fun e=>r e.symm),(q0B W lit).block i b]
 have y:mb<W.heap.size:=F.lt;have I:v3.ownBlock≠some mb:=fun e=>by
  rcases l with h|h
  ·exact E (h.symm.trans e)
  ·rw[h,j] at e;cases e;omega
 have N:W.heap.size+1<=W8.heap.size:=by rw[<-j];exact o.size
 refine⟨⟨⟨M,(F.same (d mb y E)).set 1 v3⟩,?_,?_⟩,?_,fun i b r=>?_,fun i b=>?_,d,hm.ios.trans ⟨o.os,o.tape,o.output⟩⟩
 ·exact q0f (q0Z hm.mo.rowL fun i b=>d i (q0e hm.mo.rowL i b).2 (G i b)) v3 a1
 ·have:=q0f x (a:=⟨mb,1,none⟩) v3 I
  rwa [θ,List.length_singleton]
 ·rw[World.size_setCell];have:=hm.size;omega
 ·rw[heap_setCell_other W8 ⟨mb,1,none⟩ i v3 (fun e=>r (.inl e)),d i (by have:=hm.size;omega) (fun e=>r (.inr (.inr e))),hm.off i b r]
 ·rcases b with b|b|b
  ·exact .inl (.inl b)
  ·rcases hm.grew i b with h|h
   ·exact .inl (.inr (.inl h))
   ·exact .inr h
  ·rcases l with h|h
   ·exact .inl (.inr (.inr (h.symm.trans b)))
   ·rw[h,j] at b;cases b;have:=hm.size;exact .inr (by omega)
theorem z6o{w:World}{mb base:Nat}{vL vM:Value}{bs:List Bt}(h:MoI w mb base vL vM (tos bs) ms)(B0:okBs bs)(V0:base<=mb)(str:List UInt8)(hs:str.length<=4611686018427387903)(ex:Int){k:Nat}(I:Evs w ao k cap L)(hd: ∀a,ao=some a->0<k->¬MoB mb vL vM a.block)
  (hL:q2U L)(C0: ∀e∈L,e.we<18446744073709551616)(hl:(tos bs).length<=100000)(c1:ms.length<=100000){z:Int}(hz:z3k bs str ex L=z):
  Calls Tryz.prog 20 #[.pointer (some ⟨mb,0,none⟩),.string ⟨str.toArray⟩,.int .i64 ex,.slice ao k cap] w (MoAppR w mb base vL vM bs ms.length str L z):=by
 have HM:=η h;have HC:=η (q9R str 0 w I hs hL);have l0:=η (fun W (kk:Ext w W)=>z8x (h.ext kk) str hl);have hN:((tos bs).filter fun t=>decide (t.s=str)).length=(q0c bs str).length:=by rw[q9W B0,q2D]
 have P0:=List.length_filter_le (fun t:To=>decide (t.s=str)) (tos bs);generalize ((tos bs).filter fun t=>decide (t.s=str))=R at*;obtain⟨n,hn⟩: ∃n,R.length=n:=⟨_,rfl⟩
 rw[hn] at hN P0 l0;obtain⟨c,hc⟩: ∃c,q0Q str 0 L=c:=⟨_,rfl⟩
 rw[hc] at HC;have HZ:Hd ((if c≠0 then c else if ex< -2 then 2 else if ex≠ -2/\ex≠(n:Int)-1 then 80 else 0)=z):=η (by rw[<-hz];unfold z3k;rw[hc,<-hN]);have E0:=η hc;have t0:=η hN;have T0:=I.len;have Y0:=I.fits;have Z0:=I.bound;have HX:=η I;have HD:=η hd;have I0:=η C0;have q1:IntKind.i64.wrap ((n:Int)-1)=(n:Int)-1:=by rw[ν];omega
 have q2:IntKind.i64.wrap ((n:Int)-1+1)=(n:Int):=by rw[ν];omega
 clear h I hd hz hc hN B0 hn hL C0;go_enter Tryz.func20,Tryz.ntmps20;go_wp2_with fail;refine HC.o.mono ?_;rintro e w1 ⟨rfl,I⟩;have Y:=η I;clear I HC;by_cases F:c=0
 case neg=>
  have M0:(c !=(0:Int))=true:=by simpa using F
  have G:Hd (z=c):=η (by rw[<-HZ.o,ξ F]);have O:=η F;clear F;go_wp2_with fail;go_ret2;rw[G.o];exact MoAppR.no HM.o O.o Y.o
 have M0:(c !=(0:Int))=false:=by rw[F];rfl
 by_cases hex:ex< -2
 ·have N0:decide (ex<(-2:Int))=true:=ζ hex
  have G:Hd (z=2):=η (by rw[<-HZ.o,κ (by omega),ξ hex]);clear F hex;go_wp2_with fail;go_ret2;rw[G.o];exact MoAppR.no HM.o (by decide) Y.o
 have N0:decide (ex<(-2:Int))=false:=ε hex;have O:=η F;clear F;go_wp2_with fail;refine(l0.o _ Y.o).mono ?_;rintro e w2 ⟨v,rfl,x,I⟩;obtain⟨va,vc,rfl⟩:=q0F x;have n0:=η (Y.o.trans I);clear I x l0;by_cases hv:ex≠ -2/\ex≠(n:Int)-1
 ·have z0:(ex !=(-2:Int))=true:=by simpa using hv.1
  have O0:(ex !=(n:Int)-1)=true:=by simpa using hv.2
  have G:Hd (z=80):=η (by rw[<-HZ.o,κ (by have:=O.o;omega),κ (by omega),ξ hv]);clear hex hv;go_wp2_with fail;go_ret2;rw[G.o];exact MoAppR.no HM.o (by decide) n0.o
 have S0:(ex !=(-2:Int))=false\/((ex !=(-2:Int))=true/\(ex !=(n:Int)-1)=false):=by
  by_cases h:ex= -2
  ·exact .inl (by rw[h];rfl)
  ·exact .inr ⟨by simpa using h,by have:ex=(n:Int)-1:=Decidable.not_not.1 fun hh=>hv ⟨h,hh⟩;rw[this];simp⟩
 have G:Hd (z=0):=η (by rw[<-HZ.o,κ (by have:=O.o;omega),κ (by omega),κ hv]);have s0:q0Q str 0 L=0:=by rw[E0.o,O.o]
 have R0:n<=1000000:=by omega
 have b0:z5g ⟨str,n,L⟩:=⟨q5C (n:=n) s0 R0,fun e he=>I0.o e he⟩
 have u0:=η (z9b (b:=⟨str,n,L⟩) w2 (HX.o.ext n0.o) b0);have hp:=q1A s0;have b1:k<=8:=by have:=hp.2.2.2.1;omega
 simp only at u0;clear s0 b0 hv hex hp;rcases S0 with z0|⟨z0,O0⟩
 all_goals
  go_wp2_with fail;refine u0.o.mono ?_;rintro e w3 ⟨S,rfl,I⟩;have J0:=η (n0.o.trans I);clear I;go_wp2_with fail
  go_loopw [12] (fun iv W=> ∃(j:Nat) (v2:Value),iv= .int .i64 (j:Int)/\j<=k/\MoMid w mb base vL vM (tos bs++q7w str n (L.take j)) ms v2 W) (fun i _=>k-(intOf i).toNat)
  case atStart=>exact⟨0,vL,rfl,υ _,MoMid.start HM.o J0.o (by simp[q7w])⟩
  case round=>
   obtain⟨j,v2,rfl,hj,hm⟩:=hrel;by_cases Q0:j<k
   ·have W0:decide ((j:Int)<(k:Int))=true:=ζ (by omega)
    have a1:(j:Int)<(k:Int):=by omega
    have q3:IntKind.i64.wrap ((n:Int)+(j:Int))=(n:Int)+(j:Int):=by rw[ν];omega
    have q5:IntKind.i64.wrap (n:Int)=(n:Int):=by rw[ν];omega
    have q4:IntKind.i64.wrap ((j:Int)+1)=(j:Int)+1:=by rw[ν];omega
    have p0: ∀a,ao=some a->a.block<w.heap.size:=fun a e=>by
     obtain⟨b,off,e2,c0,_⟩:=HX.o.at (i:=0) (by omega);rw[e] at e2;cases e2;exact World.block_lt_of_cell? _ _ c0
    have A0:Evs wr ao k cap L:=HX.o.keep fun a e=>hm.off _ (p0 a e) (HD.o a e (by omega))
    have q0:tos bs++q7w str n (L.take (j+1))=(tos bs++q7w str n (L.take j))++[⟨str,((n+j:Nat):Int),L.getD j ev0⟩]:=by
     rw[List.take_succ_eq_append_getElem (by omega),q4h,Θ,Nat.min_eq_left (by omega),List.append_assoc,δ,γ (by omega)];rfl
    obtain⟨E,off,rfl,e0,e1,e2⟩:=A0.at Q0;have o0:=HD.o _ rfl (by omega);have x0:=p0 _ rfl;generalize L.getD j ev0=y at*;obtain⟨Z,y2,y3⟩:=y;simp only at e0 e1 e2 o0 x0;rw[show((n+j:Nat):Int)=(n:Int)+(j:Int) by omega] at q0;have H0:=η q0;have L0:(tos bs++q7w str n (L.take j)).length<=100010:=by rw[θ,q2C,Θ];omega
    generalize tos bs++q7w str n (L.take j)=T at*;obtain⟨la,lc,rfl⟩:=q0F hm.mo.rowL;obtain⟨N,hN⟩: ∃N,T.length=N:=⟨_,rfl⟩
    obtain⟨su,M⟩:=hm.mo.blk;have r0:=hm.mo.apart;have x:=hm.mo.rowL;have J:=η hm;rw[hN] at M x r0 J L0;have HN:=η hN;have k0:=M.cell 0;have f0:=M.free 0;have i0:Hd (mb<w.heap.size):=η (by obtain⟨_,h⟩:=HM.o.blk;exact h.lt);have g0:Hd (base<=wr.heap.size):=η (by have:=M.lt;omega);have V:=η M.lt;have G0:Hd (∀W',Ext wr W'->W'.ownsRow base 99 5 (.slice la N lc) N (q2m T)):=η fun W' kk=>q0I x kk
    have m0:Hd (∀W',(∀i,(i=mb\/i=E)->W'.heap[i]? =wr.heap[i]?)->(fun W:World=>W.cell? ⟨mb,0,none⟩=some (.slice la N lc)/\W.cell? ⟨E,off+j*3,none⟩=some (.string ⟨Z.toArray⟩)/\W.cell? ⟨E,off+j*3+1,none⟩=some (.string ⟨y2.toArray⟩)/\W.cell? ⟨E,off+j*3+2,none⟩=some (.float .f64 y3)) W'):=η fun W' kk=>
     ⟨(World.cell?_of_block (a:=⟨mb,0,none⟩) (kk mb (.inl rfl))).trans k0,(World.cell?_of_block (a:=⟨E,off+j*3,none⟩) (kk E (.inr rfl))).trans e0,(World.cell?_of_block (a:=⟨E,off+j*3+1,none⟩) (kk E (.inr rfl))).trans e1,(World.cell?_of_block (a:=⟨E,off+j*3+2,none⟩) (kk E (.inr rfl))).trans e2⟩
    have h0:Hd (E<wr.heap.size/\(Value.slice la N lc).ownBlock≠some E):=η ⟨World.block_lt_of_cell? _ _ e0,fun e=>by
     rcases J.o.grew E e with h|h
     ·exact o0 (.inr (.inl h))
     ·omega⟩
    have D0:=η r0.1;have d1:=q3d;clear hm M x r0 A0 p0 q0 o0 x0 hN;go_wp2_with fail;have j0:=η (show Rd (wr.alloc (.cells #[.string ⟨str.toArray⟩,.int .i64 ((n:Int)+(j:Int)),.string ⟨Z.toArray⟩,.string ⟨y2.toArray⟩,.float .f64 y3] 99)).drew (some ⟨wr.heap.size,0,none⟩) (toc ⟨str,(n:Int)+(j:Int),⟨Z,y2,y3⟩⟩) from(Rd.lit wr #[.string ⟨str.toArray⟩,.int .i64 ((n:Int)+(j:Int)),.string ⟨Z.toArray⟩,.string ⟨y2.toArray⟩,.float .f64 y3] 99).ext (Ext.refl _).drew);refine q1U (fun W:World=>W.cell? ⟨mb,0,none⟩=some (.slice la N lc)/\W.cell? ⟨E,off+j*3,none⟩=some (.string ⟨Z.toArray⟩)/\W.cell? ⟨E,off+j*3+1,none⟩=some (.string ⟨y2.toArray⟩)/\W.cell? ⟨E,off+j*3+2,none⟩=some (.float .f64 y3)) 17 (by kernel_rfl) (m0.o _ fun i _=>rfl) (fun d=>?_);refine q0r 0 d (fun d=>?_);refine q0r 1 d (fun d=>?_);refine q0r 2 d (fun d=>?_);refine q0r 3 d (fun d=>?_);refine q4l 4 d (fun d=>?_);refine q0r 5 d (fun d=>?_);refine q0r 6 d (fun d=>?_);refine q0r 7 d (fun d=>?_);refine q0r 8 d (fun d=>?_);refine q0r 9 d (fun d=>?_);refine q0r 10 d (fun d=>?_);refine q0r 11 d (fun d=>?_);refine q0r 12 d (fun d=>?_);refine q4l 13 d (fun d=>?_);refine q0r 14 d (fun d=>?_);simp only[Act.put,π,ψ,ω];refine q0k (i:=15) (by kernel_rfl) rfl (fun K hK=>?_)
    go_simp
    have a0:Hd (Ext wr (wr.alloc (.cells #[.string ⟨str.toArray⟩,.int .i64 ((n:Int)+(j:Int)),.string ⟨Z.toArray⟩,.string ⟨y2.toArray⟩,.float .f64 y3] 99)).drew):=η ((q0B wr _).drew);refine hK.out _ _ (m0.o _ fun i U=>a0.o.block i (by rcases U with U|U;rw[U];exact V.o;rw[U];exact h0.o.1)) (fun d=>?_);clear hK K
    try simp only[Act.put,π,ψ,ω]
    refine q0k (i:=16) (by kernel_rfl) rfl (fun K hK=>?_);refine q1T rfl (.tmp 56) (.tmp 67) 22 rfl base 99 _ 5 64 Tryz.underlying22 Tryz.infoTo (by decide) (by decide) (.slice la N lc) N (q2m T) rfl (G0.o _ a0.o) _ 1 1 (toc ⟨str,(n:Int)+(j:Int),⟨Z,y2,y3⟩⟩) rfl rfl (fun h=>by cases h) j0.o (by unfold toc;simp[Value.oneCell']) (by unfold maxLen;omega) (by omega) (by have:=g0.o;simp;omega) ?_;intro v3 x2 r l Q;obtain⟨a3,k3,rfl⟩:=q0F r;obtain⟨t1,t2⟩:=J.o.told (t:=⟨str,(n:Int)+(j:Int),⟨Z,y2,y3⟩⟩) (Wd:=wr.drew) (lit:=(.cells #[.string ⟨str.toArray⟩,.int .i64 ((n:Int)+(j:Int)),.string ⟨Z.toArray⟩,.string ⟨y2.toArray⟩,.float .f64 y3] 99)) i0.o rfl ⟨rfl,rfl,rfl⟩ (by rw[HN.o];exact r) l Q;have HF:=η t1;have w0:=t2 mb V.o D0.o;have K0:=t2 E h0.o.1 h0.o.2;have v0:=η (m0.o x2 fun i U=>by rcases U with U|U<;>rw[U]<;>assumption);have f8:=(World.frozen?_of_block (a:=⟨mb,0,none⟩) w0).trans f0;clear r l Q t1 t2 w0 K0;refine hK.out _ _ v0.o (fun d=>?_);clear hK K
    try simp only[Act.put,π,ψ,ω]
    refine q1i (by kernel_rfl) ?_
    try simp only[List.drop_succ_cons,List.drop_zero]
    clear d;obtain⟨d0,_,_,_⟩:=v0.o;go_wp2_with fail
    go_roundw
    case rel=>
     refine⟨j+1,.slice a3 (N+1) k3,by go_num,by omega,?_⟩;rw[H0.o];exact HF.o
    case measure=>simp[intOf];omega
   ·obtain rfl:j=k:=by omega
    have X0:decide ((j:Int)<(j:Int))=false:=ε (by omega);have y0:tos bs++q7w str n (L.take j)=tos (bs++[⟨str,n,L⟩]):=by
     rw[Δ (by omega),q4T,q9a];rfl
    rw[y0] at hm;obtain⟨ma,mc,rfl⟩:=q0F hm.mo.rowM;obtain⟨su,M⟩:=hm.mo.blk;have k1:=M.cell 1;have f1:=M.free 1;have J:=η hm;have F0:=η hm.mo.rowM;have i0:Hd (mb<w.heap.size):=η (by obtain⟨_,h⟩:=HM.o.blk;exact h.lt);have g0:Hd (base<=wr.heap.size):=η (by have:=M.lt;omega);have j0:=η (Rd.lit wr #[.int .i64 (j:Int)] 3);have V:=η M.lt;clear hm M y0
    go_wp2_with (at_builtin;refine q0K rfl _ _ 57 rfl base 3 _ 1 8 Tryz.underlying57 Tryz.infoI (by decide) (by decide) _ ms.length ms rfl (q0I F0.o (q0B _ _)) _ 1 1 [.int .i64 (j:Int)] rfl rfl (fun h=>by cases h) j0.o (by simp[Value.oneCell']) (by unfold maxLen;omega) (by omega) (by have:=g0.o;simp;omega) ?_;intro v3 w8 r l Q;obtain⟨a3,k3,rfl⟩:=q0F r;have HF:=η (J.o.many i0.o r l Q);have h8:=HF.o.2.2.2.2.1 mb V.o J.o.mo.apart.2.1;have h1:=(World.cell?_of_block (a:=⟨mb,1,none⟩) h8).trans k1;have U0:=(World.frozen?_of_block (a:=⟨mb,1,none⟩) h8).trans f1;clear r l Q h8)
    go_ret2;obtain⟨g1,g2,g3,g4,_,g6⟩:=HF.o;exact⟨_,_,_,_,(n:Int),0,rfl,g1,by simp,g2,g3,g4,.inr ⟨G.o,by rw[t0.o],rfl,by rw[t0.o]⟩,g6⟩
def RwI(W:World)(gw mb:Nat)(str:List UInt8)(a:Int):Prop:=Blk W gw 77 #[.pointer (some ⟨mb,0,none⟩),.string ⟨str.toArray⟩,.int .i64 a]
def apN(bs:List Bt)(str:List UInt8)(L:List Ev):Int×Int:=if z3k bs str (-2) L=0 then(((q0c bs str).length:Int),0) else(0,z3k bs str (-2) L)
def apB(bs:List Bt)(str:List UInt8)(L:List Ev):List Bt:=if z3k bs str (-2) L=0 then bs++[⟨str,(q0c bs str).length,L⟩] else bs
theorem z1E(bs:List Bt)(b:Bt)(str:List UInt8):(q0c bs str).length<=(q0c (bs++[b]) str).length:=by
 rw[q5H,θ];omega
theorem y4N(bs:List Bt)(str:List UInt8)(L:List Ev)(st:List UInt8):(q0c bs st).length<=(q0c (apB bs str L) st).length:=by
 unfold apB;split
 ·exact z1E _ _ _
 ·exact ι _
theorem y2e(bs:List Bt)(str:List UInt8)(L:List Ev):(apB bs str L).length<=bs.length+1:=by
 unfold apB;split<;>simp
theorem y5d{bs:List Bt}(h:okBs bs){str:List UInt8}{a:Int}(o:bs.length<=1000)(d: ∀e∈L,e.we<18446744073709551616):okBs (wrB bs str a L):=by
 unfold wrB;by_cases b:z3k bs str a L=0
 ·rw [ξ b]
  have hc:q0Q str 0 L=0:=by
   unfold z3k at b;by_cases hc:q0Q str 0 L=0
   ·exact hc
   ·rw[ξ hc] at b;exact absurd b hc
  have j:=q3c bs str;have l:=z1q h;exact okBs_snoc.2 ⟨h,⟨q5C (n:=(q0c bs str).length) hc (by omega),d⟩,rfl⟩
 ·rw[κ b];exact h
theorem y4O{bs:List Bt}(h:okBs bs){str:List UInt8}(d:bs.length<=1000)(b: ∀e∈L,e.we<18446744073709551616):okBs (apB bs str L):=y5d (a:= -2) h d b
def InW(P:Bool->Option (Nat×Int))(i:Nat):Prop:= ∃k s,P k=some (i,s)
structure TW(wb W:World)(g gs rate:Nat)(sd c:Int)(u n:Nat)(bs:List Bt)(mb:Nat)(vL vM:Value)(k:Nat)(bs2:List Bt)(str:List UInt8)(P D:Bool->Option (Nat×Int))(X:Nat->Prop):Prop where
 sk:SK wb W g gs rate sd c 0 u n bs (fun i=>MoB mb vL vM i\/InW P i\/InW D i\/X i)
 mo: ∃ms,MoI W mb wb.heap.size vL vM (tos bs2) ms/\ms.length<=k
 ok2:okBs bs2
 few2:bs2.length<=k
 lowM: ∀i,MoB mb vL vM i->wb.heap.size<=i/\¬X i
 pI: ∀j x s,P j=some (x,s)->WrI W x gs str s/\ -1<=s/\s<((q0c bs str).length:Int)
 dI: ∀j x s,D j=some (x,s)->RwI W x mb str s/\ -1<=s/\s<((q0c bs2 str).length:Int)
 pA: ∀j x s,P j=some (x,s)->¬MoB mb vL vM x/\¬X x/\¬InW D x/\(∀s',P (!j)≠some (x,s'))/\wb.heap.size<=x
 dA: ∀j x s,D j=some (x,s)->¬MoB mb vL vM x/\¬X x/\(∀s',D (!j)≠some (x,s'))/\wb.heap.size<=x
section
variable {wb w W W':World}{g gs mb rate u n k:Nat}{sd c:Int}{bs bs2:List Bt}{vL vM:Value}{str:List UInt8}{P D:Bool->Option (Nat×Int)}{X X':Nat->Prop}
theorem TW.lt(h:TW wb W g gs rate sd c u n bs mb vL vM k bs2 str P D X)(b:MoB mb vL vM i\/InW P i\/InW D i\/X i):i<W.heap.size:=h.sk.klt i b
theorem TW.grow(h:TW wb W g gs rate sd c u n bs mb vL vM k bs2 str P D X)(e:Ext W W'):TW wb W' g gs rate sd c u n bs mb vL vM k bs2 str P D X:=by
 obtain⟨ms,hm,d⟩:=h.mo;exact⟨h.sk.grow e,⟨ms,hm.ext e,d⟩,h.ok2,h.few2,h.lowM,fun j x s b=>⟨Blk.ext (h.pI j x s b).1 e,(h.pI j x s b).2⟩,fun j x s b=>⟨Blk.ext (h.dI j x s b).1 e,(h.dI j x s b).2⟩,h.pA,h.dA⟩
theorem TW.more(h:TW wb W g gs rate sd c u n bs mb vL vM k bs2 str P D X)(e:Ext W W')(F: ∀i,X' i->X i\/(W.heap.size<=i/\i<W'.heap.size)):TW wb W' g gs rate sd c u n bs mb vL vM k bs2 str P D X':=by
 have d:=h.grow e;have y: ∀i,(MoB mb vL vM i\/InW P i\/InW D i)->¬X i->¬X' i:=fun i b G E=>by
  have:i<W.heap.size:=h.lt (by rcases b with h|h|h;exact .inl h;exact .inr (.inl h);exact .inr (.inr (.inl h)));rcases F i E with h|h
  ·exact G h
  ·omega
 refine⟨h.sk.more e fun i b=>?_,d.mo,d.ok2,d.few2,fun i b=>⟨(h.lowM i b).1,y i (.inl b) (h.lowM i b).2⟩,d.pI,d.dI,fun j x s l=>?_,fun j x s l=>?_⟩
 ·rcases b with b|b|b|b
  ·exact .inl (.inl b)
  ·exact .inl (.inr (.inl b))
  ·exact .inl (.inr (.inr (.inl b)))
  ·exact(F i b).imp (fun h=> .inr (.inr (.inr h))) id
 ·obtain⟨a1,o,r⟩:=h.pA j x s l
  exact⟨a1,y x (.inr (.inl ⟨j,s,l⟩)) o,r⟩
 ·obtain⟨a1,o,r⟩:=h.dA j x s l
  exact⟨a1,y x (.inr (.inr ⟨j,s,l⟩)) o,r⟩
theorem TW.poke(h:TW wb W g gs rate sd c u n bs mb vL vM k bs2 str P D X){x:Nat}(o:X x)(r:wb.heap.size<=x)(j:Nat)(v:Value):TW wb (W.setCell ⟨x,j,none⟩ v) g gs rate sd c u n bs mb vL vM k bs2 str P D X:=by
 obtain⟨ms,hm,E⟩:=h.mo;have l: ∀i,i≠x->(W.setCell ⟨x,j,none⟩ v).heap[i]? =W.heap[i]? :=fun i d=>heap_setCell_other W ⟨x,j,none⟩ i v fun e=>d (by exact e)
 refine⟨h.sk.sideM (by rw[World.size_setCell];exact ι _) (Below.setCell h.sk.base r v) (fun i d F=>l i fun e=>F (by rw[e];exact .inr (.inr (.inr o)))) fun i d=> .inl d,
  ⟨ms,hm.same fun i d=>l i fun e=>(h.lowM i d).2 (e▸o),E⟩,h.ok2,h.few2,h.lowM,fun a y s b=>⟨Blk.same (h.pI a y s b).1 (l y fun e=>(h.pA a y s b).2.1 (e▸o)),(h.pI a y s b).2⟩,fun a y s b=>⟨Blk.same (h.dI a y s b).1 (l y fun e=>(h.dA a y s b).2.1 (e▸o)),(h.dI a y s b).2⟩,h.pA,h.dA⟩
theorem TW.modelled(h:TW wb w g gs rate sd c u n bs mb vL vM k bs2 str P D X){F:Nat->Prop}{r y:Value}{I:List Value}(hm:MoI W mb wb.heap.size r y (tos bs') I)(hl:I.length<=k+1)(Z:okBs bs')(M:bs'.length<=k+1)
  (O:w.heap.size<=W.heap.size)(o:Ios w W)(ho: ∀i,i<w.heap.size->¬MoB mb vL vM i->¬F i->W.heap[i]? =w.heap[i]?)(U: ∀i,MoB mb r y i->MoB mb vL vM i\/w.heap.size<=i)(he:(q0c bs2 str).length<=(q0c bs' str).length)
  {D':Bool->Option (Nat×Int)}(hF: ∀i,F i->InW D i)(hD: ∀i,InW D' i->InW D i)(Y: ∀j x s,D' j=some (x,s)->RwI W x mb str s/\ -1<=s/\s<((q0c bs' str).length:Int))(J: ∀j x s,D' j=some (x,s)-> ∃R,D j=some (x,R)):
  TW wb W g gs rate sd c u n bs mb r y (k+1) bs' str P D' X/\Stay X w W:=by
 have V: ∀i,F i->wb.heap.size<=i:=fun i b=>by obtain⟨j,s,l⟩:=hF i b;exact(h.dA j i s l).2.2.2
 have G: ∀i,i<w.heap.size->¬MoB mb vL vM i->¬InW D i->W.heap[i]? =w.heap[i]? :=fun i d h2 S=>ho i d h2 fun hf=>S (hF i hf)
 have hx:Ext wb W:=Below.trans h.sk.base ⟨o.1,o.2.1,o.2.2,O,fun i b=>ho i (Ψ b h.sk.base.size) (fun e=>by have:=(h.lowM i e).1;omega) fun e=>by have:=V i e;omega⟩;have E: ∀i,(InW P i\/InW D i\/X i)->¬MoB mb vL vM i->¬MoB mb r y i:=fun i b Q hb=>by
  have:i<w.heap.size:=h.lt (.inr b);rcases U i hb with d|d
  ·exact Q d
  ·omega
 refine⟨⟨h.sk.sideM O hx (fun i b Q=>G i b (fun e=>Q (.inl e)) fun e=>Q (.inr (.inr (.inl e)))) fun i b=>?_,⟨I,hm,hl⟩,Z,M,fun i b=>?_,fun j x s l=>?_,Y,fun j x s l=>?_,fun j x s l=>?_⟩,fun i b=>?_⟩
 ·rcases b with b|b|b|b
  ·rcases U i b with d|d
   ·exact .inl (.inl d)
   ·exact .inr ⟨d,hm.lt b⟩
  ·exact .inl (.inr (.inl b))
  ·exact .inl (.inr (.inr (.inl (hD i b))))
  ·exact .inl (.inr (.inr (.inr b)))
 ·rcases U i b with d|d
  ·exact h.lowM i d
  ·exact⟨Ω h.sk.base.size d,fun hX=>by have:=h.lt (.inr (.inr (.inr hX)));omega⟩
 ·obtain⟨a1,a2⟩:=h.pI j x s l
  obtain⟨b1,b2,b3,b4⟩:=h.pA j x s l;exact⟨Blk.same a1 (G x (h.lt (.inr (.inl ⟨j,s,l⟩))) b1 b3),a2⟩
 ·obtain⟨b1,b2,b3,b4⟩:=h.pA j x s l
  exact⟨E x (.inl ⟨j,s,l⟩) b1,b2,fun e=>b3 (hD x e),b4⟩
 ·obtain⟨R,N⟩:=J j x s l
  obtain⟨b1,b2,b3,b4⟩:=h.dA j x R N;exact⟨E x (.inr (.inl ⟨j,R,N⟩)) b1,b2,fun s2 e=>(by obtain⟨s3,S⟩:=J _ _ _ e;exact b3 s3 S),b4⟩
 ·exact G i (h.lt (.inr (.inr (.inr b)))) (fun e=>(h.lowM i e).2 b) fun ⟨j,s,l⟩=>(h.dA j i s l).2.1 b
theorem TW.bd2(h:TW wb w g gs rate sd c u n bs mb vL vM k bs2 str P D X)(j:k<=1000):(tos bs2).length<=8000:=by
 have b:=z1q h.ok2;have d:=h.few2;omega
theorem y4V{m:Nat}(l: ∀W,Ext wb W->Evs W ao m cap L): ∀a,ao=some a->0<m->a.block<wb.heap.size:=fun a e hm=>by
 obtain⟨b,off,d,j,_⟩:=(l wb (Ext.refl _)).at (i:=0) hm;rw[e] at d;cases d;exact World.block_lt_of_cell? _ _ j
theorem TW.app2(h:TW wb w g gs rate sd c u n bs mb vL vM k bs2 str P D X)(hk:k<=1000)(hs:str.length<=4611686018427387903){m:Nat}(M: ∀W,Ext wb W->Evs W ao m cap L)(V:q2U L)(o: ∀e∈L,e.we<18446744073709551616):
  Calls Tryz.prog 20 #[.pointer (some ⟨mb,0,none⟩),.string ⟨str.toArray⟩,.int .i64 (-2),.slice ao m cap] w fun e w'=>e= .returned (.tuple #[.int .i64 (apN bs2 str L).1,.int .i64 (apN bs2 str L).2])/\Stay X w w'/\
   ∃r E,TW wb w' g gs rate sd c u n bs mb r E (k+1) (apB bs2 str L) str P D X:=by
 obtain⟨ms,hm,hl⟩:=h.mo;have h8:=h.bd2 hk;have J:=h.few2;refine(z6o hm h.ok2 (h.lowM mb (.inl rfl)).1 str hs (-2) (M w h.sk.base) (fun a e O Y=>by have:=y4V M a e O;have:=(h.lowM _ Y).1;omega) V o (by omega) (by omega) rfl).mono ?_;rintro e w' ⟨r,E,a0,bs',x,y,rfl,Q,h2,d,I,R,S,U⟩;have Z:x=(apN bs2 str L).1/\y=(apN bs2 str L).2/\bs'=apB bs2 str L:=by
  unfold apN apB;rcases S with⟨d,rfl,rfl,rfl⟩|⟨d,rfl,rfl,rfl⟩
  ·rw[κ d,κ d];exact⟨rfl,rfl,rfl⟩
  ·rw[ξ d,ξ d];exact⟨rfl,rfl,rfl⟩
 obtain⟨rfl,rfl,rfl⟩:=Z;have he:=y4N bs2 str L str;have:=h.modelled (F:=fun _=>False) (D':=D) Q (by omega) (y4O h.ok2 (by omega) o) (Ω (y2e _ _ _) (by omega)) d U (fun i a b _=>I i a b) R he (fun i G=>G.elim) (fun i G=>G) (fun j x s l=>?_) (fun j x s l=>⟨s,l⟩)
 ·exact⟨rfl,this.2,_,_,this.1⟩
 ·obtain⟨a1,N,a3⟩:=h.dI j x s l
  exact⟨Blk.same a1 (I x (h.lt (.inr (.inr (.inl ⟨j,s,l⟩)))) (h.dA j x s l).1),N,by omega⟩
end
variable {w :World}{p:Option Addr}
end
section
open Go.RowKit
theorem z9C{m:Int}(h:q7f A m=false):(A.length:Int)<=m/\ ∀x∈A,x.st.length<=300/\x.n<=20/\ ∀e∈x.L,e.ty.length<=300/\e.da.length<=300:=by
 unfold q7f at h;rw[Bool.or_eq_false_iff] at h;refine⟨by have:=of_decide_eq_false h.2;omega,fun x j=>?_⟩;have b:=List.any_eq_false.1 h.1 x j;unfold q4I at b;simp only[Bool.or_eq_true,not_or,Φ] at b;refine⟨by omega,by omega,fun e he=>?_⟩;have d:=List.any_eq_false.1 (by simpa using b.2) e he;unfold q6q at d;simp only[Bool.or_eq_true,not_or,Φ] at d;omega
theorem q0s{b W:World}{j:Nat}{v:Option Value}(h:b.heap.size=q)(k:W.cell? ⟨q,j,none⟩=v):W.cell? ⟨b.heap.size,j,none⟩=v:=h▸k
abbrev noP :Bool->Option (Nat×Int):=fun _=>none
theorem z0T:¬InW noP i:=fun ⟨_,_,h⟩=>by cases h
section
variable {wb w W W':World}{g gs gs' mb rate u n k:Nat}{sd c:Int}{bs bs2:List Bt}{vL vM:Value}{str str':List UInt8}{X X':Nat->Prop}
theorem TW.any(h:TW wb W g gs rate sd c u n bs mb vL vM k bs2 str noP noP X)(str':List UInt8):TW wb W g gs rate sd c u n bs mb vL vM k bs2 str' noP noP X:=
 ⟨h.sk,h.mo,h.ok2,h.few2,h.lowM,fun j x s b=>(by cases b),fun j x s b=>(by cases b),fun j x s b=>(by cases b),fun j x s b=>(by cases b)⟩
theorem TW.stored0(h:TW wb w g gs rate sd c u n bs mb vL vM k bs2 str noP noP X)(o:SK wb W g gs' rate sd c 0 u' n' bs' (fun i=>MoB mb vL vM i\/InW noP i\/InW noP i\/X i))(l:Stay (fun i=>MoB mb vL vM i\/InW noP i\/InW noP i\/X i) w W):
  TW wb W g gs' rate sd c u' n' bs' mb vL vM k bs2 str noP noP X/\Stay X w W:=by
 obtain⟨ms,hm,r⟩:=h.mo;exact⟨⟨o,⟨ms,hm.same fun i d=>l i (.inl d),r⟩,h.ok2,h.few2,h.lowM,fun j x s b=>(by cases b),fun j x s b=>(by cases b),fun j x s b=>(by cases b),fun j x s b=>(by cases b)⟩,fun i d=>l i (.inr (.inr (.inr d)))⟩
theorem TW.up(h:TW wb W g gs rate sd c u n bs mb vL vM k bs2 str noP noP X){k':Nat}(b:k<=k'):TW wb W g gs rate sd c u n bs mb vL vM k' bs2 str noP noP X:=by
 obtain⟨ms,hm,d⟩:=h.mo;exact⟨h.sk,⟨ms,hm,by omega⟩,h.ok2,by have:=h.few2;omega,h.lowM,h.pI,h.dI,h.pA,h.dA⟩
theorem TW.app1s(h:TW wb w g gs rate sd c u n bs mb vL vM k bs2 str noP noP X)(E:n<=86)(d:(u:Int)+8024<=c)(F:str.length<=4611686018427387903){m:Nat}(G: ∀W,Ext wb W->Stay X w W->Evs W ao m cap L)(l:q2U L)(j: ∀e∈L,e.we<18446744073709551616):
  Calls Tryz.prog 19 #[.pointer (some ⟨gs,0,none⟩),.string ⟨str.toArray⟩,.int .i64 (-2),.slice ao m cap] w fun e w'=>e= .returned (.tuple #[.int .i64 (apN bs str L).1,.int .i64 (apN bs str L).2])/\TW wb w' g gs rate sd c (u+2024) (n+1) (apB bs str L) mb vL vM k bs2 str noP noP X/\Stay X w w':=by
 refine(h.sk.append E str F (-2) (fun W J M=>G W J fun i r=>M i (.inr (.inr (.inr r)))) l j rfl).mono ?_;rintro e w' ⟨x,y,bs',rfl,k1,I,b⟩;have o:x=(apN bs str L).1/\y=(apN bs str L).2/\bs'=apB bs str L:=by
  unfold apN apB;rcases b with⟨b,rfl,rfl,rfl⟩|⟨_,_,_,_,b⟩|⟨b,rfl,rfl,rfl⟩
  ·rw[κ b,κ b];exact⟨rfl,rfl,rfl⟩
  ·omega
  ·rw[ξ b,ξ b];exact⟨rfl,rfl,rfl⟩
 obtain⟨rfl,rfl,rfl⟩:=o;exact⟨rfl,h.stored0 k1 I⟩
theorem TW.first{w1 l:World}(h:SK w1 l g gs rate sd 1048576 0 0 0 [] noI):
  TW w1 (l.alloc (.cells #[.slice none 0 0,.slice none 0 0,.int .i64 0] 59)) g gs rate sd 1048576 0 0 [] l.heap.size (.slice none 0 0) (.slice none 0 0) 0 [] [] noP noP (fun _=>False):=by
 have r:=q0B l (.cells #[.slice none 0 0,.slice none 0 0,.int .i64 0] 59);have o: ∀i,MoB l.heap.size (.slice none 0 0) (.slice none 0 0) i->i=l.heap.size:=fun i b=>by
  rcases b with b|b|b
  ·exact b
  ·cases b
  ·cases b
 have b1:=Blk.new l 59 #[.slice none 0 0,.slice none 0 0,.int .i64 0];refine⟨h.more r fun i b=>?_,⟨[],⟨⟨0,b1⟩,⟨rfl,.inl ⟨rfl,rfl⟩⟩,⟨rfl,.inl ⟨rfl,rfl⟩⟩⟩,ι _⟩,okBs.nil,ι _,fun i b=>⟨by rw[o i b];exact h.base.size,fun e=>e⟩,fun j x s d=>(by cases d),fun j x s d=>(by cases d),fun j x s d=>(by cases d),fun j x s d=>(by cases d)⟩;refine .inr ?_;simp only[ρ];rcases b with b|b|b|b
 ·rw[o i b];omega
 ·exact absurd b z0T
 ·exact absurd b z0T
 ·exact b.elim
end
def FMo(wb w:World)(g gs rate:Nat)(sd:Int)(u n:Nat)(bs:List Bt)(mb:Nat)(vL vM:Value):Prop:=TW wb w g gs rate sd 1048576 u n bs mb vL vM n bs [] noP noP (fun _=>False)
theorem y0s{n:Nat}(sd:Int)(rate:Nat)(l:Int)(w:World)(hx:Acs w ao n cap A)(j1:0<=sd)(l1:sd<18446744073709551616)(n1:n<=40)(M0: ∀x∈A,x.st.length<=300/\x.n<=20/\ ∀e∈x.L,e.ty.length<=300/\e.da.length<=300):
  Calls Tryz.prog 26 #[.slice ao n cap,.agg #[.int .u64 sd,.float .f64 rate,.int .u16 l]] w fun e w'=> ∃g gs mb u m bs vL vM,e= .returned (.tuple #[.pointer (some ⟨g,0,none⟩),.pointer (some ⟨gs,0,none⟩),.pointer (some ⟨mb,0,none⟩),.bool true])/\FMo (w.alloc (.cells #[.int .u64 sd,.float .f64 rate,.int .u16 l] 50)) w' g gs rate sd u m bs mb vL vM/\u<=800000/\m<=40:=by
 have R0:=q0B w (.cells #[.int .u64 sd,.float .f64 rate,.int .u16 l] 50);have J0:=Blk.new w 50 #[.int .u64 sd,.float .f64 rate,.int .u16 l];have r0:=η J0;have f0:=η (hx.ext R0);have m1:=hx.len;have p1:=hx.fits;have q1:=hx.bound;have C0:=η M0;have HO:=η (z0V sd rate l (w.alloc (.cells #[.int .u64 sd,.float .f64 rate,.int .u16 l] 50)) j1 l1);clear hx R0 J0 M0;go_enter Tryz.func26,Tryz.ntmps26;obtain⟨w1,z0⟩: ∃w1,w.alloc (.cells #[.int .u64 sd,.float .f64 rate,.int .u16 l] 50)=w1:=⟨_,rfl⟩
 rw[z0] at r0 f0 HO;obtain⟨q0,y0⟩: ∃q0,w.heap.size=q0:=⟨_,rfl⟩
 have E0:=η z0;have j0:=η y0;rw[y0] at r0;clear z0 y0;go_wp2_with fail;rw[E0.o];refine HO.o.mono ?_;rintro e w2 ⟨g,gs,rfl,hk⟩;have HF:=η (TW.first hk);clear hk HO;go_wp2_with fail
 go_loopw [9,10,12] (fun os ok oi W=> ∃(gs j u m:Nat) (bs:List Bt) (vL vM:Value),os= .pointer (some ⟨gs,0,none⟩)/\ok= .bool true/\oi= .int .i64 (j:Int)/\j<=n/\u<=20000*j/\m<=j/\TW w1 W g gs rate sd 1048576 u m bs w2.heap.size vL vM m bs [] noP noP (fun _=>False)) (fun _ _ i _=>n-(intOf i).toNat)
 case atStart=>exact⟨gs,0,0,0,[],_,_,rfl,rfl,rfl,υ _,ι _,ι _,HF.o⟩
 case round=>
  obtain⟨gs,j,u,m,bs,vL,vM,rfl,rfl,rfl,hj,hu,hm,Q0⟩:=hrel;have V:=η Q0;have v0:=η hu;have g1:m<=40:=by omega
  have U0:=η hm;clear Q0 hu hm HF;by_cases x0:j<n
  ·have hd:decide ((j:Int)<(n:Int))=true:=ζ (by omega)
   have s1:(j:Int)<(n:Int):=by omega
   have q8:IntKind.i64.wrap ((j:Int)+1)=(j:Int)+1:=by rw[ν];omega
   obtain⟨b0,off,rfl,c0,c1,c2,c3,c4,K0,N0⟩:=(f0.o.ext V.o.sk.base).at x0;have e0:=C0.o (A.getD j ac0) (z2E (by omega));have a0: ∀W,Ext w1 W->Evs W (A.getD j ac0).ao (A.getD j ac0).n (A.getD j ac0).cap (A.getD j ac0).L:=fun W kk=>by
    obtain⟨_,_,_,_,_,_,_,_,U,_⟩:=(f0.o.ext kk).at x0;exact U
   generalize A.getD j ac0=x at*;obtain⟨kd,st,xa,xb,Y,en,N,L⟩:=x;simp only at c0 c1 c2 c3 c4 K0 e0 a0;have B0:=η a0;have F0:Hd (∀e∈L,e.we<18446744073709551616):=η fun e he=>(N0.e e he).2.2
   have D0:Hd (q2U L):=η (z1j e0.2.2);have r1:en<=20:=e0.2.1;have o1:st.length<=300:=e0.1;clear a0 K0 N0 e0;obtain⟨q,hq⟩: ∃q,wr.heap.size=q:=⟨_,rfl⟩
   have S0:=q0B wr (.cells #[.int .u8 kd,.string ⟨st.toArray⟩,.int .i64 xa,.int .i64 xb,.slice Y en N] 66);have w0:=Blk.new wr 66 #[.int .u8 kd,.string ⟨st.toArray⟩,.int .i64 xa,.int .i64 xb,.slice Y en N];have i1:w1.heap.size<=q:=by rw[<-hq];exact V.o.sk.base.size
   rw[hq] at w0;have t0:=η w0;obtain⟨X,hX⟩: ∃X:Nat->Prop,(fun i=>i=q)=X:=⟨_,rfl⟩
   have H0:X q:=by rw[<-hX]
   have Y0:=η H0;have X0:Hd (∀i,X i->i=q):=η fun i r=>by rw[<-hX] at r;exact r
   have d:=η ((V.o.more (X':=X) S0 fun i r=> .inr (by have:=X0.o i r;rw[ρ];omega)).any st);have p0:Hd (∀W,Ext w1 W->Blk W q0 50 #[.int .u64 sd,.float .f64 rate,.int .u16 l]):=η fun W kk=>r0.o.ext kk
   have Q:Hd (∀(W:World) (gs' u' m':Nat) (bs':List Bt) (n0 o0:Value),u'<=u+20000->m'<=m+1->TW w1 W g gs' rate sd 1048576 u' m' bs' w2.heap.size n0 o0 m' bs' st noP noP X->
     j+1<=n/\u'<=20000*(j+1)/\m'<=j+1/\TW w1 W g gs' rate sd 1048576 u' m' bs' w2.heap.size n0 o0 m' bs' [] noP noP (fun _=>False)):=
    η fun W gs' u' m' bs' n0 o0 I J h3=>⟨by omega,by have:=v0.o;omega,by have:=U0.o;omega,(h3.more (Ext.refl _) fun i r=>r.elim).any []⟩
   have HQ:=η hq;obtain⟨G,t1⟩: ∃G,kd.tmod 14=G:=⟨_,rfl⟩
   clear S0 w0 hq hX H0 V i1;by_cases h8:G=8
   ·have d8:(G==(8:Int))=true:=by rw[h8];rfl
    clear h8;have M:=η d.o.sk.flush;go_wp2_with fail;refine M.o.mono ?_;rintro e w3 ⟨rfl,I,J⟩;have R:=η (d.o.stored0 (I.mono (ι _) (ι _)) J).1;clear I J M;go_wp2_with fail
    go_roundw
    case rel=>exact(fun h=>⟨_,j+1,_,_,_,_,_,rfl,rfl,by go_num,h.1,h.2.1,h.2.2.1,h.2.2.2⟩) (Q.o _ _ _ _ _ _ _ (by omega) (by omega) R.o)
    case measure=>simp[intOf];omega
   have d8:(G==(8:Int))=false:=by simpa using h8
   by_cases U:G=9
   ·have d9:(G==(9:Int))=true:=by rw[U];rfl
    clear h8 U;have M:=η (d.o.sk.index (by omega));go_wp2_with fail;refine M.o.mono ?_;rintro e w3 ⟨y,rfl,_,I,J⟩;have R:=η ((d.o.stored0 I J).1.up (k':=m+1) (by omega));clear I J M;go_wp2_with fail
    go_roundw
    case rel=>exact(fun h=>⟨_,j+1,_,_,_,_,_,rfl,rfl,by go_num,h.1,h.2.1,h.2.2.1,h.2.2.2⟩) (Q.o _ _ _ _ _ _ _ (by omega) (by omega) R.o)
    case measure=>simp[intOf];omega
   have d9:(G==(9:Int))=false:=by simpa using U
   by_cases E:G=10
   ·have Z0:(G==(10:Int))=true:=by rw[E];rfl
    clear h8 U E;have M:=η (fun v=>d.o.sk.merge (by omega) v);go_wp2_with fail;refine(M.o _).mono ?_;rintro e w3 ⟨y,rfl,_,I,J⟩;have R:=η ((d.o.stored0 I J).1.up (k':=m+1) (by omega));clear I J M;go_wp2_with fail
    go_roundw
    case rel=>exact(fun h=>⟨_,j+1,_,_,_,_,_,rfl,rfl,by go_num,h.1,h.2.1,h.2.2.1,h.2.2.2⟩) (Q.o _ _ _ _ _ _ _ (by omega) (by omega) R.o)
    case measure=>simp[intOf];omega
   have Z0:(G==(10:Int))=false:=by simpa using E
   by_cases S:G=11
   ·have a1:(G==(11:Int))=true:=by rw[S];rfl
    clear h8 U E S;have M:=η (fun v=>d.o.sk.merge (by omega) v);go_wp2_with fail;refine(M.o _).mono ?_;rintro e w3 ⟨y,rfl,_,I,J⟩;have R:=η ((d.o.stored0 I J).1.up (k':=m+1) (by omega));clear I J M;go_wp2_with fail
    go_roundw
    case rel=>exact(fun h=>⟨_,j+1,_,_,_,_,_,rfl,rfl,by go_num,h.1,h.2.1,h.2.2.1,h.2.2.2⟩) (Q.o _ _ _ _ _ _ _ (by omega) (by omega) R.o)
    case measure=>simp[intOf];omega
   have a1:(G==(11:Int))=false:=by simpa using S
   by_cases Z:G=12
   ·have b1:(G==(12:Int))=true:=by rw[Z];rfl
    clear h8 U E S Z;have M:=η (d.o.sk.disk.open (by omega) rate);have hh:=p0.o _ d.o.sk.base;have k0:=q0s j0.o (hh.cell 0);have k1:=q0s j0.o (hh.cell 1);clear hh;go_wp2_with fail;refine M.o.mono ?_;rintro e w3 ⟨gs',rfl,I,J⟩;have R:=η (d.o.stored0 I J).1;clear I J M k0 k1;go_wp2_with fail
    go_roundw
    case rel=>exact(fun h=>⟨_,j+1,_,_,_,_,_,rfl,rfl,by go_num,h.1,h.2.1,h.2.2.1,h.2.2.2⟩) (Q.o _ _ _ _ _ _ _ (by omega) (by omega) R.o)
    case measure=>simp[intOf];omega
   have b1:(G==(12:Int))=false:=by simpa using Z
   by_cases l0:G=13
   ·have f1:(G==(13:Int))=true:=by rw[l0];rfl
    clear h8 U E S Z l0;have M:=η (d.o.sk.disk.open (by omega) rate);have hh:=p0.o _ d.o.sk.base;have k0:=q0s j0.o (hh.cell 0);have k1:=q0s j0.o (hh.cell 1);clear hh;go_wp2_with fail;refine M.o.mono ?_;rintro e w3 ⟨gs',rfl,I,J⟩;have R:=η (d.o.stored0 I J).1;clear I J M k0 k1;go_wp2_with fail
    go_roundw
    case rel=>exact(fun h=>⟨_,j+1,_,_,_,_,_,rfl,rfl,by go_num,h.1,h.2.1,h.2.2.1,h.2.2.2⟩) (Q.o _ _ _ _ _ _ _ (by omega) (by omega) R.o)
    case measure=>simp[intOf];omega
   have f1:(G==(13:Int))=false:=by simpa using l0
   clear h8 U E S Z l0;have e1:=q0s HQ.o (t0.o.cell 1);have e4:=q0s HQ.o (t0.o.cell 4);go_wp2_with fail;have d1:=q0A (Ext.refl _).drew e1;have d4:=q0A (Ext.refl _).drew e4;have u0:=η (d.o.grow (Ext.refl _).drew);refine q1U (fun W:World=>W.cell? ⟨wr.heap.size,1,none⟩=some (.string ⟨st.toArray⟩)/\W.cell? ⟨wr.heap.size,4,none⟩=some (.slice Y en N)) 10 (by kernel_rfl) ⟨d1,d4⟩ (fun b=>?_);refine q0r 0 b (fun b=>?_);refine q0r 1 b (fun b=>?_);refine q4l 2 b (fun b=>?_);refine q0r 3 b (fun b=>?_);refine q4l 4 b (fun b=>?_);simp only[Act.put,π,ψ,ω];refine q0k (i:=5) (by kernel_rfl) rfl (fun K hK=>?_);have O:=B0.o _ u0.o.sk.base;refine q1T rfl (.const (.slice none 0 0)) (.tmp 49) 64 rfl w1.heap.size 97 _ 3 40 Tryz.underlying64 Tryz.infoEv (by decide) (by decide) (.slice none 0 0) 0 [] rfl ⟨rfl,.inl ⟨rfl,rfl⟩⟩ Y en N (q8F L) rfl (by rw[q6D,O.len]) O.nil O.rd (z5F _) (by unfold maxLen;omega) (by omega) u0.o.sk.base.size ?_;intro v2 w8 F d0 I0;rw[Nat.zero_add] at F;rw[List.nil_append] at F;obtain⟨oa,oc,rfl⟩:=q0F F;have A0:Ext (wr.alloc (.cells #[.int .u8 kd,.string ⟨st.toArray⟩,.int .i64 xa,.int .i64 xb,.slice Y en N] 66)).drew w8:=Below.grown (Ext.refl _) d0 (ι _) (fun i e=>by cases e);obtain⟨X2,m0⟩: ∃X2:Nat->Prop,(fun i=>X i\/(Value.slice oa en oc).ownBlock=some i)=X2:=⟨_,rfl⟩
   have V0:=η (u0.o.more (X':=X2) A0 fun i r=>by
    rw[<-m0] at r;rcases r with r|r
    ·exact .inl r
    ·refine .inr ⟨?_,(q0e F i r).2⟩
     rcases I0 with h|h
     ·rw[h] at r;cases r
     ·rw[h] at r;cases r;exact ι _)
   have G0:Hd (∀i,X i->X2 i):=η fun i r=>by rw[<-m0];exact .inl r
   have T0:Hd (∀W,Stay X2 w8 W->Evs W oa en oc L):=η fun W kk=>by
    have hr:=q0Z F fun i r=>kk i (by rw[<-m0];exact .inr r)
    have hl:=O.len;rw[<-hl] at hr⊢;obtain⟨u1,v1,e1,L0⟩:=Evs.of_own (Own.of_row hr)
    cases e1;exact L0
   have s0:=η (t0.o.ext ((Ext.refl _).drew.trans A0));have h0:=η (V0.o.app1s (by omega) (by have:=v0.o;omega) (by omega) (fun W _ ss=>T0.o W ss) D0.o F0.o);obtain⟨y1,y2,hy⟩: ∃y1 y2,apN bs st L=(y1,y2):=⟨_,_,rfl⟩
   rw[hy] at h0;simp only at h0;have HY:=η hy;refine hK.out _ _ ⟨q0s HQ.o (s0.o.cell 1),q0s HQ.o (s0.o.cell 4)⟩ (fun b=>?_);clear hK K F d0 I0 A0 m0 O hy d1 d4 e1 e4
   try simp only[Act.put,π,ψ,ω]
   refine q0k (i:=6) (by kernel_rfl) rfl (fun K hK=>?_)
   go_simp
   go_at_call 19
   refine h0.o.mono ?_;rintro e w9 ⟨rfl,U,P0⟩;have g0:=η (s0.o.same (P0 q (G0.o q Y0.o)));have W0:=η (U.more (X':=X) (Ext.refl _) fun i r=> .inl (G0.o i r));refine hK.out _ _ ⟨q0s HQ.o (g0.o.cell 1),q0s HQ.o (g0.o.cell 4)⟩ (fun b=>?_);clear hK K U P0 h0
   try simp only[Act.put,π,ψ,ω]
   refine q0r 7 b (fun b=>?_);refine q0r 8 b (fun b=>?_);refine q0r 9 b (fun b=>?_);simp only[Act.put,π,ψ,ω];refine q1i (by kernel_rfl) ?_
   try simp only[List.drop_succ_cons,List.drop_zero]
   clear b;have e1:=q0s HQ.o (g0.o.cell 1);have e4:=q0s HQ.o (g0.o.cell 4);have i0:=η (W0.o.app2 (by omega) (by omega) B0.o D0.o F0.o);rw[HY.o] at i0;simp only at i0;go_wp2_with fail;refine i0.o.mono ?_;rintro e x1 ⟨rfl,O0,n0,o0,E⟩;have R:=η E;clear O0 E i0 e1 e4;go_wp2_with fail
   go_roundw
   case rel=>exact(fun h=>⟨_,j+1,_,_,_,_,_,rfl,rfl,by go_num,h.1,h.2.1,h.2.2.1,h.2.2.2⟩) (Q.o _ _ _ _ _ _ _ (by omega) (by omega) R.o)
   case measure=>simp[intOf];omega
  ·obtain rfl:j=n:=by omega
   have hd:decide ((j:Int)<(j:Int))=false:=ε (by omega);clear C0 f0 x0;go_wp2_with fail;refine bodyPost_ret (q5Q rfl _ _ _) rfl ?_;exact⟨g,gs,w2.heap.size,u,m,bs,vL,vM,rfl,by rw[E0.o];exact V.o,by have:=v0.o;omega,g1⟩
end
end Go.Proofs.YtjlcdfpbllobaaaGreatDoor
