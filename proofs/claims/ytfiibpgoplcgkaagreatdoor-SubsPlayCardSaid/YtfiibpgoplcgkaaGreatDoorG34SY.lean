/- The shelf's contract of slices.Reverse at []api.Told at this seat, in plain words. -/
import Derived.Shelf.SlicesQ.Reverse
import Derived.Ground.SlgnProg
import Derived.Test.YtfiibpgoplcgkaaGreatDoorG33SY
import Derived.Deep.RegionHeldLaw
set_option linter.unusedVariables false
set_option linter.unusedSimpArgs false
set_option maxRecDepth 100000
set_option maxHeartbeats 12800000
namespace Go.Proofs
open Go.Shelf
def Tryz.reverseTold_ren :Go.Shelf.Ren:=⟨fun|35=>106|n=>n,fun|22=>36|23=>69|3=>3|4=>4|0=>0|n=>n,fun|n=>n⟩
theorem Tryz.reverseTold :Go.Proofs.SlLaysE0.n35 Tryz.prog Tryz.reverseTold_ren:={
 mixed:=by kernel_rfl
 f35:=⟨Tryz.f106.name,by decide,Tryz.func106.trans (congrArg some (by kernel_rfl))⟩
 t0:=Tryz.underlying0
 a0:=Tryz.isAgg0
 z0:=Tryz.sizeOf0
 v0:=Tryz.zeroValue0
 t3:=Tryz.underlying3
 a3:=Tryz.isAgg3
 z3:=Tryz.sizeOf3
 v3:=Tryz.zeroValue3
 t4:=Tryz.underlying4
 a4:=Tryz.isAgg4
 z4:=Tryz.sizeOf4
 v4:=Tryz.zeroValue4
 t22:=Tryz.underlying36
 a22:=Tryz.isAgg36
 z22:=Tryz.sizeOf36
 v22:=Tryz.zeroValue36}
end Go.Proofs
namespace Go.Proofs.YtfiibpgoplcgkaaGreatDoor
variable {k cap n' mb sz:Nat}{e t:TypeId}{v vL vM v2 v3:Value}{T:List To}{ao:Option Addr}{L:List Ev}{E:Oth}{ms xs:List Value}{a W8:World}
section
open Go.RowKit Go.Sort Go.Lib
theorem z2T{w:World}{base:Nat}{g n q:Nat}{cs:List Value}{F:Array Value}(h:w.ownsRow base e k (.slice (some ⟨g,0,none⟩) n cap) n cs)(hF:F.size=n*k):
  (putRow id (Sort.ahead w q) g 0 F).ownsRow base e k (.slice (some ⟨g,0,none⟩) n cap) n F.toList:=by
 rcases h.2 with⟨i,_⟩|⟨M,o,b,i,D,G,x,hm,J,N⟩
 ·cases i
 ·injection i with d _ y
  injection d with d;injection d with d;subst d;subst y;have I:n*k<=cap*k:=Nat.mul_le_mul_right k x;refine⟨by simpa using hF,.inr ⟨g,cap,putCells id 0 F b,rfl,D,?_,x,hm,by simpa [putCells] using J,?_⟩⟩
  ·simp[putRow,mapBlock,Sort.ahead,Array.getElem?_modify,G,onCells]
  ·apply List.ext_getElem?
   intro j;rw[List.getElem?_take,Array.getElem?_toList,Array.getElem?_toList];by_cases r:j<n*k
   ·have l:j<b.size:=by omega
    simp only[ξ r,putCells,Array.getElem?_mapIdx,Array.getElem?_eq_getElem l,Option.map_some];rw[ξ (by omega),Array.getElem?_eq_getElem (by omega)];simp[getElem!_pos,show j<F.size by omega]
   ·rw[κ r,Array.getElem?_eq_none (by omega)]
theorem q9s{w:World}{base:Nat}{g n:Nat}{cs:List Value}(h:w.ownsRow base e k (.slice (some ⟨g,0,none⟩) n cap) n cs):Holds id w g 0 cs.toArray:=by
 have y:=h.1;rcases h.2 with⟨i,_⟩|⟨I,o,d,i,J,q,D,hm,M,G⟩
 ·cases i
 ·injection i with b _ r
  injection b with b;injection b with b;subst b;subst r;have F:n*k<=cap*k:=Nat.mul_le_mul_right k D;intro j x;have l:j<n*k:=by simpa [y] using x
  refine⟨?_,by simp[World.frozen?,q]⟩;have b:(d.toList.take (n*k))[j]? =cs[j]? :=by rw[G]
  rw[List.getElem?_take,ξ l,Array.getElem?_toList] at b;simp only[World.cell?,q,Nat.zero_add];simp only[Option.isSome_none,Bool.false_eq_true,if_false];rw[b,γ (by omega)];simp[getElem!_pos,show j<cs.length by omega]
instance : Inhabited To:=⟨to0⟩
theorem z0d(T:List To):flatK toc 5 T.toArray=(q2q T).toArray:=by
 have b:(flatK toc 5 T.toArray).size=T.length*5:=by simp[flatK]
 refine ext_get! (by rw[b];simp[q7u]) fun t i=>?_
 rw[b] at i;rw[get_flatK _ _ _ _ (by simpa using i)];have d:=q5J T (t/5) (t % 5) (by omega) (Nat.mod_lt _ (by decide));rw[show t/5*5+t % 5=t by omega] at d;have j:t/5<T.length:=by omega
 rw[show(T.toArray)[t/5]! =T.getD (t/5) to0 by simp[getElem!_pos,j,δ]];rw[show(q2q T).toArray[t]! =((q2q T)[t]?).getD default by simp only[getElem!_def,List.getElem?_toArray];cases (q2q T)[t]? <;>rfl,d];simp only[getElem!_def]
 cases (toc (T.getD (t/5) to0))[t % 5]? <;>rfl
theorem z6z{w:World}{base:Nat}(h:w.ownsRow base 69 5 v T.length (q2q T))(J:T.length<=9223372036854775807):
  Calls Tryz.prog 106 #[v] w fun e w'=>e= .returned (.tuple #[])/\w'.ownsRow base 69 5 v T.length (q2q T.reverse)/\(∀w0,Below w0.heap.size w0 w->w0.heap.size<=base->Below w0.heap.size w0 w')/\
   (∀i,v.ownBlock≠some i->w'.heap[i]? =w.heap[i]?)/\w.heap.size<=w'.heap.size:=by
 rcases h.2 with⟨rfl,y⟩|⟨g,cap,l,rfl,S,U,N,O,Q,R⟩
 ·have D:T=[]:=List.length_eq_zero_iff.1 y
  subst D;refine(AnyQ.slices_Reverse_empty Tryz.reverseTold none 0 w).mono ?_;rintro e w' ⟨rfl,rfl⟩;exact⟨rfl,h,fun _ b _=>b,fun _ _=>rfl,ι _⟩
 ·have j:=AnyQ.slices_Reverse Tryz.reverseTold 5 Tryz.isAgg69 Tryz.sizeOf69 toc (fun _=>rfl) (fun x u M=>z9M [x] u (by simpa [q2q] using M)) g 0 cap T.toArray w (by unfold HoldsK;rw[z0d];exact q9s h) (by simpa using J)
  have o:T.toArray.size=T.length:=by simp
  rw[o] at j;refine j.mono ?_;rintro e w' ⟨rfl,q,rfl⟩;have r:putRowK toc 5 (Sort.ahead w q) g 0 T.toArray.reverse=putRow id (Sort.ahead w q) g 0 (q2q T.reverse).toArray:=by
   unfold putRowK;rw[show T.toArray.reverse=T.reverse.toArray by simp,z0d]
  rw[r];refine⟨rfl,?_,fun w0 b I=>below_putRow b (by omega),fun i G=>?_,?_⟩
  ·have:=z2T (q:=q) (F:=(q2q T.reverse).toArray) h (by simp[q7u])
   simpa using this
  ·have d:g≠i:=fun e=>G (by rw[e];rfl)
   simp[putRow,mapBlock,Sort.ahead,Array.getElem?_modify,d]
  ·simp[Sort.ahead]
def z9r(bs:List Bt)(str:List UInt8)(fr ct:Int):List To:=if q1Z str fr ct=0 then(z0y (q4G bs str) fr ct).reverse else []
section
variable {wb w W W1 W2:World}{g gl gs gx rate:Nat}{m:Man}{ws:List En}{c s sd:Int}{u cnt:Nat}{B:List En}{C:Cks}{P:Pbs}{sure:Int}{K K':Nat->Prop}
theorem z2U(h:StoP wb w g gs gl gx rate m ws sd c s u cnt B C sure P K)(str:List UInt8)(hs:str.length<=4611686018427387903)(fr ct:Int)(e0:fr<=9223372036854775807)(d0:ct<=9223372036854775807)(hl:B.length<=10000)(b0:(q0R (q1a P) str).length<=10000):
  Calls Tryz.prog 54 #[.pointer (some ⟨gs,0,none⟩),.string ⟨str.toArray⟩,.int .i64 fr,.int .i64 ct] w (ToldR wb w g gs gl gx rate m ws sd c s u cnt B C sure P K (z9r (q1a P) str fr ct) (q1Z str fr ct)):=by
 have q:=η (z7E h.b str hs fr ct);have HH:=η h;obtain⟨R,x⟩: ∃R,z9r (q1a P) str fr ct=R:=⟨_,rfl⟩
 rw[x];unfold z9r at x;by_cases l:q1Z str fr ct=0
 ·have Q:0<=fr/\1<=ct:=by
   unfold q1Z at l
   split at l
   ·cases l
   ·omega
  rw[ξ l] at x;rw[l] at q⊢;have q1:IntKind.i64.wrap (fr-ct)=fr-ct:=by rw[ν];omega
  have q2:IntKind.i64.wrap (fr-ct+1)=fr-ct+1:=by rw[ν];omega
  have r:=z6l (q1a P) str (f:=fr) (c:=ct) Q.1 Q.2 (by omega);obtain⟨y,M⟩: ∃y,z0y (q4G (q1a P) str) fr ct=y:=⟨_,rfl⟩
  rw[M] at r x;have c0:y.length<=10000:=by
   rw[<-r];refine Ω (List.length_filter_le _ _) ?_;rw[q1L];exact b0
  have HB:=η (fun W (k:Ext w W)=>q6v (h.grow k) str hs (fr-ct+1) fr hl r);have G:Hd (y.reverse=R):=η x;clear l x h r M;go_enter Tryz.func54,Tryz.ntmps54;go_wp2_with fail;refine q.o.mono ?_;rintro e w1 ⟨rfl,X⟩;have J:=η X;clear X;go_wp2_with fail;refine(HB.o _ J.o).mono ?_;rintro e w2 ⟨v,rfl,hh,U,d,O⟩;obtain⟨ra,rc,rfl⟩:=q0E d;have I:=η (z6z d (by omega));have F:=η hh;have a0:=η ((HH.o.kExt J.o).trans U);have D:=η O;clear hh U d O HB;go_wp2_with fail;refine I.o.mono ?_;rintro e w3 ⟨rfl,d,N,j,V⟩;rw[G.o] at d;have S:R.length=y.length:=by rw[<-G.o,List.length_reverse]
  have HF:Hd (ToldR wb w g gs gl gx rate m ws sd c s u cnt B C sure P K R 0 (.returned (.tuple #[.slice ra y.length rc,.int .i64 0])) w3):=η
   ⟨_,rfl,F.o.sideM V (N wb F.o.base (ι _)) (fun i Z hn=>j i fun e=>hn (.inr e)) fun i Z=> .inl Z,a0.o.trans fun i Z=>j i (D.o i Z),by rw[S];exact d,D.o⟩
  clear d N j V I;go_wp2_with fail;go_ret2;exact HF.o
 ·rw [κ l] at x
  subst x;have Y:q1Z str fr ct=2:=by
   unfold q1Z at l⊢
   split at l
   ·rename_i h1;rw[ξ h1]
   ·exact absurd rfl l
  rw[Y] at q⊢;clear l Y h;go_enter Tryz.func54,Tryz.ntmps54;go_wp2_with fail;refine q.o.mono ?_;rintro e w1 ⟨rfl,X⟩;have J:=η X;clear X;go_wp2_with fail;go_ret2;exact ToldR.nil (HH.o.grow J.o) (HH.o.kExt J.o) 2
end
end
section
open Go.RowKit
theorem z0S : ∀(C:Cks) (b:Nat),(∀ps∈C,ps≠[])->C.length<=(q0y b C).length
 |[],_,_=>ι _
 | ps::t,b,h=>by
  have d:=z0S t (b+4096) fun q hq=>h q (.tail _ hq)
  have i:0<ps.length:=List.length_pos_iff.2 (h ps (.head _));rw[q0y,θ,q4b,χ];omega
theorem z4O{C:Cks}(h:okC C):C.length<=(q0y 0 C).length+1:=by
 rcases List.eq_nil_or_concat C with rfl|⟨D,ps,rfl⟩
 ·exact υ _
 ·rw[List.concat_eq_append] at*
  have d:=z0S D 0 fun b hq=>h.full b (by simpa using hq)
  rw[q3D,θ,θ,List.length_singleton];omega
theorem z0B{bs:List Bt}(h:okBs bs):(tos bs).length<=8*bs.length:=by
 induction bs using q9w with
 |h0=>exact ι _
 | h1 l b ih=>
  obtain⟨h1,d,_⟩:=okBs_snoc.1 h;have i:=(q0Y d.1).2.2.2.1;have j:=ih h1;rw[q2Y,q6J,θ,q4C,θ,List.length_singleton];omega
def SKS(wb W:World)(g gs rate:Nat)(sd c s:Int)(u n:Nat)(bs:List Bt)(k:Nat)(K:Nat->Prop):Prop:=
 ∃gl gx m ws B C sure P,StoP wb W g gs gl gx rate m ws sd c s u (40+3*n) B C sure P K/\q1a P=bs/\m.nx<=n/\bs.length<=n/\(k<=bs.length/\ ∀y∈P.take k,y3N y<=sure)/\0<=sd/\sd<18446744073709551616
abbrev SK(wb W:World)(g gs rate:Nat)(sd c s:Int)(u n:Nat)(bs:List Bt)(K:Nat->Prop):Prop:=SKS wb W g gs rate sd c s u n bs 0 K
def SQ(wb W:World)(g:Nat)(sd c s:Int)(u n:Nat)(bs:List Bt)(K:Nat->Prop):Prop:=
 ∃m B C P,DKQ wb W g m c s u (40+3*n) B C K/\y3A sd m B C P/\B.Nodup/\q1a P=bs/\m.nx<=n/\bs.length<=n/\0<=sd/\sd<18446744073709551616
section
variable {wb w W W':World}{g gs rate u n:Nat}{sd c s:Int}{bs:List Bt}{k0:Nat}{K K':Nat->Prop}
theorem StoP.bounds{gl gx:Nat}{m:Man}{ws:List En}{cnt:Nat}{B:List En}{C:Cks}{sure:Int}{P:Pbs}(h:StoP wb W g gs gl gx rate m ws sd c s u cnt B C sure P K)(d:q1a P=bs)(r:bs.length<=n):
  (tos bs).length<=8*n/\B.length<=8*n/\C.length<=n+1/\okBs bs:=by
 have b:okBs bs:=d▸h.stE.ok;have o:=z0B b;have j:=h.len;rw[d] at j;have l:=z4O h.i.cOk;rw[h.recE,q7i] at l;have q:bs.length=P.length:=by rw[<-d];exact List.length_map _
 exact⟨by omega,by omega,by omega,b⟩
theorem SKS.ok(h:SKS wb W g gs rate sd c s u n bs k0 K):okBs bs:=by
 obtain⟨gl,gx,m,ws,B,C,sure,P,b,d,_,i,_⟩:=h;exact(b.bounds d i).2.2.2
theorem SKS.few(h:SKS wb W g gs rate sd c s u n bs k0 K):bs.length<=n/\(tos bs).length<=8*n:=by
 obtain⟨gl,gx,m,ws,B,C,sure,P,d,i,_,b,_⟩:=h;exact⟨b,(d.bounds i b).1⟩
theorem SKS.base(h:SKS wb W g gs rate sd c s u n bs k0 K):Ext wb W:=by
 obtain⟨gl,gx,m,ws,B,C,sure,P,b,_⟩:=h;exact b.base
theorem SKS.klt(h:SKS wb W g gs rate sd c s u n bs k0 K): ∀i,K i->i<W.heap.size:=by
 obtain⟨gl,gx,m,ws,B,C,sure,P,b,_⟩:=h;exact b.klt
theorem SKS.grow(h:SKS wb W g gs rate sd c s u n bs k0 K)(k:Ext W W'):SKS wb W' g gs rate sd c s u n bs k0 K:=by
 obtain⟨gl,gx,m,ws,B,C,sure,P,b,d⟩:=h;exact⟨gl,gx,m,ws,B,C,sure,P,b.grow k,d⟩
theorem SKS.kExt(h:SKS wb W g gs rate sd c s u n bs k0 K)(k:Ext W W'):Stay K W W':=fun i b=>k.block i (h.klt i b)
theorem SKS.more(h:SKS wb W g gs rate sd c s u n bs k0 K)(k:Ext W W')(hK: ∀i,K' i->K i\/(W.heap.size<=i/\i<W'.heap.size)):SKS wb W' g gs rate sd c s u n bs k0 K':=by
 obtain⟨gl,gx,m,ws,B,C,sure,P,b,d⟩:=h;exact⟨gl,gx,m,ws,B,C,sure,P,b.more k hK,d⟩
theorem SKS.beside(h:SKS wb W g gs rate sd c s u n bs k0 K)(k: ∀i,K' i->K i):SKS wb W g gs rate sd c s u n bs k0 K':=by
 obtain⟨gl,gx,m,ws,B,C,sure,P,b,d⟩:=h;exact⟨gl,gx,m,ws,B,C,sure,P,b.beside k,d⟩
theorem SKS.sideM(h:SKS wb W g gs rate sd c s u n bs k0 K)(j:W.heap.size<=W'.heap.size)(l:Ext wb W')(k: ∀i,i<W.heap.size->¬K i->W'.heap[i]? =W.heap[i]?)(hK: ∀i,K' i->K i\/(W.heap.size<=i/\i<W'.heap.size)):SKS wb W' g gs rate sd c s u n bs k0 K':=by
 obtain⟨gl,gx,m,ws,B,C,sure,P,b,d⟩:=h;exact⟨gl,gx,m,ws,B,C,sure,P,b.sideM j l k hK,d⟩
theorem SKS.mono(h:SKS wb W g gs rate sd c s u n bs k0 K){u':Nat}(q:u<=u')(o:n<=n'):SKS wb W g gs rate sd c s u' n' bs k0 K:=by
 obtain⟨gl,gx,m,ws,B,C,sure,P,b,d,j,l,i⟩:=h;exact⟨gl,gx,m,ws,B,C,sure,P,b.mono (by omega) (by omega),d,by omega,by omega,i⟩
def y2b(wb w:World)(g gs rate:Nat)(sd c s:Int)(u n:Nat)(bs:List Bt)(k0:Nat)(K:Nat->Prop)(R:List To)(z:Int)(e:Ending)(w':World):Prop:=
 ∃v,e= .returned (.tuple #[v,.int .i64 z])/\SKS wb w' g gs rate sd c s u n bs k0 (fun i=>K i\/v.ownBlock=some i)/\Stay K w w'/\w'.ownsRow wb.heap.size 69 5 v R.length (q2q R)/\ ∀i,K i->v.ownBlock≠some i
theorem SKS.last(h:SKS wb w g gs rate sd c s u n bs k0 K)(D:n<=1000)(str:List UInt8)(o:str.length<=4611686018427387903){x y:Int}(l:z4i bs str=(x,y)):
  Calls Tryz.prog 52 #[.pointer (some ⟨gs,0,none⟩),.string ⟨str.toArray⟩] w fun e w'=>e= .returned (.tuple #[.int .i64 x,.int .i64 y])/\SKS wb w' g gs rate sd c s u n bs k0 K/\Stay K w w':=by
 obtain⟨gl,gx,m,ws,B,C,sure,P,b,rfl,i,d,j⟩:=h;obtain⟨b1,b2,b3,b4⟩:=b.bounds rfl d;have r:=q1r (q1a P) str;refine(z7D b str o (by omega) (by omega) l).mono ?_;rintro e w' ⟨rfl,k1,q⟩;exact⟨rfl,⟨gl,gx,m,ws,B,C,sure,P,k1,rfl,i,d,j⟩,q⟩
theorem SKS.all(h:SKS wb w g gs rate sd c s u n bs k0 K)(o:n<=1000):Calls Tryz.prog 51 #[.pointer (some ⟨gs,0,none⟩)] w (y2b wb w g gs rate sd c s u n bs k0 K (tos bs) 0):=by
 obtain⟨gl,gx,m,ws,B,C,sure,P,b,rfl,i,d,j⟩:=h;obtain⟨b1,b2,b3,b4⟩:=b.bounds rfl d;refine(y2O b rfl (by omega)).mono ?_;rintro e w' ⟨v,rfl,k1,l⟩;exact⟨v,rfl,⟨gl,gx,m,ws,B,C,sure,P,k1,rfl,i,d,j⟩,l⟩
theorem SKS.forward(h:SKS wb w g gs rate sd c s u n bs k0 K)(y:n<=1000)(str:List UInt8)(q:str.length<=4611686018427387903)(fr ct:Int)(b: -9223372036854775808<=fr)(d:fr<=9223372036854775807):
  Calls Tryz.prog 18 #[.pointer (some ⟨gs,0,none⟩),.string ⟨str.toArray⟩,.int .i64 fr,.int .i64 ct] w (y2b wb w g gs rate sd c s u n bs k0 K (q3h bs str fr ct) (q1Z str fr ct)):=by
 obtain⟨gl,gx,m,ws,B,C,sure,P,i,rfl,l,j,o⟩:=h;obtain⟨b1,b2,b3,b4⟩:=i.bounds rfl j;have x:=q1r (q1a P) str;refine(z5A i str q fr ct b d (by omega) (by omega)).mono ?_;rintro e w' ⟨v,rfl,k1,r⟩;exact⟨v,rfl,⟨gl,gx,m,ws,B,C,sure,P,k1,rfl,l,j,o⟩,r⟩
theorem SKS.backward(h:SKS wb w g gs rate sd c s u n bs k0 K)(y:n<=1000)(str:List UInt8)(q:str.length<=4611686018427387903)(fr ct:Int)(d:fr<=9223372036854775807)(b:ct<=9223372036854775807):
  Calls Tryz.prog 54 #[.pointer (some ⟨gs,0,none⟩),.string ⟨str.toArray⟩,.int .i64 fr,.int .i64 ct] w (y2b wb w g gs rate sd c s u n bs k0 K (z9r bs str fr ct) (q1Z str fr ct)):=by
 obtain⟨gl,gx,m,ws,B,C,sure,P,i,rfl,l,j,o⟩:=h;obtain⟨b1,b2,b3,b4⟩:=i.bounds rfl j;have x:=q1r (q1a P) str;refine(z2U i str q fr ct d b (by omega) (by omega)).mono ?_;rintro e w' ⟨v,rfl,k1,r⟩;exact⟨v,rfl,⟨gl,gx,m,ws,B,C,sure,P,k1,rfl,l,j,o⟩,r⟩
theorem SKS.append(h:SKS wb w g gs rate sd c s u n bs k0 K)(U:n<=86)(str:List UInt8)(J:str.length<=4611686018427387903)(ex:Int)(M: ∀W,Ext wb W->Stay K w W->Evs W ao k cap L)(I:q1D L)
  (j: ∀e∈L,e.we<18446744073709551616){z:Int}(N:q8R bs str ex L=z):
  Calls Tryz.prog 38 #[.pointer (some ⟨gs,0,none⟩),.string ⟨str.toArray⟩,.int .i64 ex,.slice ao k cap] w fun e w'=>
   ∃ x y b,e= .returned (.tuple #[.int .i64 x,.int .i64 y])/\SKS wb w' g gs rate sd c s (u+2024) (n+1) b k0 K/\Stay K w w'/\
    ((z≠0/\x=0/\y=z/\b=bs)\/(z=0/\x=0/\y=60/\b=bs/\c-(u:Int)-2024<6000)\/(z=0/\x=((q0R bs str).length:Int)/\y=0/\b=bs++[⟨str,(q0R bs str).length,L⟩])):=by
 obtain⟨gl,gx,m,ws,B,C,sure,P,r,rfl,R,G,i⟩:=h;obtain⟨b1,b2,b3,b4⟩:=r.bounds rfl G;have Q:=q1r (q1a P) str;refine(z7C r str J ex M I j (by omega) (by omega) (by omega)).mono ?_;rw[N];rintro e w' ⟨⟨k0,rfl,k1⟩|⟨rfl,rfl,k1,O⟩|⟨rfl,O,pos,q,B',F,d,rfl,k1,o⟩,l⟩
 ·exact⟨_,_,_,rfl,⟨gl,gx,m,ws,B,C,sure,P,k1.mono (by omega) (by omega),rfl,by omega,by omega,i⟩,l,.inl ⟨k0,rfl,rfl,rfl⟩⟩
 ·exact⟨_,_,_,rfl,⟨gl,gx,m,ws,B,C,sure,P,k1.mono (by omega) (by omega),rfl,by omega,by omega,i⟩,l,.inr (.inl ⟨rfl,rfl,rfl,rfl,by omega⟩)⟩
 ·exact⟨_,_,_,rfl,⟨gl,gx,m,q,B',F,d,_,k1.mono (by omega) (by omega),rfl,by omega,by rw[q3e,θ,List.length_singleton];omega,⟨by rw[q3e,θ,List.length_singleton];omega,fun y D=>by
   have S:P.length=(q1a P).length:=(List.length_map _).symm;rw[List.take_append_of_le_length (by omega)] at D
   exact Int.le_trans (i.1.2 y D) o⟩,i.2⟩,l,.inr (.inr ⟨rfl,rfl,rfl,q3e _ _ _⟩)⟩
theorem SQ.open(h:SQ wb w g sd c s u n bs K)(G:n<=200)(rate:Nat):Calls Tryz.prog 33 #[.pointer (some ⟨g,0,none⟩),.int .u64 sd,.float .f64 rate] w fun e w'=>
  ∃gs,e= .returned (.tuple #[.pointer (some ⟨gs,0,none⟩),.int .i64 0])/\SK wb w' g gs rate sd c s u n bs K/\Stay K w w':=by
 obtain⟨m,B,C,P,j,b,l,rfl,D,o,d,i⟩:=h;have F:=z0B b.ok;refine(y0r j b d i (by omega) (by omega) l rate).mono ?_;rintro e w' ⟨gs,gl,gx,x,ws,B',sure,rfl,k1,I,r⟩;exact⟨gs,rfl,⟨gl,gx,x,ws,B',C,sure,P,k1,rfl,by omega,o,⟨υ _,fun y q=>by cases q⟩,d,i⟩,r⟩
theorem DkK.sq(h:DkK noO wb w g c s [] K)(sd:Int)(d:0<=sd)(i:sd<18446744073709551616):SQ wb w g sd c s 0 0 [] K:=by
 obtain⟨F,σ,q,j⟩:=h;have o:Pl σ c s []:=by have:=j.pl;simpa [q2a,noO,q2b,q5u,q3Q,q4H] using this
 have r:q0i 0 0 []=true:=by decide
 refine⟨⟨0,0,sd,[]⟩,[],[],[],⟨⟨⟨0,0,sd,[]⟩,0,[],fun _=>none,0⟩,σ,fun _=>none,F,rfl,rfl,q,⟨⟨⟨[],o,List.Pairwise.nil,fun _=>rfl,υ _,υ _⟩,⟨r,d,i⟩,(fun n l=>by cases l),(fun n e he=>by cases he),(fun nm l=>absurd rfl l),okM.nil,okM.nil,fun x=>?_⟩,.inr ⟨rfl,rfl,rfl,rfl⟩,⟨⟨fun k _=>by simp,j.sr,j.le⟩,fun n e he=>by cases he⟩⟩,okC.nil⟩,
  ⟨rfl,rfl,okBs.nil,(fun x b=>by cases b),(fun x b=>by cases b),by show(0:Int)<=q3f [];rw[q9P];decide⟩,List.nodup_nil,rfl,Int.le_refl _,ι _,d,i⟩
 constructor
 ·intro b;cases b
 ·rintro(b|⟨n,e,he,_⟩)
  ·cases b
  ·cases he
end
theorem DkK.rebase{j wb w:World}{g:Nat}{c s:Int}{C:Cks}{K:Nat->Prop}(h:DkK E wb w g c s C K)(k:Ext j wb):DkK E j w g c s C K:=by
 obtain⟨F,σ,b,l⟩:=h;have q:=k.size;exact⟨F,σ,⟨b.d,fun i o=>by have:=b.bF i o;omega,k.trans b.ext,b.k⟩,l⟩
theorem DkK.base{wb w:World}{g:Nat}{c s:Int}{C:Cks}{K:Nat->Prop}(h:DkK E wb w g c s C K):Ext wb w:=by
 obtain⟨F,σ,b,d⟩:=h;exact b.ext
theorem Blk.rd{w:World}{b:Nat}{cs:Array Value}(h:Blk w b t cs):Rd w (some ⟨b,0,none⟩) cs.toList:=fun j u d=>⟨b,0,rfl,by rw[Nat.zero_add,h.cell j];simpa using d⟩
theorem Blk.evs{w:World}{b:Nat}(h:Blk w b t (q4V L).toArray)(i:k<=L.length)(j:L.length<=1000000):Evs w (some ⟨b,0,none⟩) k L.length (L.take k):=by
 refine⟨by rw[Θ];omega,i,by omega,(fun e=>by cases e),?_⟩;have d:=h.rd.take (k*3);have e:(q4V L).take (k*3)=q4V (L.take k):=by
  conv=>lhs;rw[<-List.take_append_drop k L,q7K]
  exact List.take_left' (by rw[z1m,Θ];omega)
 rw[<-e]
 simpa using d
theorem q2Z{w:World}{B:Nat}{n b:Nat}{L:List To}(h:w.ownsRow B e 5 (.slice ao n b) L.length (q2q L)):Tos w ao n b L/\n=L.length:=by
 obtain⟨a,c,d,i⟩:=Tos.of_own (Own.of_row h)
 cases d;exact⟨i,rfl⟩
abbrev evA :Ev:=⟨[97],[],0⟩
abbrev z9T :Ev:=⟨[98],[],0⟩
abbrev st1 :Bt:=⟨[115],0,[evA,z9T]⟩
theorem y3Y :q8R [] [115] (-1) [evA,z9T]=0:=by decide
theorem z9G(h: ∀e∈L,e.ty.length<=300/\e.da.length<=300):q1D L:=fun e he=>by have:=h e he;omega
variable {w :World}{p:Option Addr}
end
section
open Go.RowKit
section
variable {wb w W W1 W2:World}{g gs rate u n:Nat}{sd c s:Int}{bs:List Bt}{K K':Nat->Prop}
end
theorem z6A{i:Type}(p:i->Bool)(A:List i)(d:i)(h:k<A.length):(A.take (k+1)).filter p=(A.take k).filter p++if p (A.getD k d)=true then [A.getD k d] else []:=by
 rw[List.take_succ_eq_append_getElem h,List.filter_append,δ,γ h];simp only[Option.getD_some];by_cases b:p A[k]=true
 ·rw[ξ b,List.filter_cons_of_pos b,List.filter_nil]
 ·rw[κ b,List.filter_cons_of_neg b,List.filter_nil]
def wrB(bs:List Bt)(str:List UInt8)(a:Int)(L:List Ev):List Bt:=
 if q8R bs str a L=0 then bs++[⟨str,(q0R bs str).length,L⟩] else bs
theorem q6X(t d:List UInt8)(k:FloatKind)(b:Nat)(w:World)(y:t.length<=4611686018427387903)(x:d.length<=4611686018427387903):
  Calls Tryz.prog 156 #[.agg #[.string ⟨t.toArray⟩,.string ⟨d.toArray⟩,.float k b]] w fun e w'=>e= .returned (.int .i64 (q0Z t d))/\Ext w w':=by
 have i:=Blk.new w 67 #[.string ⟨t.toArray⟩,.string ⟨d.toArray⟩,.float k b];have r:=η (q0B w (.cells #[.string ⟨t.toArray⟩,.string ⟨d.toArray⟩,.float k b] 67));have F:(w.alloc (.cells #[.string ⟨t.toArray⟩,.string ⟨d.toArray⟩,.float k b] 67)).cell? ⟨w.heap.size,0,none⟩=some (.string ⟨t.toArray⟩):=i.cell 0;have G:(w.alloc (.cells #[.string ⟨t.toArray⟩,.string ⟨d.toArray⟩,.float k b] 67)).cell? ⟨w.heap.size,1,none⟩=some (.string ⟨d.toArray⟩):=i.cell 1;have D:(((t.length:Int)==0)=true/\q0Z t d=2)\/(((t.length:Int)==0)=false/\((decide ((16:Int)<(t.length:Int))=true/\q0Z t d=3)\/(decide ((16:Int)<(t.length:Int))=false/\((decide ((200:Int)<(d.length:Int))=true/\q0Z t d=3)\/(decide ((200:Int)<(d.length:Int))=false/\q0Z t d=0))))):=by
  unfold q0Z;by_cases j:t=[]
  ·exact .inl ⟨by rw[j];rfl,by rw[ξ j]⟩
  ·have I:0<t.length:=List.length_pos_iff.2 j
   refine .inr ⟨by simp;omega,?_⟩;rw[κ j];by_cases l:16<t.length
   ·exact .inl ⟨ζ (by omega),by rw[ξ l]⟩
   ·rw[κ l]
    refine .inr ⟨ε (by omega),?_⟩;by_cases q:200<d.length
    ·exact .inl ⟨ζ (by omega),by rw[ξ q]⟩
    ·exact .inr ⟨ε (by omega),by rw[κ q]⟩
 clear i;rcases D with⟨j,he⟩|⟨j,⟨l,he⟩|⟨l,⟨q,he⟩|⟨q,he⟩⟩⟩
 all_goals
  rw[he];clear he;go_enter Tryz.func156,Tryz.ntmps156;go_wp2_with fail;go_ret;exact⟨rfl,r.o⟩
theorem z2S(e:Ev)(w:World)(he:z6d e):Calls Tryz.prog 159 #[evV e] w fun r w'=>r= .returned (.string ⟨(evB e).toArray⟩)/\Ext w w':=by
 obtain⟨t,d,b⟩:=e;obtain⟨l,h2⟩:=he;obtain⟨_,S,U⟩:=q1W l;simp only at l h2 S U;show Calls _ _ #[.agg #[.string ⟨t.toArray⟩,.string ⟨d.toArray⟩,.float .f64 b]] _ fun r w'=>r= .returned (.string ⟨(q1o t++(q1o d++be 8 b)).toArray⟩)/\Ext w w'
 have O:=η (fun W=>q6X t d .f64 b W (by omega) (by omega));rw[l] at O;have F:=η (fun W=>q7l t W (by omega));have G:=η (fun W=>q7l d W (by omega));have Q:=η (fun W=>z3i (b:Int) 8 8 W rfl (by omega) (by omega) (by omega) (by omega));have l1:(q1o t).length<=1000:=by unfold q1o;split<;>simp[q0G];omega
 have l2:(q1o d).length<=1000:=by unfold q1o;split<;>simp[q0G];omega
 have X:=q0G 8 ((b:Int)).toNat;obtain⟨R,x⟩: ∃R,be 8 ((b:Int)).toNat=R:=⟨_,rfl⟩
 rw[x] at Q X;rw[Int.toNat_natCast] at x;rw[x];have b0:R.length<=8:=by omega
 have Y:=η (q0B w (.cells #[.string ⟨t.toArray⟩,.string ⟨d.toArray⟩,.float .f64 b] 67));have i:=Blk.new w 67 #[.string ⟨t.toArray⟩,.string ⟨d.toArray⟩,.float .f64 b];have k0:(w.alloc (.cells #[.string ⟨t.toArray⟩,.string ⟨d.toArray⟩,.float .f64 b] 67)).cell? ⟨w.heap.size,0,none⟩=some (.string ⟨t.toArray⟩):=i.cell 0;have k1:(w.alloc (.cells #[.string ⟨t.toArray⟩,.string ⟨d.toArray⟩,.float .f64 b] 67)).cell? ⟨w.heap.size,1,none⟩=some (.string ⟨d.toArray⟩):=i.cell 1;have k2:(w.alloc (.cells #[.string ⟨t.toArray⟩,.string ⟨d.toArray⟩,.float .f64 b] 67)).cell? ⟨w.heap.size,2,none⟩=some (.float .f64 b):=i.cell 2;have y:=η i;generalize q1o t=A at*;generalize q1o d=D at*;clear i l S U x X;go_enter Tryz.func159,Tryz.ntmps159;go_wp2_with fail;generalize w.alloc (.cells #[.string ⟨t.toArray⟩,.string ⟨d.toArray⟩,.float .f64 b] 67)=w1 at*;generalize w.heap.size=q at*;refine(O.o _).mono ?_;rintro e N ⟨rfl,M⟩;have I:=η (Y.o.trans M);have j:=y.o.ext M;have Z:N.cell? ⟨q,0,none⟩=some (.string ⟨t.toArray⟩):=j.cell 0;have c1:N.cell? ⟨q,1,none⟩=some (.string ⟨d.toArray⟩):=j.cell 1;have c2:N.cell? ⟨q,2,none⟩=some (.float .f64 b):=j.cell 2;have u0:=q0C Z;have u1:=q0C c1;have u2:=q0C c2;have q1:¬(9223372036854775807<A.length+D.length):=by omega
 have q2:¬(9223372036854775807<(A++D).length+R.length):=by rw[θ];omega
 have q3:¬(9223372036854775807<A.length+D.length+R.length):=by omega
 have a0:=q5a b;clear M j k0 k1 k2;go_wp2_with fail;refine q0D (by kernel_rfl) (by kernel_rfl) ?_
 repeat (go_big_quiet_step (fail))
 go_big_quiet_step (exact Calls.quiet_ext (F.o _))
 repeat (go_big_quiet_step (fail))
 go_big_quiet_step (exact Calls.quiet_ext (G.o _))
 repeat (go_big_quiet_step (fail))
 go_big_quiet_step (exact Calls.quiet_ext (Q.o _))
 repeat (go_big_quiet_step (fail))
 refine wpQuiet_nil ?_;intro w3 V;have J:=η (I.o.trans V);clear V;go_wp2_with fail;go_ret;exact⟨by rw[q2L,q2L];simp,J.o⟩
theorem q7j{n:Nat}(st:List UInt8)(fi:Int)(w:World)(N:Evs w ao n cap L)(p0:st.length<=4611686018427387903)(hL:q1D L):
  Calls Tryz.prog 100 #[.agg #[.string ⟨st.toArray⟩,.int .i64 fi,.slice ao n cap]] w fun e w'=>e= .returned (.int .i64 (q0O st fi L))/\Ext w w':=by
 have b1:=N.fits;have b2:=N.bound;have d:=N.len;have I:=η (q0B w (.cells #[.string ⟨st.toArray⟩,.int .i64 fi,.slice ao n cap] 160));have F:=η (Blk.new w 160 #[.string ⟨st.toArray⟩,.int .i64 fi,.slice ao n cap]);have c0:=F.o.cell 0;have c1:=F.o.cell 1;have c2:=F.o.cell 2;have HE:=η N;have HL:=η hL;clear N hL;by_cases D:st=[]
 ·have r:Hd (q0O st fi L=2):=η (by unfold q0O;rw[ξ (.inl D)])
  have hd:((st.length:Int)==0)=true:=by rw[D];rfl
  clear D;go_enter Tryz.func100,Tryz.ntmps100;go_wp2_with fail;go_ret;exact⟨by rw[r.o];rfl,I.o⟩
 have i0:((st.length:Int)==0)=false:=by have:=List.length_pos_iff.2 D;simp;omega
 by_cases J:n=0
 ·have r:Hd (q0O st fi L=2):=η (by unfold q0O;rw[ξ (.inr (List.eq_nil_of_length_eq_zero (by omega)))])
  have hd:((n:Int)==0)=true:=by rw[J];rfl
  clear D J d;go_enter Tryz.func100,Tryz.ntmps100;go_wp2_with fail;go_ret;exact⟨by rw[r.o];rfl,I.o⟩
 have j0:((n:Int)==0)=false:=by simpa using J
 have x:L≠[]:=fun e=>J (by rw[<-d,e];rfl)
 have j:¬(st=[]\/L=[]):=fun h=>h.elim D x
 by_cases Z:32<st.length
 ·have r:Hd (q0O st fi L=3):=η (by unfold q0O;rw[κ j,ξ (.inl Z)])
  have hd:decide ((32:Int)<(st.length:Int))=true:=ζ (by omega);clear D J x j d Z;go_enter Tryz.func100,Tryz.ntmps100;go_wp2_with fail;go_ret;exact⟨by rw[r.o];rfl,I.o⟩
 have m0:decide ((32:Int)<(st.length:Int))=false:=ε (by omega);by_cases h4:8<n
 ·have r:Hd (q0O st fi L=3):=η (by unfold q0O;rw[κ j,ξ (.inr (by omega))])
  have hd:decide ((8:Int)<(n:Int))=true:=ζ (by omega);clear D J x j d h4;go_enter Tryz.func100,Tryz.ntmps100;go_wp2_with fail;go_ret;exact⟨by rw[r.o];rfl,I.o⟩
 have l:¬(32<st.length\/8<L.length):=by omega
 have n0:decide ((8:Int)<(n:Int))=false:=ε (by omega);have q0:IntKind.i64.wrap (1073741824-(n:Int))=1073741824-(n:Int):=by rw[ν];omega
 by_cases h5:fi<0\/1073741824-(n:Int)<fi
 ·have r:Hd (q0O st fi L=2):=η (by unfold q0O;rw[κ j,κ l,ξ (by rw[d];exact h5)])
  have G:decide (fi<0)=true\/(decide (fi<0)=false/\decide (1073741824-(n:Int)<fi)=true):=by
   by_cases h:fi<0
   ·exact .inl (ζ h)
   ·exact .inr ⟨ε h,ζ (by omega)⟩
  clear D J x j l d h5 Z h4;rcases G with G|⟨G,f0⟩
  all_goals
   go_enter Tryz.func100,Tryz.ntmps100;go_wp2_with fail;go_ret;exact⟨by rw[r.o];rfl,I.o⟩
 have G:decide (fi<0)=false:=ε (by omega);have f0:decide (1073741824-(n:Int)<fi)=false:=ε (by omega);have r:Hd (q0O st fi L=q5z L):=η (by unfold q0O;rw[κ j,κ l,κ (by rw[d];exact h5)]);have U:=η d;clear D J x j l d h5 Z;go_enter Tryz.func100,Tryz.ntmps100;go_wp2_with fail
 go_loopw [3] (fun i W=> ∃k:Nat,k<=n/\i= .int .i64 (k:Int)/\q5z (L.take k)=0/\Ext (w.alloc (.cells #[.string ⟨st.toArray⟩,.int .i64 fi,.slice ao n cap] 160)) W) (fun i _=>n-(intOf i).toNat)
 case atStart=>exact⟨0,υ _,rfl,rfl,Ext.refl _⟩
 case round=>
  obtain⟨k,hk,rfl,R,X⟩:=hrel;have S:=η X;have Q:=F.o.ext X;have d2:=Q.cell 2;by_cases Y:k<n
  ·have g0:decide ((k:Int)<(n:Int))=true:=ζ (by omega)
   have o0:(k:Int)<(n:Int):=by omega
   obtain⟨b,off,rfl,e0,e1,e2⟩:=(HE.o.ext (I.o.trans X)).at Y;have q:k<L.length:=by rw[U.o];exact Y
   have hT:L.take (k+1)=L.take k++[L.getD k ev0]:=by
    rw[List.take_succ_eq_append_getElem q];simp[List.getD,γ q]
   have hS:=q7M (L.take k) (L.getD k ev0) R;rw[<-hT] at hS;have HS:=η hS;have d0:=η (q7L L k q R);have M:L.getD k ev0∈L:=by rw[δ,γ q];exact List.getElem_mem q
   obtain⟨m1,m2⟩:=HL.o _ M;have q1:IntKind.i64.wrap ((k:Int)+1)=(k:Int)+1:=by rw[ν];omega
   generalize L.getD k ev0=y at*;obtain⟨y1,y2,y3⟩:=y;have a0:=η (fun W=>q6X y1 y2 .f64 y3 W m1 m2);simp only at e0 e1 e2;clear hT q R hS M m1 m2 X Q;go_wp2_with fail;refine(a0.o _).mono ?_;rintro e w1 ⟨rfl,N⟩;have V:=η (S.o.trans N);clear N;by_cases hc:q0Z y1 y2=0
   ·have b0:Hd (q5z (L.take (k+1))=0):=η (by rw[HS.o];exact hc)
    rw[hc];go_wp2_with fail
    go_roundw
    case rel=>exact⟨k+1,by omega,by go_num,b0.o,V.o⟩
    case measure=>simp[intOf];omega
   ·have O:Hd (q5z L=q0Z y1 y2):=η (by rw[d0.o,κ hc])
    have l0:(q0Z y1 y2 !=0)=true:=by simpa using hc
    clear hc;go_wp2_with fail
    (try rw[Exit.noGoto_ret])
    go_ret;exact⟨by rw[r.o,O.o];rfl,I.o.trans V.o⟩
  ·obtain rfl:k=n:=by omega
   have g0:decide ((k:Int)<(k:Int))=false:=ε (by omega);have O:Hd (q5z L=0):=η (by rw[<-U.o,List.take_length] at R;exact R);clear R X Q;go_wp2_with fail;go_ret;exact⟨by rw[r.o,O.o];rfl,I.o.trans S.o⟩
theorem z5s{e:Ev}(h:z6d e):(evB e).length<=300:=by
 obtain⟨_,b,d⟩:=q1W h.1;unfold evB;rw[q1d (by omega),q1d (by omega)];simp[q0G];omega
structure MoI(W:World)(mb base:Nat)(vL vM:Value)(L:List To)(ms:List Value):Prop where
 blk: ∃su:Int,Blk W mb 39 #[vL,vM,.int .i64 su]
 rowL:W.ownsRow base 69 5 vL L.length (q2q L)
 rowM:W.ownsRow base 3 1 vM ms.length ms
def MoB(mb:Nat)(vL vM:Value)(i:Nat):Prop:=i=mb\/vL.ownBlock=some i\/vM.ownBlock=some i
theorem MoI.same{W W':World}{base:Nat}{L:List To}(h:MoI W mb base vL vM L ms)(k: ∀i,MoB mb vL vM i->W'.heap[i]? =W.heap[i]?):MoI W' mb base vL vM L ms:=by
 obtain⟨j,d⟩:=h.blk;exact⟨⟨j,d.same (k _ (.inl rfl))⟩,q0f h.rowL fun i b=>k i (.inr (.inl b)),q0f h.rowM fun i b=>k i (.inr (.inr b))⟩
theorem MoI.lt{W:World}{base:Nat}{L:List To}(h:MoI W mb base vL vM L ms){i:Nat}(b:MoB mb vL vM i):i<W.heap.size:=by
 obtain⟨j,d⟩:=h.blk;rcases b with rfl|b|b
 ·exact d.lt
 ·exact(q0U h.rowL i b).2
 ·exact(q0U h.rowM i b).2
theorem MoI.ext{W W':World}{base:Nat}{L:List To}(h:MoI W mb base vL vM L ms)(k:Ext W W'):MoI W' mb base vL vM L ms:=h.same fun i b=>k.block i (h.lt b)
theorem z3n{W W2:World}{w0:World}{n:Nat}{vq:Value}{ti:TypeId}{b:Obj}(d:Ext w0 W)(hq:W.ownsRow w0.heap.size ti sz vq n xs)
  (i:(W.alloc b).grownBy W2 vq.ownBlock):Ext w0 W2:=
 Below.grown (d.trans (q0B W b)) i (Ω d.size (q0B W b).size) fun k j=>(q0U hq k j).1
theorem q7Y{w:World}{base:Nat}{L:List To}(h:MoI w mb base vL vM L ms)(s:List UInt8)(hl:L.length<=100000):
  Calls Tryz.prog 97 #[.pointer (some ⟨mb,0,none⟩),.string ⟨s.toArray⟩] w fun e w'=> ∃v,e= .returned v/\w'.ownsRow w.heap.size 69 5 v (L.filter fun t=>decide (t.s=s)).length (q2q (L.filter fun t=>decide (t.s=s)))/\Ext w w':=by
 obtain⟨la,lc,rfl⟩:=q0E h.rowL;have HM:=η h;obtain⟨n,S⟩: ∃n,L.length=n:=⟨_,rfl⟩
 have Q:=(q2Z h.rowL).1;rw[S] at Q hl HM;have HT:=η Q;have b1:=Q.fits;have b2:=Q.bound;obtain⟨su,d⟩:=h.blk;rw[S] at d;have V:=η d;have Y:=η S;clear h Q d S;go_enter Tryz.func97,Tryz.ntmps97;go_wp2_with fail
 go_loopw [5,6] (fun ov oi W=> ∃(k:Nat) (v:Value) (M:List To),ov=v/\oi= .int .i64 (k:Int)/\k<=n/\Hd ((L.take k).filter (fun t=>decide (t.s=s))=M)/\W.ownsRow w.heap.size 69 5 v M.length (q2q M)/\Ext w W) (fun _ i _=>n-(intOf i).toNat)
 case atStart=>exact⟨0,_,[],rfl,rfl,υ _,η (by simp),⟨rfl,.inl ⟨rfl,rfl⟩⟩,Ext.refl _⟩
 case round=>
  obtain⟨k,v,M,rfl,rfl,hk,q,b,x⟩:=hrel;obtain⟨oa,oc,rfl⟩:=q0E b;have y:=V.o.ext x;have k0:=y.cell 0;have N:M.length<=n:=by rw[<-q.o];exact Ω (List.length_filter_le _ _) (by rw[Θ,Y.o];omega)
  by_cases O:k<n
  ·have hd:decide ((k:Int)<(n:Int))=true:=ζ (by omega)
   have d0:(k:Int)<(n:Int):=by omega
   have q1:IntKind.i64.wrap ((k:Int)+1)=(k:Int)+1:=by rw[ν];omega
   obtain⟨bb,off,rfl,c0,c1,c2,c3,c4⟩:=(HT.o.ext x).at O;have HS:=η (z6A (fun t:To=>decide (t.s=s)) L to0 (k:=k) (by rw[Y.o];exact O));generalize L.getD k to0=t at*;obtain⟨ts,F,⟨ty,da,we⟩⟩:=t;simp only at c0 c1 c2 c3 c4;obtain⟨U,D⟩: ∃U,M.length=U:=⟨_,rfl⟩
   have G:=η D;have e0:=q2C;rw[D] at b N⊢;have r:=η b;have R:=η x;have a0:=η x.size;have Z:=η (show Rd (wr.alloc (.cells #[.string ⟨ts.toArray⟩,.int .i64 F,.string ⟨ty.toArray⟩,.string ⟨da.toArray⟩,.float .f64 we] 69)) (some ⟨wr.heap.size,0,none⟩) (toc ⟨ts,F,⟨ty,da,we⟩⟩) from Rd.lit wr #[.string ⟨ts.toArray⟩,.int .i64 F,.string ⟨ty.toArray⟩,.string ⟨da.toArray⟩,.float .f64 we] 69);have I:=η (q0J b (q0B wr (.cells #[.string ⟨ts.toArray⟩,.int .i64 F,.string ⟨ty.toArray⟩,.string ⟨da.toArray⟩,.float .f64 we] 69)));clear b x y D;by_cases hs:ts=s
   ·subst hs
    have e1:(ts==ts)=true:=beq_self_eq_true ts
    go_wp2_with (at_builtin;refine q0M rfl _ _ 36 rfl w.heap.size 69 _ 5 64 Tryz.underlying36 Tryz.infoTo (by decide) (by decide) _ U (q2q M) rfl I.o _ 1 1 (toc ⟨ts,F,⟨ty,da,we⟩⟩) rfl rfl (fun h=>by cases h) Z.o (by unfold toc;simp[Value.oneCell']) (by unfold maxLen;omega) (by omega) (by have:=a0.o;simp;omega) ?_;intro v2 w8 l j b0;obtain⟨a2,k2,rfl⟩:=q0E l;have HO:=η l;have HX:Hd (Ext w w8):=η (z3n (w0:=w) (W:=wr) (vq:= .slice oa U oc) R.o r.o j);clear l j b0)
    go_roundw
    case rel=>
     refine⟨k+1,_,M++[⟨ts,F,⟨ty,da,we⟩⟩],rfl,by go_num,by omega,η (by rw[HS.o,q.o];simp),?_,HX.o⟩;rw[q5q,θ,G.o];exact HO.o
    case measure=>simp[intOf];omega
   ·have e1:(ts==s)=false:=beq_eq_false_iff_ne.2 hs
    go_wp2_with fail
    go_roundw
    case rel=>exact⟨k+1,_,M,rfl,by go_num,by omega,η (by rw[HS.o,q.o];simp[hs]),by rw[G.o];exact r.o,R.o⟩
    case measure=>simp[intOf];omega
  ·obtain rfl:k=n:=by omega
   have hd:decide ((k:Int)<(k:Int))=false:=ε (by omega);have J:M=L.filter fun t=>decide (t.s=s):=by rw[<-q.o,Δ (by rw[Y.o];exact ι _)]
   have r:=η b;have R:=η x;have X:=η J;clear b x y J N;go_wp2_with fail;go_ret;exact⟨_,rfl,by rw[<-X.o];exact r.o,R.o⟩
theorem z6y{b:Bt}{n:Nat}(w:World)(F:Evs w ao n cap b.ev)(N:z2G b):
  Calls Tryz.prog 101 #[.agg #[.string ⟨b.st.toArray⟩,.int .i64 (b.fi:Int),.slice ao n cap]] w fun e w'=> ∃S:List UInt8,e= .returned (.tuple #[.string ⟨S.toArray⟩,.int .i64 0])/\Ext w w':=by
 obtain⟨p1,p2,p3,p4,p5,p6,p7⟩:=q0Y N.1;have M: ∀e∈b.ev,z6d e:=fun e he=>⟨q3t p7 e he,N.2 e he⟩
 have b0:q1D b.ev:=fun e he=>by
  obtain⟨_,h1,h2⟩:=q1W (M e he).1;exact⟨by omega,by omega⟩
 have I:=F.len;obtain⟨st,fi,L⟩:=b;simp only at p1 p2 p3 p4 p5 p6 p7 M b0 I F;have b1:=F.fits;have b2:=F.bound;have m0:q0O st (fi:Int) L=0:=N.1;have HC:=η (fun W (h:Evs W ao n cap L)=>q7j st (fi:Int) W h (by omega) b0);rw[m0] at HC;have HT:=η (fun W=>q7l st W (by omega));have j0:=η (fun W=>z3i (fi:Int) 8 8 W rfl (by omega) (by omega) (by omega) (by omega));rw[Int.toNat_natCast] at j0;have l1:(q1o st).length<=50:=by rw[q1d (by omega)];simp[q0G];omega
 have l8:(be 8 fi).length<=8:=by rw[q0G];omega
 have p0:=η M;have o0:=η I;have i0:=η F;have qf:IntKind.u64.wrap (fi:Int)=(fi:Int):=by rw[IntKind.wrap_u64];omega
 have qn:IntKind.u8.wrap (n:Int)=(n:Int):=by unfold IntKind.wrap;simp[IntKind.bits];omega
 have y0:n<=8:=by omega
 have HX:=η (q0B w (.cells #[.string ⟨st.toArray⟩,.int .i64 (fi:Int),.slice ao n cap] 160));have e0:=η (Blk.new w 160 #[.string ⟨st.toArray⟩,.int .i64 (fi:Int),.slice ao n cap]);have x:=e0.o;have k0:=x.cell 0;have k1:=x.cell 1;have k2:=x.cell 2;generalize q1o st=A at*;generalize be 8 fi=D at*;clear x N p1 p2 p3 p4 p5 p6 p7 M b0 I F m0;go_enter Tryz.func101,Tryz.ntmps101;go_wp2_with fail;refine(HC.o _ (i0.o.ext HX.o)).mono ?_;rintro e w1 ⟨rfl,F⟩;have l0:=η (HX.o.trans F);have G:=e0.o.ext F;generalize w.heap.size=q at*;have c0:w1.cell? ⟨q,0,none⟩=some (.string ⟨st.toArray⟩):=G.cell 0;have c1:w1.cell? ⟨q,1,none⟩=some (.int .i64 (fi:Int)):=G.cell 1;have c2:w1.cell? ⟨q,2,none⟩=some (.slice ao n cap):=G.cell 2;have u0:=q0C c0;have u1:=q0C c1;have u2:=q0C c2;have f0:=η G;have q1:¬(9223372036854775807<A.length+D.length):=by omega
 clear F G k0 k1 k2
 go_upto_region 4 with fail
 have d0:=q0A (Ext.refl _).drew c0;have d1:=q0A (Ext.refl _).drew c1;have d2:=q0A (Ext.refl _).drew c2;have J:=η (fun W (k:Ext w1 W)=>(show W.cell? ⟨q,0,none⟩=some (.string ⟨st.toArray⟩)/\W.cell? ⟨q,1,none⟩=some (.int .i64 (fi:Int))/\W.cell? ⟨q,2,none⟩=some (.slice ao n cap) from⟨q0A k c0,q0A k c1,q0A k c2⟩));have V:(n:Int)=((UInt8.ofNat n).toNat:Int):=by rw[UInt8.toNat_ofNat'];omega
 have hcv:=fun W=>q8v (P:=Tryz.prog) W 75 9 5 (n:Int) _ Tryz.underlying75 Tryz.underlying5 Tryz.underlying9 V
 have Q:Hd (∀U W,Ext (World.alloc U (.cells #[.int .u8 (n:Int)] 5)) W->(convert 75 9 (.slice (some ⟨U.heap.size,0,none⟩) 1 1)).run Tryz.prog W= .ok (.string ⟨#[UInt8.ofNat n]⟩) W):=η fun U W k=>by
  rw[V] at k;exact q2h (l:=[UInt8.ofNat n]) W 75 9 5 Tryz.underlying75 Tryz.underlying5 Tryz.underlying9 rfl ((Rd.lit U #[.int .u8 ((UInt8.ofNat n).toNat:Int)] 5).ext k)
 have s0:=fun U:World=>Q.o U _ ((Ext.refl (World.alloc U (.cells #[.int .u8 (n:Int)] 5))).drew)
 have q2:¬(9223372036854775807<A.length+D.length+1):=by omega
 have q3:¬(9223372036854775807<(A++D).length+1):=by rw[θ];omega
 clear V
 go_cut [5] from 12 to 26 (fun s W=> ∃S:List UInt8,s= .string ⟨S.toArray⟩/\S.length<=100/\Ext w1 W)
 case first=>
  go_region_held_law (fun W=>(W.cell? ⟨q,0,none⟩=some (.string ⟨st.toArray⟩)/\W.cell? ⟨q,1,none⟩=some (.int .i64 (fi:Int))/\W.cell? ⟨q,2,none⟩=some (.slice ao n cap))/\Hd (Ext w1 W))
   (first|assumption|exact⟨J.o _ R.o,R⟩|exact(fun h=>⟨J.o _ h,η h⟩) (Ext.trans (Hd.o (And.right (by assumption))) (q0B _ _))|exact(fun h=>⟨J.o _ h,η h⟩) ((Ext.refl w1).drew.trans (q0B _ _))|exact⟨⟨d0,d1,d2⟩,η (Ext.refl _).drew⟩)
   (first|(go_at_call 157;refine(HT.o _).mono ?_;rintro e wa ⟨rfl,j⟩;have R:=η (Ext.trans (Hd.o (And.right (a:=_) (by assumption))) j);(try have d:=η (show Ext (World.alloc _ (.cells #[.int .u8 (n:Int)] 5)) _ from j));(try have d:=η (Ext.trans ((Ext.refl (World.alloc _ (.cells #[.int .u8 (n:Int)] 5))).drew) j));(try have d:=η (Ext.trans d.o j));(try have X:=Q.o _ _ d.o);(try rw[show(World.drew w1).heap.size=w1.heap.size from rfl] at X);clear j)|(go_at_call 158;refine(j0.o _).mono ?_;rintro e wa ⟨rfl,j⟩;have R:=η (Ext.trans (Hd.o (And.right (a:=_) (by assumption))) j);(try have d:=η (show Ext (World.alloc _ (.cells #[.int .u8 (n:Int)] 5)) _ from j));(try have d:=η (Ext.trans ((Ext.refl (World.alloc _ (.cells #[.int .u8 (n:Int)] 5))).drew) j));(try have d:=η (Ext.trans d.o j));(try have X:=Q.o _ _ d.o);(try rw[show(World.drew w1).heap.size=w1.heap.size from rfl] at X);clear j))
  all_goals
   go_wp2_with fail
   go_meet
   case rel=>exact⟨(A++D)++[UInt8.ofNat n],by first|rfl|(rw[q2L,q2L];simp),by simp;omega,Hd.o (And.right (by assumption))⟩
 case rest=>
 obtain⟨S,rfl,t0,Z⟩:=hcut;have d:=η Z;have w0:=f0.o.ext Z;clear Z d0 d1 d2 c0 c1 c2 u0 u1 u2 J;go_wp2_with fail
 go_loopw [5,6] (fun sv iv W=> ∃(k:Nat) (T:List UInt8),k<=n/\iv= .int .i64 (k:Int)/\sv= .string ⟨T.toArray⟩/\T.length<=100+300*k/\Ext w1 W) (fun _ i _=>n-(intOf i).toNat)
 case atStart=>exact⟨0,S,υ _,rfl,rfl,by omega,d.o⟩
 case round=>
  obtain⟨k,T,hk,rfl,rfl,v0,hb⟩:=hrel;have g0:=η hb;have x:=f0.o.ext hb;have d0:=x.cell 0;have d1:=x.cell 1;have d2:=x.cell 2;by_cases n0:k<n
  ·have r0:decide ((k:Int)<(n:Int))=true:=ζ (by omega)
   have x0:(k:Int)<(n:Int):=by omega
   obtain⟨b,off,rfl,c0,c1,c2⟩:=(i0.o.ext (l0.o.trans hb)).at n0;have a0:k<L.length:=by rw[o0.o];exact n0
   have O:L.getD k ev0∈L:=by rw[δ,γ a0];exact List.getElem_mem a0
   have he:=p0.o _ O;have q4:IntKind.i64.wrap ((k:Int)+1)=(k:Int)+1:=by rw[ν];omega
   generalize L.getD k ev0=y at*;obtain⟨y1,y2,y3⟩:=y;have hs:=z5s he;have h0:Hd (∀W,Calls Tryz.prog 159 #[.agg #[.string ⟨y1.toArray⟩,.string ⟨y2.toArray⟩,.float .f64 y3]] W fun r w'=>r= .returned (.string ⟨(evB ⟨y1,y2,y3⟩).toArray⟩)/\Ext W w'):=η fun W=>z2S ⟨y1,y2,y3⟩ W he
   obtain⟨Y,hY⟩: ∃Y,evB ⟨y1,y2,y3⟩=Y:=⟨_,rfl⟩
   rw[hY] at h0 hs;simp only at c0 c1 c2;have q5:¬(9223372036854775807<T.length+Y.length):=by omega
   clear a0 O hb he hY x;go_wp2_with fail;refine(h0.o _).mono ?_;rintro e w3 ⟨rfl,F⟩;have q0:=η (g0.o.trans F);clear F;go_wp2_with fail
   go_roundw
   case rel=>exact⟨k+1,T++Y,by omega,by go_num,(by first|rfl|(rw[q2L])),by rw[θ];omega,q0.o⟩
   case measure=>simp[intOf];omega
  ·obtain rfl:k=n:=by omega
   have r0:decide ((k:Int)<(k:Int))=false:=ε (by omega);clear hb x;go_wp2_with fail;go_ret2;exact⟨T,rfl,l0.o.trans g0.o⟩
def Ios(w W:World):Prop:=W.os=w.os/\W.tape=w.tape/\W.output=w.output
theorem Ios.trans{b c:World}(h:Ios a b)(k:Ios b c):Ios a c:=⟨k.1.trans h.1,k.2.1.trans h.2.1,k.2.2.trans h.2.2⟩
theorem Ios.of_ext{b:World}(h:Ext a b):Ios a b:=⟨h.os,h.tape,h.output⟩
def MoAppR(w:World)(mb base:Nat)(vL vM:Value)(bs:List Bt)(m:Nat)(str:List UInt8)(L:List Ev)(z:Int)(e:Ending)(w':World):Prop:=
 ∃ vL' vM' ms' bs' x y,e= .returned (.tuple #[.int .i64 x,.int .i64 y])/\MoI w' mb base vL' vM' (tos bs') ms'/\ms'.length<=m+1/\w.heap.size<=w'.heap.size/\(∀i,i<w.heap.size->¬MoB mb vL vM i->w'.heap[i]? =w.heap[i]?)/\(∀i,MoB mb vL' vM' i->MoB mb vL vM i\/w.heap.size<=i)/\
  ((z≠0/\x=0/\y=z/\bs'=bs)\/(z=0/\x=((q0R bs str).length:Int)/\y=0/\bs'=bs++[⟨str,(q0R bs str).length,L⟩]))/\Ios w w'
theorem MoAppR.no{w w':World}{base:Nat}{bs:List Bt}{str:List UInt8}{z:Int}(h:MoI w mb base vL vM (tos bs) ms)(d:z≠0)(k:Ext w w'):MoAppR w mb base vL vM bs ms.length str L z (.returned (.tuple #[.int .i64 0,.int .i64 z])) w':=
 ⟨vL,vM,ms,bs,0,z,rfl,h.ext k,Nat.le_succ _,k.size,fun i b _=>k.block i b,fun i b=> .inl b,.inl ⟨d,rfl,rfl,rfl⟩,Ios.of_ext k⟩
structure MoMid(w:World)(mb base:Nat)(vL vM:Value)(T:List To)(ms:List Value)(v2:Value)(W:World):Prop where
 mo:MoI W mb base v2 vM T ms
 size:w.heap.size<=W.heap.size
 off: ∀i,i<w.heap.size->¬MoB mb vL vM i->W.heap[i]? =w.heap[i]?
 grew: ∀i,v2.ownBlock=some i->vL.ownBlock=some i\/w.heap.size<=i
 ios:Ios w W
theorem MoMid.start{w j:World}{base:Nat}{d:List To}(h:MoI w mb base vL vM T ms)(k:Ext w j)(e:d=T):MoMid w mb base vL vM d ms vL j:=by
 subst e;exact⟨h.ext k,k.size,fun i b _=>k.block i b,fun i b=> .inl b,Ios.of_ext k⟩
theorem z4x{W:World}{B B':Nat}{e':TypeId}{l:Nat}{r:Value}{n:Nat}{o:List Value}(h:W.ownsRow B e sz v n xs)(y:W.ownsRow B' e' l r n' o)(j:e≠e'): ∀i,v.ownBlock=some i->r.ownBlock≠some i:=fun i D d=>by
 obtain⟨x,hc⟩:=q3M h D;obtain⟨q,b⟩:=q3M y d;rw[hc] at b
 cases b;exact j rfl
theorem MoI.apart{W:World}{base:Nat}{L:List To}(h:MoI W mb base vL vM L ms):vL.ownBlock≠some mb/\vM.ownBlock≠some mb/\ ∀i,vL.ownBlock=some i->vM.ownBlock≠some i:=by
 obtain⟨d,b⟩:=h.blk;exact⟨b.apart h.rowL (by decide),b.apart h.rowM (by decide),z4x h.rowL h.rowM (by decide)⟩
theorem MoMid.told{w W Wd:World}{base:Nat}{t:To}{lit:Obj}(hm:MoMid w mb base vL vM T ms v2 W)(N:mb<w.heap.size)(j:Wd.heap=W.heap)(y:Ios W Wd)
  (x:W8.ownsRow base 69 5 v3 (T.length+1) (q2q T++toc t))(q:(Wd.alloc lit).grownBy W8 v2.ownBlock)(o:v3.ownBlock=v2.ownBlock\/v3.ownBlock=some (Wd.alloc lit).heap.size):
  MoMid w mb base vL vM (T++[t]) ms v3 (W8.setCell ⟨mb,0,none⟩ v3)/\(∀i,i<W.heap.size->v2.ownBlock≠some i->W8.heap[i]? =W.heap[i]?):=by
 obtain⟨O,G⟩:=hm.mo.blk;obtain⟨F,I,J⟩:=hm.mo.apart;have l:(Wd.alloc lit).heap.size=W.heap.size+1:=by rw[ρ,j]
 have b: ∀i,i<W.heap.size->v2.ownBlock≠some i->W8.heap[i]? =W.heap[i]? :=fun i d r=>by
  rw[q.block i (by omega) (fun e=>r e.symm),(q0B Wd lit).block i (by rw[j];exact d),j]
 have D:mb<W.heap.size:=G.lt;have M:v3.ownBlock≠some mb:=fun e=>by
  rcases o with h|h
  ·exact F (h.symm.trans e)
  ·rw[h,l] at e;cases e;omega
 have Q:W.heap.size+1<=W8.heap.size:=by rw[<-l];exact q.size
 refine⟨⟨⟨⟨O,(G.same (b mb D F)).set 0 v3⟩,?_,?_⟩,?_,fun i d r=>?_,fun i d=>?_,hm.ios.trans (y.trans ⟨q.os,q.tape,q.output⟩)⟩,b⟩
 ·have:=q0a x (a:=⟨mb,0,none⟩) v3 M
  rw[q7s,θ,List.length_singleton]
  simpa [q2q] using this
 ·exact q0a (q0f hm.mo.rowM fun i d=>b i (q0U hm.mo.rowM i d).2 fun e=>J i e d) v3 I
 ·rw[World.size_setCell];have:=hm.size;omega
 ·rw[heap_setCell_other W8 ⟨mb,0,none⟩ i v3 (fun e=>r (.inl e)),b i (by have:=hm.size;omega) (fun e=>?_),hm.off i d r]
  rcases hm.grew i e with h|h
  ·exact r (.inr (.inl h))
  ·omega
 ·rcases o with h|h
  ·exact hm.grew i (h.symm.trans d)
  ·rw[h,l] at d;cases d;have:=hm.size;exact .inr (by omega)
theorem MoMid.many{w W:World}{base:Nat}{c:Value}{lit:Obj}(hm:MoMid w mb base vL vM T ms v2 W)(J:mb<w.heap.size)
  (r:W8.ownsRow base 3 1 v3 (ms.length+1) (ms++[c]))(o:(W.alloc lit).grownBy W8 vM.ownBlock)(l:v3.ownBlock=vM.ownBlock\/v3.ownBlock=some (W.alloc lit).heap.size):
  MoI (W8.setCell ⟨mb,1,none⟩ v3) mb base v2 v3 T (ms++[c])/\w.heap.size<=(W8.setCell ⟨mb,1,none⟩ v3).heap.size/\(∀i,i<w.heap.size->¬MoB mb vL vM i->(W8.setCell ⟨mb,1,none⟩ v3).heap[i]? =w.heap[i]?)/\
   (∀i,MoB mb v2 v3 i->MoB mb vL vM i\/w.heap.size<=i)/\(∀i,i<W.heap.size->vM.ownBlock≠some i->W8.heap[i]? =W.heap[i]?)/\Ios w (W8.setCell ⟨mb,1,none⟩ v3):=by
 obtain⟨M,D⟩:=hm.mo.blk;obtain⟨F,y,G⟩:=hm.mo.apart;have j:(W.alloc lit).heap.size=W.heap.size+1:=by rw[ρ]
 have d: ∀i,i<W.heap.size->vM.ownBlock≠some i->W8.heap[i]? =W.heap[i]? :=fun i b q=>by
  rw[o.block i (by omega) (fun e=>q e.symm),(q0B W lit).block i b]
 have x:mb<W.heap.size:=D.lt;have I:v3.ownBlock≠some mb:=fun e=>by
  rcases l with h|h
  ·exact y (h.symm.trans e)
  ·rw[h,j] at e;cases e;omega
 have N:W.heap.size+1<=W8.heap.size:=by rw[<-j];exact o.size
 refine⟨⟨⟨M,(D.same (d mb x y)).set 1 v3⟩,?_,?_⟩,?_,fun i b q=>?_,fun i b=>?_,d,hm.ios.trans ⟨o.os,o.tape,o.output⟩⟩
 ·exact q0a (q0f hm.mo.rowL fun i b=>d i (q0U hm.mo.rowL i b).2 (G i b)) v3 F
 ·have:=q0a r (a:=⟨mb,1,none⟩) v3 I
  rwa [θ,List.length_singleton]
 ·rw[World.size_setCell];have:=hm.size;omega
 ·rw[heap_setCell_other W8 ⟨mb,1,none⟩ i v3 (fun e=>q (.inl e)),d i (by have:=hm.size;omega) (fun e=>q (.inr (.inr e))),hm.off i b q]
 ·rcases b with b|b|b
  ·exact .inl (.inl b)
  ·rcases hm.grew i b with h|h
   ·exact .inl (.inr (.inl h))
   ·exact .inr h
  ·rcases l with h|h
   ·exact .inl (.inr (.inr (h.symm.trans b)))
   ·rw[h,j] at b;cases b;have:=hm.size;exact .inr (by omega)
theorem q8j{w:World}{base:Nat}{bs:List Bt}(h:MoI w mb base vL vM (tos bs) ms)(B0:okBs bs)(V0:base<=mb)(str:List UInt8)(hs:str.length<=4611686018427387903)(ex:Int)(G:Evs w ao k cap L)(hd: ∀a,ao=some a->0<k->¬MoB mb vL vM a.block)
  (hL:q1D L)(C0: ∀e∈L,e.we<18446744073709551616)(hl:(tos bs).length<=100000)(c1:ms.length<=100000){z:Int}(hz:q8R bs str ex L=z):
  Calls Tryz.prog 50 #[.pointer (some ⟨mb,0,none⟩),.string ⟨str.toArray⟩,.int .i64 ex,.slice ao k cap] w (MoAppR w mb base vL vM bs ms.length str L z):=by
 have HM:=η h;have HC:=η (q7j str 0 w G hs hL);have l0:=η (fun W (kk:Ext w W)=>q7Y (h.ext kk) str hl);have hN:((tos bs).filter fun t=>decide (t.s=str)).length=(q0R bs str).length:=by rw[q4B B0,q1L]
 have P0:=List.length_filter_le (fun t:To=>decide (t.s=str)) (tos bs);generalize ((tos bs).filter fun t=>decide (t.s=str))=R at*;obtain⟨n,hn⟩: ∃n,R.length=n:=⟨_,rfl⟩
 rw[hn] at hN P0 l0;obtain⟨c,hc⟩: ∃c,q0O str 0 L=c:=⟨_,rfl⟩
 rw[hc] at HC;have HZ:Hd ((if c≠0 then c else if ex< -2 then 2 else if ex≠ -2/\ex≠(n:Int)-1 then 80 else 0)=z):=η (by rw[<-hz];unfold q8R;rw[hc,<-hN]);have E0:=η hc;have t0:=η hN;have T0:=G.len;have Y0:=G.fits;have Z0:=G.bound;have HX:=η G;have HD:=η hd;have I0:=η C0;have q1:IntKind.i64.wrap ((n:Int)-1)=(n:Int)-1:=by rw[ν];omega
 have q2:IntKind.i64.wrap ((n:Int)-1+1)=(n:Int):=by rw[ν];omega
 clear h G hd hz hc hN B0 hn hL C0;go_enter Tryz.func50,Tryz.ntmps50;go_wp2_with fail;refine HC.o.mono ?_;rintro e w1 ⟨rfl,G⟩;have V:=η G;clear G HC;by_cases D:c=0
 case neg=>
  have M0:(c !=(0:Int))=true:=by simpa using D
  have F:Hd (z=c):=η (by rw[<-HZ.o,ξ D]);have M:=η D;clear D;go_wp2_with fail;go_ret2;rw[F.o];exact MoAppR.no HM.o M.o V.o
 have M0:(c !=(0:Int))=false:=by rw[D];rfl
 by_cases hex:ex< -2
 ·have N0:decide (ex<(-2:Int))=true:=ζ hex
  have F:Hd (z=2):=η (by rw[<-HZ.o,κ (by omega),ξ hex]);clear D hex;go_wp2_with fail;go_ret2;rw[F.o];exact MoAppR.no HM.o (by decide) V.o
 have N0:decide (ex<(-2:Int))=false:=ε hex;have M:=η D;clear D;go_wp2_with fail;refine(l0.o _ V.o).mono ?_;rintro e w2 ⟨v,rfl,r,G⟩;obtain⟨va,vc,rfl⟩:=q0E r;have n0:=η (V.o.trans G);clear G r l0;by_cases hv:ex≠ -2/\ex≠(n:Int)-1
 ·have z0:(ex !=(-2:Int))=true:=by simpa using hv.1
  have O0:(ex !=(n:Int)-1)=true:=by simpa using hv.2
  have F:Hd (z=80):=η (by rw[<-HZ.o,κ (by have:=M.o;omega),κ (by omega),ξ hv]);clear hex hv;go_wp2_with fail;go_ret2;rw[F.o];exact MoAppR.no HM.o (by decide) n0.o
 have S0:(ex !=(-2:Int))=false\/((ex !=(-2:Int))=true/\(ex !=(n:Int)-1)=false):=by
  by_cases h:ex= -2
  ·exact .inl (by rw[h];rfl)
  ·exact .inr ⟨by simpa using h,by have:ex=(n:Int)-1:=Decidable.not_not.1 fun hh=>hv ⟨h,hh⟩;rw[this];simp⟩
 have F:Hd (z=0):=η (by rw[<-HZ.o,κ (by have:=M.o;omega),κ (by omega),κ hv]);have s0:q0O str 0 L=0:=by rw[E0.o,M.o]
 have R0:n<=1000000:=by omega
 have b0:z2G ⟨str,n,L⟩:=⟨q4P (n:=n) s0 R0,fun e he=>I0.o e he⟩
 have u0:=η (z6y (b:=⟨str,n,L⟩) w2 (HX.o.ext n0.o) b0);have hp:=q0Y s0;have b1:k<=8:=by have:=hp.2.2.2.1;omega
 simp only at u0;clear s0 b0 hv hex hp;rcases S0 with z0|⟨z0,O0⟩
 all_goals
  go_wp2_with fail;refine u0.o.mono ?_;rintro e w3 ⟨S,rfl,G⟩;have J0:=η (n0.o.trans G);clear G;go_wp2_with fail
  go_loopw [12] (fun iv W=> ∃(j:Nat) (v2:Value),iv= .int .i64 (j:Int)/\j<=k/\MoMid w mb base vL vM (tos bs++q4L str n (L.take j)) ms v2 W) (fun i _=>k-(intOf i).toNat)
  case atStart=>exact⟨0,vL,rfl,υ _,MoMid.start HM.o J0.o (by simp[q4L])⟩
  case round=>
   obtain⟨j,v2,rfl,hj,hm⟩:=hrel;by_cases Q0:j<k
   ·have W0:decide ((j:Int)<(k:Int))=true:=ζ (by omega)
    have a1:(j:Int)<(k:Int):=by omega
    have q3:IntKind.i64.wrap ((n:Int)+(j:Int))=(n:Int)+(j:Int):=by rw[ν];omega
    have q5:IntKind.i64.wrap (n:Int)=(n:Int):=by rw[ν];omega
    have q4:IntKind.i64.wrap ((j:Int)+1)=(j:Int)+1:=by rw[ν];omega
    have p0: ∀a,ao=some a->a.block<w.heap.size:=fun a e=>by
     obtain⟨b,off,e2,c0,_⟩:=HX.o.at (i:=0) (by omega);rw[e] at e2;cases e2;exact World.block_lt_of_cell? _ _ c0
    have A0:Evs wr ao k cap L:=HX.o.keep fun a e=>hm.off _ (p0 a e) (HD.o a e (by omega))
    have q0:tos bs++q4L str n (L.take (j+1))=(tos bs++q4L str n (L.take j))++[⟨str,((n+j:Nat):Int),L.getD j ev0⟩]:=by
     rw[List.take_succ_eq_append_getElem (by omega),q3y,Θ,Nat.min_eq_left (by omega),List.append_assoc,δ,γ (by omega)];rfl
    obtain⟨x,off,rfl,e0,e1,e2⟩:=A0.at Q0;have o0:=HD.o _ rfl (by omega);have x0:=p0 _ rfl;generalize L.getD j ev0=y at*;obtain⟨X,Y,Z⟩:=y;simp only at e0 e1 e2 o0 x0;rw[show((n+j:Nat):Int)=(n:Int)+(j:Int) by omega] at q0;have H0:=η q0;have L0:(tos bs++q4L str n (L.take j)).length<=100010:=by rw[θ,q1b,Θ];omega
    generalize tos bs++q4L str n (L.take j)=T at*;obtain⟨la,lc,rfl⟩:=q0E hm.mo.rowL;obtain⟨N,hN⟩: ∃N,T.length=N:=⟨_,rfl⟩
    obtain⟨su,J⟩:=hm.mo.blk;have r0:=hm.mo.apart;have r:=hm.mo.rowL;have I:=η hm;rw[hN] at J r r0 I L0;have HN:=η hN;have k0:=J.cell 0;have f0:=J.free 0;have i0:Hd (mb<w.heap.size):=η (by obtain⟨_,h⟩:=HM.o.blk;exact h.lt);have g0:Hd (base<=wr.heap.size):=η (by have:=J.lt;omega);have U:=η J.lt;have G0:Hd (∀W',Ext wr W'->W'.ownsRow base 69 5 (.slice la N lc) N (q2q T)):=η fun W' kk=>q0J r kk
    have m0:Hd (∀W',(∀i,(i=mb\/i=x)->W'.heap[i]? =wr.heap[i]?)->(fun W:World=>W.cell? ⟨mb,0,none⟩=some (.slice la N lc)/\W.cell? ⟨x,off+j*3,none⟩=some (.string ⟨X.toArray⟩)/\W.cell? ⟨x,off+j*3+1,none⟩=some (.string ⟨Y.toArray⟩)/\W.cell? ⟨x,off+j*3+2,none⟩=some (.float .f64 Z)) W'):=η fun W' kk=>
     ⟨(World.cell?_of_block (a:=⟨mb,0,none⟩) (kk mb (.inl rfl))).trans k0,(World.cell?_of_block (a:=⟨x,off+j*3,none⟩) (kk x (.inr rfl))).trans e0,(World.cell?_of_block (a:=⟨x,off+j*3+1,none⟩) (kk x (.inr rfl))).trans e1,(World.cell?_of_block (a:=⟨x,off+j*3+2,none⟩) (kk x (.inr rfl))).trans e2⟩
    have h0:Hd (x<wr.heap.size/\(Value.slice la N lc).ownBlock≠some x):=η ⟨World.block_lt_of_cell? _ _ e0,fun e=>by
     rcases I.o.grew x e with h|h
     ·exact o0 (.inr (.inl h))
     ·omega⟩
    have D0:=η r0.1;have d1:=q2C;clear hm J r r0 A0 p0 q0 o0 x0 hN;go_wp2_with fail;have j0:=η (show Rd (wr.alloc (.cells #[.string ⟨str.toArray⟩,.int .i64 ((n:Int)+(j:Int)),.string ⟨X.toArray⟩,.string ⟨Y.toArray⟩,.float .f64 Z] 69)).drew (some ⟨wr.heap.size,0,none⟩) (toc ⟨str,(n:Int)+(j:Int),⟨X,Y,Z⟩⟩) from(Rd.lit wr #[.string ⟨str.toArray⟩,.int .i64 ((n:Int)+(j:Int)),.string ⟨X.toArray⟩,.string ⟨Y.toArray⟩,.float .f64 Z] 69).ext (Ext.refl _).drew);refine q0v (fun W:World=>W.cell? ⟨mb,0,none⟩=some (.slice la N lc)/\W.cell? ⟨x,off+j*3,none⟩=some (.string ⟨X.toArray⟩)/\W.cell? ⟨x,off+j*3+1,none⟩=some (.string ⟨Y.toArray⟩)/\W.cell? ⟨x,off+j*3+2,none⟩=some (.float .f64 Z)) 17 (by kernel_rfl) (m0.o _ fun i _=>rfl) (fun d=>?_);refine q0I 0 d (fun d=>?_);refine q0I 1 d (fun d=>?_);refine q0I 2 d (fun d=>?_);refine q0I 3 d (fun d=>?_);refine q1u 4 d (fun d=>?_);refine q0I 5 d (fun d=>?_);refine q0I 6 d (fun d=>?_);refine q0I 7 d (fun d=>?_);refine q0I 8 d (fun d=>?_);refine q0I 9 d (fun d=>?_);refine q0I 10 d (fun d=>?_);refine q0I 11 d (fun d=>?_);refine q0I 12 d (fun d=>?_);refine q1u 13 d (fun d=>?_);refine q0I 14 d (fun d=>?_);simp only[Act.put,π,ψ,ω];refine q0Q (i:=15) (by kernel_rfl) rfl (fun K hK=>?_)
    go_simp
    have a0:Hd (Ext wr (wr.alloc (.cells #[.string ⟨str.toArray⟩,.int .i64 ((n:Int)+(j:Int)),.string ⟨X.toArray⟩,.string ⟨Y.toArray⟩,.float .f64 Z] 69)).drew):=η ((q0B wr _).drew);refine hK.out _ _ (m0.o _ fun i Q=>a0.o.block i (by rcases Q with Q|Q;rw[Q];exact U.o;rw[Q];exact h0.o.1)) (fun d=>?_);clear hK K
    try simp only[Act.put,π,ψ,ω]
    refine q0Q (i:=16) (by kernel_rfl) rfl (fun K hK=>?_);refine q1Y rfl (.tmp 56) (.tmp 67) 36 rfl base 69 _ 5 64 Tryz.underlying36 Tryz.infoTo (by decide) (by decide) (.slice la N lc) N (q2q T) rfl (G0.o _ a0.o) _ 1 1 (toc ⟨str,(n:Int)+(j:Int),⟨X,Y,Z⟩⟩) rfl rfl (fun h=>by cases h) j0.o (by unfold toc;simp[Value.oneCell']) (by unfold maxLen;omega) (by omega) (by have:=g0.o;simp;omega) ?_;intro v3 x2 q l O;obtain⟨a3,k3,rfl⟩:=q0E q;obtain⟨t1,t2⟩:=I.o.told (t:=⟨str,(n:Int)+(j:Int),⟨X,Y,Z⟩⟩) (Wd:=wr.drew) (lit:=(.cells #[.string ⟨str.toArray⟩,.int .i64 ((n:Int)+(j:Int)),.string ⟨X.toArray⟩,.string ⟨Y.toArray⟩,.float .f64 Z] 69)) i0.o rfl ⟨rfl,rfl,rfl⟩ (by rw[HN.o];exact q) l O;have HF:=η t1;have w0:=t2 mb U.o D0.o;have K0:=t2 x h0.o.1 h0.o.2;have v0:=η (m0.o x2 fun i Q=>by rcases Q with Q|Q<;>rw[Q]<;>assumption);have f8:=(World.frozen?_of_block (a:=⟨mb,0,none⟩) w0).trans f0;clear q l O t1 t2 w0 K0;refine hK.out _ _ v0.o (fun d=>?_);clear hK K
    try simp only[Act.put,π,ψ,ω]
    refine q1I (by kernel_rfl) ?_
    try simp only[List.drop_succ_cons,List.drop_zero]
    clear d;obtain⟨d0,_,_,_⟩:=v0.o;go_wp2_with fail
    go_roundw
    case rel=>
     refine⟨j+1,.slice a3 (N+1) k3,by go_num,by omega,?_⟩;rw[H0.o];exact HF.o
    case measure=>simp[intOf];omega
   ·obtain rfl:j=k:=by omega
    have X0:decide ((j:Int)<(j:Int))=false:=ε (by omega);have y0:tos bs++q4L str n (L.take j)=tos (bs++[⟨str,n,L⟩]):=by
     rw[Δ (by omega),q2Y,q6J];rfl
    rw[y0] at hm;obtain⟨ma,mc,rfl⟩:=q0E hm.mo.rowM;obtain⟨su,J⟩:=hm.mo.blk;have k1:=J.cell 1;have f1:=J.free 1;have I:=η hm;have F0:=η hm.mo.rowM;have i0:Hd (mb<w.heap.size):=η (by obtain⟨_,h⟩:=HM.o.blk;exact h.lt);have g0:Hd (base<=wr.heap.size):=η (by have:=J.lt;omega);have j0:=η (Rd.lit wr #[.int .i64 (j:Int)] 3);have U:=η J.lt;clear hm J y0
    go_wp2_with (at_builtin;refine q0M rfl _ _ 37 rfl base 3 _ 1 8 Tryz.underlying37 Tryz.infoI (by decide) (by decide) _ ms.length ms rfl (q0J F0.o (q0B _ _)) _ 1 1 [.int .i64 (j:Int)] rfl rfl (fun h=>by cases h) j0.o (by simp[Value.oneCell']) (by unfold maxLen;omega) (by omega) (by have:=g0.o;simp;omega) ?_;intro v3 w8 q l O;obtain⟨a3,k3,rfl⟩:=q0E q;have HF:=η (I.o.many i0.o q l O);have h8:=HF.o.2.2.2.2.1 mb U.o I.o.mo.apart.2.1;have h1:=(World.cell?_of_block (a:=⟨mb,1,none⟩) h8).trans k1;have U0:=(World.frozen?_of_block (a:=⟨mb,1,none⟩) h8).trans f1;clear q l O h8)
    go_ret2;obtain⟨g1,g2,g3,g4,_,g6⟩:=HF.o;exact⟨_,_,_,_,(n:Int),0,rfl,g1,by simp,g2,g3,g4,.inr ⟨F.o,by rw[t0.o],rfl,by rw[t0.o]⟩,g6⟩
section
variable {wb w W W':World}{g gs gw rate u n:Nat}{sd c s:Int}{bs:List Bt}{K K':Nat->Prop}
end
end
end Go.Proofs.YtfiibpgoplcgkaaGreatDoor
