/- The shelf's contract of slices.Reverse at []api.Told at this seat, in plain words. -/
import Derived.Shelf.SlicesQ.Reverse
import Derived.Ground.SlgnProg
import Derived.Test.YtjlcdfpbllobaaaGreatDoorG35AQ
import Derived.Deep.RegionHeldLaw
set_option linter.unusedVariables false
set_option linter.unusedSimpArgs false
set_option maxRecDepth 100000
set_option maxHeartbeats 12800000
namespace Go.Proofs
open Go.Shelf
def Tryz.reverseTold_ren :Go.Shelf.Ren:=⟨fun|35=>78|n=>n,fun|22=>22|23=>99|3=>3|4=>4|0=>0|n=>n,fun|n=>n⟩
theorem Tryz.reverseTold :Go.Proofs.SlLaysE0.n35 Tryz.prog Tryz.reverseTold_ren:={
 mixed:=by kernel_rfl
 f35:=⟨Tryz.f78.name,by decide,Tryz.func78.trans (congrArg some (by kernel_rfl))⟩
 t0:=Tryz.underlying0
 a0:=Tryz.isAgg0
 z0:=Tryz.sizeOf0
 v0:=Tryz.zeroValue0
 t3:=Tryz.underlying3
 a3:=Tryz.isAgg3
 z3:=Tryz.sizeOf3
 v3:=Tryz.zeroValue3
 t4:=Tryz.underlying4
 a4:=Tryz.isAgg4
 z4:=Tryz.sizeOf4
 v4:=Tryz.zeroValue4
 t22:=Tryz.underlying22
 a22:=Tryz.isAgg22
 z22:=Tryz.sizeOf22
 v22:=Tryz.zeroValue22}
end Go.Proofs
namespace Go.Proofs.YtjlcdfpbllobaaaGreatDoor
variable {k cap q n' m1 sz mb vc:Nat}{e ti:TypeId}{T:List To}{ao va:Option Addr}{t:To}{vq v2 vL vM v3:Value}{ys ys1 ms xs:List Value}{l2:Obj}{a W8:World}
section
open Go.RowKit Go.Sort Go.Lib
theorem z4m{w:World}{base:Nat}{g n:Nat}{cs:List Value}{F:Array Value}(h:w.ownsRow base e k (.slice (some ⟨g,0,none⟩) n cap) n cs)(hF:F.size=n*k):
  (putRow id (Sort.ahead w q) g 0 F).ownsRow base e k (.slice (some ⟨g,0,none⟩) n cap) n F.toList:=by
 rcases h.2 with⟨e0,_⟩|⟨J,l,b,e0,y,D,r,hm,I,N⟩
 ·cases e0
 ·injection e0 with d _ x
  injection d with d;injection d with d;subst d;subst x;have E:n*k<=cap*k:=Nat.mul_le_mul_right k r;refine⟨by simpa using hF,.inr ⟨g,cap,putCells id 0 F b,rfl,y,?_,r,hm,by simpa [putCells] using I,?_⟩⟩
  ·simp[putRow,mapBlock,Sort.ahead,Array.getElem?_modify,D,onCells]
  ·apply List.ext_getElem?
   intro j;rw[List.getElem?_take,Array.getElem?_toList,Array.getElem?_toList];by_cases o:j<n*k
   ·have i:j<b.size:=by omega
    simp only[ξ o,putCells,Array.getElem?_mapIdx,Array.getElem?_eq_getElem i,Option.map_some];rw[ξ (by omega),Array.getElem?_eq_getElem (by omega)];simp[getElem!_pos,show j<F.size by omega]
   ·rw[κ o,Array.getElem?_eq_none (by omega)]
theorem z1z{w:World}{base:Nat}{g n:Nat}{cs:List Value}(h:w.ownsRow base e k (.slice (some ⟨g,0,none⟩) n cap) n cs):Holds id w g 0 cs.toArray:=by
 have y:=h.1;rcases h.2 with⟨e0,_⟩|⟨I,l,d,e0,J,o,D,hm,N,F⟩
 ·cases e0
 ·injection e0 with b _ r
  injection b with b;injection b with b;subst b;subst r;have E:n*k<=cap*k:=Nat.mul_le_mul_right k D;intro j x;have i:j<n*k:=by simpa [y] using x
  refine⟨?_,by simp[World.frozen?,o]⟩;have b:(d.toList.take (n*k))[j]? =cs[j]? :=by rw[F]
  rw[List.getElem?_take,ξ i,Array.getElem?_toList] at b;simp only[World.cell?,o,Nat.zero_add];simp only[Option.isSome_none,Bool.false_eq_true,if_false];rw[b,γ (by omega)];simp[getElem!_pos,show j<cs.length by omega]
instance : Inhabited To:=⟨to0⟩
theorem z2n(T:List To):flatK toc 5 T.toArray=(q2K T).toArray:=by
 have b:(flatK toc 5 T.toArray).size=T.length*5:=by simp[flatK]
 refine ext_get! (by rw[b];simp[q6T]) fun t d=>?_
 rw[b] at d;rw[get_flatK _ _ _ _ (by simpa using d)];have h1:=q6S T (t/5) (t % 5) (by omega) (Nat.mod_lt _ (by decide));rw[show t/5*5+t % 5=t by omega] at h1;have h2:t/5<T.length:=by omega
 rw[show(T.toArray)[t/5]! =T.getD (t/5) to0 by simp[getElem!_pos,h2,δ]];rw[show(q2K T).toArray[t]! =((q2K T)[t]?).getD default by simp only[getElem!_def,List.getElem?_toArray];cases (q2K T)[t]? <;>rfl,h1];simp only[getElem!_def]
 cases (toc (T.getD (t/5) to0))[t % 5]? <;>rfl
theorem z3X{w:World}{base:Nat}{v:Value}(h:w.ownsRow base 99 5 v T.length (q2K T))(I:T.length<=9223372036854775807):
  Calls Tryz.prog 78 #[v] w fun e w'=>e= .returned (.tuple #[])/\w'.ownsRow base 99 5 v T.length (q2K T.reverse)/\(∀w0,Below w0.heap.size w0 w->w0.heap.size<=base->Below w0.heap.size w0 w')/\
   (∀i,v.ownBlock≠some i->w'.heap[i]? =w.heap[i]?)/\w.heap.size<=w'.heap.size:=by
 rcases h.2 with⟨rfl,r⟩|⟨g,cap,l,rfl,N,O,h1,h2,h3,h4⟩
 ·have y:T=[]:=List.length_eq_zero_iff.1 r
  subst y;refine(AnyQ.slices_Reverse_empty Tryz.reverseTold none 0 w).mono ?_;rintro e w' ⟨rfl,rfl⟩;exact⟨rfl,h,fun _ b _=>b,fun _ _=>rfl,ι _⟩
 ·have j:=AnyQ.slices_Reverse Tryz.reverseTold 5 Tryz.isAgg99 Tryz.sizeOf99 toc (fun _=>rfl) (fun x u J=>z6W [x] u (by simpa [q2K] using J)) g 0 cap T.toArray w (by unfold HoldsK;rw[z2n];exact z1z h) (by simpa using I)
  have e0:T.toArray.size=T.length:=by simp
  rw[e0] at j;refine j.mono ?_;rintro e w' ⟨rfl,q,rfl⟩;have o:putRowK toc 5 (Sort.ahead w q) g 0 T.toArray.reverse=putRow id (Sort.ahead w q) g 0 (q2K T.reverse).toArray:=by
   unfold putRowK;rw[show T.toArray.reverse=T.reverse.toArray by simp,z2n]
  rw[o];refine⟨rfl,?_,fun w0 b E=>below_putRow b (by omega),fun i D=>?_,?_⟩
  ·have:=z4m (q:=q) (F:=(q2K T.reverse).toArray) h (by simp[q6T])
   simpa using this
  ·have d:g≠i:=fun e=>D (by rw[e];rfl)
   simp[putRow,mapBlock,Sort.ahead,Array.getElem?_modify,d]
  ·simp[Sort.ahead]
def y2l(bs:List Bt)(str:List UInt8)(fr ct:Int):List To:=if q3Z str fr ct=0 then(z3J (q3K bs str) fr ct).reverse else []
section
variable {wb w W W1 W2:World}{g gl gs gx rate:Nat}{m:Man}{ws:List En}{c s sd:Int}{u cnt:Nat}{B:List En}{C:Cks}{P:Pbs}{sure:Int}{K K':Nat->Prop}
theorem z4n(h:StoP wb w g gs gl gx rate m ws sd c s u cnt B C sure P K)(d:List UInt8)(hs:d.length<=4611686018427387903)(fr ct:Int)(f0:fr<=9223372036854775807)(e0:ct<=9223372036854775807)(hl:B.length<=10000)(c0:(q0U (q1h P) d).length<=10000):
  Calls Tryz.prog 79 #[.pointer (some ⟨gs,0,none⟩),.string ⟨d.toArray⟩,.int .i64 fr,.int .i64 ct] w (ToldR wb w g gs gl gx rate m ws sd c s u cnt B C sure P K (y2l (q1h P) d fr ct) (q3Z d fr ct)):=by
 have x:=η (z9t h.b d hs fr ct);have HH:=η h;obtain⟨R,D⟩: ∃R,y2l (q1h P) d fr ct=R:=⟨_,rfl⟩
 rw[D];unfold y2l at D;by_cases r:q3Z d fr ct=0
 ·have V:0<=fr/\1<=ct:=by
   unfold q3Z at r
   split at r
   ·cases r
   ·omega
  rw[ξ r] at D;rw[r] at x⊢;have q1:IntKind.i64.wrap (fr-ct)=fr-ct:=by rw[ν];omega
  have q2:IntKind.i64.wrap (fr-ct+1)=fr-ct+1:=by rw[ν];omega
  have y:=z9R (q1h P) d (f:=fr) (c:=ct) V.1 V.2 (by omega);obtain⟨E,Q⟩: ∃E,z3J (q3K (q1h P) d) fr ct=E:=⟨_,rfl⟩
  rw[Q] at y D;have d0:E.length<=10000:=by
   rw[<-y];refine Ω (List.length_filter_le _ _) ?_;rw[q1M];exact c0
  have HB:=η (fun W (k:Ext w W)=>q8d (h.grow k) d hs (fr-ct+1) fr hl y);have J:Hd (E.reverse=R):=η D;clear r D h y Q;go_enter Tryz.func79,Tryz.ntmps79;go_wp2_with fail;refine x.o.mono ?_;rintro e w1 ⟨rfl,hx⟩;have O:=η hx;clear hx;go_wp2_with fail;refine(HB.o _ O.o).mono ?_;rintro e w2 ⟨v,rfl,hh,Y,j,U⟩;obtain⟨ra,rc,rfl⟩:=q0E j;have N:=η (z3X j (by omega));have I:=η hh;have b0:=η ((HH.o.kExt O.o).trans Y);have F:=η U;clear hh Y j U HB;go_wp2_with fail;refine N.o.mono ?_;rintro e w3 ⟨rfl,j,S,l,Z⟩;rw[J.o] at j;have X:R.length=E.length:=by rw[<-J.o,List.length_reverse]
  have HF:Hd (ToldR wb w g gs gl gx rate m ws sd c s u cnt B C sure P K R 0 (.returned (.tuple #[.slice ra E.length rc,.int .i64 0])) w3):=η
   ⟨_,rfl,I.o.sideM Z (S wb I.o.base (ι _)) (fun i hi hn=>l i fun e=>hn (.inr e)) fun i hi=> .inl hi,b0.o.trans fun i hi=>l i (F.o i hi),by rw[X];exact j,F.o⟩
  clear j S l Z N;go_wp2_with fail;go_ret2;exact HF.o
 ·rw [κ r] at D
  subst D;have a0:q3Z d fr ct=2:=by
   unfold q3Z at r⊢
   split at r
   ·rename_i h1;rw[ξ h1]
   ·exact absurd rfl r
  rw[a0] at x⊢;clear r a0 h;go_enter Tryz.func79,Tryz.ntmps79;go_wp2_with fail;refine x.o.mono ?_;rintro e w1 ⟨rfl,hx⟩;have O:=η hx;clear hx;go_wp2_with fail;go_ret2;exact ToldR.nil (HH.o.grow O.o) (HH.o.kExt O.o) 2
end
end
section
open Go.RowKit
theorem z2d : ∀(C:Cks) (b:Nat),(∀ps∈C,ps≠[])->C.length<=(q1J b C).length
 |[],_,_=>ι _
 | ps::t,b,h=>by
  have h1:=z2d t (b+4096) fun q hq=>h q (.tail _ hq)
  have h2:0<ps.length:=List.length_pos_iff.2 (h ps (.head _));rw[q1J,θ,q5U,χ];omega
theorem z2G{bs:List Bt}(h:okBs bs):(tos bs).length<=8*bs.length:=by
 induction bs using q5Y with
 |h0=>exact ι _
 | h1 l b ih=>
  obtain⟨h1,h2,_⟩:=okBs_snoc.1 h;have h3:=(q0p h2.1).2.2.2.1;have h4:=ih h1;rw[q3G,q7g,θ,q4o,θ,List.length_singleton];omega
def SK(wb W:World)(g gs rate:Nat)(sd c s:Int)(u n:Nat)(bs:List Bt)(K:Nat->Prop):Prop:=
 ∃gl gx m ws B C sure P,StoP wb W g gs gl gx rate m ws sd c s u (40+3*n) B C sure P K/\q1h P=bs/\m.nx<=n/\bs.length<=n/\0<=sd/\sd<18446744073709551616
def SQ(wb W:World)(g:Nat)(sd c s:Int)(u n:Nat)(bs:List Bt)(K:Nat->Prop):Prop:=
 ∃m B C P,DKQ wb W g m c s u (40+3*n) B C K/\y6N sd m B C P/\B.Nodup/\q1h P=bs/\m.nx<=n/\bs.length<=n/\0<=sd/\sd<18446744073709551616
section
variable {wb w W W':World}{g gs rate u n:Nat}{sd c s:Int}{bs:List Bt}{K K':Nat->Prop}
theorem StoP.bounds{gl gx:Nat}{m:Man}{ws:List En}{cnt:Nat}{B:List En}{C:Cks}{sure:Int}{P:Pbs}(h:StoP wb W g gs gl gx rate m ws sd c s u cnt B C sure P K)(d:q1h P=bs)(j:bs.length<=n):
  (tos bs).length<=8*n/\B.length<=8*n/\C.length<=n/\okBs bs:=by
 have b:okBs bs:=d▸h.stE.ok;have h1:=z2G b;have h2:=h.len;rw[d] at h2;have h3:=z2d C 0 h.i.cOk.full;rw[h.recE,q9X] at h3;have h4:bs.length=P.length:=by rw[<-d];exact List.length_map _
 exact⟨by omega,by omega,by omega,b⟩
theorem SK.ok(h:SK wb W g gs rate sd c s u n bs K):okBs bs:=by
 obtain⟨gl,gx,m,ws,B,C,sure,P,h1,h2,_,h4,_⟩:=h;exact(h1.bounds h2 h4).2.2.2
theorem SK.few(h:SK wb W g gs rate sd c s u n bs K):bs.length<=n/\(tos bs).length<=8*n:=by
 obtain⟨gl,gx,m,ws,B,C,sure,P,h1,h2,_,h4,_⟩:=h;exact⟨h4,(h1.bounds h2 h4).1⟩
theorem SK.base(h:SK wb W g gs rate sd c s u n bs K):Ext wb W:=by
 obtain⟨gl,gx,m,ws,B,C,sure,P,h1,_⟩:=h;exact h1.base
theorem SK.klt(h:SK wb W g gs rate sd c s u n bs K): ∀i,K i->i<W.heap.size:=by
 obtain⟨gl,gx,m,ws,B,C,sure,P,h1,_⟩:=h;exact h1.klt
theorem SK.grow(h:SK wb W g gs rate sd c s u n bs K)(k:Ext W W'):SK wb W' g gs rate sd c s u n bs K:=by
 obtain⟨gl,gx,m,ws,B,C,sure,P,h1,h2⟩:=h;exact⟨gl,gx,m,ws,B,C,sure,P,h1.grow k,h2⟩
theorem SK.kExt(h:SK wb W g gs rate sd c s u n bs K)(k:Ext W W'):Stay K W W':=fun i b=>k.block i (h.klt i b)
theorem SK.more(h:SK wb W g gs rate sd c s u n bs K)(k:Ext W W')(hK: ∀i,K' i->K i\/(W.heap.size<=i/\i<W'.heap.size)):SK wb W' g gs rate sd c s u n bs K':=by
 obtain⟨gl,gx,m,ws,B,C,sure,P,h1,h2⟩:=h;exact⟨gl,gx,m,ws,B,C,sure,P,h1.more k hK,h2⟩
theorem SK.beside(h:SK wb W g gs rate sd c s u n bs K)(k: ∀i,K' i->K i):SK wb W g gs rate sd c s u n bs K':=by
 obtain⟨gl,gx,m,ws,B,C,sure,P,h1,h2⟩:=h;exact⟨gl,gx,m,ws,B,C,sure,P,h1.beside k,h2⟩
theorem SK.sideM(h:SK wb W g gs rate sd c s u n bs K)(b:W.heap.size<=W'.heap.size)(d:Ext wb W')(k: ∀i,i<W.heap.size->¬K i->W'.heap[i]? =W.heap[i]?)(hK: ∀i,K' i->K i\/(W.heap.size<=i/\i<W'.heap.size)):SK wb W' g gs rate sd c s u n bs K':=by
 obtain⟨gl,gx,m,ws,B,C,sure,P,h1,h2⟩:=h;exact⟨gl,gx,m,ws,B,C,sure,P,h1.sideM b d k hK,h2⟩
theorem SK.mono(h:SK wb W g gs rate sd c s u n bs K){u':Nat}(i:u<=u')(d:n<=n'):SK wb W g gs rate sd c s u' n' bs K:=by
 obtain⟨gl,gx,m,ws,B,C,sure,P,h1,h2,h3,h4,b⟩:=h;exact⟨gl,gx,m,ws,B,C,sure,P,h1.mono (by omega) (by omega),h2,by omega,by omega,b⟩
def EvR(wb w:World)(g gs rate:Nat)(sd c s:Int)(u n:Nat)(bs:List Bt)(K:Nat->Prop)(R:List To)(z:Int)(e:Ending)(w':World):Prop:=
 ∃v,e= .returned (.tuple #[v,.int .i64 z])/\SK wb w' g gs rate sd c s u n bs (fun i=>K i\/v.ownBlock=some i)/\Stay K w w'/\w'.ownsRow wb.heap.size 99 5 v R.length (q2K R)/\ ∀i,K i->v.ownBlock≠some i
theorem SK.last(h:SK wb w g gs rate sd c s u n bs K)(r:n<=1000)(b:List UInt8)(j:b.length<=4611686018427387903){x y:Int}(i:z4R bs b=(x,y)):
  Calls Tryz.prog 32 #[.pointer (some ⟨gs,0,none⟩),.string ⟨b.toArray⟩] w fun e w'=>e= .returned (.tuple #[.int .i64 x,.int .i64 y])/\SK wb w' g gs rate sd c s u n bs K/\Stay K w w':=by
 obtain⟨gl,gx,m,ws,B,C,sure,P,h1,rfl,h3,h4,d⟩:=h;obtain⟨b1,b2,b3,b4⟩:=h1.bounds rfl h4;have o:=q4f (q1h P) b;refine(z9r h1 b j (by omega) (by omega) i).mono ?_;rintro e w' ⟨rfl,k1,l⟩;exact⟨rfl,⟨gl,gx,m,ws,B,C,sure,P,k1,rfl,h3,h4,d⟩,l⟩
theorem SK.all(h:SK wb w g gs rate sd c s u n bs K)(i:n<=1000):Calls Tryz.prog 24 #[.pointer (some ⟨gs,0,none⟩)] w (EvR wb w g gs rate sd c s u n bs K (tos bs) 0):=by
 obtain⟨gl,gx,m,ws,B,C,sure,P,h1,rfl,h3,h4,b⟩:=h;obtain⟨b1,b2,b3,b4⟩:=h1.bounds rfl h4;refine(y5W h1 rfl (by omega)).mono ?_;rintro e w' ⟨v,rfl,k1,d⟩;exact⟨v,rfl,⟨gl,gx,m,ws,B,C,sure,P,k1,rfl,h3,h4,b⟩,d⟩
theorem SK.forward(h:SK wb w g gs rate sd c s u n bs K)(x:n<=1000)(b:List UInt8)(l:b.length<=4611686018427387903)(fr ct:Int)(d: -9223372036854775808<=fr)(i:fr<=9223372036854775807):
  Calls Tryz.prog 33 #[.pointer (some ⟨gs,0,none⟩),.string ⟨b.toArray⟩,.int .i64 fr,.int .i64 ct] w (EvR wb w g gs rate sd c s u n bs K (y2z bs b fr ct) (q3Z b fr ct)):=by
 obtain⟨gl,gx,m,ws,B,C,sure,P,h1,rfl,h3,h4,j⟩:=h;obtain⟨b1,b2,b3,b4⟩:=h1.bounds rfl h4;have r:=q4f (q1h P) b;refine(z7T h1 b l fr ct d i (by omega) (by omega)).mono ?_;rintro e w' ⟨v,rfl,k1,o⟩;exact⟨v,rfl,⟨gl,gx,m,ws,B,C,sure,P,k1,rfl,h3,h4,j⟩,o⟩
theorem SK.backward(h:SK wb w g gs rate sd c s u n bs K)(x:n<=1000)(b:List UInt8)(l:b.length<=4611686018427387903)(fr ct:Int)(i:fr<=9223372036854775807)(d:ct<=9223372036854775807):
  Calls Tryz.prog 79 #[.pointer (some ⟨gs,0,none⟩),.string ⟨b.toArray⟩,.int .i64 fr,.int .i64 ct] w (EvR wb w g gs rate sd c s u n bs K (y2l bs b fr ct) (q3Z b fr ct)):=by
 obtain⟨gl,gx,m,ws,B,C,sure,P,h1,rfl,h3,h4,j⟩:=h;obtain⟨b1,b2,b3,b4⟩:=h1.bounds rfl h4;have r:=q4f (q1h P) b;refine(z4n h1 b l fr ct i d (by omega) (by omega)).mono ?_;rintro e w' ⟨v,rfl,k1,o⟩;exact⟨v,rfl,⟨gl,gx,m,ws,B,C,sure,P,k1,rfl,h3,h4,j⟩,o⟩
theorem SK.flush(h:SK wb w g gs rate sd c s u n bs K):Calls Tryz.prog 56 #[.pointer (some ⟨gs,0,none⟩)] w fun e w'=>e= .returned (.int .i64 0)/\SK wb w' g gs rate sd c s u n bs K/\Stay K w w':=by
 obtain⟨gl,gx,m,ws,B,C,sure,P,h1,h2⟩:=h;refine(y1p h1).mono ?_;rintro e w' ⟨rfl,k1,b⟩;exact⟨rfl,⟨gl,gx,m,ws,B,C,_,P,k1,h2⟩,b⟩
theorem SK.index(h:SK wb w g gs rate sd c s u n bs K)(x:n<=86):Calls Tryz.prog 62 #[.pointer (some ⟨gs,0,none⟩)] w fun e w'=> ∃z,e= .returned (.int .i64 z)/\(z=0\/z=60)/\SK wb w' g gs rate sd c s (u+20000) (n+1) bs K/\Stay K w w':=by
 obtain⟨gl,gx,m,ws,B,C,sure,P,h1,rfl,h3,h4,i⟩:=h;obtain⟨b1,b2,b3,b4⟩:=h1.bounds rfl h4;refine(y1q h1 (by omega) (by omega) (by omega)).mono ?_;rintro e w' ⟨z,r,d,b,rfl,l,j,k1,o⟩;exact⟨z,rfl,l,⟨gl,gx,r,d,B,C,b,P,k1.mono (by omega) (by omega),rfl,by omega,by omega,i⟩,o⟩
theorem SK.merge(h:SK wb w g gs rate sd c s u n bs K)(o:n<=86)(lv:Int):Calls Tryz.prog 63 #[.pointer (some ⟨gs,0,none⟩),.int .i64 lv] w fun e w'=>
  ∃z,e= .returned (.int .i64 z)/\(z=0\/z=60\/z=4\/(z=2/\(lv<0\/5<=lv)))/\SK wb w' g gs rate sd c s (u+20000) (n+1) bs K/\Stay K w w':=by
 obtain⟨gl,gx,m,ws,B,C,sure,P,h1,rfl,h3,h4,b⟩:=h;obtain⟨b1,b2,b3,b4⟩:=h1.bounds rfl h4;refine(y1r h1 lv (by omega) (by omega) (by omega)).mono ?_;rintro e w' ⟨z,l,rfl,i,d,k1,j⟩;exact⟨z,rfl,i,⟨gl,gx,l,ws,B,C,sure,P,k1.mono (by omega) (by omega),rfl,by omega,by omega,b⟩,j⟩
theorem SK.append(h:SK wb w g gs rate sd c s u n bs K)(Q:n<=86)(b:List UInt8)(F:b.length<=4611686018427387903)(ex:Int){L:List Ev}(I: ∀W,Ext wb W->Stay K w W->Evs W ao k cap L)(E:q2U L)
  (l: ∀e∈L,e.we<18446744073709551616){z:Int}(J:z6b bs b ex L=z):
  Calls Tryz.prog 19 #[.pointer (some ⟨gs,0,none⟩),.string ⟨b.toArray⟩,.int .i64 ex,.slice ao k cap] w fun e w'=>
   ∃ x y d,e= .returned (.tuple #[.int .i64 x,.int .i64 y])/\SK wb w' g gs rate sd c s (u+2024) (n+1) d K/\Stay K w w'/\
    ((z≠0/\x=0/\y=z/\d=bs)\/(z=0/\x=0/\y=60/\d=bs/\c-(u:Int)-2024<6000)\/(z=0/\x=((q0U bs b).length:Int)/\y=0/\d=bs++[⟨b,(q0U bs b).length,L⟩])):=by
 obtain⟨gl,gx,m,ws,B,C,sure,P,h1,rfl,h3,h4,j⟩:=h;obtain⟨b1,b2,b3,b4⟩:=h1.bounds rfl h4;have O:=q4f (q1h P) b;refine(z9o h1 b F ex I E l (by omega) (by omega) (by omega)).mono ?_;rw[J];rintro e w' ⟨⟨k0,rfl,k1⟩|⟨rfl,rfl,k1,N⟩|⟨rfl,N,pos,r,B',D,i,rfl,k1⟩,o⟩
 ·exact⟨_,_,_,rfl,⟨gl,gx,m,ws,B,C,sure,P,k1.mono (by omega) (by omega),rfl,by omega,by omega,j⟩,o,.inl ⟨k0,rfl,rfl,rfl⟩⟩
 ·exact⟨_,_,_,rfl,⟨gl,gx,m,ws,B,C,sure,P,k1.mono (by omega) (by omega),rfl,by omega,by omega,j⟩,o,.inr (.inl ⟨rfl,rfl,rfl,rfl,by omega⟩)⟩
 ·exact⟨_,_,_,rfl,⟨gl,gx,m,r,B',D,i,_,k1.mono (by omega) (by omega),rfl,by omega,by rw[q5H,θ,List.length_singleton];omega,j⟩,o,.inr (.inr ⟨rfl,rfl,rfl,q5H _ _ _⟩)⟩
theorem SK.disk(h:SK wb W g gs rate sd c s u n bs K):SQ wb W g sd c s u n bs K:=by
 obtain⟨gl,gx,m,ws,B,C,sure,P,h1,h2,h3,h4,I⟩:=h;obtain⟨y,k1,D⟩:=h1.i.forget;have r:y.Nodup:=by
  obtain⟨st,σ,E,U,F,rfl,_,_,⟨J,_⟩,_⟩:=k1;exact J.okB.sort.imp fun {a b} l e=>by rw[e,q0h] at l;cases l
 obtain⟨st,σ,E,F,O,Q,o,R,S⟩:=k1.dkq;refine⟨m,y,C,P,⟨st,σ,E,F,O,Q,⟨o.d,o.bF,o.ext,fun i N=>o.k i (.inl N)⟩,R,S⟩,⟨h1.sdE,h1.recE,h1.stE.ok,fun x j=>(h1.stE.ents x).1 ((D x).2 (.inr j)),fun x j=>?_,h1.ckE⟩,r,h2,h3,h4,I⟩;rcases(D x).1 ((h1.stE.ents x).2 j) with j|j
 ·exact .inr (h1.wsE x j)
 ·exact .inl j
theorem SQ.open(h:SQ wb w g sd c s u n bs K)(r:n<=200)(rate:Nat):Calls Tryz.prog 43 #[.pointer (some ⟨g,0,none⟩),.int .u64 sd,.float .f64 rate] w fun e w'=>
  ∃gs,e= .returned (.tuple #[.pointer (some ⟨gs,0,none⟩),.int .i64 0])/\SK wb w' g gs rate sd c s u n bs K/\Stay K w w':=by
 obtain⟨m,B,C,P,h1,h2,h3,rfl,h4,i,b,d⟩:=h;have o:=z2G h2.ok;refine(y3v h1 h2 b d (by omega) (by omega) h3 rate).mono ?_;rintro e w' ⟨gs,gl,gx,l,ws,B',sure,rfl,k1,x,j⟩;exact⟨gs,rfl,⟨gl,gx,l,ws,B',C,sure,P,k1,rfl,by omega,i,b,d⟩,j⟩
theorem DkK.sq(h:DkK noO wb w g c s [] K)(sd:Int)(d:0<=sd)(i:sd<18446744073709551616):SQ wb w g sd c s 0 0 [] K:=by
 obtain⟨F,σ,h1,h2⟩:=h;have l:Pl σ c s []:=by have:=h2.pl;simpa [q2s,noO,q1s,q6B,q4D,q4w] using this
 have o:q0d 0 0 []=true:=by decide
 refine⟨⟨0,0,sd,[]⟩,[],[],[],⟨⟨⟨0,0,sd,[]⟩,0,[],fun _=>none,0⟩,σ,fun _=>none,F,rfl,rfl,h1,⟨⟨⟨[],l,List.Pairwise.nil,fun _=>rfl,υ _,υ _⟩,⟨o,d,i⟩,(fun n j=>by cases j),(fun n e he=>by cases he),(fun nm j=>absurd rfl j),okM.nil,okM.nil,fun x=>?_⟩,.inr ⟨rfl,rfl,rfl,rfl⟩,fun k _=>by simp⟩,okC.nil⟩,
  ⟨rfl,rfl,okBs.nil,(fun x b=>by cases b),(fun x b=>by cases b),by show(0:Int)<=q4T [];rw[z5V];decide⟩,List.nodup_nil,rfl,Int.le_refl _,ι _,d,i⟩
 constructor
 ·intro b;cases b
 ·rintro(b|⟨n,e,he,_⟩)
  ·cases b
  ·cases he
end
def wrB(bs:List Bt)(str:List UInt8)(a:Int)(L:List Ev):List Bt:=
 if z6b bs str a L=0 then bs++[⟨str,(q0U bs str).length,L⟩] else bs
theorem q7w(t d:List UInt8)(k:FloatKind)(b:Nat)(w:World)(x:t.length<=4611686018427387903)(r:d.length<=4611686018427387903):
  Calls Tryz.prog 96 #[.agg #[.string ⟨t.toArray⟩,.string ⟨d.toArray⟩,.float k b]] w fun e w'=>e= .returned (.int .i64 (q0g t d))/\Ext w w':=by
 have i:=Blk.new w 97 #[.string ⟨t.toArray⟩,.string ⟨d.toArray⟩,.float k b];have l:=η (q0B w (.cells #[.string ⟨t.toArray⟩,.string ⟨d.toArray⟩,.float k b] 97));have y:(w.alloc (.cells #[.string ⟨t.toArray⟩,.string ⟨d.toArray⟩,.float k b] 97)).cell? ⟨w.heap.size,0,none⟩=some (.string ⟨t.toArray⟩):=i.cell 0;have D:(w.alloc (.cells #[.string ⟨t.toArray⟩,.string ⟨d.toArray⟩,.float k b] 97)).cell? ⟨w.heap.size,1,none⟩=some (.string ⟨d.toArray⟩):=i.cell 1;have h3:(((t.length:Int)==0)=true/\q0g t d=2)\/(((t.length:Int)==0)=false/\((decide ((16:Int)<(t.length:Int))=true/\q0g t d=3)\/(decide ((16:Int)<(t.length:Int))=false/\((decide ((200:Int)<(d.length:Int))=true/\q0g t d=3)\/(decide ((200:Int)<(d.length:Int))=false/\q0g t d=0))))):=by
  unfold q0g;by_cases j:t=[]
  ·exact .inl ⟨by rw[j];rfl,by rw[ξ j]⟩
  ·have E:0<t.length:=List.length_pos_iff.2 j
   refine .inr ⟨by simp;omega,?_⟩;rw[κ j];by_cases h1:16<t.length
   ·exact .inl ⟨ζ (by omega),by rw[ξ h1]⟩
   ·rw[κ h1]
    refine .inr ⟨ε (by omega),?_⟩;by_cases h2:200<d.length
    ·exact .inl ⟨ζ (by omega),by rw[ξ h2]⟩
    ·exact .inr ⟨ε (by omega),by rw[κ h2]⟩
 clear i;rcases h3 with⟨j,he⟩|⟨j,⟨h1,he⟩|⟨h1,⟨h2,he⟩|⟨h2,he⟩⟩⟩
 all_goals
  rw[he];clear he;go_enter Tryz.func96,Tryz.ntmps96;go_wp2_with fail;go_ret;exact⟨rfl,l.o⟩
theorem z4j(e:Ev)(w:World)(he:z9I e):Calls Tryz.prog 99 #[evV e] w fun r w'=>r= .returned (.string ⟨(evB e).toArray⟩)/\Ext w w':=by
 obtain⟨t,d,b⟩:=e;obtain⟨h1,h2⟩:=he;obtain⟨_,h3,h4⟩:=q2E h1;simp only at h1 h2 h3 h4;show Calls _ _ #[.agg #[.string ⟨t.toArray⟩,.string ⟨d.toArray⟩,.float .f64 b]] _ fun r w'=>r= .returned (.string ⟨(q1z t++(q1z d++be 8 b)).toArray⟩)/\Ext w w'
 have O:=η (fun W=>q7w t d .f64 b W (by omega) (by omega));rw[h1] at O;have y:=η (fun W=>q9Z t W (by omega));have E:=η (fun W=>q9Z d W (by omega));have Q:=η (fun W=>z6J (b:Int) 8 8 W rfl (by omega) (by omega) (by omega) (by omega));have l1:(q1z t).length<=1000:=by unfold q1z;split<;>simp[q0J];omega
 have l2:(q1z d).length<=1000:=by unfold q1z;split<;>simp[q0J];omega
 have U:=q0J 8 ((b:Int)).toNat;obtain⟨R,l⟩: ∃R,be 8 ((b:Int)).toNat=R:=⟨_,rfl⟩
 rw[l] at Q U;rw[Int.toNat_natCast] at l;rw[l];have b0:R.length<=8:=by omega
 have V:=η (q0B w (.cells #[.string ⟨t.toArray⟩,.string ⟨d.toArray⟩,.float .f64 b] 97));have i:=Blk.new w 97 #[.string ⟨t.toArray⟩,.string ⟨d.toArray⟩,.float .f64 b];have k0:(w.alloc (.cells #[.string ⟨t.toArray⟩,.string ⟨d.toArray⟩,.float .f64 b] 97)).cell? ⟨w.heap.size,0,none⟩=some (.string ⟨t.toArray⟩):=i.cell 0;have k1:(w.alloc (.cells #[.string ⟨t.toArray⟩,.string ⟨d.toArray⟩,.float .f64 b] 97)).cell? ⟨w.heap.size,1,none⟩=some (.string ⟨d.toArray⟩):=i.cell 1;have k2:(w.alloc (.cells #[.string ⟨t.toArray⟩,.string ⟨d.toArray⟩,.float .f64 b] 97)).cell? ⟨w.heap.size,2,none⟩=some (.float .f64 b):=i.cell 2;have x:=η i;generalize q1z t=A at*;generalize q1z d=D at*;clear i h1 h3 h4 l U;go_enter Tryz.func99,Tryz.ntmps99;go_wp2_with fail;generalize w.alloc (.cells #[.string ⟨t.toArray⟩,.string ⟨d.toArray⟩,.float .f64 b] 97)=w1 at*;generalize w.heap.size=q at*;refine(O.o _).mono ?_;rintro e N ⟨rfl,J⟩;have F:=η (V.o.trans J);have j:=x.o.ext J;have X:N.cell? ⟨q,0,none⟩=some (.string ⟨t.toArray⟩):=j.cell 0;have Y:N.cell? ⟨q,1,none⟩=some (.string ⟨d.toArray⟩):=j.cell 1;have Z:N.cell? ⟨q,2,none⟩=some (.float .f64 b):=j.cell 2;have u0:=q0D X;have u1:=q0D Y;have u2:=q0D Z;have q1:¬(9223372036854775807<A.length+D.length):=by omega
 have q2:¬(9223372036854775807<(A++D).length+R.length):=by rw[θ];omega
 have q3:¬(9223372036854775807<A.length+D.length+R.length):=by omega
 have a0:=q5M b;clear J j k0 k1 k2;go_wp2_with fail;refine q0F (by kernel_rfl) (by kernel_rfl) ?_
 repeat (go_big_quiet_step (fail))
 go_big_quiet_step (exact Calls.quiet_ext (y.o _))
 repeat (go_big_quiet_step (fail))
 go_big_quiet_step (exact Calls.quiet_ext (E.o _))
 repeat (go_big_quiet_step (fail))
 go_big_quiet_step (exact Calls.quiet_ext (Q.o _))
 repeat (go_big_quiet_step (fail))
 refine wpQuiet_nil ?_;intro w3 S;have I:=η (F.o.trans S);clear S;go_wp2_with fail;go_ret;exact⟨by rw[q2X,q2X];simp,I.o⟩
theorem q9Y{n:Nat}{L:List Ev}(st:List UInt8)(fi:Int)(w:World)(N:Evs w ao n cap L)(o0:st.length<=4611686018427387903)(hL:q2U L):
  Calls Tryz.prog 51 #[.agg #[.string ⟨st.toArray⟩,.int .i64 fi,.slice ao n cap]] w fun e w'=>e= .returned (.int .i64 (q0S st fi L))/\Ext w w':=by
 have b1:=N.fits;have b2:=N.bound;have d:=N.len;have I:=η (q0B w (.cells #[.string ⟨st.toArray⟩,.int .i64 fi,.slice ao n cap] 118));have E:=η (Blk.new w 118 #[.string ⟨st.toArray⟩,.int .i64 fi,.slice ao n cap]);have c0:=E.o.cell 0;have c1:=E.o.cell 1;have c2:=E.o.cell 2;have HE:=η N;have HL:=η hL;clear N hL;by_cases h1:st=[]
 ·have x:Hd (q0S st fi L=2):=η (by unfold q0S;rw[ξ (.inl h1)])
  have hd:((st.length:Int)==0)=true:=by rw[h1];rfl
  clear h1;go_enter Tryz.func51,Tryz.ntmps51;go_wp2_with fail;go_ret;exact⟨by rw[x.o];rfl,I.o⟩
 have i0:((st.length:Int)==0)=false:=by have:=List.length_pos_iff.2 h1;simp;omega
 by_cases h2:n=0
 ·have x:Hd (q0S st fi L=2):=η (by unfold q0S;rw[ξ (.inr (List.eq_nil_of_length_eq_zero (by omega)))])
  have hd:((n:Int)==0)=true:=by rw[h2];rfl
  clear h1 h2 d;go_enter Tryz.func51,Tryz.ntmps51;go_wp2_with fail;go_ret;exact⟨by rw[x.o];rfl,I.o⟩
 have j0:((n:Int)==0)=false:=by simpa using h2
 have D:L≠[]:=fun e=>h2 (by rw[<-d,e];rfl)
 have j:¬(st=[]\/L=[]):=fun h=>h.elim h1 D
 by_cases h3:32<st.length
 ·have x:Hd (q0S st fi L=3):=η (by unfold q0S;rw[κ j,ξ (.inl h3)])
  have hd:decide ((32:Int)<(st.length:Int))=true:=ζ (by omega);clear h1 h2 D j d h3;go_enter Tryz.func51,Tryz.ntmps51;go_wp2_with fail;go_ret;exact⟨by rw[x.o];rfl,I.o⟩
 have l0:decide ((32:Int)<(st.length:Int))=false:=ε (by omega);by_cases h4:8<n
 ·have x:Hd (q0S st fi L=3):=η (by unfold q0S;rw[κ j,ξ (.inr (by omega))])
  have hd:decide ((8:Int)<(n:Int))=true:=ζ (by omega);clear h1 h2 D j d h4;go_enter Tryz.func51,Tryz.ntmps51;go_wp2_with fail;go_ret;exact⟨by rw[x.o];rfl,I.o⟩
 have l:¬(32<st.length\/8<L.length):=by omega
 have m0:decide ((8:Int)<(n:Int))=false:=ε (by omega);have q0:IntKind.i64.wrap (1073741824-(n:Int))=1073741824-(n:Int):=by rw[ν];omega
 by_cases Z:fi<0\/1073741824-(n:Int)<fi
 ·have x:Hd (q0S st fi L=2):=η (by unfold q0S;rw[κ j,κ l,ξ (by rw[d];exact Z)])
  have F:decide (fi<0)=true\/(decide (fi<0)=false/\decide (1073741824-(n:Int)<fi)=true):=by
   by_cases h:fi<0
   ·exact .inl (ζ h)
   ·exact .inr ⟨ε h,ζ (by omega)⟩
  clear h1 h2 D j l d Z h3 h4;rcases F with F|⟨F,f0⟩
  all_goals
   go_enter Tryz.func51,Tryz.ntmps51;go_wp2_with fail;go_ret;exact⟨by rw[x.o];rfl,I.o⟩
 have F:decide (fi<0)=false:=ε (by omega);have f0:decide (1073741824-(n:Int)<fi)=false:=ε (by omega);have x:Hd (q0S st fi L=q7U L):=η (by unfold q0S;rw[κ j,κ l,κ (by rw[d];exact Z)]);have U:=η d;clear h1 h2 D j l d Z h3;go_enter Tryz.func51,Tryz.ntmps51;go_wp2_with fail
 go_loopw [3] (fun i W=> ∃k:Nat,k<=n/\i= .int .i64 (k:Int)/\q7U (L.take k)=0/\Ext (w.alloc (.cells #[.string ⟨st.toArray⟩,.int .i64 fi,.slice ao n cap] 118)) W) (fun i _=>n-(intOf i).toNat)
 case atStart=>exact⟨0,υ _,rfl,rfl,Ext.refl _⟩
 case round=>
  obtain⟨k,hk,rfl,R,X⟩:=hrel;have S:=η X;have Q:=E.o.ext X;have d2:=Q.cell 2;by_cases Y:k<n
  ·have g0:decide ((k:Int)<(n:Int))=true:=ζ (by omega)
   have n0:(k:Int)<(n:Int):=by omega
   obtain⟨b,off,rfl,e0,e1,e2⟩:=(HE.o.ext (I.o.trans X)).at Y;have r:k<L.length:=by rw[U.o];exact Y
   have hT:L.take (k+1)=L.take k++[L.getD k ev0]:=by
    rw[List.take_succ_eq_append_getElem r];simp[List.getD,γ r]
   have hS:=q8x (L.take k) (L.getD k ev0) R;rw[<-hT] at hS;have HS:=η hS;have d0:=η (q8w L k r R);have J:L.getD k ev0∈L:=by rw[δ,γ r];exact List.getElem_mem r
   obtain⟨m1,m2⟩:=HL.o _ J;have q1:IntKind.i64.wrap ((k:Int)+1)=(k:Int)+1:=by rw[ν];omega
   generalize L.getD k ev0=y at*;obtain⟨y1,y2,y3⟩:=y;have a0:=η (fun W=>q7w y1 y2 .f64 y3 W m1 m2);simp only at e0 e1 e2;clear hT r R hS J m1 m2 X Q;go_wp2_with fail;refine(a0.o _).mono ?_;rintro e w1 ⟨rfl,N⟩;have V:=η (S.o.trans N);clear N;by_cases hc:q0g y1 y2=0
   ·have b0:Hd (q7U (L.take (k+1))=0):=η (by rw[HS.o];exact hc)
    rw[hc];go_wp2_with fail
    go_roundw
    case rel=>exact⟨k+1,by omega,by go_num,b0.o,V.o⟩
    case measure=>simp[intOf];omega
   ·have O:Hd (q7U L=q0g y1 y2):=η (by rw[d0.o,κ hc])
    have k0:(q0g y1 y2 !=0)=true:=by simpa using hc
    clear hc;go_wp2_with fail
    (try rw[Exit.noGoto_ret])
    go_ret;exact⟨by rw[x.o,O.o];rfl,I.o.trans V.o⟩
  ·obtain rfl:k=n:=by omega
   have g0:decide ((k:Int)<(k:Int))=false:=ε (by omega);have O:Hd (q7U L=0):=η (by rw[<-U.o,List.take_length] at R;exact R);clear R X Q;go_wp2_with fail;go_ret;exact⟨by rw[x.o,O.o];rfl,I.o.trans S.o⟩
theorem z8S{e:Ev}(h:z9I e):(evB e).length<=300:=by
 obtain⟨_,h3,h4⟩:=q2E h.1;unfold evB;rw[q1p (by omega),q1p (by omega)];simp[q0J];omega
theorem DkK.rebase{E:Oth}{b wb w:World}{g:Nat}{c s:Int}{C:Cks}{K:Nat->Prop}(h:DkK E wb w g c s C K)(k:Ext b wb):DkK E b w g c s C K:=by
 obtain⟨F,σ,h1,h2⟩:=h;have l:=k.size;exact⟨F,σ,⟨h1.d,fun i j=>by have:=h1.bF i j;omega,k.trans h1.ext,h1.k⟩,h2⟩
theorem DkK.base{E:Oth}{wb w:World}{g:Nat}{c s:Int}{C:Cks}{K:Nat->Prop}(h:DkK E wb w g c s C K):Ext wb w:=by
 obtain⟨F,σ,h1,h2⟩:=h;exact h1.ext
theorem Blk.rd{w:World}{b:Nat}{t:TypeId}{cs:Array Value}(h:Blk w b t cs):Rd w (some ⟨b,0,none⟩) cs.toList:=fun j u d=>⟨b,0,rfl,by rw[Nat.zero_add,h.cell j];simpa using d⟩
theorem Blk.evs{w:World}{b:Nat}{t:TypeId}{L:List Ev}(h:Blk w b t (q7l L).toArray)(d:k<=L.length)(i:L.length<=1000000):Evs w (some ⟨b,0,none⟩) k L.length (L.take k):=by
 refine⟨by rw[Θ];omega,d,by omega,(fun e=>by cases e),?_⟩;have h1:=h.rd.take (k*3);have e:(q7l L).take (k*3)=q7l (L.take k):=by
  conv=>lhs;rw[<-List.take_append_drop k L,q8u]
  exact List.take_left' (by rw[q6F,Θ];omega)
 rw[<-e]
 simpa using h1
theorem q1n{w:World}{B:Nat}{n cp:Nat}{L:List To}(h:w.ownsRow B e 5 (.slice ao n cp) L.length (q2K L)):Tos w ao n cp L/\n=L.length:=by
 obtain⟨a,c,b,h2⟩:=Tos.of_own (Own.of_row h)
 cases b;exact⟨h2,rfl⟩
abbrev evA :Ev:=⟨[97],[],0⟩
theorem z6Q{L:List Ev}(h: ∀e∈L,e.ty.length<=300/\e.da.length<=300):q2U L:=fun e he=>by have:=h e he;omega
section
variable {wb w W W1 W2:World}{g gs rate u n:Nat}{sd c s:Int}{bs:List Bt}{K K':Nat->Prop}
theorem SK.row0{m base:Nat}(h:SK wb W g gs rate sd c s u n bs (fun i=>K i\/vq.ownBlock=some i))(J:wb.heap.size<=base)(hq:W.ownsRow base ti sz vq m ys)
  (h2:W2.ownsRow base ti sz v2 m1 ys1)(j:W.grownBy W2 vq.ownBlock)(x:v2.ownBlock=vq.ownBlock\/v2.ownBlock=some W.heap.size)(D: ∀i,K i->vq.ownBlock≠some i):
  SK wb W2 g gs rate sd c s u n bs (fun i=>K i\/v2.ownBlock=some i)/\Stay K W W2/\ ∀i,K i->v2.ownBlock≠some i:=by
 have I:=j.size;have o: ∀i,vq.ownBlock=some i->base<=i/\i<W.heap.size:=q0Q hq;have y: ∀i,i<W.heap.size->vq.ownBlock≠some i->W2.heap[i]? =W.heap[i]? :=fun i b l=>j.block i b fun e=>l e.symm
 have d:=h.base;have r:Ext wb W2:=Below.grown d j d.size fun k E=>by have:=(o k E).1;omega
 refine⟨h.sideM I r (fun i b l=>y i b fun e=>l (.inr e)) fun i b=>?_,fun i b=>y i (h.klt i (.inl b)) (D i b),fun i b e=>?_⟩
 ·rcases b with b|b
  ·exact .inl (.inl b)
  ·rcases x with k|k
   ·exact .inl (.inr (k.symm.trans b))
   ·have F:=(q0Q h2 i b).2
    rw[k] at b
    cases b
    right;omega
 ·rcases x with k|k
  ·exact D i b (k.symm.trans e)
  ·rw[k] at e
   cases e;have:=h.klt _ (.inl b);omega
theorem SK.row1{m base:Nat}(h:SK wb W g gs rate sd c s u n bs (fun i=>K i\/vq.ownBlock=some i))(l:wb.heap.size<=base)(hq:W.ownsRow base ti sz vq m ys)
  (h2:W2.ownsRow base ti sz v2 m1 ys1)(j:(W.alloc l2).grownBy W2 vq.ownBlock)(d:v2.ownBlock=vq.ownBlock\/v2.ownBlock=some (W.alloc l2).heap.size)(o: ∀i,K i->vq.ownBlock≠some i):
  SK wb W2 g gs rate sd c s u n bs (fun i=>K i\/v2.ownBlock=some i)/\Stay K W W2/\ ∀i,K i->v2.ownBlock≠some i:=by
 obtain⟨h1,h3,h4⟩:=(h.grow (q0B W l2)).row0 l (q0G hq (q0B W l2)) h2 j d o;exact⟨h1,fun i b=>(h3 i b).trans ((q0B W l2).block i (h.klt i (.inl b))),h4⟩
end
theorem z8Z{i:Type}(p:i->Bool)(A:List i)(d:i)(h:k<A.length):(A.take (k+1)).filter p=(A.take k).filter p++if p (A.getD k d)=true then [A.getD k d] else []:=by
 rw[List.take_succ_eq_append_getElem h,List.filter_append,δ,γ h];simp only[Option.getD_some];by_cases b:p A[k]=true
 ·rw[ξ b,List.filter_cons_of_pos b,List.filter_nil]
 ·rw[κ b,List.filter_cons_of_neg b,List.filter_nil]
structure MoI(W:World)(mb base:Nat)(vL vM:Value)(L:List To)(ms:List Value):Prop where
 blk: ∃su:Int,Blk W mb 59 #[vL,vM,.int .i64 su]
 rowL:W.ownsRow base 99 5 vL L.length (q2K L)
 rowM:W.ownsRow base 3 1 vM ms.length ms
def MoB(mb:Nat)(vL vM:Value)(i:Nat):Prop:=i=mb\/vL.ownBlock=some i\/vM.ownBlock=some i
theorem MoI.same{W W':World}{base:Nat}{L:List To}(h:MoI W mb base vL vM L ms)(k: ∀i,MoB mb vL vM i->W'.heap[i]? =W.heap[i]?):MoI W' mb base vL vM L ms:=by
 obtain⟨j,d⟩:=h.blk;exact⟨⟨j,d.same (k _ (.inl rfl))⟩,q0L h.rowL fun i b=>k i (.inr (.inl b)),q0L h.rowM fun i b=>k i (.inr (.inr b))⟩
theorem MoI.lt{W:World}{base:Nat}{L:List To}(h:MoI W mb base vL vM L ms){i:Nat}(b:MoB mb vL vM i):i<W.heap.size:=by
 obtain⟨j,d⟩:=h.blk;rcases b with rfl|b|b
 ·exact d.lt
 ·exact(q0Q h.rowL i b).2
 ·exact(q0Q h.rowM i b).2
theorem MoI.ext{W W':World}{base:Nat}{L:List To}(h:MoI W mb base vL vM L ms)(k:Ext W W'):MoI W' mb base vL vM L ms:=h.same fun i b=>k.block i (h.lt b)
theorem q8T{W W2:World}{w0:World}{n:Nat}(b:Ext w0 W)(hq:W.ownsRow w0.heap.size ti sz vq n xs)
  (d:(W.alloc l2).grownBy W2 vq.ownBlock):Ext w0 W2:=
 Below.grown (b.trans (q0B W l2)) d (Ω b.size (q0B W l2).size) fun k i=>(q0Q hq k i).1
theorem z9B{w:World}{base:Nat}{L:List To}(h:MoI w mb base vL vM L ms)(s:List UInt8)(hl:L.length<=100000):
  Calls Tryz.prog 52 #[.pointer (some ⟨mb,0,none⟩),.string ⟨s.toArray⟩] w fun e w'=> ∃v,e= .returned v/\w'.ownsRow w.heap.size 99 5 v (L.filter fun t=>decide (t.s=s)).length (q2K (L.filter fun t=>decide (t.s=s)))/\Ext w w':=by
 obtain⟨la,lc,rfl⟩:=q0E h.rowL;have HM:=η h;obtain⟨n,U⟩: ∃n,L.length=n:=⟨_,rfl⟩
 have R:=(q1n h.rowL).1;rw[U] at R hl HM;have HT:=η R;have b1:=R.fits;have b2:=R.bound;obtain⟨su,d⟩:=h.blk;rw[U] at d;have X:=η d;have Z:=η U;clear h R d U;go_enter Tryz.func52,Tryz.ntmps52;go_wp2_with fail
 go_loopw [5,6] (fun ov oi W=> ∃(k:Nat) (v:Value) (M:List To),ov=v/\oi= .int .i64 (k:Int)/\k<=n/\Hd ((L.take k).filter (fun t=>decide (t.s=s))=M)/\W.ownsRow w.heap.size 99 5 v M.length (q2K M)/\Ext w W) (fun _ i _=>n-(intOf i).toNat)
 case atStart=>exact⟨0,_,[],rfl,rfl,υ _,η (by simp),⟨rfl,.inl ⟨rfl,rfl⟩⟩,Ext.refl _⟩
 case round=>
  obtain⟨k,v,M,rfl,rfl,hk,r,b,y⟩:=hrel;obtain⟨oa,oc,rfl⟩:=q0E b;have D:=X.o.ext y;have k0:=D.cell 0;have O:M.length<=n:=by rw[<-r.o];exact Ω (List.length_filter_le _ _) (by rw[Θ,Z.o];omega)
  by_cases Q:k<n
  ·have hd:decide ((k:Int)<(n:Int))=true:=ζ (by omega)
   have e0:(k:Int)<(n:Int):=by omega
   have q1:IntKind.i64.wrap ((k:Int)+1)=(k:Int)+1:=by rw[ν];omega
   obtain⟨bb,off,rfl,c0,c1,c2,c3,c4⟩:=(HT.o.ext y).at Q;have HS:=η (z8Z (fun t:To=>decide (t.s=s)) L to0 (k:=k) (by rw[Z.o];exact Q));generalize L.getD k to0=t at*;obtain⟨ts,F,⟨ty,da,we⟩⟩:=t;simp only at c0 c1 c2 c3 c4;obtain⟨V,E⟩: ∃V,M.length=V:=⟨_,rfl⟩
   have I:=η E;have f0:=q2T;rw[E] at b O⊢;have x:=η b;have S:=η y;have b0:=η y.size;have a0:=η (show Rd (wr.alloc (.cells #[.string ⟨ts.toArray⟩,.int .i64 F,.string ⟨ty.toArray⟩,.string ⟨da.toArray⟩,.float .f64 we] 99)) (some ⟨wr.heap.size,0,none⟩) (toc ⟨ts,F,⟨ty,da,we⟩⟩) from Rd.lit wr #[.string ⟨ts.toArray⟩,.int .i64 F,.string ⟨ty.toArray⟩,.string ⟨da.toArray⟩,.float .f64 we] 99);have J:=η (q0G b (q0B wr (.cells #[.string ⟨ts.toArray⟩,.int .i64 F,.string ⟨ty.toArray⟩,.string ⟨da.toArray⟩,.float .f64 we] 99)));clear b y D E;by_cases hs:ts=s
   ·subst hs
    have e1:(ts==ts)=true:=beq_self_eq_true ts
    go_wp2_with (at_builtin;refine q0I rfl _ _ 22 rfl w.heap.size 99 _ 5 64 Tryz.underlying22 Tryz.infoTo (by decide) (by decide) _ V (q2K M) rfl J.o _ 1 1 (toc ⟨ts,F,⟨ty,da,we⟩⟩) rfl rfl (fun h=>by cases h) a0.o (by unfold toc;simp[Value.oneCell']) (by unfold maxLen;omega) (by omega) (by have:=b0.o;simp;omega) ?_;intro v2 w8 l j d0;obtain⟨a2,k2,rfl⟩:=q0E l;have HO:=η l;have HX:Hd (Ext w w8):=η (q8T (w0:=w) (W:=wr) (vq:= .slice oa V oc) S.o x.o j);clear l j d0)
    go_roundw
    case rel=>
     refine⟨k+1,_,M++[⟨ts,F,⟨ty,da,we⟩⟩],rfl,by go_num,by omega,η (by rw[HS.o,r.o];simp),?_,HX.o⟩;rw[q7K,θ,I.o];exact HO.o
    case measure=>simp[intOf];omega
   ·have e1:(ts==s)=false:=beq_eq_false_iff_ne.2 hs
    go_wp2_with fail
    go_roundw
    case rel=>exact⟨k+1,_,M,rfl,by go_num,by omega,η (by rw[HS.o,r.o];simp[hs]),by rw[I.o];exact x.o,S.o⟩
    case measure=>simp[intOf];omega
  ·obtain rfl:k=n:=by omega
   have hd:decide ((k:Int)<(k:Int))=false:=ε (by omega);have N:M=L.filter fun t=>decide (t.s=s):=by rw[<-r.o,Δ (by rw[Z.o];exact ι _)]
   have x:=η b;have S:=η y;have Y:=η N;clear b y D N O;go_wp2_with fail;go_ret;exact⟨_,rfl,by rw[<-Y.o];exact x.o,S.o⟩
theorem y0c{n:Nat}{K:List To}(w:World)(F:Tos w ao n cap K)(hn:n<=1000000):
  Calls Tryz.prog 77 #[.slice ao n cap] w fun e w'=> ∃v,e= .returned v/\w'.ownsRow w.heap.size 99 5 v K.length (q2K K)/\Ext w w':=by
 have hq:=fun (w:World) (a:Option Addr) (n c n' c':Nat)=>Lib.run_eql_slice_nil (P:=Tryz.prog) w 22 99 a n c n' c' Tryz.underlying22
 have b1:=F.fits;have b2:=F.bound;have J:=F.len;have r:=F.nil;obtain⟨i,O,Q,d,D⟩:=info_parts Tryz.infoTo;have HI:=η O;have HZ:=η Q;have X:=η d;have R:=η D;have Y:=η (Ext.refl w)
 cases ao with
 | none=>
  obtain rfl:cap=0:=r rfl;obtain rfl:n=0:=by omega
  obtain rfl:K=[]:=List.eq_nil_of_length_eq_zero J;clear F J r O Q d D;go_enter Tryz.func77,Tryz.ntmps77;go_wp2_with fail;go_ret;exact⟨_,rfl,World.ownsRow_nil _ _ _ _,Y.o⟩
 | some a=>
  have l:(w.alloc (.cells #[] 99)).ownsRow w.heap.size 99 5 (.slice (some ⟨w.heap.size,0,none⟩) 0 0) 0 []:=⟨rfl,.inr ⟨w.heap.size,0,#[],rfl,ι _,Blk.new w _ _,ι _,by unfold maxLen;omega,rfl,rfl⟩⟩
  have N:=η l;have x:=η (q0B w (.cells #[] 99));by_cases h0:n=0
  ·subst h0
   obtain rfl:K=[]:=List.eq_nil_of_length_eq_zero J;clear F J r O Q d D l;go_enter Tryz.func77,Tryz.ntmps77;go_wp2_with fail;go_ret;exact⟨_,rfl,N.o,x.o⟩
  ·have I:Hd (∀j u,(q2K K)[j]? =some u->(w.alloc (.cells #[] 99)).cell? (a.add j)=some u):=η fun j u hj=>by
    obtain⟨b,off,e,h⟩:=(F.ext x.o).rd j u hj
    cases e;rw[Addr.add_lit];exact h
   have HL:=η J;have U:Hd ((q2K K).length=n*5):=η (by rw[q6T,J]);clear F J r O Q d D l;go_enter Tryz.func77,Tryz.ntmps77
   go_wp2_with (at_builtin;refine wpList_append_lies _ rfl _ _ 22 rfl w.heap.size 99 i _ 5 64 Tryz.underlying22 HI.o HZ.o X.o R.o (by decide) (by decide) _ 0 [] (by simp[Act.eval]) N.o a n cap (q2K K) (by simp[Act.eval]) U.o I.o (z6W K) (by omega) (by unfold maxLen;omega) (by omega) x.o.size _ rfl ?_;intro g cap1 w1 E y Z a0;have V:=η E;have S:=η y;clear E y Z)
   go_wp2_with fail;go_ret;refine⟨_,rfl,by have:=V.o;rw[HL.o];simpa using this,x.o.grown S.o x.o.size (fun q hq=>by cases hq;exact ι _)⟩
theorem Tryz.infoFi :(Tryz.prog.info? 38).map (fun i=>(i.zero,i.size,i.bytes))=some (some (.agg #[.int .i64 0,.string ⟨#[]⟩,.int .i64 0]),3,32):=by kernel_rfl
theorem one?_no {c:Bool}{f:Fi}(h:c=false):one? c f=[]:=by unfold one?;rw[h];rfl
theorem q5N(L:List Fi)(f:Fi):q5c (L++[f])=q5c L++fic f:=by rw[q8y];unfold q5c;simp
theorem q0a{b W:World}{j:Nat}{v:Option Value}(h:b.heap.size=q)(k:W.cell? ⟨q,j,none⟩=v):W.cell? ⟨b.heap.size,j,none⟩=v:=h▸k
theorem z7m(x:Smm){oa:Option Addr}{on oc:Nat}{O:List To}(w:World)(hf:Tos w x.fa x.fn x.fc x.F)(hb:Tos w x.ba x.bn x.bc x.B)(ho:Tos w oa on oc O)(hn:on<=1000000):
  Calls Tryz.prog 36 #[smV x,.slice oa on oc] w fun e w'=> ∃v,e= .returned v/\w'.ownsRow w.heap.size 38 3 v (q3E x.nm x.la x.F x.B O).length (q5c (q3E x.nm x.la x.F x.B O))/\Ext w w':=by
 obtain⟨nm,la,fa,fn,fc,F,ba,bn,bc,B⟩:=x;simp only at hf hb⊢;have r0:=q0B w (.cells #[.string ⟨nm.toArray⟩,.int .i64 la,.slice fa fn fc,.slice ba bn bc] 43);have V:=Blk.new w 43 #[.string ⟨nm.toArray⟩,.int .i64 la,.slice fa fn fc,.slice ba bn bc];obtain⟨g,hg⟩: ∃g,w.heap.size=g:=⟨_,rfl⟩
 have HG:=η hg;rw[hg] at V;have j:=η r0;have HB:=η V;have HF:=η hf;have HK:=η hb;have HO:=η ho;have s0:=η ho.len;have b1:=ho.fits;have b2:=ho.bound;have q1:IntKind.i64.wrap ((on:Int)-1)=(on:Int)-1:=by rw[ν];omega
 have k0:=q0a hg (V.cell 0);have k1:=q0a hg (V.cell 1);obtain⟨z1,j0⟩: ∃z,decide (la≠(O.length:Int)-1)=z:=⟨_,rfl⟩
 have A0:(la !=(on:Int)-1)=z1:=by
  rw[<-j0,ho.len];by_cases h:la=(on:Int)-1<;>simp[h]
 obtain⟨p,hp⟩: ∃p,q3B 0 F O=p:=⟨_,rfl⟩
 obtain⟨q,hq⟩: ∃q,q3B 0 B O.reverse=q:=⟨_,rfl⟩
 obtain⟨SF,g0⟩: ∃S,q3E nm la F B O=S:=⟨_,rfl⟩
 rw[g0];have HS:Hd (SF=one? z1 ⟨4,nm,la⟩++one? (decide (0<=p)) ⟨5,nm,p⟩++one? (decide (0<=q)) ⟨6,nm,q⟩):=η (by rw[<-g0];unfold q3E;rw[j0,hp,hq]);have t0:=η hp;have u0:=η hq;clear r0 V hf hb ho j0 hp hq hg g0;unfold smV;go_enter Tryz.func36,Tryz.ntmps36;obtain⟨z2,l0⟩: ∃z,decide (0<=p)=z:=⟨_,rfl⟩
 obtain⟨z3,m0⟩: ∃z,decide (0<=q)=z:=⟨_,rfl⟩
 rw[l0,m0] at HS;obtain⟨W1,h0⟩: ∃W1,w.alloc (.cells #[.string ⟨nm.toArray⟩,.int .i64 la,.slice fa fn fc,.slice ba bn bc] 43)=W1:=⟨_,rfl⟩
 simp only[h0] at j HB k0 k1;have x0:=η l0;have y0:=η m0;have e0:=η (fun W (h:Ext W1 W)=>y2P W ((HF.o.ext j.o).ext h) ((HO.o.ext j.o).ext h));rw[t0.o] at e0;clear l0 m0
 go_upto_if 13 with fail
 go_cut [4] from 8 (fun v W=> ∃(M:List Fi) (a:Option Addr) (l c:Nat),v= .slice a l c/\Hd (M=one? z1 ⟨4,nm,la⟩)/\Hd (M.length=l)/\l<=1/\Hd (W.ownsRow W1.heap.size 38 3 (.slice a l c) l (q5c M))/\Hd (Ext W1 W))
 case first=>
  clear h0
  cases z1 with
  | false=>
   go_wp2_with fail
   go_meet
   case rel=>exact⟨[],none,0,0,rfl,η rfl,η rfl,by omega,η ⟨rfl,.inl ⟨rfl,rfl⟩⟩,η (Ext.refl _)⟩
  | true=>
   have HN:=η (World.ownsRow_nil W1 W1.heap.size 38 3);have J:=η (show Rd (W1.alloc (.cells #[.int .i64 4,.string ⟨nm.toArray⟩,.int .i64 la] 38)) (some ⟨W1.heap.size,0,none⟩) (fic ⟨4,nm,la⟩) from Rd.lit W1 #[.int .i64 4,.string ⟨nm.toArray⟩,.int .i64 la] 38);have I:=η (q0G HN.o (q0B W1 (.cells #[.int .i64 4,.string ⟨nm.toArray⟩,.int .i64 la] 38)));have R:Hd (W1.heap.size<=(W1.alloc (.cells #[.int .i64 4,.string ⟨nm.toArray⟩,.int .i64 la] 38)).heap.size):=η (by have:=(Ext.refl W1).size;rw[ρ];omega)
   go_wp2_with (at_builtin;refine q0I rfl _ _ 28 rfl W1.heap.size 38 _ 3 32 Tryz.underlying28 Tryz.infoFi (by decide) (by decide) _ 0 [] rfl I.o _ 1 1 (fic ⟨4,nm,la⟩) rfl rfl (fun h=>by cases h) J.o (by unfold fic;simp[Value.oneCell']) (by unfold maxLen;omega) (by omega) R.o ?_;intro v2 w8 d b U;obtain⟨a2,c2,rfl⟩:=q0E d;have E:=η d;have r:Hd (Ext W1 w8):=η (q8T (w0:=W1) (vq:= .slice none 0 0) (Ext.refl W1) HN.o b);clear d b U)
   go_meet
   case rel=>exact⟨[⟨4,nm,la⟩],_,_,_,rfl,η rfl,η rfl,by omega,E,r⟩
 case rest=>
  clear h0 k0 k1;obtain⟨M,b0,l,c0,rfl,HM,D,q0,N,HX⟩:=hcut;have i:=HB.o.ext HX.o;have k2:=q0a HG.o (i.cell 2);have o0:=η (e0.o _ HX.o);clear i e0;go_wp2_with fail;refine o0.o.mono ?_;rintro e w2 ⟨rfl,X⟩;have r:=η (HX.o.trans X);have y:=η (q0G N.o X);have i:=HB.o.ext r.o;have k0:=q0a HG.o (i.cell 0);have z0:decide (0<=p)=z2:=x0.o;clear X i k2 o0 HX N
  go_upto_if 27 with fail
  go_cut [4] from 8 (fun v W=> ∃(M:List Fi) (a:Option Addr) (l c:Nat),v= .slice a l c/\Hd (M=one? z1 ⟨4,nm,la⟩++one? z2 ⟨5,nm,p⟩)/\Hd (M.length=l)/\l<=2/\Hd (W.ownsRow W1.heap.size 38 3 (.slice a l c) l (q5c M))/\Hd (Ext W1 W))
  case first=>
   cases z2 with
   | false=>
    go_wp2_with fail
    go_meet
    case rel=>exact⟨M,b0,l,c0,rfl,η (by rw[HM.o];simp[one?]),D,by omega,y,r⟩
   | true=>
    have J:=η (show Rd (w2.alloc (.cells #[.int .i64 5,.string ⟨nm.toArray⟩,.int .i64 p] 38)) (some ⟨w2.heap.size,0,none⟩) (fic ⟨5,nm,p⟩) from Rd.lit w2 #[.int .i64 5,.string ⟨nm.toArray⟩,.int .i64 p] 38);have I:=η (q0G y.o (q0B w2 (.cells #[.int .i64 5,.string ⟨nm.toArray⟩,.int .i64 p] 38)));have R:Hd (W1.heap.size<=(w2.alloc (.cells #[.int .i64 5,.string ⟨nm.toArray⟩,.int .i64 p] 38)).heap.size):=η (by have:=r.o.size;rw[ρ];omega)
    go_wp2_with (at_builtin;refine q0I rfl _ _ 28 rfl W1.heap.size 38 _ 3 32 Tryz.underlying28 Tryz.infoFi (by decide) (by decide) _ l (q5c M) rfl I.o _ 1 1 (fic ⟨5,nm,p⟩) rfl rfl (fun h=>by cases h) J.o (by unfold fic;simp[Value.oneCell']) (by unfold maxLen;omega) (by omega) R.o ?_;intro v2 w8 d b U;obtain⟨a2,c2,rfl⟩:=q0E d;have E:=η d;have Y:Hd (Ext W1 w8):=η (q8T (w0:=W1) (vq:= .slice b0 l c0) r.o y.o b);clear d b U)
    go_meet
    case rel=>exact⟨M++[⟨5,nm,p⟩],_,_,_,rfl,η (by rw[HM.o];simp[one?]),η (by rw[θ,D.o];rfl),by omega,η (by rw[q5N];exact E.o),Y⟩
  case rest=>
   clear k0 z0 y r HM D q0;obtain⟨M,b0,l,c0,rfl,HM,D,q0,N,HX⟩:=hcut;have n0:=η (y0c _ ((HO.o.ext j.o).ext HX.o) hn);go_wp2_with fail;refine n0.o.mono ?_;rintro e w3 ⟨v,rfl,hr,X⟩;obtain⟨ca,cc,rfl⟩:=q0E hr;have p0:=η (z3X hr (by rw[s0.o];omega));have Y:=η X;clear hr X n0;go_wp2_with fail;refine p0.o.mono ?_;rintro e w4 ⟨rfl,r1,r2,r3,r4⟩;have i0:Ext wc w4:=r2 wc Y.o (ι _);have Z:=η (HX.o.trans i0);have d0:=η (q0G N.o i0);have i:=HB.o.ext Z.o;have k3:=q0a HG.o (i.cell 3);have f0:=η (y2P w4 ((HK.o.ext j.o).ext Z.o) (q1n (L:=O.reverse) (by rw[List.length_reverse];exact r1)).1);rw[u0.o] at f0;clear r1 r2 r3 r4 i0 i p0 Y N HX;go_wp2_with fail;refine f0.o.mono ?_;rintro e w5 ⟨rfl,X⟩;have a0:=η (Z.o.trans X);have Q:=η (q0G d0.o X);have i:=HB.o.ext a0.o;have k0:=q0a HG.o (i.cell 0);have B0:decide (0<=q)=z3:=y0.o;clear X i k3 f0 Z d0
   cases z3 with
   | false=>
    go_wp2_with fail;go_ret;refine⟨_,rfl,?_,j.o.trans a0.o⟩;have e1:SF=M:=by rw[HS.o,HM.o];simp[one?]
    rw[e1,D.o];exact q0w Q.o j.o.size
   | true=>
    have J:=η (show Rd (w5.alloc (.cells #[.int .i64 6,.string ⟨nm.toArray⟩,.int .i64 q] 38)) (some ⟨w5.heap.size,0,none⟩) (fic ⟨6,nm,q⟩) from Rd.lit w5 #[.int .i64 6,.string ⟨nm.toArray⟩,.int .i64 q] 38);have I:=η (q0G Q.o (q0B w5 (.cells #[.int .i64 6,.string ⟨nm.toArray⟩,.int .i64 q] 38)));have R:Hd (W1.heap.size<=(w5.alloc (.cells #[.int .i64 6,.string ⟨nm.toArray⟩,.int .i64 q] 38)).heap.size):=η (by have:=a0.o.size;rw[ρ];omega)
    go_wp2_with (at_builtin;refine q0I rfl _ _ 28 rfl W1.heap.size 38 _ 3 32 Tryz.underlying28 Tryz.infoFi (by decide) (by decide) _ l (q5c M) rfl I.o _ 1 1 (fic ⟨6,nm,q⟩) rfl rfl (fun h=>by cases h) J.o (by unfold fic;simp[Value.oneCell']) (by unfold maxLen;omega) (by omega) R.o ?_;intro v2 w8 d b U;obtain⟨a2,c2,rfl⟩:=q0E d;have E:=η d;have v0:Hd (Ext W1 w8):=η (q8T (w0:=W1) (vq:= .slice b0 l c0) a0.o Q.o b);clear d b U)
    go_wp2_with fail;go_ret;refine⟨_,rfl,?_,j.o.trans v0.o⟩;have e1:SF=M++[⟨6,nm,q⟩]:=by rw[HS.o,HM.o];simp[one?]
    rw[e1,θ,D.o,q5N];exact q0w E.o j.o.size
theorem z9j{b:Bt}{n:Nat}(w:World)(E:Evs w ao n cap b.ev)(O:z4Z b):
  Calls Tryz.prog 53 #[.agg #[.string ⟨b.st.toArray⟩,.int .i64 (b.fi:Int),.slice ao n cap]] w fun e w'=> ∃S:List UInt8,e= .returned (.tuple #[.string ⟨S.toArray⟩,.int .i64 0])/\Ext w w':=by
 obtain⟨p1,p2,p3,p4,p5,p6,p7⟩:=q0p O.1;have N: ∀e∈b.ev,z9I e:=fun e he=>⟨q6p p7 e he,O.2 e he⟩
 have e0:q2U b.ev:=fun e he=>by
  obtain⟨_,h1,h2⟩:=q2E (N e he).1;exact⟨by omega,by omega⟩
 have I:=E.len;obtain⟨st,fi,L⟩:=b;simp only at p1 p2 p3 p4 p5 p6 p7 N e0 I E;have b1:=E.fits;have b2:=E.bound;have n0:q0S st (fi:Int) L=0:=O.1;have HC:=η (fun W (h:Evs W ao n cap L)=>q9Y st (fi:Int) W h (by omega) e0);rw[n0] at HC;have HT:=η (fun W=>q9Z st W (by omega));have l0:=η (fun W=>z6J (fi:Int) 8 8 W rfl (by omega) (by omega) (by omega) (by omega));rw[Int.toNat_natCast] at l0;have l1:(q1z st).length<=50:=by rw[q1p (by omega)];simp[q0J];omega
 have l8:(be 8 fi).length<=8:=by rw[q0J];omega
 have q0:=η N;have p0:=η I;have j0:=η E;have qf:IntKind.u64.wrap (fi:Int)=(fi:Int):=by rw[IntKind.wrap_u64];omega
 have qn:IntKind.u8.wrap (n:Int)=(n:Int):=by unfold IntKind.wrap;simp[IntKind.bits];omega
 have z0:n<=8:=by omega
 have HX:=η (q0B w (.cells #[.string ⟨st.toArray⟩,.int .i64 (fi:Int),.slice ao n cap] 118));have f0:=η (Blk.new w 118 #[.string ⟨st.toArray⟩,.int .i64 (fi:Int),.slice ao n cap]);have x:=f0.o;have k0:=x.cell 0;have k1:=x.cell 1;have k2:=x.cell 2;generalize q1z st=A at*;generalize be 8 fi=D at*;clear x O p1 p2 p3 p4 p5 p6 p7 N e0 I E n0;go_enter Tryz.func53,Tryz.ntmps53;go_wp2_with fail;refine(HC.o _ (j0.o.ext HX.o)).mono ?_;rintro e w1 ⟨rfl,E⟩;have m0:=η (HX.o.trans E);have F:=f0.o.ext E;generalize w.heap.size=q at*;have c0:w1.cell? ⟨q,0,none⟩=some (.string ⟨st.toArray⟩):=F.cell 0;have c1:w1.cell? ⟨q,1,none⟩=some (.int .i64 (fi:Int)):=F.cell 1;have c2:w1.cell? ⟨q,2,none⟩=some (.slice ao n cap):=F.cell 2;have u0:=q0D c0;have u1:=q0D c1;have u2:=q0D c2;have g0:=η F;have q1:¬(9223372036854775807<A.length+D.length):=by omega
 clear E F k0 k1 k2
 go_upto_region 4 with fail
 have d0:=q0A (Ext.refl _).drew c0;have d1:=q0A (Ext.refl _).drew c1;have d2:=q0A (Ext.refl _).drew c2;have J:=η (fun W (k:Ext w1 W)=>(show W.cell? ⟨q,0,none⟩=some (.string ⟨st.toArray⟩)/\W.cell? ⟨q,1,none⟩=some (.int .i64 (fi:Int))/\W.cell? ⟨q,2,none⟩=some (.slice ao n cap) from⟨q0A k c0,q0A k c1,q0A k c2⟩));have X:(n:Int)=((UInt8.ofNat n).toNat:Int):=by rw[UInt8.toNat_ofNat'];omega
 have hcv:=fun W=>z0x (P:=Tryz.prog) W 177 9 5 (n:Int) _ Tryz.underlying177 Tryz.underlying5 Tryz.underlying9 X
 have R:Hd (∀V W,Ext (World.alloc V (.cells #[.int .u8 (n:Int)] 5)) W->(convert 177 9 (.slice (some ⟨V.heap.size,0,none⟩) 1 1)).run Tryz.prog W= .ok (.string ⟨#[UInt8.ofNat n]⟩) W):=η fun V W k=>by
  rw[X] at k;exact q3T (l:=[UInt8.ofNat n]) W 177 9 5 Tryz.underlying177 Tryz.underlying5 Tryz.underlying9 rfl ((Rd.lit V #[.int .u8 ((UInt8.ofNat n).toNat:Int)] 5).ext k)
 have t0:=fun V:World=>R.o V _ ((Ext.refl (World.alloc V (.cells #[.int .u8 (n:Int)] 5))).drew)
 have q2:¬(9223372036854775807<A.length+D.length+1):=by omega
 have q3:¬(9223372036854775807<(A++D).length+1):=by rw[θ];omega
 clear X
 go_cut [5] from 12 to 26 (fun s W=> ∃S:List UInt8,s= .string ⟨S.toArray⟩/\S.length<=100/\Ext w1 W)
 case first=>
  go_region_held_law (fun W=>(W.cell? ⟨q,0,none⟩=some (.string ⟨st.toArray⟩)/\W.cell? ⟨q,1,none⟩=some (.int .i64 (fi:Int))/\W.cell? ⟨q,2,none⟩=some (.slice ao n cap))/\Hd (Ext w1 W))
   (first|assumption|exact⟨J.o _ U.o,U⟩|exact(fun h=>⟨J.o _ h,η h⟩) (Ext.trans (Hd.o (And.right (by assumption))) (q0B _ _))|exact(fun h=>⟨J.o _ h,η h⟩) ((Ext.refl w1).drew.trans (q0B _ _))|exact⟨⟨d0,d1,d2⟩,η (Ext.refl _).drew⟩)
   (first|(go_at_call 97;refine(HT.o _).mono ?_;rintro e wa ⟨rfl,j⟩;have U:=η (Ext.trans (Hd.o (And.right (a:=_) (by assumption))) j);(try have d:=η (show Ext (World.alloc _ (.cells #[.int .u8 (n:Int)] 5)) _ from j));(try have d:=η (Ext.trans ((Ext.refl (World.alloc _ (.cells #[.int .u8 (n:Int)] 5))).drew) j));(try have d:=η (Ext.trans d.o j));(try have Z:=R.o _ _ d.o);(try rw[show(World.drew w1).heap.size=w1.heap.size from rfl] at Z);clear j)|(go_at_call 98;refine(l0.o _).mono ?_;rintro e wa ⟨rfl,j⟩;have U:=η (Ext.trans (Hd.o (And.right (a:=_) (by assumption))) j);(try have d:=η (show Ext (World.alloc _ (.cells #[.int .u8 (n:Int)] 5)) _ from j));(try have d:=η (Ext.trans ((Ext.refl (World.alloc _ (.cells #[.int .u8 (n:Int)] 5))).drew) j));(try have d:=η (Ext.trans d.o j));(try have Z:=R.o _ _ d.o);(try rw[show(World.drew w1).heap.size=w1.heap.size from rfl] at Z);clear j))
  all_goals
   go_wp2_with fail
   go_meet
   case rel=>exact⟨(A++D)++[UInt8.ofNat n],by first|rfl|(rw[q2X,q2X];simp),by simp;omega,Hd.o (And.right (by assumption))⟩
 case rest=>
 obtain⟨S,rfl,v0,a0⟩:=hcut;have d:=η a0;have x0:=g0.o.ext a0;clear a0 d0 d1 d2 c0 c1 c2 u0 u1 u2 J;go_wp2_with fail
 go_loopw [5,6] (fun sv iv W=> ∃(k:Nat) (T:List UInt8),k<=n/\iv= .int .i64 (k:Int)/\sv= .string ⟨T.toArray⟩/\T.length<=100+300*k/\Ext w1 W) (fun _ i _=>n-(intOf i).toNat)
 case atStart=>exact⟨0,S,υ _,rfl,rfl,by omega,d.o⟩
 case round=>
  obtain⟨k,T,hk,rfl,rfl,w0,hb⟩:=hrel;have h0:=η hb;have x:=g0.o.ext hb;have d0:=x.cell 0;have d1:=x.cell 1;have d2:=x.cell 2;by_cases o0:k<n
  ·have s0:decide ((k:Int)<(n:Int))=true:=ζ (by omega)
   have y0:(k:Int)<(n:Int):=by omega
   obtain⟨b,off,rfl,c0,c1,c2⟩:=(j0.o.ext (m0.o.trans hb)).at o0;have b0:k<L.length:=by rw[p0.o];exact o0
   have Q:L.getD k ev0∈L:=by rw[δ,γ b0];exact List.getElem_mem b0
   have he:=q0.o _ Q;have q4:IntKind.i64.wrap ((k:Int)+1)=(k:Int)+1:=by rw[ν];omega
   generalize L.getD k ev0=y at*;obtain⟨y1,y2,y3⟩:=y;have hs:=z8S he;have i0:Hd (∀W,Calls Tryz.prog 99 #[.agg #[.string ⟨y1.toArray⟩,.string ⟨y2.toArray⟩,.float .f64 y3]] W fun r w'=>r= .returned (.string ⟨(evB ⟨y1,y2,y3⟩).toArray⟩)/\Ext W w'):=η fun W=>z4j ⟨y1,y2,y3⟩ W he
   obtain⟨Y,hY⟩: ∃Y,evB ⟨y1,y2,y3⟩=Y:=⟨_,rfl⟩
   rw[hY] at i0 hs;simp only at c0 c1 c2;have q5:¬(9223372036854775807<T.length+Y.length):=by omega
   clear b0 Q hb he hY x;go_wp2_with fail;refine(i0.o _).mono ?_;rintro e w3 ⟨rfl,E⟩;have r0:=η (h0.o.trans E);clear E;go_wp2_with fail
   go_roundw
   case rel=>exact⟨k+1,T++Y,by omega,by go_num,(by first|rfl|(rw[q2X])),by rw[θ];omega,r0.o⟩
   case measure=>simp[intOf];omega
  ·obtain rfl:k=n:=by omega
   have s0:decide ((k:Int)<(k:Int))=false:=ε (by omega);clear hb x;go_wp2_with fail;go_ret2;exact⟨T,rfl,m0.o.trans h0.o⟩
def Ios(w W:World):Prop:=W.os=w.os/\W.tape=w.tape/\W.output=w.output
theorem Ios.trans{b c:World}(h:Ios a b)(k:Ios b c):Ios a c:=⟨k.1.trans h.1,k.2.1.trans h.2.1,k.2.2.trans h.2.2⟩
theorem Ios.of_ext{b:World}(h:Ext a b):Ios a b:=⟨h.os,h.tape,h.output⟩
def MoAppR(w:World)(mb base:Nat)(vL vM:Value)(bs:List Bt)(m:Nat)(str:List UInt8)(L:List Ev)(z:Int)(e:Ending)(w':World):Prop:=
 ∃ vL' vM' ms' bs' x y,e= .returned (.tuple #[.int .i64 x,.int .i64 y])/\MoI w' mb base vL' vM' (tos bs') ms'/\ms'.length<=m+1/\w.heap.size<=w'.heap.size/\(∀i,i<w.heap.size->¬MoB mb vL vM i->w'.heap[i]? =w.heap[i]?)/\(∀i,MoB mb vL' vM' i->MoB mb vL vM i\/w.heap.size<=i)/\
  ((z≠0/\x=0/\y=z/\bs'=bs)\/(z=0/\x=((q0U bs str).length:Int)/\y=0/\bs'=bs++[⟨str,(q0U bs str).length,L⟩]))/\Ios w w'
theorem MoAppR.no{w w':World}{base:Nat}{bs:List Bt}{d:List UInt8}{L:List Ev}{z:Int}(h:MoI w mb base vL vM (tos bs) ms)(j:z≠0)(k:Ext w w'):MoAppR w mb base vL vM bs ms.length d L z (.returned (.tuple #[.int .i64 0,.int .i64 z])) w':=
 ⟨vL,vM,ms,bs,0,z,rfl,h.ext k,Nat.le_succ _,k.size,fun i b _=>k.block i b,fun i b=> .inl b,.inl ⟨j,rfl,rfl,rfl⟩,Ios.of_ext k⟩
structure MoMid(w:World)(mb base:Nat)(vL vM:Value)(T:List To)(ms:List Value)(v2:Value)(W:World):Prop where
 mo:MoI W mb base v2 vM T ms
 size:w.heap.size<=W.heap.size
 off: ∀i,i<w.heap.size->¬MoB mb vL vM i->W.heap[i]? =w.heap[i]?
 grew: ∀i,v2.ownBlock=some i->vL.ownBlock=some i\/w.heap.size<=i
 ios:Ios w W
theorem MoMid.start{w j:World}{base:Nat}{d:List To}(h:MoI w mb base vL vM T ms)(k:Ext w j)(e:d=T):MoMid w mb base vL vM d ms vL j:=by
 subst e;exact⟨h.ext k,k.size,fun i b _=>k.block i b,fun i b=> .inl b,Ios.of_ext k⟩
theorem z7R{W:World}{B B':Nat}{e':TypeId}{l:Nat}{v x:Value}{n:Nat}{o:List Value}(h:W.ownsRow B e sz v n xs)(D:W.ownsRow B' e' l x n' o)(j:e≠e'): ∀i,v.ownBlock=some i->x.ownBlock≠some i:=fun i E d=>by
 obtain⟨y,hc⟩:=q3z h E;obtain⟨r,b⟩:=q3z D d;rw[hc] at b
 cases b;exact j rfl
theorem MoI.apart{W:World}{base:Nat}{L:List To}(h:MoI W mb base vL vM L ms):vL.ownBlock≠some mb/\vM.ownBlock≠some mb/\ ∀i,vL.ownBlock=some i->vM.ownBlock≠some i:=by
 obtain⟨d,b⟩:=h.blk;exact⟨b.apart h.rowL (by decide),b.apart h.rowM (by decide),z7R h.rowL h.rowM (by decide)⟩
theorem MoMid.told{w W Wd:World}{base:Nat}{lit:Obj}(hm:MoMid w mb base vL vM T ms v2 W)(N:mb<w.heap.size)(j:Wd.heap=W.heap)(D:Ios W Wd)
  (y:W8.ownsRow base 99 5 v3 (T.length+1) (q2K T++toc t))(r:(Wd.alloc lit).grownBy W8 v2.ownBlock)(o:v3.ownBlock=v2.ownBlock\/v3.ownBlock=some (Wd.alloc lit).heap.size):
  MoMid w mb base vL vM (T++[t]) ms v3 (W8.setCell ⟨mb,0,none⟩ v3)/\(∀i,i<W.heap.size->v2.ownBlock≠some i->W8.heap[i]? =W.heap[i]?):=by
 obtain⟨O,F⟩:=hm.mo.blk;obtain⟨a1,I,J⟩:=hm.mo.apart;have l:(Wd.alloc lit).heap.size=W.heap.size+1:=by rw[ρ,j]
 have b: ∀i,i<W.heap.size->v2.ownBlock≠some i->W8.heap[i]? =W.heap[i]? :=fun i d x=>by
  rw[r.block i (by omega) (fun e=>x e.symm),(q0B Wd lit).block i (by rw[j];exact d),j]
 have E:mb<W.heap.size:=F.lt;have h3:v3.ownBlock≠some mb:=fun e=>by
  rcases o with h|h
  ·exact a1 (h.symm.trans e)
  ·rw[h,l] at e;cases e;omega
 have Q:W.heap.size+1<=W8.heap.size:=by rw[<-l];exact r.size
 refine⟨⟨⟨⟨O,(F.same (b mb E a1)).set 0 v3⟩,?_,?_⟩,?_,fun i d x=>?_,fun i d=>?_,hm.ios.trans (D.trans ⟨r.os,r.tape,r.output⟩)⟩,b⟩
 ·have:=q0i y (a:=⟨mb,0,none⟩) v3 h3
  rw[q9m,θ,List.length_singleton]
  simpa [q2K] using this
 ·exact q0i (q0L hm.mo.rowM fun i d=>b i (q0Q hm.mo.rowM i d).2 fun e=>J i e d) v3 I
 ·rw[World.size_setCell];have:=hm.size;omega
 ·rw[heap_setCell_other W8 ⟨mb,0,none⟩ i v3 (fun e=>x (.inl e)),b i (by have:=hm.size;omega) (fun e=>?_),hm.off i d x]
  rcases hm.grew i e with h|h
  ·exact x (.inr (.inl h))
  ·omega
 ·rcases o with h|h
  ·exact hm.grew i (h.symm.trans d)
  ·rw[h,l] at d;cases d;have:=hm.size;exact .inr (by omega)
theorem MoMid.many{w W:World}{base:Nat}{c:Value}{lit:Obj}(hm:MoMid w mb base vL vM T ms v2 W)(I:mb<w.heap.size)
  (x:W8.ownsRow base 3 1 v3 (ms.length+1) (ms++[c]))(o:(W.alloc lit).grownBy W8 vM.ownBlock)(l:v3.ownBlock=vM.ownBlock\/v3.ownBlock=some (W.alloc lit).heap.size):
  MoI (W8.setCell ⟨mb,1,none⟩ v3) mb base v2 v3 T (ms++[c])/\w.heap.size<=(W8.setCell ⟨mb,1,none⟩ v3).heap.size/\(∀i,i<w.heap.size->¬MoB mb vL vM i->(W8.setCell ⟨mb,1,none⟩ v3).heap[i]? =w.heap[i]?)/\
   (∀i,MoB mb v2 v3 i->MoB mb vL vM i\/w.heap.size<=i)/\(∀i,i<W.heap.size->vM.ownBlock≠some i->W8.heap[i]? =W.heap[i]?)/\Ios w (W8.setCell ⟨mb,1,none⟩ v3):=by
 obtain⟨J,E⟩:=hm.mo.blk;obtain⟨a1,D,F⟩:=hm.mo.apart;have j:(W.alloc lit).heap.size=W.heap.size+1:=by rw[ρ]
 have d: ∀i,i<W.heap.size->vM.ownBlock≠some i->W8.heap[i]? =W.heap[i]? :=fun i b r=>by
  rw[o.block i (by omega) (fun e=>r e.symm),(q0B W lit).block i b]
 have y:mb<W.heap.size:=E.lt;have h3:v3.ownBlock≠some mb:=fun e=>by
  rcases l with h|h
  ·exact D (h.symm.trans e)
  ·rw[h,j] at e;cases e;omega
 have N:W.heap.size+1<=W8.heap.size:=by rw[<-j];exact o.size
 refine⟨⟨⟨J,(E.same (d mb y D)).set 1 v3⟩,?_,?_⟩,?_,fun i b r=>?_,fun i b=>?_,d,hm.ios.trans ⟨o.os,o.tape,o.output⟩⟩
 ·exact q0i (q0L hm.mo.rowL fun i b=>d i (q0Q hm.mo.rowL i b).2 (F i b)) v3 a1
 ·have:=q0i x (a:=⟨mb,1,none⟩) v3 h3
  rwa [θ,List.length_singleton]
 ·rw[World.size_setCell];have:=hm.size;omega
 ·rw[heap_setCell_other W8 ⟨mb,1,none⟩ i v3 (fun e=>r (.inl e)),d i (by have:=hm.size;omega) (fun e=>r (.inr (.inr e))),hm.off i b r]
 ·rcases b with b|b|b
  ·exact .inl (.inl b)
  ·rcases hm.grew i b with h|h
   ·exact .inl (.inr (.inl h))
   ·exact .inr h
  ·rcases l with h|h
   ·exact .inl (.inr (.inr (h.symm.trans b)))
   ·rw[h,j] at b;cases b;have:=hm.size;exact .inr (by omega)
theorem z7D{w:World}{base:Nat}{bs:List Bt}(h:MoI w mb base vL vM (tos bs) ms)(B0:okBs bs)(V0:base<=mb)(l:List UInt8)(hs:l.length<=4611686018427387903)(ex:Int){L:List Ev}(J:Evs w ao k cap L)(hd: ∀a,ao=some a->0<k->¬MoB mb vL vM a.block)
  (hL:q2U L)(C0: ∀e∈L,e.we<18446744073709551616)(hl:(tos bs).length<=100000)(c1:ms.length<=100000){z:Int}(hz:z6b bs l ex L=z):
  Calls Tryz.prog 20 #[.pointer (some ⟨mb,0,none⟩),.string ⟨l.toArray⟩,.int .i64 ex,.slice ao k cap] w (MoAppR w mb base vL vM bs ms.length l L z):=by
 have HM:=η h;have HC:=η (q9Y l 0 w J hs hL);have l0:=η (fun W (kk:Ext w W)=>z9B (h.ext kk) l hl);have hN:((tos bs).filter fun t=>decide (t.s=l)).length=(q0U bs l).length:=by rw[q6P B0,q1M]
 have P0:=List.length_filter_le (fun t:To=>decide (t.s=l)) (tos bs);generalize ((tos bs).filter fun t=>decide (t.s=l))=R at*;obtain⟨n,hn⟩: ∃n,R.length=n:=⟨_,rfl⟩
 rw[hn] at hN P0 l0;obtain⟨c,hc⟩: ∃c,q0S l 0 L=c:=⟨_,rfl⟩
 rw[hc] at HC;have HZ:Hd ((if c≠0 then c else if ex< -2 then 2 else if ex≠ -2/\ex≠(n:Int)-1 then 80 else 0)=z):=η (by rw[<-hz];unfold z6b;rw[hc,<-hN]);have E0:=η hc;have t0:=η hN;have T0:=J.len;have Y0:=J.fits;have Z0:=J.bound;have HX:=η J;have HD:=η hd;have I0:=η C0;have q1:IntKind.i64.wrap ((n:Int)-1)=(n:Int)-1:=by rw[ν];omega
 have q2:IntKind.i64.wrap ((n:Int)-1+1)=(n:Int):=by rw[ν];omega
 clear h J hd hz hc hN B0 hn hL C0;go_enter Tryz.func20,Tryz.ntmps20;go_wp2_with fail;refine HC.o.mono ?_;rintro e w1 ⟨rfl,J⟩;have Z:=η J;clear J HC;by_cases F:c=0
 case neg=>
  have M0:(c !=(0:Int))=true:=by simpa using F
  have I:Hd (z=c):=η (by rw[<-HZ.o,ξ F]);have U:=η F;clear F;go_wp2_with fail;go_ret2;rw[I.o];exact MoAppR.no HM.o U.o Z.o
 have M0:(c !=(0:Int))=false:=by rw[F];rfl
 by_cases hex:ex< -2
 ·have N0:decide (ex<(-2:Int))=true:=ζ hex
  have I:Hd (z=2):=η (by rw[<-HZ.o,κ (by omega),ξ hex]);clear F hex;go_wp2_with fail;go_ret2;rw[I.o];exact MoAppR.no HM.o (by decide) Z.o
 have N0:decide (ex<(-2:Int))=false:=ε hex;have U:=η F;clear F;go_wp2_with fail;refine(l0.o _ Z.o).mono ?_;rintro e w2 ⟨v,rfl,D,J⟩;obtain⟨va,vc,rfl⟩:=q0E D;have n0:=η (Z.o.trans J);clear J D l0;by_cases hv:ex≠ -2/\ex≠(n:Int)-1
 ·have z0:(ex !=(-2:Int))=true:=by simpa using hv.1
  have O0:(ex !=(n:Int)-1)=true:=by simpa using hv.2
  have I:Hd (z=80):=η (by rw[<-HZ.o,κ (by have:=U.o;omega),κ (by omega),ξ hv]);clear hex hv;go_wp2_with fail;go_ret2;rw[I.o];exact MoAppR.no HM.o (by decide) n0.o
 have S0:(ex !=(-2:Int))=false\/((ex !=(-2:Int))=true/\(ex !=(n:Int)-1)=false):=by
  by_cases h:ex= -2
  ·exact .inl (by rw[h];rfl)
  ·exact .inr ⟨by simpa using h,by have:ex=(n:Int)-1:=Decidable.not_not.1 fun hh=>hv ⟨h,hh⟩;rw[this];simp⟩
 have I:Hd (z=0):=η (by rw[<-HZ.o,κ (by have:=U.o;omega),κ (by omega),κ hv]);have s0:q0S l 0 L=0:=by rw[E0.o,U.o]
 have R0:n<=1000000:=by omega
 have b0:z4Z ⟨l,n,L⟩:=⟨q5G (n:=n) s0 R0,fun e he=>I0.o e he⟩
 have u0:=η (z9j (b:=⟨l,n,L⟩) w2 (HX.o.ext n0.o) b0);have hp:=q0p s0;have b1:k<=8:=by have:=hp.2.2.2.1;omega
 simp only at u0;clear s0 b0 hv hex hp;rcases S0 with z0|⟨z0,O0⟩
 all_goals
  go_wp2_with fail;refine u0.o.mono ?_;rintro e w3 ⟨S,rfl,J⟩;have J0:=η (n0.o.trans J);clear J;go_wp2_with fail
  go_loopw [12] (fun iv W=> ∃(j:Nat) (v2:Value),iv= .int .i64 (j:Int)/\j<=k/\MoMid w mb base vL vM (tos bs++q5B l n (L.take j)) ms v2 W) (fun i _=>k-(intOf i).toNat)
  case atStart=>exact⟨0,vL,rfl,υ _,MoMid.start HM.o J0.o (by simp[q5B])⟩
  case round=>
   obtain⟨j,v2,rfl,hj,hm⟩:=hrel;by_cases Q0:j<k
   ·have W0:decide ((j:Int)<(k:Int))=true:=ζ (by omega)
    have a1:(j:Int)<(k:Int):=by omega
    have q3:IntKind.i64.wrap ((n:Int)+(j:Int))=(n:Int)+(j:Int):=by rw[ν];omega
    have q5:IntKind.i64.wrap (n:Int)=(n:Int):=by rw[ν];omega
    have q4:IntKind.i64.wrap ((j:Int)+1)=(j:Int)+1:=by rw[ν];omega
    have p0: ∀a,ao=some a->a.block<w.heap.size:=fun a e=>by
     obtain⟨b,off,e2,c0,_⟩:=HX.o.at (i:=0) (by omega);rw[e] at e2;cases e2;exact World.block_lt_of_cell? _ _ c0
    have A0:Evs wr ao k cap L:=HX.o.keep fun a e=>hm.off _ (p0 a e) (HD.o a e (by omega))
    have q0:tos bs++q5B l n (L.take (j+1))=(tos bs++q5B l n (L.take j))++[⟨l,((n+j:Nat):Int),L.getD j ev0⟩]:=by
     rw[List.take_succ_eq_append_getElem (by omega),q4k,Θ,Nat.min_eq_left (by omega),List.append_assoc,δ,γ (by omega)];rfl
    obtain⟨E,off,rfl,e0,e1,e2⟩:=A0.at Q0;have o0:=HD.o _ rfl (by omega);have x0:=p0 _ rfl;generalize L.getD j ev0=y at*;obtain⟨y1,y2,y3⟩:=y;simp only at e0 e1 e2 o0 x0;rw[show((n+j:Nat):Int)=(n:Int)+(j:Int) by omega] at q0;have H0:=η q0;have L0:(tos bs++q5B l n (L.take j)).length<=100010:=by rw[θ,q1i,Θ];omega
    generalize tos bs++q5B l n (L.take j)=T at*;obtain⟨la,lc,rfl⟩:=q0E hm.mo.rowL;obtain⟨N,hN⟩: ∃N,T.length=N:=⟨_,rfl⟩
    obtain⟨su,Q⟩:=hm.mo.blk;have r0:=hm.mo.apart;have D:=hm.mo.rowL;have O:=η hm;rw[hN] at Q D r0 O L0;have HN:=η hN;have k0:=Q.cell 0;have f0:=Q.free 0;have i0:Hd (mb<w.heap.size):=η (by obtain⟨_,h⟩:=HM.o.blk;exact h.lt);have g0:Hd (base<=wr.heap.size):=η (by have:=Q.lt;omega);have Y:=η Q.lt;have G0:Hd (∀W',Ext wr W'->W'.ownsRow base 99 5 (.slice la N lc) N (q2K T)):=η fun W' kk=>q0G D kk
    have m0:Hd (∀W',(∀i,(i=mb\/i=E)->W'.heap[i]? =wr.heap[i]?)->(fun W:World=>W.cell? ⟨mb,0,none⟩=some (.slice la N lc)/\W.cell? ⟨E,off+j*3,none⟩=some (.string ⟨y1.toArray⟩)/\W.cell? ⟨E,off+j*3+1,none⟩=some (.string ⟨y2.toArray⟩)/\W.cell? ⟨E,off+j*3+2,none⟩=some (.float .f64 y3)) W'):=η fun W' kk=>
     ⟨(World.cell?_of_block (a:=⟨mb,0,none⟩) (kk mb (.inl rfl))).trans k0,(World.cell?_of_block (a:=⟨E,off+j*3,none⟩) (kk E (.inr rfl))).trans e0,(World.cell?_of_block (a:=⟨E,off+j*3+1,none⟩) (kk E (.inr rfl))).trans e1,(World.cell?_of_block (a:=⟨E,off+j*3+2,none⟩) (kk E (.inr rfl))).trans e2⟩
    have h0:Hd (E<wr.heap.size/\(Value.slice la N lc).ownBlock≠some E):=η ⟨World.block_lt_of_cell? _ _ e0,fun e=>by
     rcases O.o.grew E e with h|h
     ·exact o0 (.inr (.inl h))
     ·omega⟩
    have D0:=η r0.1;have d1:=q2T;clear hm Q D r0 A0 p0 q0 o0 x0 hN;go_wp2_with fail;have j0:=η (show Rd (wr.alloc (.cells #[.string ⟨l.toArray⟩,.int .i64 ((n:Int)+(j:Int)),.string ⟨y1.toArray⟩,.string ⟨y2.toArray⟩,.float .f64 y3] 99)).drew (some ⟨wr.heap.size,0,none⟩) (toc ⟨l,(n:Int)+(j:Int),⟨y1,y2,y3⟩⟩) from(Rd.lit wr #[.string ⟨l.toArray⟩,.int .i64 ((n:Int)+(j:Int)),.string ⟨y1.toArray⟩,.string ⟨y2.toArray⟩,.float .f64 y3] 99).ext (Ext.refl _).drew);refine q1o (fun W:World=>W.cell? ⟨mb,0,none⟩=some (.slice la N lc)/\W.cell? ⟨E,off+j*3,none⟩=some (.string ⟨y1.toArray⟩)/\W.cell? ⟨E,off+j*3+1,none⟩=some (.string ⟨y2.toArray⟩)/\W.cell? ⟨E,off+j*3+2,none⟩=some (.float .f64 y3)) 17 (by kernel_rfl) (m0.o _ fun i _=>rfl) (fun d=>?_);refine q0j 0 d (fun d=>?_);refine q0j 1 d (fun d=>?_);refine q0j 2 d (fun d=>?_);refine q0j 3 d (fun d=>?_);refine q5C 4 d (fun d=>?_);refine q0j 5 d (fun d=>?_);refine q0j 6 d (fun d=>?_);refine q0j 7 d (fun d=>?_);refine q0j 8 d (fun d=>?_);refine q0j 9 d (fun d=>?_);refine q0j 10 d (fun d=>?_);refine q0j 11 d (fun d=>?_);refine q0j 12 d (fun d=>?_);refine q5C 13 d (fun d=>?_);refine q0j 14 d (fun d=>?_);simp only[Act.put,π,ψ,ω];refine q0k (i:=15) (by kernel_rfl) rfl (fun K hK=>?_)
    go_simp
    have a0:Hd (Ext wr (wr.alloc (.cells #[.string ⟨l.toArray⟩,.int .i64 ((n:Int)+(j:Int)),.string ⟨y1.toArray⟩,.string ⟨y2.toArray⟩,.float .f64 y3] 99)).drew):=η ((q0B wr _).drew);refine hK.out _ _ (m0.o _ fun i X=>a0.o.block i (by rcases X with X|X;rw[X];exact Y.o;rw[X];exact h0.o.1)) (fun d=>?_);clear hK K
    try simp only[Act.put,π,ψ,ω]
    refine q0k (i:=16) (by kernel_rfl) rfl (fun K hK=>?_);refine q1I rfl (.tmp 56) (.tmp 67) 22 rfl base 99 _ 5 64 Tryz.underlying22 Tryz.infoTo (by decide) (by decide) (.slice la N lc) N (q2K T) rfl (G0.o _ a0.o) _ 1 1 (toc ⟨l,(n:Int)+(j:Int),⟨y1,y2,y3⟩⟩) rfl rfl (fun h=>by cases h) j0.o (by unfold toc;simp[Value.oneCell']) (by unfold maxLen;omega) (by omega) (by have:=g0.o;simp;omega) ?_;intro v3 x2 x r V;obtain⟨a3,k3,rfl⟩:=q0E x;obtain⟨t1,t2⟩:=O.o.told (t:=⟨l,(n:Int)+(j:Int),⟨y1,y2,y3⟩⟩) (Wd:=wr.drew) (lit:=(.cells #[.string ⟨l.toArray⟩,.int .i64 ((n:Int)+(j:Int)),.string ⟨y1.toArray⟩,.string ⟨y2.toArray⟩,.float .f64 y3] 99)) i0.o rfl ⟨rfl,rfl,rfl⟩ (by rw[HN.o];exact x) r V;have HF:=η t1;have w0:=t2 mb Y.o D0.o;have K0:=t2 E h0.o.1 h0.o.2;have v0:=η (m0.o x2 fun i X=>by rcases X with X|X<;>rw[X]<;>assumption);have f8:=(World.frozen?_of_block (a:=⟨mb,0,none⟩) w0).trans f0;clear x r V t1 t2 w0 K0;refine hK.out _ _ v0.o (fun d=>?_);clear hK K
    try simp only[Act.put,π,ψ,ω]
    refine q2L (by kernel_rfl) ?_
    try simp only[List.drop_succ_cons,List.drop_zero]
    clear d;obtain⟨d0,_,_,_⟩:=v0.o;go_wp2_with fail
    go_roundw
    case rel=>
     refine⟨j+1,.slice a3 (N+1) k3,by go_num,by omega,?_⟩;rw[H0.o];exact HF.o
    case measure=>simp[intOf];omega
   ·obtain rfl:j=k:=by omega
    have X0:decide ((j:Int)<(j:Int))=false:=ε (by omega);have y0:tos bs++q5B l n (L.take j)=tos (bs++[⟨l,n,L⟩]):=by
     rw[Δ (by omega),q3G,q7g];rfl
    rw[y0] at hm;obtain⟨ma,mc,rfl⟩:=q0E hm.mo.rowM;obtain⟨su,Q⟩:=hm.mo.blk;have k1:=Q.cell 1;have f1:=Q.free 1;have O:=η hm;have F0:=η hm.mo.rowM;have i0:Hd (mb<w.heap.size):=η (by obtain⟨_,h⟩:=HM.o.blk;exact h.lt);have g0:Hd (base<=wr.heap.size):=η (by have:=Q.lt;omega);have j0:=η (Rd.lit wr #[.int .i64 (j:Int)] 3);have Y:=η Q.lt;clear hm Q y0
    go_wp2_with (at_builtin;refine q0I rfl _ _ 57 rfl base 3 _ 1 8 Tryz.underlying57 Tryz.infoI (by decide) (by decide) _ ms.length ms rfl (q0G F0.o (q0B _ _)) _ 1 1 [.int .i64 (j:Int)] rfl rfl (fun h=>by cases h) j0.o (by simp[Value.oneCell']) (by unfold maxLen;omega) (by omega) (by have:=g0.o;simp;omega) ?_;intro v3 w8 x r V;obtain⟨a3,k3,rfl⟩:=q0E x;have HF:=η (O.o.many i0.o x r V);have h8:=HF.o.2.2.2.2.1 mb Y.o O.o.mo.apart.2.1;have i1:=(World.cell?_of_block (a:=⟨mb,1,none⟩) h8).trans k1;have U0:=(World.frozen?_of_block (a:=⟨mb,1,none⟩) h8).trans f1;clear x r V h8)
    go_ret2;obtain⟨g1,g2,g3,g4,_,g6⟩:=HF.o;exact⟨_,_,_,_,(n:Int),0,rfl,g1,by simp,g2,g3,g4,.inr ⟨I.o,by rw[t0.o],rfl,by rw[t0.o]⟩,g6⟩
end
section
open Go.RowKit Go.Maps
def slE(v:Value):Option (DataW Unit×List MemPlace):=
 match v with
 | .slice none 0 0=>some (.nil,[])
 | .slice (some ⟨b,0,none⟩) n c=>some (.slice [.lit (.int .i64 b),.lit (.int .i64 n),.lit (.int .i64 c)] [],[])
 |_=>none
theorem z9q(b n c:Nat):slE (.slice (some ⟨b,0,none⟩) n c)=some (.slice [.lit (.int .i64 b),.lit (.int .i64 n),.lit (.int .i64 c)] [],[]):=rfl
theorem z4q :slE (.slice none 0 0)=some (.nil,[]):=rfl
theorem y3u{w:World}{B:Nat}{n:Nat}{v:Value}(h:w.ownsRow B e sz v n xs): ∃d,slE v=some (d,[]):=by
 rcases h.2 with⟨rfl,_⟩|⟨g,cap,b,rfl,_⟩
 ·exact⟨_,z4q⟩
 ·exact⟨_,z9q _ _ _⟩
theorem y3t{w:World}{B:Nat}{n:Nat}{v u:Value}(h:w.ownsRow B e sz v n xs){d:DataW Unit}{ps j:List MemPlace}(h1:slE v=some (d,ps))(h2:slE u=some (d,j)):u=v:=by
 unfold slE at h2
 split at h2
 ·rcases h.2 with⟨rfl,_⟩|⟨g,cap,i,rfl,_⟩
  ·rfl
  ·rw[z9q] at h1;cases h1;cases h2
 ·rcases h.2 with⟨rfl,_⟩|⟨g,cap,i,rfl,_⟩
  ·rw[z4q] at h1;cases h1;cases h2
  ·rw[z9q] at h1;cases h1
   simp only[Option.some.injEq,Prod.mk.injEq,DataW.slice.injEq,List.cons.injEq,DataW.lit.injEq,Lit.int.injEq,true_and,and_true] at h2;obtain⟨⟨a,b,c⟩,_⟩:=h2;rw[show _=g from Int.ofNat_inj.1 a,show _=n from Int.ofNat_inj.1 b,show _=cap from Int.ofNat_inj.1 c]
 ·cases h2
theorem y5o(w:World):(zeroValue 22).run Tryz.prog w= .ok (.slice none 0 0) w:=by kernel_rfl
structure OwG(W:World)(base gm n:Nat)(L:List To)(G:List UInt8->Value):Prop where
 map: ∃D:DataW Unit,W.ownsMap Tryz.prog 9 slE gm n D/\ ∀s,slE (G s)=some (D.atKey (.string s) .nil,[])
 row: ∀s,W.ownsRow base 99 5 (G s) (q5E L s).length (q2K (q5E L s))
 apart: ∀s s' i,s≠s'->(G s).ownBlock=some i->(G s').ownBlock≠some i
variable {W W1 W2:World}{base gm n:Nat}{L:List To}{G:List UInt8->Value}
theorem OwG.made(W:World)(base:Nat):OwG (W.alloc (.map #[] 0)) base W.heap.size 0 [] (fun _=> .slice none 0 0):=
 ⟨⟨_,World.ownsMap_made _ _ _ _,fun s=>by simp[DataW.atKey,slE]⟩,fun s=>⟨rfl,.inl ⟨rfl,rfl⟩⟩,fun s b i _ h=>by cases h⟩
theorem OwG.lt(h:OwG W base gm n L G):gm<W.heap.size:=by
 obtain⟨D,h1,_⟩:=h.map;exact h1.lt
theorem OwG.ne(h:OwG W base gm n L G)(s:List UInt8):(G s).ownBlock≠some gm:=by
 obtain⟨D,h1,_⟩:=h.map;exact q6J h1 (Own.of_row (h.row s))
theorem OwG.ne' (h:OwG W base gm n L G){v:Value}{B:Nat}(o:W.ownsRow B e sz v k xs):v.ownBlock≠some gm:=by
 obtain⟨D,h1,_⟩:=h.map;exact q6J h1 (Own.of_row o)
theorem OwG.same(h:OwG W base gm n L G)(k: ∀i,(i=gm\/ ∃s,(G s).ownBlock=some i)->W1.heap[i]? =W.heap[i]?):OwG W1 base gm n L G:=by
 obtain⟨D,h1,h2⟩:=h.map;exact⟨⟨D,q1e h1 (k gm (.inl rfl)),h2⟩,fun s=>q0L (h.row s) fun i b=>k i (.inr ⟨s,b⟩),h.apart⟩
theorem OwG.ext(h:OwG W base gm n L G)(k:Ext W W1):OwG W1 base gm n L G:=
 h.same fun i b=>k.block i (by rcases b with rfl|⟨s,b⟩;exact h.lt;exact(q0Q (h.row s) i b).2)
theorem OwG.look(h:OwG W base gm n L G){s:List UInt8}(b:s.length<=9223372036854775807):(Instr.lookup 101 (.map (some gm)) (.string ⟨s.toArray⟩) false).run Tryz.prog W= .ok (G s) W:=by
 obtain⟨D,h1,h2⟩:=h.map;obtain⟨v,ps,k1,d⟩:=h1.lookup z8r Tryz.underlying101 (y5o W) z4q (z2t s b);rw[k1,y3t (h.row s) (h2 s) d]
theorem OwG.put(h:OwG W base gm n L G){v:Value}{d:DataW Unit}(Q:slE v=some (d,[]))(J:W1.ownsRow base 99 5 v ((q5E L t.s).length+1) (q2K (q5E L t.s)++toc t))(F:W.grownBy W1 (G t.s).ownBlock)
  (b:v.ownBlock=(G t.s).ownBlock\/v.ownBlock=some W.heap.size){D:DataW Unit}(N:W.ownsMap Tryz.prog 9 slE gm n D)(h2: ∀s,slE (G s)=some (D.atKey (.string s) .nil,[]))(hm:W2.ownsMap Tryz.prog 9 slE gm (n+1) (D.put (.string t.s) d))(o:W1.grownBy W2 (some gm)):
  OwG W2 base gm (n+1) (L++[t]) (fun x=>if x=t.s then v else G x):=by
 have O: ∀x,x≠t.s-> ∀i,(G x).ownBlock=some i->W1.heap[i]? =W.heap[i]? :=fun x R i j=>F.block i (q0Q (h.row x) i j).2 fun e=>h.apart x t.s i R j e.symm
 have r:W1.ownsMap Tryz.prog 9 slE gm n D:=q1e N (F.block gm h.lt fun e=>h.ne t.s e.symm);have I:v.ownBlock≠some gm:=q6J r (Own.of_row J);refine⟨⟨_,hm,fun s=>?_⟩,fun s=>?_,fun s E i y j=>?_⟩
 ·by_cases e:s=t.s
  ·subst e
   rw[ξ rfl,atKey_put_same (World.ownsMap.isMap r) (k:= .string t.s) (show WideAt.IsKeyLit (.string t.s) from trivial),Q]
  ·rw[κ e,atKey_put_other (by intro h;injection h with h;exact e h),h2 s]
 ·by_cases e:s=t.s
  ·subst e
   rw[ξ rfl,q7C,ξ rfl,θ,q7K];exact q0L J fun i j=>o.block i (q0Q J i j).2 fun e=>I (j.trans e)
  ·rw[κ e,q7C,κ (fun h=>e h.symm)]
   refine q0L (h.row s) fun i j=>?_
   exact(o.block i (Ψ (q0Q (h.row s) i j).2 F.size) fun e=>h.ne s (j.trans e)).trans (O s e i j)
 ·by_cases e:s=t.s
  ·have e':E≠t.s:=fun h=>y (e.trans h.symm)
   rw[ξ e] at j;rw[κ e'];intro l;rcases b with b|b
   ·exact h.apart t.s E i (fun h=>e' h.symm) (b▸j) l
   ·rw[b] at j;cases j
    exact Nat.lt_irrefl _ (q0Q (h.row E) _ l).2
  ·rw [κ e] at j
   by_cases e':E=t.s
   ·rw [ξ e']
    intro l;rcases b with b|b
    ·exact h.apart s t.s i e j (b▸l)
    ·rw[b] at l;cases l
     exact Nat.lt_irrefl _ (q0Q (h.row s) _ j).2
   ·rw[κ e']
    exact h.apart s E i y j
end
section
open Go.RowKit Go.Maps
theorem z9l{w:World}{B size n:Nat}{cs:List Value}(h:w.ownsRow B e size (.slice va n' vc) n cs):va=none->vc=0:=fun e=>by
 subst e;rcases h.2 with⟨h1,h2⟩|⟨g,cap,b,h1,_⟩
 ·cases h1;rfl
 ·cases h1
theorem z9m{w:World}{B size n:Nat}{cs:List Value}(h:w.ownsRow B e size (.slice va n' vc) n cs):Rd w va cs:=by
 obtain⟨ao,cap,h1,_,_,_,h4⟩:=(Own.of_row h).rd
 cases h1;exact h4
structure Fnd(W1 W:World)(gm n:Nat)(L:List To)(G:List UInt8->Value)(v:Value)(M:List Fi):Prop where
 row:W.ownsRow W1.heap.size 38 3 v M.length (q5c M)
 own:OwG W W1.heap.size gm n L G
 apart: ∀s i,(G s).ownBlock=some i->v.ownBlock≠some i
 ext:Ext W1 W
section
variable {W1 W W2:World}{gm n:Nat}{L:List To}{G:List UInt8->Value}{v:Value}{M:List Fi}
theorem Fnd.grow(h:Fnd W1 W gm n L G v M)(k:Ext W W2):Fnd W1 W2 gm n L G v M:=⟨q0G h.row k,h.own.ext k,h.apart,h.ext.trans k⟩
theorem Fnd.size(h:Fnd W1 W gm n L G v M):W1.heap.size<=W.heap.size:=h.ext.size
theorem Fnd.more(h:Fnd W1 W gm n L G v M){j:List Fi}(r:W2.ownsRow W1.heap.size 38 3 v2 j.length (q5c j))(l:W.grownBy W2 v.ownBlock)(b:v2.ownBlock=v.ownBlock\/v2.ownBlock=some W.heap.size):Fnd W1 W2 gm n L G v2 j:=by
 refine⟨r,h.own.same fun i d=>?_,fun s i d=>?_,Below.grown h.ext l h.ext.size fun k o=>(q0Q h.row k o).1⟩
 ·refine l.block i ?_ ?_
  ·rcases d with rfl|⟨s,d⟩;exact h.own.lt;exact(q0Q (h.own.row s) i d).2
  ·rcases d with rfl|⟨s,d⟩
   ·exact fun e=>h.own.ne' h.row e.symm
   ·exact fun e=>h.apart s i d e.symm
 ·rcases b with b|b
  ·rw[b];exact h.apart s i d
  ·rw[b];intro e;cases e
   exact Nat.lt_irrefl _ (q0Q (h.own.row s) _ d).2
end
section
variable {W1 W Wa Wb:World}{gm n:Nat}{L:List To}{G:List UInt8->Value}{v:Value}{M:List Fi}
theorem Fnd.put(h:Fnd W1 W gm n L G v M)(y:W1.heap.size<=gm){u:Value}{d D:DataW Unit}(O:slE u=some (d,[]))(N:Wa.ownsRow W1.heap.size 99 5 u ((q5E L t.s).length+1) (q2K (q5E L t.s)++toc t))(o:W.grownBy Wa (G t.s).ownBlock)
  (j:u.ownBlock=(G t.s).ownBlock\/u.ownBlock=some W.heap.size)(J:W.ownsMap Tryz.prog 9 slE gm n D)(r: ∀s,slE (G s)=some (D.atKey (.string s) .nil,[]))(hm:Wb.ownsMap Tryz.prog 9 slE gm (n+1) (D.put (.string t.s) d))(l:Wa.grownBy Wb (some gm)):
  Fnd W1 Wb gm (n+1) (L++[t]) (fun x=>if x=t.s then u else G x) v M:=by
 have F: ∀i,v.ownBlock=some i->Wa.heap[i]? =W.heap[i]? :=fun i b=>o.block i (q0Q h.row i b).2 fun e=>h.apart t.s i e.symm b
 have I: ∀i,v.ownBlock=some i->Wb.heap[i]? =Wa.heap[i]? :=fun i b=>l.block i (Ψ (q0Q h.row i b).2 o.size) fun e=>h.own.ne' h.row (b.trans e)
 refine⟨q0L h.row fun i b=>(I i b).trans (F i b),h.own.put O N o j J r hm l,fun s i b=>?_,?_⟩
 ·by_cases e:s=t.s
  ·rw [ξ e] at b
   rcases j with j|j
   ·exact h.apart t.s i (j▸b)
   ·rw[j] at b;cases b
    intro Q;exact Nat.lt_irrefl _ (q0Q h.row _ Q).2
  ·rw[κ e] at b
   exact h.apart s i b
 ·exact Below.grown (Below.grown h.ext o h.ext.size fun k E=>(q0Q (h.own.row t.s) k E).1) l (Ω h.ext.size o.size) fun k E=>by cases E;exact y
end
theorem q8H{so:Option Addr}{vn sn sc:Nat}{L:List To}{S:List Smm}(w:World)(hv:Tos w va vn vc L)(hs:Sms w so sn sc S)(hl: ∀t∈L,t.s.length<=9223372036854775807)(hS: ∀x∈S,x.nm.length<=9223372036854775807)(hn:vn<=100000)(hm:sn<=100000):
  Calls Tryz.prog 10 #[.agg #[.slice va vn vc,.slice so sn sc]] w fun e w'=> ∃v,e= .returned v/\w'.ownsRow w.heap.size 38 3 v (q4t L S).length (q5c (q4t L S))/\Ext w w':=by
 have H1:=q0B w (.cells #[.slice va vn vc,.slice so sn sc] 25);have V0:=Blk.new w 25 #[.slice va vn vc,.slice so sn sc];obtain⟨g,hg⟩: ∃g,w.heap.size=g:=⟨_,rfl⟩
 have HG:=η hg;rw[hg] at V0;have r0:=η H1;have HB:=η V0;have HV:=η hv;have HS:=η hs;have Q1:=η hl;have Y1:=η hS;have b1:=hv.fits;have b2:=hv.bound;have b3:=hs.fits;have b4:=hs.bound;have q0:=η hv.len;have x0:=η hs.len;obtain⟨W1,k2⟩: ∃W1,w.alloc (.cells #[.slice va vn vc,.slice so sn sc] 25)=W1:=⟨_,rfl⟩
 simp only[k2] at r0 HB;have C1:=HB.o.ext (q0B W1 (.map #[] 0));have k0:=q0a hg (C1.cell 0);have x2:=@run_makeMap Tryz.prog;have Z:Fnd W1 (W1.alloc (.map #[] 0)) W1.heap.size 0 [] (fun _=> .slice none 0 0) (.slice none 0 0) []:=⟨⟨rfl,.inl ⟨rfl,rfl⟩⟩,OwG.made W1 _,(fun s i h=>by cases h),q0B _ _⟩
 obtain⟨gm,W0⟩: ∃gm,W1.heap.size=gm:=⟨_,rfl⟩
 rw[W0] at Z;have Z1:=η Z;have H0:=η W0;have u1:=η (fun (nm:List UInt8) (m:Nat) (W:World) (h:Ext W1 W) (hm:m<=sn)=>y5X (va:=va) (vn:=vn) (vc:=vc) nm m W ((HS.o.ext r0.o).ext h) hm);clear H1 V0 hv hs hl hS hg C1 Z W0;go_enter Tryz.func10,Tryz.ntmps10;go_wp2_with fail
 go_loopw [2,13] (fun v i W=> ∃(k:Nat) (a:Option Addr) (O c:Nat) (G:List UInt8->Value),v= .slice a O c/\i= .int .i64 (k:Int)/\k<=vn/\Hd ((q3c (S.map Smm.nm) L k).length=O)/\Hd (Fnd W1 W gm k (L.take k) G (.slice a O c) (q3c (S.map Smm.nm) L k))) (fun _ i _=>vn-(intOf i).toNat)
 case atStart=>exact⟨0,none,0,0,_,rfl,rfl,υ _,η rfl,Z1⟩
 case round =>
  obtain⟨k,oa,O,oc,G,rfl,rfl,hk,l,X⟩:=hrel;by_cases u0:k<vn
  ·have hd :decide ((k:Int)<(vn:Int))=true:=ζ (by omega)
   have n2:(k:Int)<(vn:Int):=by omega
   have q1:IntKind.i64.wrap ((k:Int)+1)=(k:Int)+1:=by rw[ν];omega
   have hF:=X.o;have j0:=q4G (A:=L) (i:=k) (d:=to0) (by rw[q0.o];exact u0);have Y:=Q1.o _ j0;obtain⟨bb,off,rfl,c0,c1,c2,c3,c4⟩:=(HV.o.ext (r0.o.trans hF.ext)).at u0;have M0:L.take (k+1)=L.take k++[L.getD k to0]:=by
    have E1:k<L.length:=by rw[q0.o];exact u0
    rw[List.take_succ_eq_append_getElem E1,δ,γ E1];rfl
   have Q:q3c (S.map Smm.nm) L (k+1)=q3c (S.map Smm.nm) L k++z0O (S.map Smm.nm) (L.take k) (L.getD k to0):=rfl;have L0:(L.take k).length=k:=by rw[Θ,q0.o];omega
   have C0:=q7R (S.map Smm.nm) L k;obtain⟨t,F1⟩: ∃t,L.getD k to0=t:=⟨_,rfl⟩
   rw[F1] at Y c0 c1 c2 c3 c4 M0 Q;obtain⟨P,x1⟩: ∃P,L.take k=P:=⟨_,rfl⟩
   rw[x1] at M0 Q L0 hF;obtain⟨M,z0⟩: ∃M,q3c (S.map Smm.nm) L k=M:=⟨_,rfl⟩
   rw[z0] at Q hF l C0;obtain⟨nm,tv,⟨ty,da,we⟩⟩:=t;simp only at Y c0 c1 c2 c3 c4;obtain⟨ga,gc,i0⟩:=q0E (hF.own.row nm);obtain⟨cn,f0⟩: ∃cn,(q5E P nm).length=cn:=⟨_,rfl⟩
   rw[f0] at i0;have R:=q0B wr (.cells #[.string ⟨nm.toArray⟩,.int .i64 tv,.string ⟨ty.toArray⟩,.string ⟨da.toArray⟩,.float .f64 we] 99);have I:=Blk.new wr 99 #[.string ⟨nm.toArray⟩,.int .i64 tv,.string ⟨ty.toArray⟩,.string ⟨da.toArray⟩,.float .f64 we];obtain⟨WT,s0⟩: ∃WT,wr.alloc (.cells #[.string ⟨nm.toArray⟩,.int .i64 tv,.string ⟨ty.toArray⟩,.string ⟨da.toArray⟩,.float .f64 we] 99)=WT:=⟨_,rfl⟩
   rw[s0] at R I;obtain⟨bT,J⟩: ∃bT,wr.heap.size=bT:=⟨_,rfl⟩
   rw[J] at I;have y:=η J;have P1:Hd (∀i,(Value.slice ga cn gc).ownBlock=some i->i<bT):=η fun i e=>by rw[<-J];exact(q0Q (hF.own.row nm) i (by rw[i0];exact e)).2
   have t0:=(hF.own.ext R).look Y;rw[i0,<-H0.o] at t0;have o0:=η (hF.grow R);have A1:bT∉(Value.slice oa O oc).ownBlock:=fun e=>by have:=(q0Q hF.row bT e).2;omega
   have F0:=η A1;have E:=η I;have a0:=q0a J (I.cell 0);have D0:=q0a J (I.cell 1);obtain⟨z1,Y0⟩: ∃z,decide (tv≠(y0L P nm:Int))=z:=⟨_,rfl⟩
   have w2:(tv !=(cn:Int))=z1:=by
    rw[<-Y0,z1T,f0];by_cases h:tv=(cn:Int)<;>simp[h]
   obtain⟨z2,Z0⟩: ∃z,decide (nm∈S.map Smm.nm)=z:=⟨_,rfl⟩
   have Z:z0O (S.map Smm.nm) P ⟨nm,tv,⟨ty,da,we⟩⟩=one? z1 ⟨1,nm,(k:Int)⟩++one? (decide (cn=0)&&!z2) ⟨2,nm,(k:Int)⟩:=by
    unfold z0O;rw[Y0,L0,z1T,f0,<-Z0,<-decide_not]
   rw[Z] at Q;have U1:=η L0;have v0:=η Q;have X1:=η M0;have l0:=η i0;have G0:=η f0;have Q0:=η Y;have j2:=η Z0;have K0:O<=2*k:=by rw[<-l.o];exact C0
   clear hF j0 Y M0 Q L0 C0 F1 x1 z0 i0 f0 R I J A1 Y0 Z0 Z;have A2:=q2T
   go_upto_if 26 with fail
   go_cut [2,13] from 13 to 61 (fun s E0 W=>E0= .int .i64 (k:Int)/\ ∃(a:Option Addr) (O c:Nat) (M2:List Fi),s= .slice a O c/\O<=2*k+1/\Hd (M2=M++one? z1 ⟨1,nm,(k:Int)⟩)/\Hd (M2.length=O)/\Hd (Fnd W1 W gm k P G (.slice a O c) M2)/\Hd (Blk W bT 99 #[.string ⟨nm.toArray⟩,.int .i64 tv,.string ⟨ty.toArray⟩,.string ⟨da.toArray⟩,.float .f64 we]))
   case first=>
    cases z1 with
    | false=>
     go_wp2_with fail
     go_meet
     case rel=>exact⟨rfl,oa,O,oc,M,rfl,by omega,η (by simp[one?]),l,o0,E⟩
    | true=>
     clear s0;have m0:=η (show Rd (WT.alloc (.cells #[.int .i64 1,.string ⟨nm.toArray⟩,.int .i64 (k:Int)] 38)) (some ⟨WT.heap.size,0,none⟩) (fic ⟨1,nm,(k:Int)⟩) from Rd.lit WT #[.int .i64 1,.string ⟨nm.toArray⟩,.int .i64 (k:Int)] 38);have U:=η (o0.o.grow (q0B WT (.cells #[.int .i64 1,.string ⟨nm.toArray⟩,.int .i64 (k:Int)] 38)));have d0:=η U.o.size
     go_wp2_with (at_builtin;refine q0I rfl _ _ 28 rfl W1.heap.size 38 _ 3 32 Tryz.underlying28 Tryz.infoFi (by decide) (by decide) _ M.length (q5c M) rfl U.o.row _ 1 1 (fic ⟨1,nm,(k:Int)⟩) rfl rfl (fun h=>by cases h) m0.o (by unfold fic;simp[Value.oneCell']) (by unfold maxLen;rw[l.o];omega) (by rw[l.o];omega) d0.o ?_;intro v2 w8 j b N;rw[l.o] at j;obtain⟨a2,c2,rfl⟩:=q0E j;have p0:=η b;have b0:Hd (Fnd W1 w8 gm k P G (.slice a2 (O+1) c2) (M++[⟨1,nm,(k:Int)⟩])):=η (U.o.more (by rw[θ,l.o,q5N];exact j) b N);clear j b N)
     go_meet
     case rel=>exact⟨rfl,_,_,_,M++[⟨1,nm,(k:Int)⟩],rfl,by omega,η (by simp[one?]),η (by rw[θ,l.o];rfl),b0,η ((E.o.ext (q0B _ _)).same (p0.o.block bT (Ψ E.o.lt (q0B _ _).size) fun e=>F0.o e.symm))⟩
   case rest=>
    clear t0 a0 D0 o0 E F0 l X K0 s0;obtain⟨rfl,K1,f1,L1,M1,rfl,K0,R1,l,X,E⟩:=hcut;have a0:=q0a y.o (E.o.cell 0);have V:=HB.o.ext X.o.ext;have g0:=q0a HG.o (V.cell 0);have g1:=q0a HG.o (V.cell 1);have n0:=u1.o nm sn wc X.o.ext (ι _);rw[Δ (by rw[x0.o];exact ι _),j2.o] at n0;have y0:=η n0;clear V n0
    go_upto_region 8 with fail
    go_cut [2,13,46] from 13 to 61 (fun s E0 s2 W=>E0= .int .i64 (k:Int)/\s= .slice K1 f1 L1/\s2= .bool (decide (cn=0)&&!z2)/\Hd (Ext wc W))
    case first=>
     by_cases h0:cn=0
     ·have e0:((cn:Int)==0)=true:=beq_iff_eq.2 (by omega)
      have N0:Hd (decide (cn=0)=true):=η (ζ h0);clear h0;go_wp2_with fail;refine y0.o.mono ?_;rintro e w5 ⟨rfl,hx⟩;have i2:=η hx;clear hx;go_wp2_with fail
      go_meet
      case rel=>exact⟨rfl,rfl,by rw[N0.o];simp,i2⟩
     ·have e0:((cn:Int)==0)=false:=beq_eq_false_iff_ne.2 (by omega)
      have N0:Hd (decide (cn=0)=false):=η (ε h0);clear h0;go_wp2_with fail
      go_meet
      case rel=>exact⟨rfl,rfl,by rw[N0.o];rfl,η (Ext.refl _)⟩
    case rest=>
     have o1:=X;have i1:=E;clear a0 g0 g1 y0;obtain⟨rfl,rfl,rfl,S0⟩:=hcut;have X:=η (o1.o.grow S0.o);have E:=η (i1.o.ext S0.o);clear o1 i1 S0;have a0:=q0a y.o (E.o.cell 0);obtain⟨z3,J1⟩: ∃z,(decide (cn=0)&&!z2)=z:=⟨_,rfl⟩
     rw[J1] at v0⊢;clear J1
     go_upto_if 46 with fail
     go_cut [2,13] from 13 to 61 (fun s E0 W=>E0= .int .i64 (k:Int)/\ ∃(a:Option Addr) (O c:Nat) (M2:List Fi),s= .slice a O c/\O<=2*k+2/\Hd (M2=M1++one? z3 ⟨2,nm,(k:Int)⟩)/\Hd (M2.length=O)/\Hd (Fnd W1 W gm k P G (.slice a O c) M2)/\Hd (Blk W bT 99 #[.string ⟨nm.toArray⟩,.int .i64 tv,.string ⟨ty.toArray⟩,.string ⟨da.toArray⟩,.float .f64 we]))
     case first=>
      cases z3 with
      | false=>
       go_wp2_with fail
       go_meet
       case rel=>exact⟨rfl,K1,f1,L1,M1,rfl,by omega,η (by simp[one?]),l,X,E⟩
      | true=>
       have F0:=η (E.o.apart X.o.row (by decide));have m0:=η (show Rd (wc.alloc (.cells #[.int .i64 2,.string ⟨nm.toArray⟩,.int .i64 (k:Int)] 38)) (some ⟨wc.heap.size,0,none⟩) (fic ⟨2,nm,(k:Int)⟩) from Rd.lit wc #[.int .i64 2,.string ⟨nm.toArray⟩,.int .i64 (k:Int)] 38);have U:=η (X.o.grow (q0B wc (.cells #[.int .i64 2,.string ⟨nm.toArray⟩,.int .i64 (k:Int)] 38)));have d0:=η U.o.size
       go_wp2_with (at_builtin;refine q0I rfl _ _ 28 rfl W1.heap.size 38 _ 3 32 Tryz.underlying28 Tryz.infoFi (by decide) (by decide) _ M1.length (q5c M1) rfl U.o.row _ 1 1 (fic ⟨2,nm,(k:Int)⟩) rfl rfl (fun h=>by cases h) m0.o (by unfold fic;simp[Value.oneCell']) (by unfold maxLen;rw[l.o];omega) (by rw[l.o];omega) d0.o ?_;intro v2 w8 j b N;rw[l.o] at j;obtain⟨a2,c2,rfl⟩:=q0E j;have p0:=η b;have b0:Hd (Fnd W1 w8 gm k P G (.slice a2 (f1+1) c2) (M1++[⟨2,nm,(k:Int)⟩])):=η (U.o.more (by rw[θ,l.o,q5N];exact j) b N);clear j b N)
       go_meet
       case rel=>exact⟨rfl,_,_,_,M1++[⟨2,nm,(k:Int)⟩],rfl,by omega,η (by simp[one?]),η (by rw[θ,l.o];rfl),b0,η ((E.o.ext (q0B _ _)).same (p0.o.block bT (Ψ E.o.lt (q0B _ _).size) fun e=>F0.o e.symm))⟩
     case rest=>
      clear a0 X E l K0;obtain⟨rfl,q2,p2,r2,M2,rfl,K0,S1,l,X,E⟩:=hcut;obtain⟨D,hD,w1⟩:=(X.o.grow (Ext.refl wc).drew).own.map;have HD:=η hD;have O1:=η w1;have I:=E.o;have a0:=q0a y.o (I.cell 0);have D0:=q0a y.o (I.cell 1);have a1:=q0a y.o (I.cell 2);have d1:=q0a y.o (I.cell 3);have o2:=q0a y.o (I.cell 4);have n1:=η (X.o.grow (Ext.refl wc).drew);obtain⟨WD,U0⟩: ∃WD,wc.drew=WD:=⟨_,rfl⟩
      rw[U0] at HD n1;have v1:=HD.o.alloc (.cells #[.string ⟨nm.toArray⟩,.int .i64 tv,.string ⟨ty.toArray⟩,.string ⟨da.toArray⟩,.float .f64 we] 99);have I0:=n1.o.grow (q0B WD (.cells #[.string ⟨nm.toArray⟩,.int .i64 tv,.string ⟨ty.toArray⟩,.string ⟨da.toArray⟩,.float .f64 we] 99));have T0:=I0.own.row nm;rw[l0.o,G0.o] at T0;have j1:=η v1;have O0:=η I0;have V1:=η T0;have m0:=η (show Rd (WD.alloc (.cells #[.string ⟨nm.toArray⟩,.int .i64 tv,.string ⟨ty.toArray⟩,.string ⟨da.toArray⟩,.float .f64 we] 99)) (some ⟨WD.heap.size,0,none⟩) (toc ⟨nm,tv,⟨ty,da,we⟩⟩) from Rd.lit WD #[.string ⟨nm.toArray⟩,.int .i64 tv,.string ⟨ty.toArray⟩,.string ⟨da.toArray⟩,.float .f64 we] 99);have d0:=η I0.size;have p1:=η (z2t nm Q0.o);have u2:cn<=k:=by
       rw[<-G0.o];refine Ω (List.length_filter_le _ _) ?_;rw[U1.o];exact ι _
      have y1: ∀W,Ext WD W->(W.cell? ⟨wr.heap.size,0,none⟩=some (.string ⟨nm.toArray⟩)/\W.cell? ⟨wr.heap.size,1,none⟩=some (.int .i64 tv)/\W.cell? ⟨wr.heap.size,2,none⟩=some (.string ⟨ty.toArray⟩)/\W.cell? ⟨wr.heap.size,3,none⟩=some (.string ⟨da.toArray⟩)/\W.cell? ⟨wr.heap.size,4,none⟩=some (.float .f64 we)):=fun W h=>by
       have hb:=(E.o.drew.same (show WD.heap[bT]? =wc.drew.heap[bT]? by rw[U0])).ext h;rw[y.o];exact⟨hb.cell 0,hb.cell 1,hb.cell 2,hb.cell 3,hb.cell 4⟩
      have f2:=η y1;clear I hD w1 v1 I0 T0 y1;go_wp2_with fail;refine q1o (fun W:World=>(W.cell? ⟨wr.heap.size,0,none⟩=some (.string ⟨nm.toArray⟩)/\W.cell? ⟨wr.heap.size,1,none⟩=some (.int .i64 tv)/\W.cell? ⟨wr.heap.size,2,none⟩=some (.string ⟨ty.toArray⟩)/\W.cell? ⟨wr.heap.size,3,none⟩=some (.string ⟨da.toArray⟩)/\W.cell? ⟨wr.heap.size,4,none⟩=some (.float .f64 we))) 7 (by kernel_rfl) ⟨a0,D0,a1,d1,o2⟩ (fun r=>?_);refine q0j 0 r (fun r=>?_);refine q0j 1 r (fun r=>?_);refine q5C 2 r (fun r=>?_);refine q0j 3 r (fun r=>?_);refine q5C 4 r (fun r=>?_);simp only[Act.put,π,ψ,ω];refine q0k (i:=5) (by kernel_rfl) rfl (fun K hK=>?_)
      go_simp
      refine hK.out _ _ (f2.o _ (q0B WD _)) (fun r=>?_);clear hK K
      try simp only[Act.put,π,ψ,ω]
      refine q0k (i:=6) (by kernel_rfl) rfl (fun K hK=>?_);refine q1I rfl (.tmp 57) (.tmp 59) 22 rfl W1.heap.size 99 _ 5 64 Tryz.underlying22 Tryz.infoTo (by decide) (by decide) _ cn (q2K (q5E P nm)) rfl V1.o _ 1 1 (toc ⟨nm,tv,⟨ty,da,we⟩⟩) rfl rfl (fun h=>by cases h) m0.o (by unfold toc;simp[Value.oneCell']) (by unfold maxLen;omega) (by omega) d0.o ?_;intro v2 w8 j b N;obtain⟨d,B1⟩:=y3u j;obtain⟨a2,c2,rfl⟩:=q0E j;have b0:=η j;have p0:=η b;have N1:=η N;have k1:=η B1;have T1:=η (q1e j1.o (b.block gm O0.o.own.lt fun e=>by have:=O0.o.own.ne nm;rw[l0.o] at this;exact this e.symm))
      have g2:Hd (w8.cell? ⟨wr.heap.size,0,none⟩=some (.string ⟨nm.toArray⟩)/\w8.cell? ⟨wr.heap.size,1,none⟩=some (.int .i64 tv)/\w8.cell? ⟨wr.heap.size,2,none⟩=some (.string ⟨ty.toArray⟩)/\w8.cell? ⟨wr.heap.size,3,none⟩=some (.string ⟨da.toArray⟩)/\w8.cell? ⟨wr.heap.size,4,none⟩=some (.float .f64 we)):=η (by
       have hb:=((E.o.drew.same (show WD.heap[bT]? =wc.drew.heap[bT]? by rw[U0])).ext (q0B WD (.cells #[.string ⟨nm.toArray⟩,.int .i64 tv,.string ⟨ty.toArray⟩,.string ⟨da.toArray⟩,.float .f64 we] 99)))
       have A0:=hb.same (b.block bT hb.lt fun e=>Nat.lt_irrefl _ (P1.o bT e.symm));rw[y.o]
       exact⟨A0.cell 0,A0.cell 1,A0.cell 2,A0.cell 3,A0.cell 4⟩)
      clear j b N B1;refine hK.out _ _ g2.o (fun r=>?_);clear hK K
      try simp only[Act.put,π,ψ,ω]
      refine q2L (by kernel_rfl) ?_
      try simp only[List.drop_succ_cons,List.drop_zero]
      clear r
      go_wp2_with (at_mapUpdate;refine wpList_mapUpdate_own _ rfl _ _ _ 101 rfl 9 22 z8r Tryz.underlying101 slE gm k D (by rw[<-H0.o];rfl) T1.o (by unfold maxLen;omega) _ _ (.string nm) rfl rfl p1.o d [] k1.o ?_;intro w9 X0 D1)
      go_roundw
      case measure=>simp[intOf];omega
      case rel=>
       have e1:q3c (S.map Smm.nm) L (k+1)=M2:=by rw[v0.o,S1.o,R1.o,List.append_assoc]
       have hp:=O0.o.put (by rw[H0.o];exact ι _) (t:=⟨nm,tv,⟨ty,da,we⟩⟩) k1.o (by rw[G0.o];exact b0.o) (by rw[l0.o];exact p0.o) (by rw[l0.o];exact N1.o) j1.o O1.o X0 D1;exact⟨k+1,q2,p2,r2,_,rfl,by go_num,by omega,by rw[e1];exact l,by rw[e1,X1.o];exact η hp⟩
  ·have e : vn=k:=by omega
   subst e;have hd:decide ((vn:Int)<(vn:Int))=false:=ε (by omega);have hF:=X.o;rw[Δ (by rw[q0.o];exact ι _)] at hF;have C0:=q7R (S.map Smm.nm) L vn;obtain⟨A,hA⟩: ∃A,q3c (S.map Smm.nm) L vn=A:=⟨_,rfl⟩
   rw[hA] at hF C0 l;have HA:=η hA;have V:=HB.o.ext hF.ext;have g0:=q0a HG.o (V.cell 0);have g1:=q0a HG.o (V.cell 1);have l1:=η hF;have r1:=η l.o;clear hF hA V X;go_wp2_with fail
   go_loopw [2,65] (fun v i W=> ∃(k:Nat) (a:Option Addr) (O c:Nat),v= .slice a O c/\i= .int .i64 (k:Int)/\k<=sn/\Hd ((A++q2Y L S k).length=O)/\Hd (Fnd W1 W gm vn L G (.slice a O c) (A++q2Y L S k))) (fun _ i _=>sn-(intOf i).toNat)
   case atStart=>exact⟨0,oa,O,oc,rfl,rfl,υ _,η (by rw[q2Y,List.append_nil];exact r1.o),η (by rw[q2Y,List.append_nil];exact l1.o)⟩
   case round=>
    clear l1 r1 l g0 g1;obtain⟨k,oa,O,oc,rfl,rfl,hk,l,X⟩:=hrel;by_cases u0:k<sn
    ·have m2:decide ((k:Int)<(sn:Int))=true:=ζ (by omega)
     have n2:(k:Int)<(sn:Int):=by omega
     have q1:IntKind.i64.wrap ((k:Int)+1)=(k:Int)+1:=by rw[ν];omega
     have hF:=X.o;have j0:=q4G (A:=S) (i:=k) (d:=sm0) (by rw[x0.o];exact u0);have Y:=Y1.o _ j0;obtain⟨bb,off,rfl,c0,c1,c2,c3,t1,t2⟩:=(HS.o.ext (r0.o.trans hF.ext)).at u0;have Q:A++q2Y L S (k+1)=(A++q2Y L S k)++z2E L S k:=by rw[q2Y,List.append_assoc]
     have Z:z2E L S k=if (S.getD k sm0).nm∈(S.take k).map Smm.nm then [⟨3,(S.getD k sm0).nm,(k:Int)⟩] else q3E (S.getD k sm0).nm (S.getD k sm0).la (S.getD k sm0).F (S.getD k sm0).B (q5E L (S.getD k sm0).nm):=rfl;have y2:O<=2*vn+3*k:=by
      have:=z0U L S k;rw[<-l.o,θ];omega
     obtain⟨x,I1⟩: ∃x,S.getD k sm0=x:=⟨_,rfl⟩
     rw[I1] at Y c0 c1 c2 c3 t1 t2 Z;rw[Z] at Q;obtain⟨M,z0⟩: ∃M,A++q2Y L S k=M:=⟨_,rfl⟩
     rw[z0] at Q hF l;obtain⟨nm,la,fa,fn,fc,F,ba,bn,bc,B⟩:=x;simp only at Y c0 c1 c2 c3 t1 t2 Q;have j:(q5E L nm).length<=vn:=by
      refine Ω (List.length_filter_le _ _) ?_;rw[q0.o];exact ι _
     obtain⟨ga,gc,i0⟩:=q0E (hF.own.row nm);obtain⟨cn,f0⟩: ∃cn,(q5E L nm).length=cn:=⟨_,rfl⟩
     rw[f0] at i0 j;have R:=q0B wr (.cells #[.string ⟨nm.toArray⟩,.int .i64 la,.slice fa fn fc,.slice ba bn bc] 43);have I:=Blk.new wr 43 #[.string ⟨nm.toArray⟩,.int .i64 la,.slice fa fn fc,.slice ba bn bc];obtain⟨WT,s0⟩: ∃WT,wr.alloc (.cells #[.string ⟨nm.toArray⟩,.int .i64 la,.slice fa fn fc,.slice ba bn bc] 43)=WT:=⟨_,rfl⟩
     rw[s0] at R I;obtain⟨bT,J⟩: ∃bT,wr.heap.size=bT:=⟨_,rfl⟩
     rw[J] at I;have y:=η J;have E:=η I;have o0:=η (hF.grow R);have a0:=q0a J (I.cell 0);have V:=HB.o.ext (hF.ext.trans R);have g0:=q0a HG.o (V.cell 0);have g1:=q0a HG.o (V.cell 1);obtain⟨z,hz⟩: ∃z,decide (nm∈(S.take k).map Smm.nm)=z:=⟨_,rfl⟩
     have n0:=u1.o nm k WT (hF.ext.trans R) (by omega);rw[hz] at n0;have y0:=η n0;have HZ:=η hz;have d2:=η (t1.ext R);have e2:=η (t2.ext R);have v0:=η Q;have l0:=η i0;have G0:=η f0;have Q0:=η Y;clear hF j0 Y Q Z I1 z0 i0 f0 R I J V hz n0 t1 t2 X;go_wp2_with fail;refine y0.o.mono ?_;rintro e w5 ⟨rfl,hx⟩;have w0:=η (o0.o.grow hx);have B0:=E.o.ext hx;have a0:=q0a y.o (B0.cell 0);have D0:=q0a y.o (B0.cell 1);have a1:=q0a y.o (B0.cell 2);have d1:=q0a y.o (B0.cell 3);have t0:=w0.o.own.look Q0.o;rw[l0.o,<-H0.o] at t0;have G1:=(q1n (ao:=ga) (n:=cn) (cp:=gc) (L:=q5E L nm) (by have:=w0.o.own.row nm;rw[l0.o] at this;exact this)).1;have R0:=η (z7m ⟨nm,la,fa,fn,fc,F,ba,bn,bc,B⟩ w5 (d2.o.ext hx) (e2.o.ext hx) G1 (by omega));clear hx B0 G1 y0 o0 E g0 g1 s0
     cases z with
     | true=>
      clear t0 R0;have m0:=η (show Rd (w5.alloc (.cells #[.int .i64 3,.string ⟨nm.toArray⟩,.int .i64 (k:Int)] 38)) (some ⟨w5.heap.size,0,none⟩) (fic ⟨3,nm,(k:Int)⟩) from Rd.lit w5 #[.int .i64 3,.string ⟨nm.toArray⟩,.int .i64 (k:Int)] 38);have U:=η (w0.o.grow (q0B w5 (.cells #[.int .i64 3,.string ⟨nm.toArray⟩,.int .i64 (k:Int)] 38)));have d0:=η U.o.size
      go_wp2_with (at_builtin;refine q0I rfl _ _ 28 rfl W1.heap.size 38 _ 3 32 Tryz.underlying28 Tryz.infoFi (by decide) (by decide) _ M.length (q5c M) rfl U.o.row _ 1 1 (fic ⟨3,nm,(k:Int)⟩) rfl rfl (fun h=>by cases h) m0.o (by unfold fic;simp[Value.oneCell']) (by unfold maxLen;rw[l.o];omega) (by rw[l.o];omega) d0.o ?_;intro v2 w8 j b N;rw[l.o] at j;obtain⟨a2,c2,rfl⟩:=q0E j;have p0:=η b;have b0:Hd (Fnd W1 w8 gm vn L G (.slice a2 (O+1) c2) (M++[⟨3,nm,(k:Int)⟩])):=η (U.o.more (by rw[θ,l.o,q5N];exact j) b N);clear j b N)
      go_roundw
      case measure=>simp[intOf];omega
      case rel=>
       have e1:A++q2Y L S (k+1)=M++[⟨3,nm,(k:Int)⟩]:=by rw[v0.o,ξ (of_decide_eq_true HZ.o)]
       exact⟨k+1,_,_,_,rfl,by go_num,by omega,η (by rw[e1,θ,l.o];rfl),by rw[e1];exact b0⟩
     | false=>
      go_wp2_with fail;refine R0.o.mono ?_;rintro e w6 ⟨v,rfl,hr,hx⟩;obtain⟨SF,J0⟩: ∃SF,q3E nm la F B (q5E L nm)=SF:=⟨_,rfl⟩
      rw[J0] at hr;obtain⟨ra,rc,rfl⟩:=q0E hr;have B2:SF.length<=3:=by rw[<-J0];exact q9i _ _ _ _ _
      have P0:=η (w0.o.grow hx);have HR:=η hr;have s1:=η J0;have d0:=η P0.o.size;clear hr hx J0 R0 w0 a0 D0 a1 d1 t0
      go_wp2_with (at_builtin;refine q0I rfl _ _ 28 rfl W1.heap.size 38 _ 3 32 Tryz.underlying28 Tryz.infoFi (by decide) (by decide) _ M.length (q5c M) rfl P0.o.row _ SF.length rc (q5c SF) rfl (z4L _) (z9l HR.o) (z9m HR.o) (y0y _) (by unfold maxLen;rw[l.o];omega) (by rw[l.o];omega) d0.o ?_;intro v2 w8 j b N;obtain⟨a2,c2,rfl⟩:=q0E j;have b0:Hd (Fnd W1 w8 gm vn L G (.slice a2 (M.length+SF.length) c2) (M++SF)):=η (P0.o.more (by rw[θ,q8y];exact j) b N);clear j b N)
      go_roundw
      case measure=>simp[intOf];omega
      case rel=>
       have e1:A++q2Y L S (k+1)=M++SF:=by rw[v0.o,κ (of_decide_eq_false HZ.o),s1.o]
       exact⟨k+1,_,_,_,rfl,by go_num,by omega,η (by rw[e1,θ]),by rw[e1];exact b0⟩
    ·have e:sn=k:=by omega
     subst e;have m2:decide ((sn:Int)<(sn:Int))=false:=ε (by omega);have e1:q4t L S=A++q2Y L S sn:=by unfold q4t;rw[q0.o,x0.o,HA.o]
     have HE:=η e1;clear e1;go_wp2_with fail;go_ret;exact⟨_,rfl,by rw[HE.o];exact q0w X.o.row r0.o.size,r0.o.trans X.o.ext⟩
end
section
open Go.RowKit
variable {w :World}{p:Option Addr}
end
section
open Go.RowKit
section
variable {wb w W W':World}{g gs gw rate u n:Nat}{sd c s:Int}{bs:List Bt}{K K':Nat->Prop}
def WrI(W:World)(gw gs:Nat)(str:List UInt8)(a:Int):Prop:=Blk W gw 116 #[.pointer (some ⟨gs,0,none⟩),.string ⟨str.toArray⟩,.int .i64 a]
end
def RwI(W:World)(gw mb:Nat)(str:List UInt8)(a:Int):Prop:=Blk W gw 77 #[.pointer (some ⟨mb,0,none⟩),.string ⟨str.toArray⟩,.int .i64 a]
theorem z9G{A:List Acm}{m:Int}(h:q7o A m=false):(A.length:Int)<=m/\ ∀x∈A,x.st.length<=300/\x.n<=20/\ ∀e∈x.L,e.ty.length<=300/\e.da.length<=300:=by
 unfold q7o at h;rw[Bool.or_eq_false_iff] at h;refine⟨by have:=of_decide_eq_false h.2;omega,fun x b=>?_⟩;have h1:=List.any_eq_false.1 h.1 x b;unfold q4N at h1;simp only[Bool.or_eq_true,not_or,Φ] at h1;refine⟨by omega,by omega,fun e he=>?_⟩;have h2:=List.any_eq_false.1 (by simpa using h1.2) e he;unfold q6w at h2;simp only[Bool.or_eq_true,not_or,Φ] at h2;omega
end
end Go.Proofs.YtjlcdfpbllobaaaGreatDoor
