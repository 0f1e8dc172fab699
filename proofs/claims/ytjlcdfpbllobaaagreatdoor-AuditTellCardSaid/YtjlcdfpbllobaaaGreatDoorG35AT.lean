/- The shelf's contract of slices.Reverse at []api.Told at this seat, in plain words. -/
import Derived.Shelf.SlicesQ.Reverse
import Derived.Ground.SlgnProg
import Derived.Test.YtjlcdfpbllobaaaGreatDoorG34AT
set_option linter.unusedVariables false
set_option linter.unusedSimpArgs false
set_option maxRecDepth 100000
set_option maxHeartbeats 12800000
namespace Go.Proofs
open Go.Shelf
def Tryz.reverseTold_ren :Go.Shelf.Ren:=⟨fun|35=>78|n=>n,fun|22=>22|23=>99|3=>3|4=>4|0=>0|n=>n,fun|n=>n⟩
theorem Tryz.reverseTold :Go.Proofs.SlLaysE0.n35 Tryz.prog Tryz.reverseTold_ren:={
 mixed:=by kernel_rfl
 f35:=⟨Tryz.f78.name,by decide,Tryz.func78.trans (congrArg some (by kernel_rfl))⟩
 t0:=Tryz.underlying0
 a0:=Tryz.isAgg0
 z0:=Tryz.sizeOf0
 v0:=Tryz.zeroValue0
 t3:=Tryz.underlying3
 a3:=Tryz.isAgg3
 z3:=Tryz.sizeOf3
 v3:=Tryz.zeroValue3
 t4:=Tryz.underlying4
 a4:=Tryz.isAgg4
 z4:=Tryz.sizeOf4
 v4:=Tryz.zeroValue4
 t22:=Tryz.underlying22
 a22:=Tryz.isAgg22
 z22:=Tryz.sizeOf22
 v22:=Tryz.zeroValue22}
end Go.Proofs
namespace Go.Proofs.YtjlcdfpbllobaaaGreatDoor
variable {k cap q m1 sz lc n' vc vn sn sc:Nat}{e t ti:TypeId}{ao la va so:Option Addr}{E:Oth}{vq v2:Value}{ys ys1 xs:List Value}{l2:Obj}
section
open Go.RowKit Go.Sort Go.Lib
theorem z2B{w:World}{base:Nat}{g n:Nat}{cs:List Value}{F:Array Value}(h:w.ownsRow base e k (.slice (some ⟨g,0,none⟩) n cap) n cs)(hF:F.size=n*k):
  (putRow id (Sort.ahead w q) g 0 F).ownsRow base e k (.slice (some ⟨g,0,none⟩) n cap) n F.toList:=by
 rcases h.2 with⟨i,_⟩|⟨O,o,b,i,D,I,x,hm,N,Q⟩
 ·cases i
 ·injection i with d _ y
  injection d with d;injection d with d;subst d;subst y;have J:n*k<=cap*k:=Nat.mul_le_mul_right k x;refine⟨by simpa using hF,.inr ⟨g,cap,putCells id 0 F b,rfl,D,?_,x,hm,by simpa [putCells] using N,?_⟩⟩
  ·simp[putRow,mapBlock,Sort.ahead,Array.getElem?_modify,I,onCells]
  ·apply List.ext_getElem?
   intro j;rw[List.getElem?_take,Array.getElem?_toList,Array.getElem?_toList];by_cases r:j<n*k
   ·have l:j<b.size:=by omega
    simp only[ξ r,putCells,Array.getElem?_mapIdx,Array.getElem?_eq_getElem l,Option.map_some];rw[ξ (by omega),Array.getElem?_eq_getElem (by omega)];simp[getElem!_pos,show j<F.size by omega]
   ·rw[κ r,Array.getElem?_eq_none (by omega)]
theorem q9f{w:World}{base:Nat}{g n:Nat}{cs:List Value}(h:w.ownsRow base e k (.slice (some ⟨g,0,none⟩) n cap) n cs):Holds id w g 0 cs.toArray:=by
 have D:=h.1;rcases h.2 with⟨i,_⟩|⟨N,o,d,i,O,r,F,hm,Q,J⟩
 ·cases i
 ·injection i with b _ x
  injection b with b;injection b with b;subst b;subst x;have I:n*k<=cap*k:=Nat.mul_le_mul_right k F;intro j y;have l:j<n*k:=by simpa [D] using y
  refine⟨?_,by simp[World.frozen?,r]⟩;have b:(d.toList.take (n*k))[j]? =cs[j]? :=by rw[J]
  rw[List.getElem?_take,ξ l,Array.getElem?_toList] at b;simp only[World.cell?,r,Nat.zero_add];simp only[Option.isSome_none,Bool.false_eq_true,if_false];rw[b,γ (by omega)];simp[getElem!_pos,show j<cs.length by omega]
instance : Inhabited To:=⟨to0⟩
theorem z0N(T:List To):flatK toc 5 T.toArray=(q1i T).toArray:=by
 have b:(flatK toc 5 T.toArray).size=T.length*5:=by simp[flatK]
 refine ext_get! (by rw[b];simp[q3S]) fun t d=>?_
 rw[b] at d;rw[get_flatK _ _ _ _ (by simpa using d)];have h1:=q4b T (t/5) (t % 5) (by omega) (Nat.mod_lt _ (by decide));rw[show t/5*5+t % 5=t by omega] at h1;have h2:t/5<T.length:=by omega
 rw[show(T.toArray)[t/5]! =T.getD (t/5) to0 by simp[getElem!_pos,h2,δ]];rw[show(q1i T).toArray[t]! =((q1i T)[t]?).getD default by simp only[getElem!_def,List.getElem?_toArray];cases (q1i T)[t]? <;>rfl,h1];simp only[getElem!_def]
 cases (toc (T.getD (t/5) to0))[t % 5]? <;>rfl
theorem z0t{w:World}{base:Nat}{v:Value}{T:List To}(h:w.ownsRow base 99 5 v T.length (q1i T))(N:T.length<=9223372036854775807):
  Calls Tryz.prog 78 #[v] w fun e w'=>e= .returned (.tuple #[])/\w'.ownsRow base 99 5 v T.length (q1i T.reverse)/\(∀w0,Below w0.heap.size w0 w->w0.heap.size<=base->Below w0.heap.size w0 w')/\
   (∀i,v.ownBlock≠some i->w'.heap[i]? =w.heap[i]?)/\w.heap.size<=w'.heap.size:=by
 rcases h.2 with⟨rfl,y⟩|⟨g,cap,l,rfl,Q,R,h1,h2,h3,h4⟩
 ·have D:T=[]:=List.length_eq_zero_iff.1 y
  subst D;refine(AnyQ.slices_Reverse_empty Tryz.reverseTold none 0 w).mono ?_;rintro e w' ⟨rfl,rfl⟩;exact⟨rfl,h,fun _ b _=>b,fun _ _=>rfl,ι _⟩
 ·have j:=AnyQ.slices_Reverse Tryz.reverseTold 5 Tryz.isAgg99 Tryz.sizeOf99 toc (fun _=>rfl) (fun x u O=>z3h [x] u (by simpa [q1i] using O)) g 0 cap T.toArray w (by unfold HoldsK;rw[z0N];exact q9f h) (by simpa using N)
  have o:T.toArray.size=T.length:=by simp
  rw[o] at j;refine j.mono ?_;rintro e w' ⟨rfl,q,rfl⟩;have r:putRowK toc 5 (Sort.ahead w q) g 0 T.toArray.reverse=putRow id (Sort.ahead w q) g 0 (q1i T.reverse).toArray:=by
   unfold putRowK;rw[show T.toArray.reverse=T.reverse.toArray by simp,z0N]
  rw[r];refine⟨rfl,?_,fun w0 b J=>below_putRow b (by omega),fun i I=>?_,?_⟩
  ·have:=z2B (q:=q) (F:=(q1i T.reverse).toArray) h (by simp[q3S])
   simpa using this
  ·have d:g≠i:=fun e=>I (by rw[e];rfl)
   simp[putRow,mapBlock,Sort.ahead,Array.getElem?_modify,d]
  ·simp[Sort.ahead]
def z9N(bs:List Bt)(str:List UInt8)(fr ct:Int):List To:=if q2l str fr ct=0 then(z0i (q3U bs str) fr ct).reverse else []
section
variable {wb w W W1 W2:World}{g gl gs gx rate:Nat}{m:Man}{ws:List En}{c s sd:Int}{u cnt:Nat}{B:List En}{C:Cks}{P:Pbs}{sure:Int}{K K':Nat->Prop}
theorem z2C(h:StoP wb w g gs gl gx rate m ws sd c s u cnt B C sure P K)(d:List UInt8)(hs:d.length<=4611686018427387903)(fr ct:Int)(g0:fr<=9223372036854775807)(f0:ct<=9223372036854775807)(hl:B.length<=10000)(d0:(q0c (q1U P) d).length<=10000):
  Calls Tryz.prog 79 #[.pointer (some ⟨gs,0,none⟩),.string ⟨d.toArray⟩,.int .i64 fr,.int .i64 ct] w (ToldR wb w g gs gl gx rate m ws sd c s u cnt B C sure P K (z9N (q1U P) d fr ct) (q2l d fr ct)):=by
 have x:=η (z6i h.b d hs fr ct);have HH:=η h;obtain⟨R,D⟩: ∃R,z9N (q1U P) d fr ct=R:=⟨_,rfl⟩
 rw[D];unfold z9N at D;by_cases r:q2l d fr ct=0
 ·have X:0<=fr/\1<=ct:=by
   unfold q2l at r
   split at r
   ·cases r
   ·omega
  rw[ξ r] at D;rw[r] at x⊢;have q1:IntKind.i64.wrap (fr-ct)=fr-ct:=by rw[ν];omega
  have q2:IntKind.i64.wrap (fr-ct+1)=fr-ct+1:=by rw[ν];omega
  have y:=z6I (q1U P) d (f:=fr) (c:=ct) X.1 X.2 (by omega);obtain⟨F,S⟩: ∃F,z0i (q3U (q1U P) d) fr ct=F:=⟨_,rfl⟩
  rw[S] at y D;have e0:F.length<=10000:=by
   rw[<-y];refine Ω (List.length_filter_le _ _) ?_;rw[q1m];exact d0
  have HB:=η (fun W (k:Ext w W)=>q6t (h.grow k) d hs (fr-ct+1) fr hl y);have N:Hd (F.reverse=R):=η D;clear r D h y S;go_enter Tryz.func79,Tryz.ntmps79;go_wp2_with fail;refine x.o.mono ?_;rintro e w1 ⟨rfl,hx⟩;have Q:=η hx;clear hx;go_wp2_with fail;refine(HB.o _ Q.o).mono ?_;rintro e w2 ⟨v,rfl,hh,Z,j,V⟩;obtain⟨ra,rc,rfl⟩:=q0E j;have O:=η (z0t j (by omega));have J:=η hh;have c0:=η ((HH.o.kExt Q.o).trans Z);have I:=η V;clear hh Z j V HB;go_wp2_with fail;refine O.o.mono ?_;rintro e w3 ⟨rfl,j,U,l,a0⟩;rw[N.o] at j;have Y:R.length=F.length:=by rw[<-N.o,List.length_reverse]
  have HF:Hd (ToldR wb w g gs gl gx rate m ws sd c s u cnt B C sure P K R 0 (.returned (.tuple #[.slice ra F.length rc,.int .i64 0])) w3):=η
   ⟨_,rfl,J.o.sideM a0 (U wb J.o.base (ι _)) (fun i hi hn=>l i fun e=>hn (.inr e)) fun i hi=> .inl hi,c0.o.trans fun i hi=>l i (I.o i hi),by rw[Y];exact j,I.o⟩
  clear j U l a0 O;go_wp2_with fail;go_ret2;exact HF.o
 ·rw [κ r] at D
  subst D;have b0:q2l d fr ct=2:=by
   unfold q2l at r⊢
   split at r
   ·rename_i h1;rw[ξ h1]
   ·exact absurd rfl r
  rw[b0] at x⊢;clear r b0 h;go_enter Tryz.func79,Tryz.ntmps79;go_wp2_with fail;refine x.o.mono ?_;rintro e w1 ⟨rfl,hx⟩;have Q:=η hx;clear hx;go_wp2_with fail;go_ret2;exact ToldR.nil (HH.o.grow Q.o) (HH.o.kExt Q.o) 2
end
end
section
open Go.RowKit
theorem q9z : ∀(C:Cks) (b:Nat),(∀ps∈C,ps≠[])->C.length<=(q0z b C).length
 |[],_,_=>ι _
 | ps::t,b,h=>by
  have h1:=q9z t (b+4096) fun q hq=>h q (.tail _ hq)
  have h2:0<ps.length:=List.length_pos_iff.2 (h ps (.head _));rw[q0z,θ,q4W,χ];omega
theorem z6u{bs:List Bt}(h:okBs bs):(tos bs).length<=8*bs.length:=by
 induction bs using q7j with
 |h0=>exact ι _
 | h1 l b ih=>
  obtain⟨h1,h2,_⟩:=okBs_snoc.1 h;have h3:=(q0o h2.1).2.2.2.1;have h4:=ih h1;rw[q3E,q7p,θ,q4A,θ,List.length_singleton];omega
def SK(wb W:World)(g gs rate:Nat)(sd c s:Int)(u n:Nat)(bs:List Bt)(K:Nat->Prop):Prop:=
 ∃gl gx m ws B C sure P,StoP wb W g gs gl gx rate m ws sd c s u (40+3*n) B C sure P K/\q1U P=bs/\m.nx<=n/\bs.length<=n/\0<=sd/\sd<18446744073709551616
def SQ(wb W:World)(g:Nat)(sd c s:Int)(u n:Nat)(bs:List Bt)(K:Nat->Prop):Prop:=
 ∃m B C P,DKQ wb W g m c s u (40+3*n) B C K/\y2c sd m B C P/\B.Nodup/\q1U P=bs/\m.nx<=n/\bs.length<=n/\0<=sd/\sd<18446744073709551616
section
variable {wb w W W':World}{g gs rate u n:Nat}{sd c s:Int}{bs:List Bt}{K K':Nat->Prop}
theorem StoP.bounds{gl gx:Nat}{m:Man}{ws:List En}{cnt:Nat}{B:List En}{C:Cks}{sure:Int}{P:Pbs}(h:StoP wb W g gs gl gx rate m ws sd c s u cnt B C sure P K)(d:q1U P=bs)(j:bs.length<=n):
  (tos bs).length<=8*n/\B.length<=8*n/\C.length<=n/\okBs bs:=by
 have b:okBs bs:=d▸h.stE.ok;have h1:=z6u b;have h2:=h.len;rw[d] at h2;have h3:=q9z C 0 h.i.cOk.full;rw[h.recE,q7e] at h3;have h4:bs.length=P.length:=by rw[<-d];exact List.length_map _
 exact⟨by omega,by omega,by omega,b⟩
theorem SK.ok(h:SK wb W g gs rate sd c s u n bs K):okBs bs:=by
 obtain⟨gl,gx,m,ws,B,C,sure,P,h1,h2,_,h4,_⟩:=h;exact(h1.bounds h2 h4).2.2.2
theorem SK.few(h:SK wb W g gs rate sd c s u n bs K):bs.length<=n/\(tos bs).length<=8*n:=by
 obtain⟨gl,gx,m,ws,B,C,sure,P,h1,h2,_,h4,_⟩:=h;exact⟨h4,(h1.bounds h2 h4).1⟩
theorem SK.base(h:SK wb W g gs rate sd c s u n bs K):Ext wb W:=by
 obtain⟨gl,gx,m,ws,B,C,sure,P,h1,_⟩:=h;exact h1.base
theorem SK.klt(h:SK wb W g gs rate sd c s u n bs K): ∀i,K i->i<W.heap.size:=by
 obtain⟨gl,gx,m,ws,B,C,sure,P,h1,_⟩:=h;exact h1.klt
theorem SK.grow(h:SK wb W g gs rate sd c s u n bs K)(k:Ext W W'):SK wb W' g gs rate sd c s u n bs K:=by
 obtain⟨gl,gx,m,ws,B,C,sure,P,h1,h2⟩:=h;exact⟨gl,gx,m,ws,B,C,sure,P,h1.grow k,h2⟩
theorem SK.kExt(h:SK wb W g gs rate sd c s u n bs K)(k:Ext W W'):Stay K W W':=fun i b=>k.block i (h.klt i b)
theorem SK.more(h:SK wb W g gs rate sd c s u n bs K)(k:Ext W W')(hK: ∀i,K' i->K i\/(W.heap.size<=i/\i<W'.heap.size)):SK wb W' g gs rate sd c s u n bs K':=by
 obtain⟨gl,gx,m,ws,B,C,sure,P,h1,h2⟩:=h;exact⟨gl,gx,m,ws,B,C,sure,P,h1.more k hK,h2⟩
theorem SK.beside(h:SK wb W g gs rate sd c s u n bs K)(k: ∀i,K' i->K i):SK wb W g gs rate sd c s u n bs K':=by
 obtain⟨gl,gx,m,ws,B,C,sure,P,h1,h2⟩:=h;exact⟨gl,gx,m,ws,B,C,sure,P,h1.beside k,h2⟩
theorem SK.sideM(h:SK wb W g gs rate sd c s u n bs K)(b:W.heap.size<=W'.heap.size)(d:Ext wb W')(k: ∀i,i<W.heap.size->¬K i->W'.heap[i]? =W.heap[i]?)(hK: ∀i,K' i->K i\/(W.heap.size<=i/\i<W'.heap.size)):SK wb W' g gs rate sd c s u n bs K':=by
 obtain⟨gl,gx,m,ws,B,C,sure,P,h1,h2⟩:=h;exact⟨gl,gx,m,ws,B,C,sure,P,h1.sideM b d k hK,h2⟩
def EvR(wb w:World)(g gs rate:Nat)(sd c s:Int)(u n:Nat)(bs:List Bt)(K:Nat->Prop)(R:List To)(z:Int)(e:Ending)(w':World):Prop:=
 ∃v,e= .returned (.tuple #[v,.int .i64 z])/\SK wb w' g gs rate sd c s u n bs (fun i=>K i\/v.ownBlock=some i)/\Stay K w w'/\w'.ownsRow wb.heap.size 99 5 v R.length (q1i R)/\ ∀i,K i->v.ownBlock≠some i
theorem SK.last(h:SK wb w g gs rate sd c s u n bs K)(D:n<=1000)(b:List UInt8)(j:b.length<=4611686018427387903){x y:Int}(i:z1f bs b=(x,y)):
  Calls Tryz.prog 32 #[.pointer (some ⟨gs,0,none⟩),.string ⟨b.toArray⟩] w fun e w'=>e= .returned (.tuple #[.int .i64 x,.int .i64 y])/\SK wb w' g gs rate sd c s u n bs K/\Stay K w w':=by
 obtain⟨gl,gx,m,ws,B,C,sure,P,h1,rfl,h3,h4,d⟩:=h;obtain⟨b1,b2,b3,b4⟩:=h1.bounds rfl h4;have r:=q4f (q1U P) b;refine(z6g h1 b j (by omega) (by omega) i).mono ?_;rintro e w' ⟨rfl,l,o⟩;exact⟨rfl,⟨gl,gx,m,ws,B,C,sure,P,l,rfl,h3,h4,d⟩,o⟩
theorem SK.all(h:SK wb w g gs rate sd c s u n bs K)(j:n<=1000):Calls Tryz.prog 24 #[.pointer (some ⟨gs,0,none⟩)] w (EvR wb w g gs rate sd c s u n bs K (tos bs) 0):=by
 obtain⟨gl,gx,m,ws,B,C,sure,P,h1,rfl,h3,h4,b⟩:=h;obtain⟨b1,b2,b3,b4⟩:=h1.bounds rfl h4;refine(y1p h1 rfl (by omega)).mono ?_;rintro e w' ⟨v,rfl,d,i⟩;exact⟨v,rfl,⟨gl,gx,m,ws,B,C,sure,P,d,rfl,h3,h4,b⟩,i⟩
theorem SK.forward(h:SK wb w g gs rate sd c s u n bs K)(y:n<=1000)(b:List UInt8)(l:b.length<=4611686018427387903)(fr ct:Int)(d: -9223372036854775808<=fr)(i:fr<=9223372036854775807):
  Calls Tryz.prog 33 #[.pointer (some ⟨gs,0,none⟩),.string ⟨b.toArray⟩,.int .i64 fr,.int .i64 ct] w (EvR wb w g gs rate sd c s u n bs K (z9e bs b fr ct) (q2l b fr ct)):=by
 obtain⟨gl,gx,m,ws,B,C,sure,P,h1,rfl,h3,h4,j⟩:=h;obtain⟨b1,b2,b3,b4⟩:=h1.bounds rfl h4;have x:=q4f (q1U P) b;refine(z4d h1 b l fr ct d i (by omega) (by omega)).mono ?_;rintro e w' ⟨v,rfl,o,r⟩;exact⟨v,rfl,⟨gl,gx,m,ws,B,C,sure,P,o,rfl,h3,h4,j⟩,r⟩
theorem SK.backward(h:SK wb w g gs rate sd c s u n bs K)(y:n<=1000)(b:List UInt8)(l:b.length<=4611686018427387903)(fr ct:Int)(i:fr<=9223372036854775807)(d:ct<=9223372036854775807):
  Calls Tryz.prog 79 #[.pointer (some ⟨gs,0,none⟩),.string ⟨b.toArray⟩,.int .i64 fr,.int .i64 ct] w (EvR wb w g gs rate sd c s u n bs K (z9N bs b fr ct) (q2l b fr ct)):=by
 obtain⟨gl,gx,m,ws,B,C,sure,P,h1,rfl,h3,h4,j⟩:=h;obtain⟨b1,b2,b3,b4⟩:=h1.bounds rfl h4;have x:=q4f (q1U P) b;refine(z2C h1 b l fr ct i d (by omega) (by omega)).mono ?_;rintro e w' ⟨v,rfl,o,r⟩;exact⟨v,rfl,⟨gl,gx,m,ws,B,C,sure,P,o,rfl,h3,h4,j⟩,r⟩
theorem SK.append(h:SK wb w g gs rate sd c s u n bs K)(U:n<=86)(b:List UInt8)(J:b.length<=4611686018427387903)(ex:Int){L:List Ev}(N: ∀W,Ext wb W->Stay K w W->Evs W ao k cap L)(I:q4m L)
  (o: ∀e∈L,e.we<18446744073709551616){z:Int}(O:y0p bs b ex L=z):
  Calls Tryz.prog 19 #[.pointer (some ⟨gs,0,none⟩),.string ⟨b.toArray⟩,.int .i64 ex,.slice ao k cap] w fun e w'=>
   ∃ x y d,e= .returned (.tuple #[.int .i64 x,.int .i64 y])/\SK wb w' g gs rate sd c s (u+2024) (n+1) d K/\Stay K w w'/\
    ((z≠0/\x=0/\y=z/\d=bs)\/(z=0/\x=0/\y=60/\d=bs/\c-(u:Int)-2024<6000)\/(z=0/\x=((q0c bs b).length:Int)/\y=0/\d=bs++[⟨b,(q0c bs b).length,L⟩])):=by
 obtain⟨gl,gx,m,ws,B,C,sure,P,h1,rfl,h3,h4,l⟩:=h;obtain⟨b1,b2,b3,b4⟩:=h1.bounds rfl h4;have S:=q4f (q1U P) b;refine(z6e h1 b J ex N I o (by omega) (by omega) (by omega)).mono ?_;rw[O];rintro e w' ⟨⟨Q,rfl,j⟩|⟨rfl,rfl,j,R⟩|⟨rfl,R,pos,D,B',F,i,rfl,j⟩,r⟩
 ·exact⟨_,_,_,rfl,⟨gl,gx,m,ws,B,C,sure,P,j.mono (by omega) (by omega),rfl,by omega,by omega,l⟩,r,.inl ⟨Q,rfl,rfl,rfl⟩⟩
 ·exact⟨_,_,_,rfl,⟨gl,gx,m,ws,B,C,sure,P,j.mono (by omega) (by omega),rfl,by omega,by omega,l⟩,r,.inr (.inl ⟨rfl,rfl,rfl,rfl,by omega⟩)⟩
 ·exact⟨_,_,_,rfl,⟨gl,gx,m,D,B',F,i,_,j.mono (by omega) (by omega),rfl,by omega,by rw[q4N,θ,List.length_singleton];omega,l⟩,r,.inr (.inr ⟨rfl,rfl,rfl,q4N _ _ _⟩)⟩
theorem SQ.open(h:SQ wb w g sd c s u n bs K)(x:n<=200)(rate:Nat):Calls Tryz.prog 43 #[.pointer (some ⟨g,0,none⟩),.int .u64 sd,.float .f64 rate] w fun e w'=>
  ∃gs,e= .returned (.tuple #[.pointer (some ⟨gs,0,none⟩),.int .i64 0])/\SK wb w' g gs rate sd c s u n bs K/\Stay K w w':=by
 obtain⟨m,B,C,P,h1,h2,h3,rfl,h4,i,b,d⟩:=h;have r:=z6u h2.ok;refine(y0U h1 h2 b d (by omega) (by omega) h3 rate).mono ?_;rintro e w' ⟨gs,gl,gx,o,ws,B',sure,rfl,j,y,l⟩;exact⟨gs,rfl,⟨gl,gx,o,ws,B',C,sure,P,j,rfl,by omega,i,b,d⟩,l⟩
theorem DkK.sq(h:DkK noO wb w g c s [] K)(sd:Int)(d:0<=sd)(i:sd<18446744073709551616):SQ wb w g sd c s 0 0 [] K:=by
 obtain⟨F,σ,h1,h2⟩:=h;have l:Pl σ c s []:=by have:=h2.pl;simpa [q2P,noO,q2W,q5s,q3T,q4E] using this
 have o:q0g 0 0 []=true:=by decide
 refine⟨⟨0,0,sd,[]⟩,[],[],[],⟨⟨⟨0,0,sd,[]⟩,0,[],fun _=>none,0⟩,σ,fun _=>none,F,rfl,rfl,h1,⟨⟨⟨[],l,List.Pairwise.nil,fun _=>rfl,υ _,υ _⟩,⟨o,d,i⟩,(fun n j=>by cases j),(fun n e he=>by cases he),(fun nm j=>absurd rfl j),okM.nil,okM.nil,fun x=>?_⟩,.inr ⟨rfl,rfl,rfl,rfl⟩,fun k _=>by simp⟩,okC.nil⟩,
  ⟨rfl,rfl,okBs.nil,(fun x b=>by cases b),(fun x b=>by cases b),by show(0:Int)<=q5B [];rw[z2p];decide⟩,List.nodup_nil,rfl,Int.le_refl _,ι _,d,i⟩
 constructor
 ·intro b;cases b
 ·rintro(b|⟨n,e,he,_⟩)
  ·cases b
  ·cases he
end
def z7E(b:Nat):Int:=if b<9223372036854775808 then(b:Int)+9223372036854775808 else 18446744073709551615-(b:Int)
theorem z3A(b:Nat)(l:b<18446744073709551616)(w:World):Calls Tryz.prog 151 #[.float .f64 b] w fun e w'=>e= .returned (.int .u64 (z7E b))/\w=w':=by
 have j:=q7I;by_cases h:b<9223372036854775808
 ·have i:decide ((9223372036854775808:Int)<=(b:Int))=false:=ε (by omega)
  have q:IntKind.u64.wrap ((b:Int)+9223372036854775808)=(b:Int)+9223372036854775808:=by rw[IntKind.wrap_u64];omega
  have d:Hd (z7E b=(b:Int)+9223372036854775808):=η (ξ h);clear h;go_enter Tryz.func151,Tryz.ntmps151;go_wp2_with fail;go_ret;exact⟨by rw[d.o];rfl,rfl⟩
 ·have i:decide ((9223372036854775808:Int)<=(b:Int))=true:=ζ (by omega)
  have q:IntKind.u64.wrap (18446744073709551615-(b:Int))=18446744073709551615-(b:Int):=by rw[IntKind.wrap_u64];omega
  have d:Hd (z7E b=18446744073709551615-(b:Int)):=η (κ h);clear h;go_enter Tryz.func151,Tryz.ntmps151;go_wp2_with fail;go_ret;exact⟨by rw[d.o];rfl,rfl⟩
theorem z8H{a b:Nat}(d:a<18446744073709551616)(i:b<18446744073709551616)(h:z7E a=z7E b):a=b:=by
 unfold z7E at h
 split at h<;>split at h<;>omega
theorem z6d(a b:Nat)(i:a<18446744073709551616)(j:b<18446744073709551616)(w:World):Calls Tryz.prog 104 #[.float .f64 a,.float .f64 b] w fun e w'=>e= .returned (.bool (decide (a=b)))/\w=w':=by
 have r:=η (z3A a i);have D:=η (z3A b j);have l:(z7E a==z7E b)=decide (a=b):=by
  by_cases h:a=b
  ·rw[h];simp
  ·rw[ε h];exact beq_eq_false_iff_ne.2 fun e=>h (z8H i j e)
 obtain⟨z,d⟩: ∃z,decide (a=b)=z:=⟨_,rfl⟩
 rw[d] at l⊢;clear d i j;generalize z7E a=x at*;generalize z7E b=y at*;go_enter Tryz.func104,Tryz.ntmps104;go_wp2_with fail;refine(r.o _).mono ?_;rintro e w1 ⟨rfl,rfl⟩;go_wp2_with fail;refine(D.o _).mono ?_;rintro e w1 ⟨rfl,rfl⟩;go_wp2_with fail;go_ret;exact⟨by rw[<-l];rfl,rfl⟩
theorem z1z(a b:Ev)(V:a.we<18446744073709551616)(X:b.we<18446744073709551616)(w:World):Calls Tryz.prog 57 #[.agg #[.string ⟨a.ty.toArray⟩,.string ⟨a.da.toArray⟩,.float .f64 a.we],.agg #[.string ⟨b.ty.toArray⟩,.string ⟨b.da.toArray⟩,.float .f64 b.we]] w fun r w'=>r= .returned (.bool (q4Y a b))/\Ext w w':=by
 obtain⟨ty,da,we⟩:=a;obtain⟨j,d,l⟩:=b;have F:=q0B w (.cells #[.string ⟨ty.toArray⟩,.string ⟨da.toArray⟩,.float .f64 we] 97);have y:=q0B (w.alloc (.cells #[.string ⟨ty.toArray⟩,.string ⟨da.toArray⟩,.float .f64 we] 97)) (.cells #[.string ⟨j.toArray⟩,.string ⟨d.toArray⟩,.float .f64 l] 97);have N:=η (F.trans y);have x:=(Blk.new w 97 #[.string ⟨ty.toArray⟩,.string ⟨da.toArray⟩,.float .f64 we]).ext y;have i:=Blk.new (w.alloc (.cells #[.string ⟨ty.toArray⟩,.string ⟨da.toArray⟩,.float .f64 we] 97)) 97 #[.string ⟨j.toArray⟩,.string ⟨d.toArray⟩,.float .f64 l];rw[ρ] at i;have k0:=x.cell 0;have k1:=x.cell 1;have k2:=x.cell 2;have Y:=i.cell 0;have Z:=i.cell 1;have d2:=i.cell 2;obtain⟨I,O⟩: ∃I,(ty==j)=I:=⟨_,rfl⟩
 obtain⟨J,Q⟩: ∃J,(da==d)=J:=⟨_,rfl⟩
 obtain⟨R,D⟩: ∃R,decide (we=l)=R:=⟨_,rfl⟩
 have U:q4Y ⟨ty,da,we⟩ ⟨j,d,l⟩=(I&&J&&R):=by
  unfold q4Y;rw[<-O,<-Q,<-D]
  congr 1
  congr 1
  ·by_cases h:ty=j<;>simp[h]
  ·by_cases h:da=d<;>simp[h]
 rw[U];have S:=η (fun W=>z6d we l V X W);rw[D] at S;clear F y x i U D;go_enter Tryz.func57,Tryz.ntmps57
 cases I with
 | false=>
  go_wp2_with fail;go_ret;exact⟨rfl,N.o⟩
 | true=>
  cases J with
  | false=>
   go_wp2_with fail;go_ret;exact⟨rfl,N.o⟩
  | true=>
   go_wp2_with fail;refine(S.o _).mono ?_;rintro e w1 ⟨rfl,rfl⟩;go_wp2_with fail;go_ret;exact⟨by simp,N.o⟩
theorem DkK.rebase{b wb w:World}{g:Nat}{c s:Int}{C:Cks}{K:Nat->Prop}(h:DkK E wb w g c s C K)(k:Ext b wb):DkK E b w g c s C K:=by
 obtain⟨F,σ,h1,h2⟩:=h;have l:=k.size;exact⟨F,σ,⟨h1.d,fun i j=>by have:=h1.bF i j;omega,k.trans h1.ext,h1.k⟩,h2⟩
theorem DkK.base{wb w:World}{g:Nat}{c s:Int}{C:Cks}{K:Nat->Prop}(h:DkK E wb w g c s C K):Ext wb w:=by
 obtain⟨F,σ,h1,h2⟩:=h;exact h1.ext
theorem Blk.rd{w:World}{b:Nat}{cs:Array Value}(h:Blk w b t cs):Rd w (some ⟨b,0,none⟩) cs.toList:=fun j u d=>⟨b,0,rfl,by rw[Nat.zero_add,h.cell j];simpa using d⟩
theorem Blk.evs{w:World}{b:Nat}{L:List Ev}(h:Blk w b t (q6V L).toArray)(d:k<=L.length)(i:L.length<=1000000):Evs w (some ⟨b,0,none⟩) k L.length (L.take k):=by
 refine⟨by rw[Θ];omega,d,by omega,(fun e=>by cases e),?_⟩;have h1:=h.rd.take (k*3);have e:(q6V L).take (k*3)=q6V (L.take k):=by
  conv=>lhs;rw[<-List.take_append_drop k L,q7H]
  exact List.take_left' (by rw[z1V,Θ];omega)
 rw[<-e]
 simpa using h1
theorem q1J{w:World}{B:Nat}{n cp:Nat}{L:List To}(h:w.ownsRow B e 5 (.slice ao n cp) L.length (q1i L)):Tos w ao n cp L/\n=L.length:=by
 obtain⟨a,c,b,h2⟩:=Tos.of_own (Own.of_row h)
 cases b;exact⟨h2,rfl⟩
abbrev evA :Ev:=⟨[97],[],0⟩
theorem z8h{L:List Ev}(h: ∀e∈L,e.ty.length<=300/\e.da.length<=300):q4m L:=fun e he=>by have:=h e he;omega
section
variable {wb w W W1 W2:World}{g gs rate u n:Nat}{sd c s:Int}{bs:List Bt}{K K':Nat->Prop}
theorem SK.row0{m base:Nat}(h:SK wb W g gs rate sd c s u n bs (fun i=>K i\/vq.ownBlock=some i))(N:wb.heap.size<=base)(hq:W.ownsRow base ti sz vq m ys)
  (h2:W2.ownsRow base ti sz v2 m1 ys1)(j:W.grownBy W2 vq.ownBlock)(x:v2.ownBlock=vq.ownBlock\/v2.ownBlock=some W.heap.size)(D: ∀i,K i->vq.ownBlock≠some i):
  SK wb W2 g gs rate sd c s u n bs (fun i=>K i\/v2.ownBlock=some i)/\Stay K W W2/\ ∀i,K i->v2.ownBlock≠some i:=by
 have J:=j.size;have o: ∀i,vq.ownBlock=some i->base<=i/\i<W.heap.size:=q0P hq;have y: ∀i,i<W.heap.size->vq.ownBlock≠some i->W2.heap[i]? =W.heap[i]? :=fun i b l=>j.block i b fun e=>l e.symm
 have d:=h.base;have r:Ext wb W2:=Below.grown d j d.size fun k F=>by have:=(o k F).1;omega
 refine⟨h.sideM J r (fun i b l=>y i b fun e=>l (.inr e)) fun i b=>?_,fun i b=>y i (h.klt i (.inl b)) (D i b),fun i b e=>?_⟩
 ·rcases b with b|b
  ·exact .inl (.inl b)
  ·rcases x with k|k
   ·exact .inl (.inr (k.symm.trans b))
   ·have I:=(q0P h2 i b).2
    rw[k] at b
    cases b
    right;omega
 ·rcases x with k|k
  ·exact D i b (k.symm.trans e)
  ·rw[k] at e
   cases e;have:=h.klt _ (.inl b);omega
theorem SK.row1{m base:Nat}(h:SK wb W g gs rate sd c s u n bs (fun i=>K i\/vq.ownBlock=some i))(l:wb.heap.size<=base)(hq:W.ownsRow base ti sz vq m ys)
  (h2:W2.ownsRow base ti sz v2 m1 ys1)(j:(W.alloc l2).grownBy W2 vq.ownBlock)(d:v2.ownBlock=vq.ownBlock\/v2.ownBlock=some (W.alloc l2).heap.size)(o: ∀i,K i->vq.ownBlock≠some i):
  SK wb W2 g gs rate sd c s u n bs (fun i=>K i\/v2.ownBlock=some i)/\Stay K W W2/\ ∀i,K i->v2.ownBlock≠some i:=by
 obtain⟨h1,h3,h4⟩:=(h.grow (q0B W l2)).row0 l (q0F hq (q0B W l2)) h2 j d o;exact⟨h1,fun i b=>(h3 i b).trans ((q0B W l2).block i (h.klt i (.inl b))),h4⟩
end
theorem z5a{i:Type}(p:i->Bool)(A:List i)(d:i)(h:k<A.length):(A.take (k+1)).filter p=(A.take k).filter p++if p (A.getD k d)=true then [A.getD k d] else []:=by
 rw[List.take_succ_eq_append_getElem h,List.filter_append,δ,γ h];simp only[Option.getD_some];by_cases b:p A[k]=true
 ·rw[ξ b,List.filter_cons_of_pos b,List.filter_nil]
 ·rw[κ b,List.filter_cons_of_neg b,List.filter_nil]
theorem q2y{W W2:World}{w0:World}{n:Nat}(b:Ext w0 W)(hq:W.ownsRow w0.heap.size ti sz vq n xs)
  (d:(W.alloc l2).grownBy W2 vq.ownBlock):Ext w0 W2:=
 Below.grown (b.trans (q0B W l2)) d (Ω b.size (q0B W l2).size) fun k i=>(q0P hq k i).1
theorem z7U{n:Nat}{K:List To}(w:World)(I:Tos w ao n cap K)(hn:n<=1000000):
  Calls Tryz.prog 77 #[.slice ao n cap] w fun e w'=> ∃v,e= .returned v/\w'.ownsRow w.heap.size 99 5 v K.length (q1i K)/\Ext w w':=by
 have hq:=fun (w:World) (a:Option Addr) (n c n' c':Nat)=>Lib.run_eql_slice_nil (P:=Tryz.prog) w 22 99 a n c n' c' Tryz.underlying22
 have b1:=I.fits;have b2:=I.bound;have N:=I.len;have r:=I.nil;obtain⟨i,Q,R,d,D⟩:=info_parts Tryz.infoTo;have HI:=η Q;have HZ:=η R;have Y:=η d;have S:=η D;have Z:=η (Ext.refl w)
 cases ao with
 | none=>
  obtain rfl:cap=0:=r rfl;obtain rfl:n=0:=by omega
  obtain rfl:K=[]:=List.eq_nil_of_length_eq_zero N;clear I N r Q R d D;go_enter Tryz.func77,Tryz.ntmps77;go_wp2_with fail;go_ret;exact⟨_,rfl,World.ownsRow_nil _ _ _ _,Z.o⟩
 | some a=>
  have l:(w.alloc (.cells #[] 99)).ownsRow w.heap.size 99 5 (.slice (some ⟨w.heap.size,0,none⟩) 0 0) 0 []:=⟨rfl,.inr ⟨w.heap.size,0,#[],rfl,ι _,Blk.new w _ _,ι _,by unfold maxLen;omega,rfl,rfl⟩⟩
  have O:=η l;have x:=η (q0B w (.cells #[] 99));by_cases h0:n=0
  ·subst h0
   obtain rfl:K=[]:=List.eq_nil_of_length_eq_zero N;clear I N r Q R d D l;go_enter Tryz.func77,Tryz.ntmps77;go_wp2_with fail;go_ret;exact⟨_,rfl,O.o,x.o⟩
  ·have J:Hd (∀j u,(q1i K)[j]? =some u->(w.alloc (.cells #[] 99)).cell? (a.add j)=some u):=η fun j u hj=>by
    obtain⟨b,off,e,h⟩:=(I.ext x.o).rd j u hj
    cases e;rw[Addr.add_lit];exact h
   have HL:=η N;have V:Hd ((q1i K).length=n*5):=η (by rw[q3S,N]);clear I N r Q R d D l;go_enter Tryz.func77,Tryz.ntmps77
   go_wp2_with (at_builtin;refine wpList_append_lies _ rfl _ _ 22 rfl w.heap.size 99 i _ 5 64 Tryz.underlying22 HI.o HZ.o Y.o S.o (by decide) (by decide) _ 0 [] (by simp[Act.eval]) O.o a n cap (q1i K) (by simp[Act.eval]) V.o J.o (z3h K) (by omega) (by unfold maxLen;omega) (by omega) x.o.size _ rfl ?_;intro g cap1 w1 F y a0 b0;have X:=η F;have U:=η y;clear F y a0)
   go_wp2_with fail;go_ret;refine⟨_,rfl,by have:=X.o;rw[HL.o];simpa using this,x.o.grown U.o x.o.size (fun q hq=>by cases hq;exact ι _)⟩
theorem Tryz.infoFi :(Tryz.prog.info? 38).map (fun i=>(i.zero,i.size,i.bytes))=some (some (.agg #[.int .i64 0,.string ⟨#[]⟩,.int .i64 0]),3,32):=by kernel_rfl
theorem q1j(L:List Fi)(f:Fi):q2i (L++[f])=q2i L++fic f:=by rw[q7J];unfold q2i;simp
theorem q0M{b W:World}{j:Nat}{v:Option Value}(h:b.heap.size=q)(k:W.cell? ⟨q,j,none⟩=v):W.cell? ⟨b.heap.size,j,none⟩=v:=h▸k
theorem z4v(x:Smm){oa:Option Addr}{on oc:Nat}{O:List To}(w:World)(hf:Tos w x.fa x.fn x.fc x.F)(hb:Tos w x.ba x.bn x.bc x.B)(ho:Tos w oa on oc O)(hn:on<=1000000):
  Calls Tryz.prog 36 #[smV x,.slice oa on oc] w fun e w'=> ∃v,e= .returned v/\w'.ownsRow w.heap.size 38 3 v (q2B x.nm x.la x.F x.B O).length (q2i (q2B x.nm x.la x.F x.B O))/\Ext w w':=by
 obtain⟨nm,la,fa,fn,fc,F,ba,bn,bc,B⟩:=x;simp only at hf hb⊢;have s0:=q0B w (.cells #[.string ⟨nm.toArray⟩,.int .i64 la,.slice fa fn fc,.slice ba bn bc] 43);have X:=Blk.new w 43 #[.string ⟨nm.toArray⟩,.int .i64 la,.slice fa fn fc,.slice ba bn bc];obtain⟨g,hg⟩: ∃g,w.heap.size=g:=⟨_,rfl⟩
 have HG:=η hg;rw[hg] at X;have j:=η s0;have HB:=η X;have HF:=η hf;have HK:=η hb;have HO:=η ho;have t0:=η ho.len;have b1:=ho.fits;have b2:=ho.bound;have q1:IntKind.i64.wrap ((on:Int)-1)=(on:Int)-1:=by rw[ν];omega
 have k0:=q0M hg (X.cell 0);have k1:=q0M hg (X.cell 1);obtain⟨z1,l0⟩: ∃z,decide (la≠(O.length:Int)-1)=z:=⟨_,rfl⟩
 have B0:(la !=(on:Int)-1)=z1:=by
  rw[<-l0,ho.len];by_cases h:la=(on:Int)-1<;>simp[h]
 obtain⟨p,hp⟩: ∃p,q1Z 0 F O=p:=⟨_,rfl⟩
 obtain⟨q,hq⟩: ∃q,q1Z 0 B O.reverse=q:=⟨_,rfl⟩
 obtain⟨SF,h0⟩: ∃S,q2B nm la F B O=S:=⟨_,rfl⟩
 rw[h0];have HS:Hd (SF=one? z1 ⟨4,nm,la⟩++one? (decide (0<=p)) ⟨5,nm,p⟩++one? (decide (0<=q)) ⟨6,nm,q⟩):=η (by rw[<-h0];unfold q2B;rw[l0,hp,hq]);have u0:=η hp;have v0:=η hq;clear s0 X hf hb ho l0 hp hq hg h0;unfold smV;go_enter Tryz.func36,Tryz.ntmps36;obtain⟨z2,m0⟩: ∃z,decide (0<=p)=z:=⟨_,rfl⟩
 obtain⟨z3,n0⟩: ∃z,decide (0<=q)=z:=⟨_,rfl⟩
 rw[m0,n0] at HS;obtain⟨W1,i0⟩: ∃W1,w.alloc (.cells #[.string ⟨nm.toArray⟩,.int .i64 la,.slice fa fn fc,.slice ba bn bc] 43)=W1:=⟨_,rfl⟩
 simp only[i0] at j HB k0 k1;have y0:=η m0;have z0:=η n0;have f0:=η (fun W (h:Ext W1 W)=>z8w W ((HF.o.ext j.o).ext h) ((HO.o.ext j.o).ext h));rw[u0.o] at f0;clear m0 n0
 go_upto_if 13 with fail
 go_cut [4] from 8 (fun v W=> ∃(M:List Fi) (a:Option Addr) (l c:Nat),v= .slice a l c/\Hd (M=one? z1 ⟨4,nm,la⟩)/\Hd (M.length=l)/\l<=1/\Hd (W.ownsRow W1.heap.size 38 3 (.slice a l c) l (q2i M))/\Hd (Ext W1 W))
 case first=>
  clear i0
  cases z1 with
  | false=>
   go_wp2_with fail
   go_meet
   case rel=>exact⟨[],none,0,0,rfl,η rfl,η rfl,by omega,η ⟨rfl,.inl ⟨rfl,rfl⟩⟩,η (Ext.refl _)⟩
  | true=>
   have HN:=η (World.ownsRow_nil W1 W1.heap.size 38 3);have N:=η (show Rd (W1.alloc (.cells #[.int .i64 4,.string ⟨nm.toArray⟩,.int .i64 la] 38)) (some ⟨W1.heap.size,0,none⟩) (fic ⟨4,nm,la⟩) from Rd.lit W1 #[.int .i64 4,.string ⟨nm.toArray⟩,.int .i64 la] 38);have J:=η (q0F HN.o (q0B W1 (.cells #[.int .i64 4,.string ⟨nm.toArray⟩,.int .i64 la] 38)));have U:Hd (W1.heap.size<=(W1.alloc (.cells #[.int .i64 4,.string ⟨nm.toArray⟩,.int .i64 la] 38)).heap.size):=η (by have:=(Ext.refl W1).size;rw[ρ];omega)
   go_wp2_with (at_builtin;refine q0G rfl _ _ 28 rfl W1.heap.size 38 _ 3 32 Tryz.underlying28 Tryz.infoFi (by decide) (by decide) _ 0 [] rfl J.o _ 1 1 (fic ⟨4,nm,la⟩) rfl rfl (fun h=>by cases h) N.o (by unfold fic;simp[Value.oneCell']) (by unfold maxLen;omega) (by omega) U.o ?_;intro v2 w8 d b V;obtain⟨a2,c2,rfl⟩:=q0E d;have I:=η d;have r:Hd (Ext W1 w8):=η (q2y (w0:=W1) (vq:= .slice none 0 0) (Ext.refl W1) HN.o b);clear d b V)
   go_meet
   case rel=>exact⟨[⟨4,nm,la⟩],_,_,_,rfl,η rfl,η rfl,by omega,I,r⟩
 case rest=>
  clear i0 k0 k1;obtain⟨M,c0,l,d0,rfl,HM,D,r0,Q,HX⟩:=hcut;have i:=HB.o.ext HX.o;have k2:=q0M HG.o (i.cell 2);have p0:=η (f0.o _ HX.o);clear i f0;go_wp2_with fail;refine p0.o.mono ?_;rintro e w2 ⟨rfl,Y⟩;have r:=η (HX.o.trans Y);have y:=η (q0F Q.o Y);have i:=HB.o.ext r.o;have k0:=q0M HG.o (i.cell 0);have A0:decide (0<=p)=z2:=y0.o;clear Y i k2 p0 HX Q
  go_upto_if 27 with fail
  go_cut [4] from 8 (fun v W=> ∃(M:List Fi) (a:Option Addr) (l c:Nat),v= .slice a l c/\Hd (M=one? z1 ⟨4,nm,la⟩++one? z2 ⟨5,nm,p⟩)/\Hd (M.length=l)/\l<=2/\Hd (W.ownsRow W1.heap.size 38 3 (.slice a l c) l (q2i M))/\Hd (Ext W1 W))
  case first=>
   cases z2 with
   | false=>
    go_wp2_with fail
    go_meet
    case rel=>exact⟨M,c0,l,d0,rfl,η (by rw[HM.o];simp[one?]),D,by omega,y,r⟩
   | true=>
    have N:=η (show Rd (w2.alloc (.cells #[.int .i64 5,.string ⟨nm.toArray⟩,.int .i64 p] 38)) (some ⟨w2.heap.size,0,none⟩) (fic ⟨5,nm,p⟩) from Rd.lit w2 #[.int .i64 5,.string ⟨nm.toArray⟩,.int .i64 p] 38);have J:=η (q0F y.o (q0B w2 (.cells #[.int .i64 5,.string ⟨nm.toArray⟩,.int .i64 p] 38)));have U:Hd (W1.heap.size<=(w2.alloc (.cells #[.int .i64 5,.string ⟨nm.toArray⟩,.int .i64 p] 38)).heap.size):=η (by have:=r.o.size;rw[ρ];omega)
    go_wp2_with (at_builtin;refine q0G rfl _ _ 28 rfl W1.heap.size 38 _ 3 32 Tryz.underlying28 Tryz.infoFi (by decide) (by decide) _ l (q2i M) rfl J.o _ 1 1 (fic ⟨5,nm,p⟩) rfl rfl (fun h=>by cases h) N.o (by unfold fic;simp[Value.oneCell']) (by unfold maxLen;omega) (by omega) U.o ?_;intro v2 w8 d b V;obtain⟨a2,c2,rfl⟩:=q0E d;have I:=η d;have Z:Hd (Ext W1 w8):=η (q2y (w0:=W1) (vq:= .slice c0 l d0) r.o y.o b);clear d b V)
    go_meet
    case rel=>exact⟨M++[⟨5,nm,p⟩],_,_,_,rfl,η (by rw[HM.o];simp[one?]),η (by rw[θ,D.o];rfl),by omega,η (by rw[q1j];exact I.o),Z⟩
  case rest=>
   clear k0 A0 y r HM D r0;obtain⟨M,c0,l,d0,rfl,HM,D,r0,Q,HX⟩:=hcut;have o0:=η (z7U _ ((HO.o.ext j.o).ext HX.o) hn);go_wp2_with fail;refine o0.o.mono ?_;rintro e w3 ⟨v,rfl,hr,Y⟩;obtain⟨ca,cc,rfl⟩:=q0E hr;have q0:=η (z0t hr (by rw[t0.o];omega));have Z:=η Y;clear hr Y o0;go_wp2_with fail;refine q0.o.mono ?_;rintro e w4 ⟨rfl,r1,r2,r3,r4⟩;have j0:Ext wc w4:=r2 wc Z.o (ι _);have a0:=η (HX.o.trans j0);have e0:=η (q0F Q.o j0);have i:=HB.o.ext a0.o;have k3:=q0M HG.o (i.cell 3);have g0:=η (z8w w4 ((HK.o.ext j.o).ext a0.o) (q1J (L:=O.reverse) (by rw[List.length_reverse];exact r1)).1);rw[v0.o] at g0;clear r1 r2 r3 r4 j0 i q0 Z Q HX;go_wp2_with fail;refine g0.o.mono ?_;rintro e w5 ⟨rfl,Y⟩;have b0:=η (a0.o.trans Y);have R:=η (q0F e0.o Y);have i:=HB.o.ext b0.o;have k0:=q0M HG.o (i.cell 0);have C0:decide (0<=q)=z3:=z0.o;clear Y i k3 g0 a0 e0
   cases z3 with
   | false=>
    go_wp2_with fail;go_ret;refine⟨_,rfl,?_,j.o.trans b0.o⟩;have e1:SF=M:=by rw[HS.o,HM.o];simp[one?]
    rw[e1,D.o];exact q0d R.o j.o.size
   | true=>
    have N:=η (show Rd (w5.alloc (.cells #[.int .i64 6,.string ⟨nm.toArray⟩,.int .i64 q] 38)) (some ⟨w5.heap.size,0,none⟩) (fic ⟨6,nm,q⟩) from Rd.lit w5 #[.int .i64 6,.string ⟨nm.toArray⟩,.int .i64 q] 38);have J:=η (q0F R.o (q0B w5 (.cells #[.int .i64 6,.string ⟨nm.toArray⟩,.int .i64 q] 38)));have U:Hd (W1.heap.size<=(w5.alloc (.cells #[.int .i64 6,.string ⟨nm.toArray⟩,.int .i64 q] 38)).heap.size):=η (by have:=b0.o.size;rw[ρ];omega)
    go_wp2_with (at_builtin;refine q0G rfl _ _ 28 rfl W1.heap.size 38 _ 3 32 Tryz.underlying28 Tryz.infoFi (by decide) (by decide) _ l (q2i M) rfl J.o _ 1 1 (fic ⟨6,nm,q⟩) rfl rfl (fun h=>by cases h) N.o (by unfold fic;simp[Value.oneCell']) (by unfold maxLen;omega) (by omega) U.o ?_;intro v2 w8 d b V;obtain⟨a2,c2,rfl⟩:=q0E d;have I:=η d;have x0:Hd (Ext W1 w8):=η (q2y (w0:=W1) (vq:= .slice c0 l d0) b0.o R.o b);clear d b V)
    go_wp2_with fail;go_ret;refine⟨_,rfl,?_,j.o.trans x0.o⟩;have e1:SF=M++[⟨6,nm,q⟩]:=by rw[HS.o,HM.o];simp[one?]
    rw[e1,θ,D.o,q1j];exact q0d I.o j.o.size
theorem z4O{w:World}{mb n:Nat}{v1:Value}{L:List To}(x:Blk w mb 59 #[.slice la n lc,v1,v2])(S:Tos w la n lc L)(s:List UInt8)(hl:n<=100000):
  Calls Tryz.prog 52 #[.pointer (some ⟨mb,0,none⟩),.string ⟨s.toArray⟩] w fun e w'=> ∃v,e= .returned v/\w'.ownsRow w.heap.size 99 5 v (L.filter fun t=>decide (t.s=s)).length (q1i (L.filter fun t=>decide (t.s=s)))/\Ext w w':=by
 have hn:=S.len;have HT:=η S;have b1:=S.fits;have b2:=S.bound;have X:=η x;have Z:=η hn;clear S x hn;go_enter Tryz.func52,Tryz.ntmps52;go_wp2_with fail
 go_loopw [5,6] (fun ov oi W=> ∃(k:Nat) (v:Value) (M:List To),ov=v/\oi= .int .i64 (k:Int)/\k<=n/\Hd ((L.take k).filter (fun t=>decide (t.s=s))=M)/\W.ownsRow w.heap.size 99 5 v M.length (q1i M)/\Ext w W) (fun _ i _=>n-(intOf i).toNat)
 case atStart=>exact⟨0,_,[],rfl,rfl,υ _,η (by simp),⟨rfl,.inl ⟨rfl,rfl⟩⟩,Ext.refl _⟩
 case round=>
  obtain⟨k,v,M,rfl,rfl,hk,l,b,y⟩:=hrel;obtain⟨oa,oc,rfl⟩:=q0E b;have D:=X.o.ext y;have k0:=D.cell 0;have Q:M.length<=n:=by rw[<-l.o];exact Ω (List.length_filter_le _ _) (by rw[Θ,Z.o];omega)
  by_cases R:k<n
  ·have hd:decide ((k:Int)<(n:Int))=true:=ζ (by omega)
   have e0:(k:Int)<(n:Int):=by omega
   have q1:IntKind.i64.wrap ((k:Int)+1)=(k:Int)+1:=by rw[ν];omega
   obtain⟨bb,off,rfl,c0,c1,c2,c3,c4⟩:=(HT.o.ext y).at R;have HS:=η (z5a (fun t:To=>decide (t.s=s)) L to0 (k:=k) (by rw[Z.o];exact R));generalize L.getD k to0=t at*;obtain⟨ts,I,⟨ty,da,we⟩⟩:=t;simp only at c0 c1 c2 c3 c4;obtain⟨V,F⟩: ∃V,M.length=V:=⟨_,rfl⟩
   have J:=η F;have f0:=q1o;rw[F] at b Q⊢;have r:=η b;have U:=η y;have b0:=η y.size;have a0:=η (show Rd (wr.alloc (.cells #[.string ⟨ts.toArray⟩,.int .i64 I,.string ⟨ty.toArray⟩,.string ⟨da.toArray⟩,.float .f64 we] 99)) (some ⟨wr.heap.size,0,none⟩) (toc ⟨ts,I,⟨ty,da,we⟩⟩) from Rd.lit wr #[.string ⟨ts.toArray⟩,.int .i64 I,.string ⟨ty.toArray⟩,.string ⟨da.toArray⟩,.float .f64 we] 99);have N:=η (q0F b (q0B wr (.cells #[.string ⟨ts.toArray⟩,.int .i64 I,.string ⟨ty.toArray⟩,.string ⟨da.toArray⟩,.float .f64 we] 99)));clear b y D F;by_cases hs:ts=s
   ·subst hs
    have e1:(ts==ts)=true:=beq_self_eq_true ts
    go_wp2_with (at_builtin;refine q0G rfl _ _ 22 rfl w.heap.size 99 _ 5 64 Tryz.underlying22 Tryz.infoTo (by decide) (by decide) _ V (q1i M) rfl N.o _ 1 1 (toc ⟨ts,I,⟨ty,da,we⟩⟩) rfl rfl (fun h=>by cases h) a0.o (by unfold toc;simp[Value.oneCell']) (by unfold maxLen;omega) (by omega) (by have:=b0.o;simp;omega) ?_;intro v2 w8 j d d0;obtain⟨a2,k2,rfl⟩:=q0E j;have HO:=η j;have HX:Hd (Ext w w8):=η (q2y (w0:=w) (W:=wr) (vq:= .slice oa V oc) U.o r.o d);clear j d d0)
    go_roundw
    case rel=>
     refine⟨k+1,_,M++[⟨ts,I,⟨ty,da,we⟩⟩],rfl,by go_num,by omega,η (by rw[HS.o,l.o];simp),?_,HX.o⟩;rw[q4c,θ,J.o];exact HO.o
    case measure=>simp[intOf];omega
   ·have e1:(ts==s)=false:=beq_eq_false_iff_ne.2 hs
    go_wp2_with fail
    go_roundw
    case rel=>exact⟨k+1,_,M,rfl,by go_num,by omega,η (by rw[HS.o,l.o];simp[hs]),by rw[J.o];exact r.o,U.o⟩
    case measure=>simp[intOf];omega
  ·obtain rfl:k=n:=by omega
   have hd:decide ((k:Int)<(k:Int))=false:=ε (by omega);have O:M=L.filter fun t=>decide (t.s=s):=by rw[<-l.o,Δ (by rw[Z.o];exact ι _)]
   have r:=η b;have U:=η y;have Y:=η O;clear b y D O Q;go_wp2_with fail;go_ret;exact⟨_,rfl,by rw[<-Y.o];exact r.o,U.o⟩
theorem z8y{n:Nat}{L:List To}(s:List UInt8)(w:World)(l:Tos w la n lc L)(D:n<=100000):
  Calls Tryz.prog 37 #[.slice la n lc,.string ⟨s.toArray⟩] w fun e w'=> ∃v,e= .returned v/\w'.ownsRow w.heap.size 99 5 v (q6B L s).length (q1i (q6B L s))/\Ext w w':=by
 have b:=q0B w (.cells #[.slice la n lc,.slice none 0 0,.int .i64 0] 59);have y:=η (z4O (Blk.new w 59 #[.slice la n lc,.slice none 0 0,.int .i64 0]) (l.ext b) s D);have i:=η b;clear b l;go_enter Tryz.func37,Tryz.ntmps37;go_wp2_with fail;refine y.o.mono ?_;rintro e w1 ⟨v,rfl,j,r⟩;have x:=η (q0d j i.o.size);have d:=η (i.o.trans r);clear j r;go_wp2_with fail;go_ret;exact⟨v,rfl,x.o,d.o⟩
theorem z6s(a b:To)(w:World)(Y:a.e.we<18446744073709551616)(Z:b.e.we<18446744073709551616):Calls Tryz.prog 61 #[toV a,toV b] w fun r w'=>r= .returned (.bool (q3p a b))/\Ext w w':=by
 obtain⟨s,v,⟨ty,da,we⟩⟩:=a;obtain⟨I,J,⟨l,j,x⟩⟩:=b;have F:=q0B w (.cells #[.string ⟨s.toArray⟩,.int .i64 v,.string ⟨ty.toArray⟩,.string ⟨da.toArray⟩,.float .f64 we] 99);have y:=q0B (w.alloc (.cells #[.string ⟨s.toArray⟩,.int .i64 v,.string ⟨ty.toArray⟩,.string ⟨da.toArray⟩,.float .f64 we] 99)) (.cells #[.string ⟨I.toArray⟩,.int .i64 J,.string ⟨l.toArray⟩,.string ⟨j.toArray⟩,.float .f64 x] 99);have R:=η (F.trans y);have i:=(Blk.new w 99 #[.string ⟨s.toArray⟩,.int .i64 v,.string ⟨ty.toArray⟩,.string ⟨da.toArray⟩,.float .f64 we]).ext y;have d:=Blk.new (w.alloc (.cells #[.string ⟨s.toArray⟩,.int .i64 v,.string ⟨ty.toArray⟩,.string ⟨da.toArray⟩,.float .f64 we] 99)) 99 #[.string ⟨I.toArray⟩,.int .i64 J,.string ⟨l.toArray⟩,.string ⟨j.toArray⟩,.float .f64 x];rw[ρ] at d;have k0:=i.cell 0;have k1:=i.cell 1;have k2:=i.cell 2;have k3:=i.cell 3;have k4:=i.cell 4;have d0:=d.cell 0;have d1:=d.cell 1;have d2:=d.cell 2;have d3:=d.cell 3;have d4:=d.cell 4;obtain⟨N,U⟩: ∃N,(s==I)=N:=⟨_,rfl⟩
 obtain⟨O,V⟩: ∃O,(v==J)=O:=⟨_,rfl⟩
 obtain⟨X,D⟩: ∃X,q4Y ⟨ty,da,we⟩ ⟨l,j,x⟩=X:=⟨_,rfl⟩
 have hs:q3p ⟨s,v,⟨ty,da,we⟩⟩ ⟨I,J,⟨l,j,x⟩⟩=(N&&O&&X):=by
  unfold q3p;rw[<-U,<-V,<-D]
  congr 1
  congr 1
  by_cases h:s=I<;>simp[h]
 rw[hs];have Q:=η (fun W=>z1z ⟨ty,da,we⟩ ⟨l,j,x⟩ Y Z W);rw[D] at Q;simp only at Q;clear F y i d hs D Y Z;unfold toV;go_enter Tryz.func61,Tryz.ntmps61
 cases N with
 | false=>
  go_wp2_with fail;go_ret;exact⟨rfl,R.o⟩
 | true=>
  cases O with
  | false=>
   go_wp2_with fail;go_ret;exact⟨rfl,R.o⟩
  | true=>
   go_wp2_with fail;refine(Q.o _).mono ?_;rintro e w1 ⟨rfl,hx⟩;have S:=η (R.o.trans hx);clear hx;go_wp2_with fail;go_ret;exact⟨by simp,S.o⟩
theorem z6c{n:Nat}{L:List To}(w:World)(F:Tos w la n lc L)(hl:n<=100000):
  Calls Tryz.prog 39 #[.slice la n lc] w fun e w'=> ∃v,e= .returned v/\w'.ownsRow w.heap.size 99 5 v n (q1i L.reverse)/\Ext w w':=by
 have X:=F.len;have Z:=η F;have b1:=F.fits;have b2:=F.bound;have S:=η X;have q0:IntKind.i64.wrap ((n:Int)-1)=(n:Int)-1:=by rw[ν];omega
 clear F X;go_enter Tryz.func39,Tryz.ntmps39;go_wp2_with fail
 go_loopw [3,4] (fun ov oi W=> ∃(k:Nat) (v:Value),ov=v/\oi= .int .i64 ((k:Int)-1)/\k<=n/\W.ownsRow w.heap.size 99 5 v (n-k) (q1i (L.drop k).reverse)/\Ext w W) (fun _ i _=>(intOf i+1).toNat)
 case atStart=>exact⟨n,_,rfl,rfl,ι _,⟨by rw[List.drop_eq_nil_of_le (by rw[S.o];exact ι _)];simp[q1i],.inl ⟨rfl,by omega⟩⟩,Ext.refl _⟩
 case round=>
  obtain⟨k,v,rfl,rfl,hk,b,x⟩:=hrel;obtain⟨oa,oc,rfl⟩:=q0E b;by_cases b0:0<k
  ·have V:decide ((0:Int)<=(k:Int)-1)=true:=ζ (by omega)
   obtain⟨j,rfl⟩: ∃j,k=j+1:=⟨k-1,by omega⟩
   have U:((j+1:Nat):Int)-1=(j:Int):=by omega
   rw[U] at V⊢;have a0:(j:Int)<(n:Int):=by omega
   have q1:IntKind.i64.wrap ((j:Int)-1)=(j:Int)-1:=by rw[ν];omega
   obtain⟨bb,off,rfl,c0,c1,c2,c3,c4⟩:=(Z.o.ext x).at (show j<n by omega);have D:(L.drop j).reverse=(L.drop (j+1)).reverse++[L.getD j to0]:=by rw[q3H L to0 (by rw[S.o];omega),List.reverse_cons]
   have N:=η D;generalize L.getD j to0=t at*;obtain⟨ts,I,⟨ty,da,we⟩⟩:=t;simp only at c0 c1 c2 c3 c4;have r:=η b;have J:=η x;have Q:=η x.size;have d0:=q1o;have O:=η (show Rd (wr.alloc (.cells #[.string ⟨ts.toArray⟩,.int .i64 I,.string ⟨ty.toArray⟩,.string ⟨da.toArray⟩,.float .f64 we] 99)) (some ⟨wr.heap.size,0,none⟩) (toc ⟨ts,I,⟨ty,da,we⟩⟩) from Rd.lit wr #[.string ⟨ts.toArray⟩,.int .i64 I,.string ⟨ty.toArray⟩,.string ⟨da.toArray⟩,.float .f64 we] 99);have y:=η (q0F b (q0B wr (.cells #[.string ⟨ts.toArray⟩,.int .i64 I,.string ⟨ty.toArray⟩,.string ⟨da.toArray⟩,.float .f64 we] 99)));clear b x D U
   go_wp2_with (at_builtin;refine q0G rfl _ _ 22 rfl w.heap.size 99 _ 5 64 Tryz.underlying22 Tryz.infoTo (by decide) (by decide) _ (n-(j+1)) (q1i (L.drop (j+1)).reverse) rfl y.o _ 1 1 (toc ⟨ts,I,⟨ty,da,we⟩⟩) rfl rfl (fun h=>by cases h) O.o (by unfold toc;simp[Value.oneCell']) (by unfold maxLen;omega) (by omega) (by have:=Q.o;simp;omega) ?_;intro v2 w8 l d R;obtain⟨a2,k2,rfl⟩:=q0E l;have Y:=η l;have HX:Hd (Ext w w8):=η (q2y (w0:=w) (W:=wr) (vq:= .slice oa (n-(j+1)) oc) J.o r.o d);clear l d R)
   go_roundw
   case rel=>
    refine⟨j,_,rfl,rfl,by omega,?_,HX.o⟩;rw[N.o,q4c,show n-j=n-(j+1)+1 by omega];exact Y.o
   case measure=>simp[intOf]
  ·obtain rfl:k=0:=by omega
   have V:decide ((0:Int)<=((0:Nat):Int)-1)=false:=by decide
   have r:=η b;have J:=η x;clear b x;go_wp2_with fail;go_ret;exact⟨_,rfl,by have:=r.o;rwa [List.drop_zero,Nat.sub_zero] at this,J.o⟩
theorem z6b{bo:Option Addr}{n m N:Nat}{F G:List To}(w:World)(Y:Tos w ao n cap F)(Z:Tos w bo m N G)(hF: ∀t∈F,t.e.we<18446744073709551616)(hG: ∀t∈G,t.e.we<18446744073709551616)(hn:n<=100000)(hm:m<=100000):
  Calls Tryz.prog 38 #[.slice ao n cap,.slice bo m N] w fun r w'=>r= .returned (.int .i64 (q1Z 0 F G))/\Ext w w':=by
 have HA:=η Y;have HB:=η Z;have b1:=Y.fits;have b2:=Y.bound;have b3:=Z.fits;have b4:=Z.bound;have S:=η Y.len;have U:=η Z.len;have h0:=η hF;have i0:=η hG;obtain⟨l,e0⟩: ∃x:Nat,min n m=x:=⟨_,rfl⟩
 have j:=η e0;have t0:l<=n:=by omega
 have u0:l<=m:=by omega
 clear Y Z e0 hF hG;go_enter Tryz.func38,Tryz.ntmps38;go_wp2_with fail
 go_loopw [5] (fun i W=> ∃k:Nat,k<=l/\i= .int .i64 (k:Int)/\Ext w W/\Hd (q1Z 0 F G=q1Z (k:Int) (F.drop k) (G.drop k))) (fun i _=>l-(intOf i).toNat)
 case atStart=>exact⟨0,υ _,rfl,Ext.refl _,η rfl⟩
 case round=>
  obtain⟨k,hk,rfl,hx,HP⟩:=hrel;have HX:=η hx;by_cases s0:k<l
  ·have hd:decide ((k:Int)<(n:Int))=true:=ζ (by omega)
   have b0:decide ((n:Int)<=(k:Int))=false:=ε (by omega);have O:decide (n<=k)=false:=ε (by omega);have d0:decide ((m:Int)<=(k:Int))=false:=ε (by omega);have Q:decide (m<=k)=false:=ε (by omega);have q0:(k:Int)<(n:Int):=by omega
   have r0:(k:Int)<(m:Int):=by omega
   have q8:IntKind.i64.wrap ((k:Int)+1)=(k:Int)+1:=by rw[ν];omega
   have I:k<F.length:=by rw[S.o];omega
   have J:k<G.length:=by rw[U.o];omega
   obtain⟨ab,m0,rfl,a0,a1,a2,a3,a4⟩:=(HA.o.ext hx).at (show k<n by omega);obtain⟨bb,n0,rfl,c0,c1,c2,c3,c4⟩:=(HB.o.ext hx).at (show k<m by omega);have V:=η (q8e (i:=k) (a:=F) (b:=G) I J);have X:=η (q8d (i:=k) (a:=F) (b:=G) I J);have f0:=h0.o _ (q5N (d:=to0) I);have g0:=i0.o _ (q5N (d:=to0) J);generalize F.getD k to0=t at*;generalize G.getD k to0=u at*;have HT:=η (fun W=>z6s t u W f0 g0);unfold toV at HT;obtain⟨z,hz⟩: ∃z,q3p t u=z:=⟨_,rfl⟩
   rw[hz] at HT V X;have a0:=q0C a0;have a1:=q0C a1;have a2:=q0C a2;have a3:=q0C a3;have a4:=q0C a4;have c0:=q0C c0;have c1:=q0C c1;have c2:=q0C c2;have c3:=q0C c3;have c4:=q0C c4;clear hx hz f0 g0 I J;go_wp2_with fail;refine q0D (by kernel_rfl) (by kernel_rfl) ?_
   repeat (go_big_quiet_step (fail))
   go_big_quiet_step (exact Calls.quiet_ext (HT.o _))
   repeat (go_big_quiet_step (fail))
   refine wpQuiet_nil ?_;intro w2 R;have y:=η (HX.o.trans R);clear R a0 a1 a2 a3 a4 c0 c1 c2 c3 c4
   cases z with
   | true=>
    go_wp2_with fail
    go_roundw
    case rel=>exact⟨k+1,by omega,by go_num,y.o,η (HP.o.trans (V.o (by simp)))⟩
    case measure=>simp[intOf];omega
   | false=>
    go_wp2_with fail;go_ret;exact⟨by rw[HP.o,X.o (by simp)];rfl,y.o⟩
  ·have ek:l=k:=by omega
   subst ek;have HE:=η (z0l (i:=l) (a:=F) (b:=G) (by rw[S.o,U.o];exact j.o.symm));rw[S.o,U.o] at HE;clear hx;by_cases e:n=m
   ·have D:Hd (q1Z 0 F G= -1):=η (by rw[HP.o,HE.o,ξ e])
    have hd:decide ((l:Int)<(n:Int))=false:=ε (by have:=j.o;omega);have p0:decide (l<n)=false:=ε (by have:=j.o;omega);have b0:decide ((l:Int)<(m:Int))=false:=ε (by have:=j.o;omega);have O:decide (l<m)=false:=ε (by have:=j.o;omega);clear e;go_wp2_with fail;go_ret;exact⟨by rw[D.o];rfl,HX.o⟩
   ·have D:Hd (q1Z 0 F G=(l:Int)):=η (by rw[HP.o,HE.o,κ e])
    by_cases h:n<m
    ·have hd:decide ((l:Int)<(n:Int))=false:=ε (by have:=j.o;omega)
     have b0:decide ((l:Int)<(m:Int))=true:=ζ (by have:=j.o;omega);have O:decide (l<m)=true:=ζ (by have:=j.o;omega);have d0:decide ((n:Int)<=(l:Int))=true:=ζ (by have:=j.o;omega);have Q:decide (n<=l)=true:=ζ (by have:=j.o;omega);have j0:¬l<n:=by have:=j.o;omega
     have v0:l<m:=by have:=j.o;omega
     have k0:n<=l:=by have:=j.o;omega
     clear e h;go_wp2_with fail;refine q0D (by kernel_rfl) (by kernel_rfl) ?_
     repeat (go_big_quiet_step (fail))
     refine wpQuiet_nil ?_;intro w2 R;have y:=η (HX.o.trans R);clear R;go_wp2_with fail;go_ret;exact⟨by rw[D.o];rfl,y.o⟩
    ·have hd:decide ((l:Int)<(n:Int))=true:=ζ (by have:=j.o;omega)
     have d0:decide ((n:Int)<=(l:Int))=false:=ε (by have:=j.o;omega);have Q:decide (n<=l)=false:=ε (by have:=j.o;omega);have o0:decide ((m:Int)<=(l:Int))=true:=ζ (by have:=j.o;omega);have l0:decide (m<=l)=true:=ζ (by have:=j.o;omega);have j0:l<n:=by have:=j.o;omega
     have k0:¬n<=l:=by have:=j.o;omega
     have w0:m<=l:=by have:=j.o;omega
     clear e h;go_wp2_with fail;refine q0D (by kernel_rfl) (by kernel_rfl) ?_
     repeat (go_big_quiet_step (fail))
     refine wpQuiet_nil ?_;intro w2 R;have y:=η (HX.o.trans R);clear R;go_wp2_with fail;go_ret;exact⟨by rw[D.o];rfl,y.o⟩
end
section
open Go.RowKit Go.Maps
def slE(v:Value):Option (DataW Unit×List MemPlace):=
 match v with
 | .slice none 0 0=>some (.nil,[])
 | .slice (some ⟨b,0,none⟩) n c=>some (.slice [.lit (.int .i64 b),.lit (.int .i64 n),.lit (.int .i64 c)] [],[])
 |_=>none
theorem z6f(b n c:Nat):slE (.slice (some ⟨b,0,none⟩) n c)=some (.slice [.lit (.int .i64 b),.lit (.int .i64 n),.lit (.int .i64 c)] [],[]):=rfl
theorem z2F :slE (.slice none 0 0)=some (.nil,[]):=rfl
theorem y0T{w:World}{B:Nat}{n:Nat}{v:Value}(h:w.ownsRow B e sz v n xs): ∃d,slE v=some (d,[]):=by
 rcases h.2 with⟨rfl,_⟩|⟨g,cap,b,rfl,_⟩
 ·exact⟨_,z2F⟩
 ·exact⟨_,z6f _ _ _⟩
theorem y0S{w:World}{B:Nat}{n:Nat}{v u:Value}(h:w.ownsRow B e sz v n xs){d:DataW Unit}{ps j:List MemPlace}(h1:slE v=some (d,ps))(h2:slE u=some (d,j)):u=v:=by
 unfold slE at h2
 split at h2
 ·rcases h.2 with⟨rfl,_⟩|⟨g,cap,i,rfl,_⟩
  ·rfl
  ·rw[z6f] at h1;cases h1;cases h2
 ·rcases h.2 with⟨rfl,_⟩|⟨g,cap,i,rfl,_⟩
  ·rw[z2F] at h1;cases h1;cases h2
  ·rw[z6f] at h1;cases h1
   simp only[Option.some.injEq,Prod.mk.injEq,DataW.slice.injEq,List.cons.injEq,DataW.lit.injEq,Lit.int.injEq,true_and,and_true] at h2;obtain⟨⟨a,b,c⟩,_⟩:=h2;rw[show _=g from Int.ofNat_inj.1 a,show _=n from Int.ofNat_inj.1 b,show _=cap from Int.ofNat_inj.1 c]
 ·cases h2
theorem y2C(w:World):(zeroValue 22).run Tryz.prog w= .ok (.slice none 0 0) w:=by kernel_rfl
structure OwG(W:World)(base gm n:Nat)(L:List To)(G:List UInt8->Value):Prop where
 map: ∃D:DataW Unit,W.ownsMap Tryz.prog 9 slE gm n D/\ ∀s,slE (G s)=some (D.atKey (.string s) .nil,[])
 row: ∀s,W.ownsRow base 99 5 (G s) (q6B L s).length (q1i (q6B L s))
 apart: ∀s s' i,s≠s'->(G s).ownBlock=some i->(G s').ownBlock≠some i
variable {W W1 W2:World}{base gm n:Nat}{L:List To}{G:List UInt8->Value}
theorem OwG.made(W:World)(base:Nat):OwG (W.alloc (.map #[] 0)) base W.heap.size 0 [] (fun _=> .slice none 0 0):=
 ⟨⟨_,World.ownsMap_made _ _ _ _,fun s=>by simp[DataW.atKey,slE]⟩,fun s=>⟨rfl,.inl ⟨rfl,rfl⟩⟩,fun s b i _ h=>by cases h⟩
theorem OwG.lt(h:OwG W base gm n L G):gm<W.heap.size:=by
 obtain⟨D,h1,_⟩:=h.map;exact h1.lt
theorem OwG.ne(h:OwG W base gm n L G)(s:List UInt8):(G s).ownBlock≠some gm:=by
 obtain⟨D,h1,_⟩:=h.map;exact q5x h1 (Own.of_row (h.row s))
theorem OwG.ne' (h:OwG W base gm n L G){v:Value}{B:Nat}(o:W.ownsRow B e sz v k xs):v.ownBlock≠some gm:=by
 obtain⟨D,h1,_⟩:=h.map;exact q5x h1 (Own.of_row o)
theorem OwG.same(h:OwG W base gm n L G)(k: ∀i,(i=gm\/ ∃s,(G s).ownBlock=some i)->W1.heap[i]? =W.heap[i]?):OwG W1 base gm n L G:=by
 obtain⟨D,h1,h2⟩:=h.map;exact⟨⟨D,q1f h1 (k gm (.inl rfl)),h2⟩,fun s=>q0K (h.row s) fun i b=>k i (.inr ⟨s,b⟩),h.apart⟩
theorem OwG.ext(h:OwG W base gm n L G)(k:Ext W W1):OwG W1 base gm n L G:=
 h.same fun i b=>k.block i (by rcases b with rfl|⟨s,b⟩;exact h.lt;exact(q0P (h.row s) i b).2)
theorem OwG.look(h:OwG W base gm n L G){s:List UInt8}(b:s.length<=9223372036854775807):(Instr.lookup 101 (.map (some gm)) (.string ⟨s.toArray⟩) false).run Tryz.prog W= .ok (G s) W:=by
 obtain⟨D,h1,h2⟩:=h.map;obtain⟨v,ps,d,i⟩:=h1.lookup z8J Tryz.underlying101 (y2C W) z2F (z4L s b);rw[d,y0S (h.row s) (h2 s) i]
theorem OwG.put(h:OwG W base gm n L G){t:To}{v:Value}{d:DataW Unit}(R:slE v=some (d,[]))(N:W1.ownsRow base 99 5 v ((q6B L t.s).length+1) (q1i (q6B L t.s)++toc t))(I:W.grownBy W1 (G t.s).ownBlock)
  (b:v.ownBlock=(G t.s).ownBlock\/v.ownBlock=some W.heap.size){D:DataW Unit}(O:W.ownsMap Tryz.prog 9 slE gm n D)(h2: ∀s,slE (G s)=some (D.atKey (.string s) .nil,[]))(hm:W2.ownsMap Tryz.prog 9 slE gm (n+1) (D.put (.string t.s) d))(o:W1.grownBy W2 (some gm)):
  OwG W2 base gm (n+1) (L++[t]) (fun x=>if x=t.s then v else G x):=by
 have Q: ∀x,x≠t.s-> ∀i,(G x).ownBlock=some i->W1.heap[i]? =W.heap[i]? :=fun x S i j=>I.block i (q0P (h.row x) i j).2 fun e=>h.apart x t.s i S j e.symm
 have r:W1.ownsMap Tryz.prog 9 slE gm n D:=q1f O (I.block gm h.lt fun e=>h.ne t.s e.symm);have J:v.ownBlock≠some gm:=q5x r (Own.of_row N);refine⟨⟨_,hm,fun s=>?_⟩,fun s=>?_,fun s F i y j=>?_⟩
 ·by_cases e:s=t.s
  ·subst e
   rw[ξ rfl,atKey_put_same (World.ownsMap.isMap r) (k:= .string t.s) (show WideAt.IsKeyLit (.string t.s) from trivial),R]
  ·rw[κ e,atKey_put_other (by intro h;injection h with h;exact e h),h2 s]
 ·by_cases e:s=t.s
  ·subst e
   rw[ξ rfl,z0g,ξ rfl,θ,q4c];exact q0K N fun i j=>o.block i (q0P N i j).2 fun e=>J (j.trans e)
  ·rw[κ e,z0g,κ (fun h=>e h.symm)]
   refine q0K (h.row s) fun i j=>?_
   exact(o.block i (Ψ (q0P (h.row s) i j).2 I.size) fun e=>h.ne s (j.trans e)).trans (Q s e i j)
 ·by_cases e:s=t.s
  ·have e':F≠t.s:=fun h=>y (e.trans h.symm)
   rw[ξ e] at j;rw[κ e'];intro l;rcases b with b|b
   ·exact h.apart t.s F i (fun h=>e' h.symm) (b▸j) l
   ·rw[b] at j;cases j
    exact Nat.lt_irrefl _ (q0P (h.row F) _ l).2
  ·rw [κ e] at j
   by_cases e':F=t.s
   ·rw [ξ e']
    intro l;rcases b with b|b
    ·exact h.apart s t.s i e j (b▸l)
    ·rw[b] at l;cases l
     exact Nat.lt_irrefl _ (q0P (h.row s) _ j).2
   ·rw[κ e']
    exact h.apart s F i y j
end
section
open Go.RowKit Go.Maps
theorem z6Z{w:World}{B size n:Nat}{cs:List Value}(h:w.ownsRow B e size (.slice va n' vc) n cs):va=none->vc=0:=fun e=>by
 subst e;rcases h.2 with⟨h1,h2⟩|⟨g,cap,b,h1,_⟩
 ·cases h1;rfl
 ·cases h1
theorem z2A{w:World}{B size n:Nat}{cs:List Value}(h:w.ownsRow B e size (.slice va n' vc) n cs):Rd w va cs:=by
 obtain⟨ao,cap,h1,_,_,_,h4⟩:=(Own.of_row h).rd
 cases h1;exact h4
structure Fnd(W1 W:World)(gm n:Nat)(L:List To)(G:List UInt8->Value)(v:Value)(M:List Fi):Prop where
 row:W.ownsRow W1.heap.size 38 3 v M.length (q2i M)
 own:OwG W W1.heap.size gm n L G
 apart: ∀s i,(G s).ownBlock=some i->v.ownBlock≠some i
 ext:Ext W1 W
section
variable {W1 W W2:World}{gm n:Nat}{L:List To}{G:List UInt8->Value}{v:Value}{M:List Fi}
theorem Fnd.grow(h:Fnd W1 W gm n L G v M)(k:Ext W W2):Fnd W1 W2 gm n L G v M:=⟨q0F h.row k,h.own.ext k,h.apart,h.ext.trans k⟩
theorem Fnd.size(h:Fnd W1 W gm n L G v M):W1.heap.size<=W.heap.size:=h.ext.size
theorem Fnd.more(h:Fnd W1 W gm n L G v M){j:List Fi}(r:W2.ownsRow W1.heap.size 38 3 v2 j.length (q2i j))(l:W.grownBy W2 v.ownBlock)(b:v2.ownBlock=v.ownBlock\/v2.ownBlock=some W.heap.size):Fnd W1 W2 gm n L G v2 j:=by
 refine⟨r,h.own.same fun i d=>?_,fun s i d=>?_,Below.grown h.ext l h.ext.size fun k o=>(q0P h.row k o).1⟩
 ·refine l.block i ?_ ?_
  ·rcases d with rfl|⟨s,d⟩;exact h.own.lt;exact(q0P (h.own.row s) i d).2
  ·rcases d with rfl|⟨s,d⟩
   ·exact fun e=>h.own.ne' h.row e.symm
   ·exact fun e=>h.apart s i d e.symm
 ·rcases b with b|b
  ·rw[b];exact h.apart s i d
  ·rw[b];intro e;cases e
   exact Nat.lt_irrefl _ (q0P (h.own.row s) _ d).2
end
section
variable {W1 W Wa Wb:World}{gm n:Nat}{L:List To}{G:List UInt8->Value}{v:Value}{M:List Fi}
theorem Fnd.put(h:Fnd W1 W gm n L G v M)(y:W1.heap.size<=gm){t:To}{u:Value}{d D:DataW Unit}(Q:slE u=some (d,[]))(O:Wa.ownsRow W1.heap.size 99 5 u ((q6B L t.s).length+1) (q1i (q6B L t.s)++toc t))(o:W.grownBy Wa (G t.s).ownBlock)
  (j:u.ownBlock=(G t.s).ownBlock\/u.ownBlock=some W.heap.size)(N:W.ownsMap Tryz.prog 9 slE gm n D)(r: ∀s,slE (G s)=some (D.atKey (.string s) .nil,[]))(hm:Wb.ownsMap Tryz.prog 9 slE gm (n+1) (D.put (.string t.s) d))(l:Wa.grownBy Wb (some gm)):
  Fnd W1 Wb gm (n+1) (L++[t]) (fun x=>if x=t.s then u else G x) v M:=by
 have I: ∀i,v.ownBlock=some i->Wa.heap[i]? =W.heap[i]? :=fun i b=>o.block i (q0P h.row i b).2 fun e=>h.apart t.s i e.symm b
 have J: ∀i,v.ownBlock=some i->Wb.heap[i]? =Wa.heap[i]? :=fun i b=>l.block i (Ψ (q0P h.row i b).2 o.size) fun e=>h.own.ne' h.row (b.trans e)
 refine⟨q0K h.row fun i b=>(J i b).trans (I i b),h.own.put Q O o j N r hm l,fun s i b=>?_,?_⟩
 ·by_cases e:s=t.s
  ·rw [ξ e] at b
   rcases j with j|j
   ·exact h.apart t.s i (j▸b)
   ·rw[j] at b;cases b
    intro R;exact Nat.lt_irrefl _ (q0P h.row _ R).2
  ·rw[κ e] at b
   exact h.apart s i b
 ·exact Below.grown (Below.grown h.ext o h.ext.size fun k F=>(q0P (h.own.row t.s) k F).1) l (Ω h.ext.size o.size) fun k F=>by cases F;exact y
end
theorem q6c{L:List To}{S:List Smm}(w:World)(hv:Tos w va vn vc L)(hs:Sms w so sn sc S)(hl: ∀t∈L,t.s.length<=9223372036854775807)(hS: ∀x∈S,x.nm.length<=9223372036854775807)(hn:vn<=100000)(hm:sn<=100000):
  Calls Tryz.prog 10 #[.agg #[.slice va vn vc,.slice so sn sc]] w fun e w'=> ∃v,e= .returned v/\w'.ownsRow w.heap.size 38 3 v (q2p L S).length (q2i (q2p L S))/\Ext w w':=by
 have I1:=q0B w (.cells #[.slice va vn vc,.slice so sn sc] 25);have W0:=Blk.new w 25 #[.slice va vn vc,.slice so sn sc];obtain⟨g,hg⟩: ∃g,w.heap.size=g:=⟨_,rfl⟩
 have HG:=η hg;rw[hg] at W0;have s0:=η I1;have HB:=η W0;have HV:=η hv;have HS:=η hs;have R1:=η hl;have Z1:=η hS;have b1:=hv.fits;have b2:=hv.bound;have b3:=hs.fits;have b4:=hs.bound;have r0:=η hv.len;have y0:=η hs.len;obtain⟨W1,m2⟩: ∃W1,w.alloc (.cells #[.slice va vn vc,.slice so sn sc] 25)=W1:=⟨_,rfl⟩
 simp only[m2] at s0 HB;have D1:=HB.o.ext (q0B W1 (.map #[] 0));have k0:=q0M hg (D1.cell 0);have y2:=@run_makeMap Tryz.prog;have a0:Fnd W1 (W1.alloc (.map #[] 0)) W1.heap.size 0 [] (fun _=> .slice none 0 0) (.slice none 0 0) []:=⟨⟨rfl,.inl ⟨rfl,rfl⟩⟩,OwG.made W1 _,(fun s i h=>by cases h),q0B _ _⟩
 obtain⟨gm,X0⟩: ∃gm,W1.heap.size=gm:=⟨_,rfl⟩
 rw[X0] at a0;have d2:=η a0;have I0:=η X0;have v1:=η (fun (nm:List UInt8) (m:Nat) (W:World) (h:Ext W1 W) (hm:m<=sn)=>y1q (va:=va) (vn:=vn) (vc:=vc) nm m W ((HS.o.ext s0.o).ext h) hm);clear I1 W0 hv hs hl hS hg D1 a0 X0;go_enter Tryz.func10,Tryz.ntmps10;go_wp2_with fail
 go_loopw [2,13] (fun v i W=> ∃(k:Nat) (a:Option Addr) (Q c:Nat) (G:List UInt8->Value),v= .slice a Q c/\i= .int .i64 (k:Int)/\k<=vn/\Hd ((q1t (S.map Smm.nm) L k).length=Q)/\Hd (Fnd W1 W gm k (L.take k) G (.slice a Q c) (q1t (S.map Smm.nm) L k))) (fun _ i _=>vn-(intOf i).toNat)
 case atStart=>exact⟨0,none,0,0,_,rfl,rfl,υ _,η rfl,d2⟩
 case round =>
  obtain⟨k,oa,Q,oc,G,rfl,rfl,hk,l,Y⟩:=hrel;by_cases v0:k<vn
  ·have hd :decide ((k:Int)<(vn:Int))=true:=ζ (by omega)
   have o2:(k:Int)<(vn:Int):=by omega
   have q1:IntKind.i64.wrap ((k:Int)+1)=(k:Int)+1:=by rw[ν];omega
   have hF:=Y.o;have l0:=q5N (A:=L) (i:=k) (d:=to0) (by rw[r0.o];exact v0);have Z:=R1.o _ l0;obtain⟨bb,off,rfl,c0,c1,c2,c3,c4⟩:=(HV.o.ext (s0.o.trans hF.ext)).at v0;have N0:L.take (k+1)=L.take k++[L.getD k to0]:=by
    have F1:k<L.length:=by rw[r0.o];exact v0
    rw[List.take_succ_eq_append_getElem F1,δ,γ F1];rfl
   have R:q1t (S.map Smm.nm) L (k+1)=q1t (S.map Smm.nm) L k++q6a (S.map Smm.nm) (L.take k) (L.getD k to0):=rfl;have M0:(L.take k).length=k:=by rw[Θ,r0.o];omega
   have D0:=q2z (S.map Smm.nm) L k;obtain⟨t,G1⟩: ∃t,L.getD k to0=t:=⟨_,rfl⟩
   rw[G1] at Z c0 c1 c2 c3 c4 N0 R;obtain⟨P,y1⟩: ∃P,L.take k=P:=⟨_,rfl⟩
   rw[y1] at N0 R M0 hF;obtain⟨M,A0⟩: ∃M,q1t (S.map Smm.nm) L k=M:=⟨_,rfl⟩
   rw[A0] at R hF l D0;obtain⟨nm,tv,⟨ty,da,we⟩⟩:=t;simp only at Z c0 c1 c2 c3 c4;obtain⟨ga,gc,j0⟩:=q0E (hF.own.row nm);obtain⟨cn,i0⟩: ∃cn,(q6B P nm).length=cn:=⟨_,rfl⟩
   rw[i0] at j0;have U:=q0B wr (.cells #[.string ⟨nm.toArray⟩,.int .i64 tv,.string ⟨ty.toArray⟩,.string ⟨da.toArray⟩,.float .f64 we] 99);have J:=Blk.new wr 99 #[.string ⟨nm.toArray⟩,.int .i64 tv,.string ⟨ty.toArray⟩,.string ⟨da.toArray⟩,.float .f64 we];obtain⟨WT,t0⟩: ∃WT,wr.alloc (.cells #[.string ⟨nm.toArray⟩,.int .i64 tv,.string ⟨ty.toArray⟩,.string ⟨da.toArray⟩,.float .f64 we] 99)=WT:=⟨_,rfl⟩
   rw[t0] at U J;obtain⟨bT,N⟩: ∃bT,wr.heap.size=bT:=⟨_,rfl⟩
   rw[N] at J;have y:=η N;have Q1:Hd (∀i,(Value.slice ga cn gc).ownBlock=some i->i<bT):=η fun i e=>by rw[<-N];exact(q0P (hF.own.row nm) i (by rw[j0];exact e)).2
   have u0:=(hF.own.ext U).look Z;rw[j0,<-I0.o] at u0;have p0:=η (hF.grow U);have B1:bT∉(Value.slice oa Q oc).ownBlock:=fun e=>by have:=(q0P hF.row bT e).2;omega
   have G0:=η B1;have I:=η J;have b0:=q0M N (J.cell 0);have E0:=q0M N (J.cell 1);obtain⟨z1,Z0⟩: ∃z,decide (tv≠(z7D P nm:Int))=z:=⟨_,rfl⟩
   have x2:(tv !=(cn:Int))=z1:=by
    rw[<-Z0,q6e,i0];by_cases h:tv=(cn:Int)<;>simp[h]
   obtain⟨z2,a1⟩: ∃z,decide (nm∈S.map Smm.nm)=z:=⟨_,rfl⟩
   have a0:q6a (S.map Smm.nm) P ⟨nm,tv,⟨ty,da,we⟩⟩=one? z1 ⟨1,nm,(k:Int)⟩++one? (decide (cn=0)&&!z2) ⟨2,nm,(k:Int)⟩:=by
    unfold q6a;rw[Z0,M0,q6e,i0,<-a1,<-decide_not]
   rw[a0] at R;have V1:=η M0;have w0:=η R;have Y1:=η N0;have m0:=η j0;have H0:=η i0;have R0:=η Z;have k2:=η a1;have L0:Q<=2*k:=by rw[<-l.o];exact D0
   clear hF l0 Z N0 R M0 D0 G1 y1 A0 j0 i0 U J N B1 Z0 a1 a0;have B2:=q1o
   go_upto_if 26 with fail
   go_cut [2,13] from 13 to 61 (fun s F0 W=>F0= .int .i64 (k:Int)/\ ∃(a:Option Addr) (Q c:Nat) (M2:List Fi),s= .slice a Q c/\Q<=2*k+1/\Hd (M2=M++one? z1 ⟨1,nm,(k:Int)⟩)/\Hd (M2.length=Q)/\Hd (Fnd W1 W gm k P G (.slice a Q c) M2)/\Hd (Blk W bT 99 #[.string ⟨nm.toArray⟩,.int .i64 tv,.string ⟨ty.toArray⟩,.string ⟨da.toArray⟩,.float .f64 we]))
   case first=>
    cases z1 with
    | false=>
     go_wp2_with fail
     go_meet
     case rel=>exact⟨rfl,oa,Q,oc,M,rfl,by omega,η (by simp[one?]),l,p0,I⟩
    | true=>
     clear t0;have n0:=η (show Rd (WT.alloc (.cells #[.int .i64 1,.string ⟨nm.toArray⟩,.int .i64 (k:Int)] 38)) (some ⟨WT.heap.size,0,none⟩) (fic ⟨1,nm,(k:Int)⟩) from Rd.lit WT #[.int .i64 1,.string ⟨nm.toArray⟩,.int .i64 (k:Int)] 38);have V:=η (p0.o.grow (q0B WT (.cells #[.int .i64 1,.string ⟨nm.toArray⟩,.int .i64 (k:Int)] 38)));have f0:=η V.o.size
     go_wp2_with (at_builtin;refine q0G rfl _ _ 28 rfl W1.heap.size 38 _ 3 32 Tryz.underlying28 Tryz.infoFi (by decide) (by decide) _ M.length (q2i M) rfl V.o.row _ 1 1 (fic ⟨1,nm,(k:Int)⟩) rfl rfl (fun h=>by cases h) n0.o (by unfold fic;simp[Value.oneCell']) (by unfold maxLen;rw[l.o];omega) (by rw[l.o];omega) f0.o ?_;intro v2 w8 j b O;rw[l.o] at j;obtain⟨a2,c2,rfl⟩:=q0E j;have q0:=η b;have d0:Hd (Fnd W1 w8 gm k P G (.slice a2 (Q+1) c2) (M++[⟨1,nm,(k:Int)⟩])):=η (V.o.more (by rw[θ,l.o,q1j];exact j) b O);clear j b O)
     go_meet
     case rel=>exact⟨rfl,_,_,_,M++[⟨1,nm,(k:Int)⟩],rfl,by omega,η (by simp[one?]),η (by rw[θ,l.o];rfl),d0,η ((I.o.ext (q0B _ _)).same (q0.o.block bT (Ψ I.o.lt (q0B _ _).size) fun e=>G0.o e.symm))⟩
   case rest=>
    clear u0 b0 E0 p0 I G0 l Y L0 t0;obtain⟨rfl,L1,i1,N1,M1,rfl,L0,S1,l,Y,I⟩:=hcut;have b0:=q0M y.o (I.o.cell 0);have X:=HB.o.ext Y.o.ext;have g0:=q0M HG.o (X.cell 0);have g1:=q0M HG.o (X.cell 1);have o0:=v1.o nm sn wc Y.o.ext (ι _);rw[Δ (by rw[y0.o];exact ι _),k2.o] at o0;have z0:=η o0;clear X o0
    go_upto_region 8 with fail
    go_cut [2,13,46] from 13 to 61 (fun s F0 u2 W=>F0= .int .i64 (k:Int)/\s= .slice L1 i1 N1/\u2= .bool (decide (cn=0)&&!z2)/\Hd (Ext wc W))
    case first=>
     by_cases h0:cn=0
     ·have e0:((cn:Int)==0)=true:=beq_iff_eq.2 (by omega)
      have O0:Hd (decide (cn=0)=true):=η (ζ h0);clear h0;go_wp2_with fail;refine z0.o.mono ?_;rintro e w5 ⟨rfl,hx⟩;have j2:=η hx;clear hx;go_wp2_with fail
      go_meet
      case rel=>exact⟨rfl,rfl,by rw[O0.o];simp,j2⟩
     ·have e0:((cn:Int)==0)=false:=beq_eq_false_iff_ne.2 (by omega)
      have O0:Hd (decide (cn=0)=false):=η (ε h0);clear h0;go_wp2_with fail
      go_meet
      case rel=>exact⟨rfl,rfl,by rw[O0.o];rfl,η (Ext.refl _)⟩
    case rest=>
     have p1:=Y;have j1:=I;clear b0 g0 g1 z0;obtain⟨rfl,rfl,rfl,T0⟩:=hcut;have Y:=η (p1.o.grow T0.o);have I:=η (j1.o.ext T0.o);clear p1 j1 T0;have b0:=q0M y.o (I.o.cell 0);obtain⟨z3,K1⟩: ∃z,(decide (cn=0)&&!z2)=z:=⟨_,rfl⟩
     rw[K1] at w0⊢;clear K1
     go_upto_if 46 with fail
     go_cut [2,13] from 13 to 61 (fun s F0 W=>F0= .int .i64 (k:Int)/\ ∃(a:Option Addr) (Q c:Nat) (M2:List Fi),s= .slice a Q c/\Q<=2*k+2/\Hd (M2=M1++one? z3 ⟨2,nm,(k:Int)⟩)/\Hd (M2.length=Q)/\Hd (Fnd W1 W gm k P G (.slice a Q c) M2)/\Hd (Blk W bT 99 #[.string ⟨nm.toArray⟩,.int .i64 tv,.string ⟨ty.toArray⟩,.string ⟨da.toArray⟩,.float .f64 we]))
     case first=>
      cases z3 with
      | false=>
       go_wp2_with fail
       go_meet
       case rel=>exact⟨rfl,L1,i1,N1,M1,rfl,by omega,η (by simp[one?]),l,Y,I⟩
      | true=>
       have G0:=η (I.o.apart Y.o.row (by decide));have n0:=η (show Rd (wc.alloc (.cells #[.int .i64 2,.string ⟨nm.toArray⟩,.int .i64 (k:Int)] 38)) (some ⟨wc.heap.size,0,none⟩) (fic ⟨2,nm,(k:Int)⟩) from Rd.lit wc #[.int .i64 2,.string ⟨nm.toArray⟩,.int .i64 (k:Int)] 38);have V:=η (Y.o.grow (q0B wc (.cells #[.int .i64 2,.string ⟨nm.toArray⟩,.int .i64 (k:Int)] 38)));have f0:=η V.o.size
       go_wp2_with (at_builtin;refine q0G rfl _ _ 28 rfl W1.heap.size 38 _ 3 32 Tryz.underlying28 Tryz.infoFi (by decide) (by decide) _ M1.length (q2i M1) rfl V.o.row _ 1 1 (fic ⟨2,nm,(k:Int)⟩) rfl rfl (fun h=>by cases h) n0.o (by unfold fic;simp[Value.oneCell']) (by unfold maxLen;rw[l.o];omega) (by rw[l.o];omega) f0.o ?_;intro v2 w8 j b O;rw[l.o] at j;obtain⟨a2,c2,rfl⟩:=q0E j;have q0:=η b;have d0:Hd (Fnd W1 w8 gm k P G (.slice a2 (i1+1) c2) (M1++[⟨2,nm,(k:Int)⟩])):=η (V.o.more (by rw[θ,l.o,q1j];exact j) b O);clear j b O)
       go_meet
       case rel=>exact⟨rfl,_,_,_,M1++[⟨2,nm,(k:Int)⟩],rfl,by omega,η (by simp[one?]),η (by rw[θ,l.o];rfl),d0,η ((I.o.ext (q0B _ _)).same (q0.o.block bT (Ψ I.o.lt (q0B _ _).size) fun e=>G0.o e.symm))⟩
     case rest=>
      clear b0 Y I l L0;obtain⟨rfl,r2,q2,s2,M2,rfl,L0,T1,l,Y,I⟩:=hcut;obtain⟨D,hD,x1⟩:=(Y.o.grow (Ext.refl wc).drew).own.map;have HD:=η hD;have P1:=η x1;have J:=I.o;have b0:=q0M y.o (J.cell 0);have E0:=q0M y.o (J.cell 1);have d1:=q0M y.o (J.cell 2);have f1:=q0M y.o (J.cell 3);have p2:=q0M y.o (J.cell 4);have o1:=η (Y.o.grow (Ext.refl wc).drew);obtain⟨WD,V0⟩: ∃WD,wc.drew=WD:=⟨_,rfl⟩
      rw[V0] at HD o1;have w1:=HD.o.alloc (.cells #[.string ⟨nm.toArray⟩,.int .i64 tv,.string ⟨ty.toArray⟩,.string ⟨da.toArray⟩,.float .f64 we] 99);have J0:=o1.o.grow (q0B WD (.cells #[.string ⟨nm.toArray⟩,.int .i64 tv,.string ⟨ty.toArray⟩,.string ⟨da.toArray⟩,.float .f64 we] 99));have U0:=J0.own.row nm;rw[m0.o,H0.o] at U0;have k1:=η w1;have P0:=η J0;have X1:=η U0;have n0:=η (show Rd (WD.alloc (.cells #[.string ⟨nm.toArray⟩,.int .i64 tv,.string ⟨ty.toArray⟩,.string ⟨da.toArray⟩,.float .f64 we] 99)) (some ⟨WD.heap.size,0,none⟩) (toc ⟨nm,tv,⟨ty,da,we⟩⟩) from Rd.lit WD #[.string ⟨nm.toArray⟩,.int .i64 tv,.string ⟨ty.toArray⟩,.string ⟨da.toArray⟩,.float .f64 we] 99);have f0:=η J0.size;have r1:=η (z4L nm R0.o);have w2:cn<=k:=by
       rw[<-H0.o];refine Ω (List.length_filter_le _ _) ?_;rw[V1.o];exact ι _
      have A1: ∀W,Ext WD W->(W.cell? ⟨wr.heap.size,0,none⟩=some (.string ⟨nm.toArray⟩)/\W.cell? ⟨wr.heap.size,1,none⟩=some (.int .i64 tv)/\W.cell? ⟨wr.heap.size,2,none⟩=some (.string ⟨ty.toArray⟩)/\W.cell? ⟨wr.heap.size,3,none⟩=some (.string ⟨da.toArray⟩)/\W.cell? ⟨wr.heap.size,4,none⟩=some (.float .f64 we)):=fun W h=>by
       have hb:=(I.o.drew.same (show WD.heap[bT]? =wc.drew.heap[bT]? by rw[V0])).ext h;rw[y.o];exact⟨hb.cell 0,hb.cell 1,hb.cell 2,hb.cell 3,hb.cell 4⟩
      have g2:=η A1;clear J hD x1 w1 J0 U0 A1;go_wp2_with fail;refine q1B (fun W:World=>(W.cell? ⟨wr.heap.size,0,none⟩=some (.string ⟨nm.toArray⟩)/\W.cell? ⟨wr.heap.size,1,none⟩=some (.int .i64 tv)/\W.cell? ⟨wr.heap.size,2,none⟩=some (.string ⟨ty.toArray⟩)/\W.cell? ⟨wr.heap.size,3,none⟩=some (.string ⟨da.toArray⟩)/\W.cell? ⟨wr.heap.size,4,none⟩=some (.float .f64 we))) 7 (by kernel_rfl) ⟨b0,E0,d1,f1,p2⟩ (fun r=>?_);refine q0f 0 r (fun r=>?_);refine q0f 1 r (fun r=>?_);refine q3Q 2 r (fun r=>?_);refine q0f 3 r (fun r=>?_);refine q3Q 4 r (fun r=>?_);simp only[Act.put,π,ψ,ω];refine q0O (i:=5) (by kernel_rfl) rfl (fun K hK=>?_)
      go_simp
      refine hK.out _ _ (g2.o _ (q0B WD _)) (fun r=>?_);clear hK K
      try simp only[Act.put,π,ψ,ω]
      refine q0O (i:=6) (by kernel_rfl) rfl (fun K hK=>?_);refine q0m rfl (.tmp 57) (.tmp 59) 22 rfl W1.heap.size 99 _ 5 64 Tryz.underlying22 Tryz.infoTo (by decide) (by decide) _ cn (q1i (q6B P nm)) rfl X1.o _ 1 1 (toc ⟨nm,tv,⟨ty,da,we⟩⟩) rfl rfl (fun h=>by cases h) n0.o (by unfold toc;simp[Value.oneCell']) (by unfold maxLen;omega) (by omega) f0.o ?_;intro v2 w8 j b O;obtain⟨d,C1⟩:=y0T j;obtain⟨a2,c2,rfl⟩:=q0E j;have d0:=η j;have q0:=η b;have O1:=η O;have l1:=η C1;have U1:=η (q1f k1.o (b.block gm P0.o.own.lt fun e=>by have:=P0.o.own.ne nm;rw[m0.o] at this;exact this e.symm))
      have i2:Hd (w8.cell? ⟨wr.heap.size,0,none⟩=some (.string ⟨nm.toArray⟩)/\w8.cell? ⟨wr.heap.size,1,none⟩=some (.int .i64 tv)/\w8.cell? ⟨wr.heap.size,2,none⟩=some (.string ⟨ty.toArray⟩)/\w8.cell? ⟨wr.heap.size,3,none⟩=some (.string ⟨da.toArray⟩)/\w8.cell? ⟨wr.heap.size,4,none⟩=some (.float .f64 we)):=η (by
       have hb:=((I.o.drew.same (show WD.heap[bT]? =wc.drew.heap[bT]? by rw[V0])).ext (q0B WD (.cells #[.string ⟨nm.toArray⟩,.int .i64 tv,.string ⟨ty.toArray⟩,.string ⟨da.toArray⟩,.float .f64 we] 99)))
       have B0:=hb.same (b.block bT hb.lt fun e=>Nat.lt_irrefl _ (Q1.o bT e.symm));rw[y.o]
       exact⟨B0.cell 0,B0.cell 1,B0.cell 2,B0.cell 3,B0.cell 4⟩)
      clear j b O C1;refine hK.out _ _ i2.o (fun r=>?_);clear hK K
      try simp only[Act.put,π,ψ,ω]
      refine q1L (by kernel_rfl) ?_
      try simp only[List.drop_succ_cons,List.drop_zero]
      clear r
      go_wp2_with (at_mapUpdate;refine wpList_mapUpdate_own _ rfl _ _ _ 101 rfl 9 22 z8J Tryz.underlying101 slE gm k D (by rw[<-I0.o];rfl) U1.o (by unfold maxLen;omega) _ _ (.string nm) rfl rfl r1.o d [] l1.o ?_;intro w9 Y0 E1)
      go_roundw
      case measure=>simp[intOf];omega
      case rel=>
       have e1:q1t (S.map Smm.nm) L (k+1)=M2:=by rw[w0.o,T1.o,S1.o,List.append_assoc]
       have hp:=P0.o.put (by rw[I0.o];exact ι _) (t:=⟨nm,tv,⟨ty,da,we⟩⟩) l1.o (by rw[H0.o];exact d0.o) (by rw[m0.o];exact q0.o) (by rw[m0.o];exact O1.o) k1.o P1.o Y0 E1;exact⟨k+1,r2,q2,s2,_,rfl,by go_num,by omega,by rw[e1];exact l,by rw[e1,Y1.o];exact η hp⟩
  ·have e : vn=k:=by omega
   subst e;have hd:decide ((vn:Int)<(vn:Int))=false:=ε (by omega);have hF:=Y.o;rw[Δ (by rw[r0.o];exact ι _)] at hF;have D0:=q2z (S.map Smm.nm) L vn;obtain⟨A,hA⟩: ∃A,q1t (S.map Smm.nm) L vn=A:=⟨_,rfl⟩
   rw[hA] at hF D0 l;have HA:=η hA;have X:=HB.o.ext hF.ext;have g0:=q0M HG.o (X.cell 0);have g1:=q0M HG.o (X.cell 1);have n1:=η hF;have s1:=η l.o;clear hF hA X Y;go_wp2_with fail
   go_loopw [2,65] (fun v i W=> ∃(k:Nat) (a:Option Addr) (Q c:Nat),v= .slice a Q c/\i= .int .i64 (k:Int)/\k<=sn/\Hd ((A++q1G L S k).length=Q)/\Hd (Fnd W1 W gm vn L G (.slice a Q c) (A++q1G L S k))) (fun _ i _=>sn-(intOf i).toNat)
   case atStart=>exact⟨0,oa,Q,oc,rfl,rfl,υ _,η (by rw[q1G,List.append_nil];exact s1.o),η (by rw[q1G,List.append_nil];exact n1.o)⟩
   case round=>
    clear n1 s1 l g0 g1;obtain⟨k,oa,Q,oc,rfl,rfl,hk,l,Y⟩:=hrel;by_cases v0:k<sn
    ·have n2:decide ((k:Int)<(sn:Int))=true:=ζ (by omega)
     have o2:(k:Int)<(sn:Int):=by omega
     have q1:IntKind.i64.wrap ((k:Int)+1)=(k:Int)+1:=by rw[ν];omega
     have hF:=Y.o;have l0:=q5N (A:=S) (i:=k) (d:=sm0) (by rw[y0.o];exact v0);have Z:=Z1.o _ l0;obtain⟨bb,off,rfl,c0,c1,c2,c3,t1,t2⟩:=(HS.o.ext (s0.o.trans hF.ext)).at v0;have R:A++q1G L S (k+1)=(A++q1G L S k)++q8H L S k:=by rw[q1G,List.append_assoc]
     have a0:q8H L S k=if (S.getD k sm0).nm∈(S.take k).map Smm.nm then [⟨3,(S.getD k sm0).nm,(k:Int)⟩] else q2B (S.getD k sm0).nm (S.getD k sm0).la (S.getD k sm0).F (S.getD k sm0).B (q6B L (S.getD k sm0).nm):=rfl;have A2:Q<=2*vn+3*k:=by
      have:=q4d L S k;rw[<-l.o,θ];omega
     obtain⟨x,J1⟩: ∃x,S.getD k sm0=x:=⟨_,rfl⟩
     rw[J1] at Z c0 c1 c2 c3 t1 t2 a0;rw[a0] at R;obtain⟨M,A0⟩: ∃M,A++q1G L S k=M:=⟨_,rfl⟩
     rw[A0] at R hF l;obtain⟨nm,la,fa,fn,fc,F,ba,bn,bc,B⟩:=x;simp only at Z c0 c1 c2 c3 t1 t2 R;have j:(q6B L nm).length<=vn:=by
      refine Ω (List.length_filter_le _ _) ?_;rw[r0.o];exact ι _
     obtain⟨ga,gc,j0⟩:=q0E (hF.own.row nm);obtain⟨cn,i0⟩: ∃cn,(q6B L nm).length=cn:=⟨_,rfl⟩
     rw[i0] at j0 j;have U:=q0B wr (.cells #[.string ⟨nm.toArray⟩,.int .i64 la,.slice fa fn fc,.slice ba bn bc] 43);have J:=Blk.new wr 43 #[.string ⟨nm.toArray⟩,.int .i64 la,.slice fa fn fc,.slice ba bn bc];obtain⟨WT,t0⟩: ∃WT,wr.alloc (.cells #[.string ⟨nm.toArray⟩,.int .i64 la,.slice fa fn fc,.slice ba bn bc] 43)=WT:=⟨_,rfl⟩
     rw[t0] at U J;obtain⟨bT,N⟩: ∃bT,wr.heap.size=bT:=⟨_,rfl⟩
     rw[N] at J;have y:=η N;have I:=η J;have p0:=η (hF.grow U);have b0:=q0M N (J.cell 0);have X:=HB.o.ext (hF.ext.trans U);have g0:=q0M HG.o (X.cell 0);have g1:=q0M HG.o (X.cell 1);obtain⟨z,hz⟩: ∃z,decide (nm∈(S.take k).map Smm.nm)=z:=⟨_,rfl⟩
     have o0:=v1.o nm k WT (hF.ext.trans U) (by omega);rw[hz] at o0;have z0:=η o0;have HZ:=η hz;have e2:=η (t1.ext U);have f2:=η (t2.ext U);have w0:=η R;have m0:=η j0;have H0:=η i0;have R0:=η Z;clear hF l0 Z R a0 J1 A0 j0 i0 U J N X hz o0 t1 t2 Y;go_wp2_with fail;refine z0.o.mono ?_;rintro e w5 ⟨rfl,hx⟩;have x0:=η (p0.o.grow hx);have C0:=I.o.ext hx;have b0:=q0M y.o (C0.cell 0);have E0:=q0M y.o (C0.cell 1);have d1:=q0M y.o (C0.cell 2);have f1:=q0M y.o (C0.cell 3);have u0:=x0.o.own.look R0.o;rw[m0.o,<-I0.o] at u0;have H1:=(q1J (ao:=ga) (n:=cn) (cp:=gc) (L:=q6B L nm) (by have:=x0.o.own.row nm;rw[m0.o] at this;exact this)).1;have S0:=η (z4v ⟨nm,la,fa,fn,fc,F,ba,bn,bc,B⟩ w5 (e2.o.ext hx) (f2.o.ext hx) H1 (by omega));clear hx C0 H1 z0 p0 I g0 g1 t0
     cases z with
     | true=>
      clear u0 S0;have n0:=η (show Rd (w5.alloc (.cells #[.int .i64 3,.string ⟨nm.toArray⟩,.int .i64 (k:Int)] 38)) (some ⟨w5.heap.size,0,none⟩) (fic ⟨3,nm,(k:Int)⟩) from Rd.lit w5 #[.int .i64 3,.string ⟨nm.toArray⟩,.int .i64 (k:Int)] 38);have V:=η (x0.o.grow (q0B w5 (.cells #[.int .i64 3,.string ⟨nm.toArray⟩,.int .i64 (k:Int)] 38)));have f0:=η V.o.size
      go_wp2_with (at_builtin;refine q0G rfl _ _ 28 rfl W1.heap.size 38 _ 3 32 Tryz.underlying28 Tryz.infoFi (by decide) (by decide) _ M.length (q2i M) rfl V.o.row _ 1 1 (fic ⟨3,nm,(k:Int)⟩) rfl rfl (fun h=>by cases h) n0.o (by unfold fic;simp[Value.oneCell']) (by unfold maxLen;rw[l.o];omega) (by rw[l.o];omega) f0.o ?_;intro v2 w8 j b O;rw[l.o] at j;obtain⟨a2,c2,rfl⟩:=q0E j;have q0:=η b;have d0:Hd (Fnd W1 w8 gm vn L G (.slice a2 (Q+1) c2) (M++[⟨3,nm,(k:Int)⟩])):=η (V.o.more (by rw[θ,l.o,q1j];exact j) b O);clear j b O)
      go_roundw
      case measure=>simp[intOf];omega
      case rel=>
       have e1:A++q1G L S (k+1)=M++[⟨3,nm,(k:Int)⟩]:=by rw[w0.o,ξ (of_decide_eq_true HZ.o)]
       exact⟨k+1,_,_,_,rfl,by go_num,by omega,η (by rw[e1,θ,l.o];rfl),by rw[e1];exact d0⟩
     | false=>
      go_wp2_with fail;refine S0.o.mono ?_;rintro e w6 ⟨v,rfl,hr,hx⟩;obtain⟨SF,K0⟩: ∃SF,q2B nm la F B (q6B L nm)=SF:=⟨_,rfl⟩
      rw[K0] at hr;obtain⟨ra,rc,rfl⟩:=q0E hr;have C2:SF.length<=3:=by rw[<-K0];exact q7l _ _ _ _ _
      have Q0:=η (x0.o.grow hx);have HR:=η hr;have u1:=η K0;have f0:=η Q0.o.size;clear hr hx K0 S0 x0 b0 E0 d1 f1 u0
      go_wp2_with (at_builtin;refine q0G rfl _ _ 28 rfl W1.heap.size 38 _ 3 32 Tryz.underlying28 Tryz.infoFi (by decide) (by decide) _ M.length (q2i M) rfl Q0.o.row _ SF.length rc (q2i SF) rfl (z1X _) (z6Z HR.o) (z2A HR.o) (z7t _) (by unfold maxLen;rw[l.o];omega) (by rw[l.o];omega) f0.o ?_;intro v2 w8 j b O;obtain⟨a2,c2,rfl⟩:=q0E j;have d0:Hd (Fnd W1 w8 gm vn L G (.slice a2 (M.length+SF.length) c2) (M++SF)):=η (Q0.o.more (by rw[θ,q7J];exact j) b O);clear j b O)
      go_roundw
      case measure=>simp[intOf];omega
      case rel=>
       have e1:A++q1G L S (k+1)=M++SF:=by rw[w0.o,κ (of_decide_eq_false HZ.o),u1.o]
       exact⟨k+1,_,_,_,rfl,by go_num,by omega,η (by rw[e1,θ]),by rw[e1];exact d0⟩
    ·have e:sn=k:=by omega
     subst e;have n2:decide ((sn:Int)<(sn:Int))=false:=ε (by omega);have e1:q2p L S=A++q1G L S sn:=by unfold q2p;rw[r0.o,y0.o,HA.o]
     have HE:=η e1;clear e1;go_wp2_with fail;go_ret;exact⟨_,rfl,by rw[HE.o];exact q0d Y.o.row s0.o.size,s0.o.trans Y.o.ext⟩
end
section
open Go.RowKit
theorem Tryz.infoRs :(Tryz.prog.info? 105).map (fun i=>(i.zero,i.size,i.bytes))=some (some (.agg #[.string ⟨#[]⟩,.int .i64 0,.slice none 0 0,.slice none 0 0]),4,72):=by kernel_rfl
theorem z4f(A:List Smm)(x:Smm):q5r (A++[x])=q5r A++smc x:=by rw[q5I];unfold q5r;simp
theorem y1k{S:List Smm}(w:World)(hs:Sms w so sn sc S)(hn:sn<=1000):
  Calls Tryz.prog 12 #[.agg #[.slice va vn vc,.slice so sn sc]] w fun e w'=> ∃(da:Option Addr) (X:Nat),e= .returned (.agg #[.slice va vn vc,.slice da sn X])/\w'.ownsRow w.heap.size 105 4 (.slice da sn X) sn (q5r S)/\Ext w w':=by
 have HS:=η hs;have b3:=hs.fits;have b4:=hs.bound;have x0:=η hs.len;have N0:=q0B w (.cells #[.slice va vn vc,.slice so sn sc] 25);have N:=Blk.new w 25 #[.slice va vn vc,.slice so sn sc];have V:=q0B (w.alloc (.cells #[.slice va vn vc,.slice so sn sc] 25)) (.cells #[.slice none 0 0,.slice none 0 0] 34);have H0:=Blk.new (w.alloc (.cells #[.slice va vn vc,.slice so sn sc] 25)) 34 #[.slice none 0 0,.slice none 0 0];have d0:=q0B ((w.alloc (.cells #[.slice va vn vc,.slice so sn sc] 25)).alloc (.cells #[.slice none 0 0,.slice none 0 0] 34)) (.cells #[.slice va vn vc,.slice none 0 0] 34);have o0:=Blk.new ((w.alloc (.cells #[.slice va vn vc,.slice so sn sc] 25)).alloc (.cells #[.slice none 0 0,.slice none 0 0] 34)) 34 #[.slice va vn vc,.slice none 0 0];have b0:=(N.ext V).ext d0;have l0:=H0.ext d0;rw[ρ,ρ] at o0;rw[ρ] at l0;have G0:=(N0.trans V).trans d0;have k0:=b0.cell 0;have k1:=b0.cell 1;have C0:=η b0;have z0:=η l0;have t0:=η o0;have D0:=η G0;have v0:=N.cell 0;have v1:=N.cell 1;have u0:=(N.ext V).cell 0;have u1:=(N.ext V).cell 1;clear hs N0 N V H0 d0 o0 b0 l0 G0;go_enter Tryz.func12,Tryz.ntmps12;go_wp2_with fail
 go_loopw [4] (fun i W=> ∃(k:Nat) (da:Option Addr) (X:Nat),i= .int .i64 (k:Int)/\k<=sn/\Hd (Blk W (w.heap.size) 25 #[.slice va vn vc,.slice so sn sc])/\Hd (Blk W (w.heap.size+1) 34 #[.slice none 0 0,.slice none 0 0])/\Hd (Blk W (w.heap.size+1+1) 34 #[.slice va vn vc,.slice da k X])/\Hd (W.ownsRow w.heap.size 105 4 (.slice da k X) k (q5r (S.take k)))/\Hd (Ext w W)) (fun i _=>sn-(intOf i).toNat)
 case atStart=>exact⟨0,none,0,rfl,υ _,C0,z0,t0,η ⟨by rw[List.take_zero];rfl,.inl ⟨rfl,rfl⟩⟩,D0⟩
 case round=>
  clear C0 z0 t0 D0 k0 k1 v0 v1 u0 u1;obtain⟨k,da,X,rfl,hk,HV,HR,HD,A0,HX⟩:=hrel;have g1:=HV.o.cell 1;by_cases q0:k<sn
  ·have hd:decide ((k:Int)<(sn:Int))=true:=ζ (by omega)
   have X0:(k:Int)<(sn:Int):=by omega
   have q8:IntKind.i64.wrap ((k:Int)+1)=(k:Int)+1:=by rw[ν];omega
   obtain⟨y,r,rfl,a0,a1,a2,a3,_,_⟩:=(HS.o.ext (HX.o.trans (Ext.refl _).drew)).at q0;have p0:k<S.length:=by rw[x0.o];exact q0
   have s0:S.take (k+1)=S.take k++[S.getD k sm0]:=by
    rw[List.take_succ_eq_append_getElem p0,δ,γ p0];rfl
   have i0:y<w.heap.size:=by
    obtain⟨b',o',e1,c0,_⟩:=HS.o.at q0
    cases e1;exact World.block_lt_of_cell? (h:=c0)
   obtain⟨x,O0⟩: ∃x,S.getD k sm0=x:=⟨_,rfl⟩
   rw[O0] at a0 a1 a2 a3 s0;obtain⟨nm,la,fa,fn,fc,F,ba,bn,bc,B⟩:=x;simp only at a0 a1 a2 a3;have S0:=η s0;have I0:=HD.o.drew;have M0:=HV.o.drew;obtain⟨O,F0⟩: ∃O,wr.drew=O:=⟨_,rfl⟩
   have e0:=η (q0F A0.o (Ext.refl wr).drew);have Y:=η HR.o.drew;have Z:=η (HX.o.trans (Ext.refl wr).drew);have D:=η I0;have I:=η M0;rw[F0] at e0 Y Z D I a0 a1 a2 a3;have HA:=η (And.intro a0 (And.intro a1 (And.intro a2 a3)));have W0:=Z.o.size;have j0:Hd (∀W:World,W.heap[w.heap.size]? =O.heap[w.heap.size]? ->W.heap[w.heap.size+1+1]? =O.heap[w.heap.size+1+1]? ->W.heap[y]? =O.heap[y]? ->(W.cell? ⟨w.heap.size+1+1,1,none⟩=some (.slice da k X)/\W.cell? ⟨w.heap.size,1,none⟩=some (.slice (some ⟨y,r,none⟩) sn sc))/\(W.cell? ⟨y,r+k*4,none⟩=some (.string ⟨nm.toArray⟩)/\W.cell? ⟨y,r+k*4+1,none⟩=some (.int .i64 la)/\W.cell? ⟨y,r+k*4+2,none⟩=some (.slice fa fn fc)/\W.cell? ⟨y,r+k*4+3,none⟩=some (.slice ba bn bc))):=η fun W e1 e2 e3=>by
    have c1:=(D.o.same e2).cell 1;have c2:=(I.o.same e1).cell 1;have hb: ∀j,W.cell? ⟨y,j,none⟩=O.cell? ⟨y,j,none⟩:=fun j=>World.cell?_of_block (a:=⟨y,j,none⟩) e3
    refine⟨⟨c1,c2⟩,?_,?_,?_,?_⟩
    ·rw[hb];exact HA.o.1
    ·rw[hb];exact HA.o.2.1
    ·rw[hb];exact HA.o.2.2.1
    ·rw[hb];exact HA.o.2.2.2
   clear p0 s0 O0 I0 M0 a0 a1 a2 a3;go_wp2_with fail;refine q1B (fun W:World=>(W.cell? ⟨w.heap.size+1+1,1,none⟩=some (.slice da k X)/\W.cell? ⟨w.heap.size,1,none⟩=some (.slice (some ⟨y,r,none⟩) sn sc))/\(W.cell? ⟨y,r+k*4,none⟩=some (.string ⟨nm.toArray⟩)/\W.cell? ⟨y,r+k*4+1,none⟩=some (.int .i64 la)/\W.cell? ⟨y,r+k*4+2,none⟩=some (.slice fa fn fc)/\W.cell? ⟨y,r+k*4+3,none⟩=some (.slice ba bn bc))) 9 (by kernel_rfl) (by rw[F0];exact j0.o _ rfl rfl rfl) (fun b=>?_);refine q0f 0 b (fun b=>?_);refine q3Q 1 b (fun b=>?_);refine q0f 2 b (fun b=>?_);refine q3Q 3 b (fun b=>?_);refine q0f 4 b (fun b=>?_);refine q0f 5 b (fun b=>?_);refine q3Q 6 b (fun b=>?_);simp only[Act.put,π,ψ,ω];refine q0O (i:=7) (by kernel_rfl) rfl (fun K hK=>?_)
   go_simp
   have J:=q0B O (.cells #[.string ⟨nm.toArray⟩,.int .i64 la,.slice fa fn fc,.slice ba bn bc] 105);have Q:=η (q0F e0.o J);have Q0:=η (show Rd (O.alloc (.cells #[.string ⟨nm.toArray⟩,.int .i64 la,.slice fa fn fc,.slice ba bn bc] 105)) (some ⟨O.heap.size,0,none⟩) (smc ⟨nm,la,fa,fn,fc,F,ba,bn,bc,B⟩) from Rd.lit O #[.string ⟨nm.toArray⟩,.int .i64 la,.slice fa fn fc,.slice ba bn bc] 105);have l:=η J;have B0:Hd (w.heap.size<=(O.alloc (.cells #[.string ⟨nm.toArray⟩,.int .i64 la,.slice fa fn fc,.slice ba bn bc] 105)).heap.size):=η (by have:=J.size;omega);refine hK.out _ _ (j0.o _ (J.block _ I.o.lt) (J.block _ D.o.lt) (J.block _ (by omega))) (fun b=>?_);clear hK K J
   try simp only[Act.put,π,ψ,ω]
   refine q0O (i:=8) (by kernel_rfl) rfl (fun K hK=>?_);refine q0m rfl (.tmp 16) (.tmp 22) 32 rfl w.heap.size 105 _ 4 72 Tryz.underlying32 Tryz.infoRs (by decide) (by decide) _ k (q5r (S.take k)) rfl Q.o _ 1 1 (smc ⟨nm,la,fa,fn,fc,F,ba,bn,bc,B⟩) rfl rfl (fun h=>by cases h) Q0.o (by unfold smc;simp[Value.oneCell']) (by unfold maxLen;omega) (by omega) B0.o ?_;intro v2 w8 U d V0;obtain⟨a2,c2,rfl⟩:=q0E U;have m0:=(I.o.ext l.o).same (d.block _ (I.o.ext l.o).lt fun e=>(I.o.ext l.o).apart Q.o (by decide) e.symm);have E0:=(Y.o.ext l.o).same (d.block _ (Y.o.ext l.o).lt fun e=>(Y.o.ext l.o).apart Q.o (by decide) e.symm);have R:=(D.o.ext l.o).same (d.block _ (D.o.ext l.o).lt fun e=>(D.o.ext l.o).apart Q.o (by decide) e.symm);have n0:Ext w w8:=Below.grown (Z.o.trans l.o) d B0.o fun i hi=>(q0P Q.o i hi).1
   have h0:w8.heap[y]? =O.heap[y]? :=(n0.block y i0).trans (Z.o.block y i0).symm;have R0:=η (j0.o w8 (Eq.trans m0 I.o.symm) (Eq.trans R D.o.symm) h0);have T0:=η m0;have P0:=η E0;have w0:=η R;have U0:=η n0;have y0:=η U;have y1:=R.cell 1;have z1:=R.free 1;clear U d V0 m0 E0 R n0 h0;refine hK.out _ _ R0.o (fun b=>?_);clear hK K
   try simp only[Act.put,π,ψ,ω]
   refine q1L (by kernel_rfl) ?_
   try simp only[List.drop_succ_cons,List.drop_zero]
   clear b;go_wp2_with fail
   go_roundw
   case measure=>simp[intOf];omega
   case rel=>
    have K0:w.heap.size≠w.heap.size+1+1:=by omega
    have L0:w.heap.size+1≠w.heap.size+1+1:=by omega
    refine⟨k+1,a2,c2,by go_num,by omega,η (T0.o.o K0 _ _),η (P0.o.o L0 _ _),η (w0.o.set 1 _),η ?_,η (Below.setCell U0.o (by show w.heap.size<=w.heap.size+1+1;omega) _)⟩;rw[S0.o,z4f];exact q0K y0.o fun i hi=>Below.heap_setCell _ _ _ _ fun e=>w0.o.apart y0.o (by decide) (hi.trans (congrArg some e))
  ·have e:sn=k:=by omega
   subst e;have hd:decide ((sn:Int)<(sn:Int))=false:=ε (by omega);have g0:=HD.o.cell 0;have g2:=HD.o.cell 1;have r0:=HR.o.cell 0;have r1:=HR.o.cell 1;have f0:=HR.o.free 0;have f1:=HR.o.free 1;go_wp2_with fail
   ((try simp only[Exit.inBlock,Exit.then]);refine bodyPost_ret (v:= .agg #[.slice va vn vc,.slice da sn X]) (by rw[q0u rfl];go_simp) rfl ?_)
   refine⟨da,X,rfl,?_,(Below.setCell (Below.setCell HX.o (by show w.heap.size<=w.heap.size+1;omega) _) (by show w.heap.size<=w.heap.size+1;omega) _)⟩;have hr:=A0.o;rw[Δ (by rw[x0.o];exact ι _)] at hr;refine q0K hr fun i hi=>?_
   have J0:i≠w.heap.size+1:=fun e=>HR.o.apart hr (by decide) (hi.trans (congrArg some e))
   rw[Below.heap_setCell _ _ _ _ J0,Below.heap_setCell _ _ _ _ J0]
end
end Go.Proofs.YtjlcdfpbllobaaaGreatDoor
