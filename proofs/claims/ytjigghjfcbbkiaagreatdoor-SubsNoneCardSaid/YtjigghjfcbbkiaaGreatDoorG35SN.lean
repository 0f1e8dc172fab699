/- The shelf's contract of slices.Reverse at []api.Told at this seat, in plain words. -/
import Derived.Shelf.SlicesQ.Reverse
import Derived.Ground.SlgnProg
import Derived.Test.YtjigghjfcbbkiaaGreatDoorG34SN
set_option linter.unusedVariables false
set_option linter.unusedSimpArgs false
set_option maxRecDepth 100000
set_option maxHeartbeats 6400000
namespace Go.Proofs
open Go.Shelf
def Tryz.reverseTold_ren :Go.Shelf.Ren:=⟨fun|35=>121|n=>n,fun|22=>52|23=>57|3=>3|4=>4|0=>0|n=>n,fun|n=>n⟩
theorem Tryz.reverseTold :Go.Proofs.SlLaysE0.n35 Tryz.prog Tryz.reverseTold_ren:={
 mixed:=by kernel_rfl
 f35:=⟨Tryz.f121.name,by decide,Tryz.func121.trans (congrArg some (by kernel_rfl))⟩
 t0:=Tryz.underlying0
 a0:=Tryz.isAgg0
 z0:=Tryz.sizeOf0
 v0:=Tryz.zeroValue0
 t3:=Tryz.underlying3
 a3:=Tryz.isAgg3
 z3:=Tryz.sizeOf3
 v3:=Tryz.zeroValue3
 t4:=Tryz.underlying4
 a4:=Tryz.isAgg4
 z4:=Tryz.sizeOf4
 v4:=Tryz.zeroValue4
 t22:=Tryz.underlying52
 a22:=Tryz.isAgg52
 z22:=Tryz.sizeOf52
 v22:=Tryz.zeroValue52}
end Go.Proofs
namespace Go.Proofs.YtjigghjfcbbkiaaGreatDoor
variable {k cap mb:Nat}{e t:TypeId}{ao:Option Addr}{L:List To}{E:Oth}{vL vM:Value}{ms:List Value}
section
open Go.RowKit Go.Sort Go.Lib
theorem z1c{w:World}{base:Nat}{g n q:Nat}{cs:List Value}{F:Array Value}(h:w.ownsRow base e k (.slice (some ⟨g,0,none⟩) n cap) n cs)(hF:F.size=n*k):
  (putRow id (Sort.ahead w q) g 0 F).ownsRow base e k (.slice (some ⟨g,0,none⟩) n cap) n F.toList:=by
 rcases h.2 with⟨i,_⟩|⟨J,o,b,i,y,D,v,hm,I,M⟩
 ·cases i
 ·injection i with d _ x
  injection d with d;injection d with d;subst d;subst x;have G:n*k<=cap*k:=Nat.mul_le_mul_right k v;refine⟨by simpa using hF,.inr ⟨g,cap,putCells id 0 F b,rfl,y,?_,v,hm,by simpa [putCells] using I,?_⟩⟩
  ·simp[putRow,mapBlock,Sort.ahead,Array.getElem?_modify,D,onCells]
  ·apply List.ext_getElem?
   intro j;rw[List.getElem?_take,Array.getElem?_toList,Array.getElem?_toList];by_cases r:j<n*k
   ·have l:j<b.size:=by omega
    simp only[ξ r,putCells,Array.getElem?_mapIdx,Array.getElem?_eq_getElem l,Option.map_some];rw[ξ (by omega),Array.getElem?_eq_getElem (by omega)];simp[getElem!_pos,show j<F.size by omega]
   ·rw[κ r,Array.getElem?_eq_none (by omega)]
theorem q9D{w:World}{base:Nat}{g n:Nat}{cs:List Value}(h:w.ownsRow base e k (.slice (some ⟨g,0,none⟩) n cap) n cs):Holds id w g 0 cs.toArray:=by
 have x:=h.1;rcases h.2 with⟨i,_⟩|⟨G,o,d,i,I,q,y,hm,J,F⟩
 ·cases i
 ·injection i with b _ r
  injection b with b;injection b with b;subst b;subst r;have D:n*k<=cap*k:=Nat.mul_le_mul_right k y;intro j v;have l:j<n*k:=by simpa [x] using v
  refine⟨?_,by simp[World.frozen?,q]⟩;have b:(d.toList.take (n*k))[j]? =cs[j]? :=by rw[F]
  rw[List.getElem?_take,ξ l,Array.getElem?_toList] at b;simp only[World.cell?,q,Nat.zero_add];simp only[Option.isSome_none,Bool.false_eq_true,if_false];rw[b,γ (by omega)];simp[getElem!_pos,show j<cs.length by omega]
instance : Inhabited To:=⟨to0⟩
theorem q9l(T:List To):flatK toc 5 T.toArray=(q3u T).toArray:=by
 have b:(flatK toc 5 T.toArray).size=T.length*5:=by simp[flatK]
 refine ext_get! (by rw[b];simp[q7P]) fun t i=>?_
 rw[b] at i;rw[get_flatK _ _ _ _ (by simpa using i)];have d:=q4p T (t/5) (t % 5) (by omega) (Nat.mod_lt _ (by decide));rw[show t/5*5+t % 5=t by omega] at d;have j:t/5<T.length:=by omega
 rw[show(T.toArray)[t/5]! =T.getD (t/5) to0 by simp[getElem!_pos,j,δ]];rw[show(q3u T).toArray[t]! =((q3u T)[t]?).getD default by simp only[getElem!_def,List.getElem?_toArray];cases (q3u T)[t]? <;>rfl,d];simp only[getElem!_def]
 cases (toc (T.getD (t/5) to0))[t % 5]? <;>rfl
theorem z5y{w:World}{base:Nat}{v:Value}{T:List To}(h:w.ownsRow base 57 5 v T.length (q3u T))(J:T.length<=9223372036854775807):
  Calls Tryz.prog 121 #[v] w fun e w'=>e= .returned (.tuple #[])/\w'.ownsRow base 57 5 v T.length (q3u T.reverse)/\(∀w0,Below w0.heap.size w0 w->w0.heap.size<=base->Below w0.heap.size w0 w')/\
   (∀i,v.ownBlock≠some i->w'.heap[i]? =w.heap[i]?)/\w.heap.size<=w'.heap.size:=by
 rcases h.2 with⟨rfl,y⟩|⟨g,cap,l,rfl,S,U,N,O,Q,R⟩
 ·have D:T=[]:=List.length_eq_zero_iff.1 y
  subst D;refine(AnyQ.slices_Reverse_empty Tryz.reverseTold none 0 w).mono ?_;rintro e w' ⟨rfl,rfl⟩;exact⟨rfl,h,fun _ b _=>b,fun _ _=>rfl,ι _⟩
 ·have j:=AnyQ.slices_Reverse Tryz.reverseTold 5 Tryz.isAgg57 Tryz.sizeOf57 toc (fun _=>rfl) (fun x u M=>z8G [x] u (by simpa [q3u] using M)) g 0 cap T.toArray w (by unfold HoldsK;rw[q9l];exact q9D h) (by simpa using J)
  have o:T.toArray.size=T.length:=by simp
  rw[o] at j;refine j.mono ?_;rintro e w' ⟨rfl,q,rfl⟩;have r:putRowK toc 5 (Sort.ahead w q) g 0 T.toArray.reverse=putRow id (Sort.ahead w q) g 0 (q3u T.reverse).toArray:=by
   unfold putRowK;rw[show T.toArray.reverse=T.reverse.toArray by simp,q9l]
  rw[r];refine⟨rfl,?_,fun w0 b I=>below_putRow b (by omega),fun i G=>?_,?_⟩
  ·have:=z1c (q:=q) (F:=(q3u T.reverse).toArray) h (by simp[q7P])
   simpa using this
  ·have d:g≠i:=fun e=>G (by rw[e];rfl)
   simp[putRow,mapBlock,Sort.ahead,Array.getElem?_modify,d]
  ·simp[Sort.ahead]
def z8h(bs:List Bt)(str:List UInt8)(fr ct:Int):List To:=if q2L str fr ct=0 then(z0G (q4n bs str) fr ct).reverse else []
section
variable {wb w W W1 W2:World}{g gl gs gx rate:Nat}{m:Man}{ws:List En}{c s sd:Int}{u cnt:Nat}{B:List En}{C:Cks}{P:Pbs}{sure:Int}{K K':Nat->Prop}
theorem z1d(h:StoP wb w g gs gl gx rate m ws sd c s u cnt B C sure P K)(d:List UInt8)(hs:d.length<=4611686018427387903)(fr ct:Int)(e0:fr<=9223372036854775807)(d0:ct<=9223372036854775807)(hl:B.length<=10000)(b0:(q0S (q1j P) d).length<=10000):
  Calls Tryz.prog 69 #[.pointer (some ⟨gs,0,none⟩),.string ⟨d.toArray⟩,.int .i64 fr,.int .i64 ct] w (ToldR wb w g gs gl gx rate m ws sd c s u cnt B C sure P K (z8h (q1j P) d fr ct) (q2L d fr ct)):=by
 have r:=η (z6C h.b d hs fr ct);have HH:=η h;obtain⟨R,y⟩: ∃R,z8h (q1j P) d fr ct=R:=⟨_,rfl⟩
 rw[y];unfold z8h at y;by_cases q:q2L d fr ct=0
 ·have S:0<=fr/\1<=ct:=by
   unfold q2L at q
   split at q
   ·cases q
   ·omega
  rw[ξ q] at y;rw[q] at r⊢;have q1:IntKind.i64.wrap (fr-ct)=fr-ct:=by rw[ν];omega
  have q2:IntKind.i64.wrap (fr-ct+1)=fr-ct+1:=by rw[ν];omega
  have x:=z5l (q1j P) d (f:=fr) (c:=ct) S.1 S.2 (by omega);obtain⟨D,N⟩: ∃D,z0G (q4n (q1j P) d) fr ct=D:=⟨_,rfl⟩
  rw[N] at x y;have c0:D.length<=10000:=by
   rw[<-x];refine Ω (List.length_filter_le _ _) ?_;rw[q2O];exact b0
  have HB:=η (fun W (k:Ext w W)=>q6U (h.grow k) d hs (fr-ct+1) fr hl x);have I:Hd (D.reverse=R):=η y;clear q y h x N;go_enter Tryz.func69,Tryz.ntmps69;go_wp2_with fail;refine r.o.mono ?_;rintro e w1 ⟨rfl,Y⟩;have M:=η Y;clear Y;go_wp2_with fail;refine(HB.o _ M.o).mono ?_;rintro e w2 ⟨v,rfl,hh,V,j,Q⟩;obtain⟨ra,rc,rfl⟩:=q0H j;have J:=η (z5y j (by omega));have G:=η hh;have a0:=η ((HH.o.kExt M.o).trans V);have F:=η Q;clear hh V j Q HB;go_wp2_with fail;refine J.o.mono ?_;rintro e w3 ⟨rfl,j,O,l,X⟩;rw[I.o] at j;have U:R.length=D.length:=by rw[<-I.o,List.length_reverse]
  have HF:Hd (ToldR wb w g gs gl gx rate m ws sd c s u cnt B C sure P K R 0 (.returned (.tuple #[.slice ra D.length rc,.int .i64 0])) w3):=η
   ⟨_,rfl,G.o.sideM X (O wb G.o.base (ι _)) (fun i hi hn=>l i fun e=>hn (.inr e)) fun i hi=> .inl hi,a0.o.trans fun i hi=>l i (F.o i hi),by rw[U];exact j,F.o⟩
  clear j O l X J;go_wp2_with fail;go_ret2;exact HF.o
 ·rw [κ q] at y
  subst y;have Z:q2L d fr ct=2:=by
   unfold q2L at q⊢
   split at q
   ·rename_i h1;rw[ξ h1]
   ·exact absurd rfl q
  rw[Z] at r⊢;clear q Z h;go_enter Tryz.func69,Tryz.ntmps69;go_wp2_with fail;refine r.o.mono ?_;rintro e w1 ⟨rfl,Y⟩;have M:=η Y;clear Y;go_wp2_with fail;go_ret2;exact ToldR.nil (HH.o.grow M.o) (HH.o.kExt M.o) 2
end
end
section
open Go.RowKit
theorem q9Z : ∀(C:Cks) (b:Nat),(∀ps∈C,ps≠[])->C.length<=(q0x b C).length
 |[],_,_=>ι _
 | ps::t,b,h=>by
  have d:=q9Z t (b+4096) fun q hq=>h q (.tail _ hq)
  have i:0<ps.length:=List.length_pos_iff.2 (h ps (.head _));rw[q0x,θ,q4G,χ];omega
theorem z6O{bs:List Bt}(h:okBs bs):(tos bs).length<=8*bs.length:=by
 induction bs using q9G with
 |h0=>exact ι _
 | h1 l b ih=>
  obtain⟨h1,d,_⟩:=okBs_snoc.1 h;have i:=(q0j d.1).2.2.2.1;have j:=ih h1;rw[q4W,q9I,θ,q3j,θ,List.length_singleton];omega
def SK(wb W:World)(g gs rate:Nat)(sd c s:Int)(u n:Nat)(bs:List Bt)(K:Nat->Prop):Prop:=
 ∃gl gx m ws B C sure P,StoP wb W g gs gl gx rate m ws sd c s u (40+3*n) B C sure P K/\q1j P=bs/\m.nx<=n/\bs.length<=n/\0<=sd/\sd<18446744073709551616
def SQ(wb W:World)(g:Nat)(sd c s:Int)(u n:Nat)(bs:List Bt)(K:Nat->Prop):Prop:=
 ∃m B C P,DKQ wb W g m c s u (40+3*n) B C K/\y1g sd m B C P/\B.Nodup/\q1j P=bs/\m.nx<=n/\bs.length<=n/\0<=sd/\sd<18446744073709551616
section
variable {wb w W W':World}{g gs rate u n:Nat}{sd c s:Int}{bs:List Bt}{K K':Nat->Prop}
theorem StoP.bounds{gl gx:Nat}{m:Man}{ws:List En}{cnt:Nat}{B:List En}{C:Cks}{sure:Int}{P:Pbs}(h:StoP wb W g gs gl gx rate m ws sd c s u cnt B C sure P K)(d:q1j P=bs)(r:bs.length<=n):
  (tos bs).length<=8*n/\B.length<=8*n/\C.length<=n/\okBs bs:=by
 have b:okBs bs:=d▸h.stE.ok;have o:=z6O b;have j:=h.len;rw[d] at j;have l:=q9Z C 0 h.i.cOk.full;rw[h.recE,q7F] at l;have q:bs.length=P.length:=by rw[<-d];exact List.length_map _
 exact⟨by omega,by omega,by omega,b⟩
theorem SK.ok(h:SK wb W g gs rate sd c s u n bs K):okBs bs:=by
 obtain⟨gl,gx,m,ws,B,C,sure,P,b,d,_,i,_⟩:=h;exact(b.bounds d i).2.2.2
theorem SK.few(h:SK wb W g gs rate sd c s u n bs K):bs.length<=n/\(tos bs).length<=8*n:=by
 obtain⟨gl,gx,m,ws,B,C,sure,P,d,i,_,b,_⟩:=h;exact⟨b,(d.bounds i b).1⟩
theorem SK.base(h:SK wb W g gs rate sd c s u n bs K):Ext wb W:=by
 obtain⟨gl,gx,m,ws,B,C,sure,P,b,_⟩:=h;exact b.base
theorem SK.klt(h:SK wb W g gs rate sd c s u n bs K): ∀i,K i->i<W.heap.size:=by
 obtain⟨gl,gx,m,ws,B,C,sure,P,b,_⟩:=h;exact b.klt
theorem SK.grow(h:SK wb W g gs rate sd c s u n bs K)(k:Ext W W'):SK wb W' g gs rate sd c s u n bs K:=by
 obtain⟨gl,gx,m,ws,B,C,sure,P,b,d⟩:=h;exact⟨gl,gx,m,ws,B,C,sure,P,b.grow k,d⟩
theorem SK.kExt(h:SK wb W g gs rate sd c s u n bs K)(k:Ext W W'):Stay K W W':=fun i b=>k.block i (h.klt i b)
theorem SK.more(h:SK wb W g gs rate sd c s u n bs K)(k:Ext W W')(hK: ∀i,K' i->K i\/(W.heap.size<=i/\i<W'.heap.size)):SK wb W' g gs rate sd c s u n bs K':=by
 obtain⟨gl,gx,m,ws,B,C,sure,P,b,d⟩:=h;exact⟨gl,gx,m,ws,B,C,sure,P,b.more k hK,d⟩
theorem SK.beside(h:SK wb W g gs rate sd c s u n bs K)(k: ∀i,K' i->K i):SK wb W g gs rate sd c s u n bs K':=by
 obtain⟨gl,gx,m,ws,B,C,sure,P,b,d⟩:=h;exact⟨gl,gx,m,ws,B,C,sure,P,b.beside k,d⟩
theorem SK.sideM(h:SK wb W g gs rate sd c s u n bs K)(j:W.heap.size<=W'.heap.size)(l:Ext wb W')(k: ∀i,i<W.heap.size->¬K i->W'.heap[i]? =W.heap[i]?)(hK: ∀i,K' i->K i\/(W.heap.size<=i/\i<W'.heap.size)):SK wb W' g gs rate sd c s u n bs K':=by
 obtain⟨gl,gx,m,ws,B,C,sure,P,b,d⟩:=h;exact⟨gl,gx,m,ws,B,C,sure,P,b.sideM j l k hK,d⟩
theorem SK.mono(h:SK wb W g gs rate sd c s u n bs K){u' b:Nat}(r:u<=u')(q:n<=b):SK wb W g gs rate sd c s u' b bs K:=by
 obtain⟨gl,gx,m,ws,B,C,sure,P,d,i,l,o,j⟩:=h;exact⟨gl,gx,m,ws,B,C,sure,P,d.mono (by omega) (by omega),i,by omega,by omega,j⟩
def EvR(wb w:World)(g gs rate:Nat)(sd c s:Int)(u n:Nat)(bs:List Bt)(K:Nat->Prop)(R:List To)(z:Int)(e:Ending)(w':World):Prop:=
 ∃v,e= .returned (.tuple #[v,.int .i64 z])/\SK wb w' g gs rate sd c s u n bs (fun i=>K i\/v.ownBlock=some i)/\Stay K w w'/\w'.ownsRow wb.heap.size 57 5 v R.length (q3u R)/\ ∀i,K i->v.ownBlock≠some i
theorem SK.last(h:SK wb w g gs rate sd c s u n bs K)(F:n<=1000)(b:List UInt8)(q:b.length<=4611686018427387903){x y:Int}(o:z3i bs b=(x,y)):
  Calls Tryz.prog 53 #[.pointer (some ⟨gs,0,none⟩),.string ⟨b.toArray⟩] w fun e w'=>e= .returned (.tuple #[.int .i64 x,.int .i64 y])/\SK wb w' g gs rate sd c s u n bs K/\Stay K w w':=by
 obtain⟨gl,gx,m,ws,B,C,sure,P,d,rfl,j,i,l⟩:=h;obtain⟨b1,b2,b3,b4⟩:=d.bounds rfl i;have D:=q2o (q1j P) b;refine(z6B d b q (by omega) (by omega) o).mono ?_;rintro e w' ⟨rfl,r,v⟩;exact⟨rfl,⟨gl,gx,m,ws,B,C,sure,P,r,rfl,j,i,l⟩,v⟩
theorem SK.forward(h:SK wb w g gs rate sd c s u n bs K)(F:n<=1000)(b:List UInt8)(r:b.length<=4611686018427387903)(fr ct:Int)(d: -9223372036854775808<=fr)(i:fr<=9223372036854775807):
  Calls Tryz.prog 22 #[.pointer (some ⟨gs,0,none⟩),.string ⟨b.toArray⟩,.int .i64 fr,.int .i64 ct] w (EvR wb w g gs rate sd c s u n bs K (q7Z bs b fr ct) (q2L b fr ct)):=by
 obtain⟨gl,gx,m,ws,B,C,sure,P,j,rfl,o,l,q⟩:=h;obtain⟨b1,b2,b3,b4⟩:=j.bounds rfl l;have D:=q2o (q1j P) b;refine(z4A j b r fr ct d i (by omega) (by omega)).mono ?_;rintro e w' ⟨v,rfl,x,y⟩;exact⟨v,rfl,⟨gl,gx,m,ws,B,C,sure,P,x,rfl,o,l,q⟩,y⟩
theorem SK.backward(h:SK wb w g gs rate sd c s u n bs K)(F:n<=1000)(b:List UInt8)(r:b.length<=4611686018427387903)(fr ct:Int)(i:fr<=9223372036854775807)(d:ct<=9223372036854775807):
  Calls Tryz.prog 69 #[.pointer (some ⟨gs,0,none⟩),.string ⟨b.toArray⟩,.int .i64 fr,.int .i64 ct] w (EvR wb w g gs rate sd c s u n bs K (z8h bs b fr ct) (q2L b fr ct)):=by
 obtain⟨gl,gx,m,ws,B,C,sure,P,j,rfl,o,l,q⟩:=h;obtain⟨b1,b2,b3,b4⟩:=j.bounds rfl l;have D:=q2o (q1j P) b;refine(z1d j b r fr ct i d (by omega) (by omega)).mono ?_;rintro e w' ⟨v,rfl,x,y⟩;exact⟨v,rfl,⟨gl,gx,m,ws,B,C,sure,P,x,rfl,o,l,q⟩,y⟩
theorem SK.append(h:SK wb w g gs rate sd c s u n bs K)(S:n<=86)(b:List UInt8)(I:b.length<=4611686018427387903)(ex:Int){L:List Ev}(J: ∀W,Ext wb W->Stay K w W->Evs W ao k cap L)(G:q3i L)
  (o: ∀e∈L,e.we<18446744073709551616){z:Int}(M:z4S bs b ex L=z):
  Calls Tryz.prog 38 #[.pointer (some ⟨gs,0,none⟩),.string ⟨b.toArray⟩,.int .i64 ex,.slice ao k cap] w fun e w'=>
   ∃ x y d,e= .returned (.tuple #[.int .i64 x,.int .i64 y])/\SK wb w' g gs rate sd c s (u+2024) (n+1) d K/\Stay K w w'/\
    ((z≠0/\x=0/\y=z/\d=bs)\/(z=0/\x=0/\y=60/\d=bs/\c-(u:Int)-2024<6000)\/(z=0/\x=((q0S bs b).length:Int)/\y=0/\d=bs++[⟨b,(q0S bs b).length,L⟩])):=by
 obtain⟨gl,gx,m,ws,B,C,sure,P,v,rfl,R,F,l⟩:=h;obtain⟨b1,b2,b3,b4⟩:=v.bounds rfl F;have Q:=q2o (q1j P) b;refine(z6A v b I ex J G o (by omega) (by omega) (by omega)).mono ?_;rw[M];rintro e w' ⟨⟨N,rfl,j⟩|⟨rfl,rfl,j,O⟩|⟨rfl,O,pos,r,B',D,i,rfl,j⟩,q⟩
 ·exact⟨_,_,_,rfl,⟨gl,gx,m,ws,B,C,sure,P,j.mono (by omega) (by omega),rfl,by omega,by omega,l⟩,q,.inl ⟨N,rfl,rfl,rfl⟩⟩
 ·exact⟨_,_,_,rfl,⟨gl,gx,m,ws,B,C,sure,P,j.mono (by omega) (by omega),rfl,by omega,by omega,l⟩,q,.inr (.inl ⟨rfl,rfl,rfl,rfl,by omega⟩)⟩
 ·exact⟨_,_,_,rfl,⟨gl,gx,m,r,B',D,i,_,j.mono (by omega) (by omega),rfl,by omega,by rw[q4v,θ,List.length_singleton];omega,l⟩,q,.inr (.inr ⟨rfl,rfl,rfl,q4v _ _ _⟩)⟩
theorem SQ.open(h:SQ wb w g sd c s u n bs K)(D:n<=200)(rate:Nat):Calls Tryz.prog 20 #[.pointer (some ⟨g,0,none⟩),.int .u64 sd,.float .f64 rate] w fun e w'=>
  ∃gs,e= .returned (.tuple #[.pointer (some ⟨gs,0,none⟩),.int .i64 0])/\SK wb w' g gs rate sd c s u n bs K/\Stay K w w':=by
 obtain⟨m,B,C,P,j,b,l,rfl,x,o,d,i⟩:=h;have y:=z6O b.ok;refine(z9e j b d i (by omega) (by omega) l rate).mono ?_;rintro e w' ⟨gs,gl,gx,v,ws,B',sure,rfl,q,F,r⟩;exact⟨gs,rfl,⟨gl,gx,v,ws,B',C,sure,P,q,rfl,by omega,o,d,i⟩,r⟩
theorem DkK.sq(h:DkK noO wb w g c s [] K)(sd:Int)(d:0<=sd)(i:sd<18446744073709551616):SQ wb w g sd c s 0 0 [] K:=by
 obtain⟨F,σ,o,q⟩:=h;have l:Pl σ c s []:=by have:=q.pl;simpa [q2G,noO,q2Q,q5X,q3E,q3n] using this
 have r:q0c 0 0 []=true:=by decide
 refine⟨⟨0,0,sd,[]⟩,[],[],[],⟨⟨⟨0,0,sd,[]⟩,0,[],fun _=>none,0⟩,σ,fun _=>none,F,rfl,rfl,o,⟨⟨⟨[],l,List.Pairwise.nil,fun _=>rfl,υ _,υ _⟩,⟨r,d,i⟩,(fun n j=>by cases j),(fun n e he=>by cases he),(fun nm j=>absurd rfl j),okM.nil,okM.nil,fun x=>?_⟩,.inr ⟨rfl,rfl,rfl,rfl⟩,fun k _=>by simp⟩,okC.nil⟩,
  ⟨rfl,rfl,okBs.nil,(fun x b=>by cases b),(fun x b=>by cases b),by show(0:Int)<=q4h [];rw[z2O];decide⟩,List.nodup_nil,rfl,Int.le_refl _,ι _,d,i⟩
 constructor
 ·intro b;cases b
 ·rintro(b|⟨n,e,he,_⟩)
  ·cases b
  ·cases he
end
theorem DkK.rebase{j wb w:World}{g:Nat}{c s:Int}{C:Cks}{K:Nat->Prop}(h:DkK E wb w g c s C K)(k:Ext j wb):DkK E j w g c s C K:=by
 obtain⟨F,σ,b,l⟩:=h;have q:=k.size;exact⟨F,σ,⟨b.d,fun i o=>by have:=b.bF i o;omega,k.trans b.ext,b.k⟩,l⟩
theorem DkK.base{wb w:World}{g:Nat}{c s:Int}{C:Cks}{K:Nat->Prop}(h:DkK E wb w g c s C K):Ext wb w:=by
 obtain⟨F,σ,b,d⟩:=h;exact b.ext
theorem Blk.rd{w:World}{b:Nat}{cs:Array Value}(h:Blk w b t cs):Rd w (some ⟨b,0,none⟩) cs.toList:=fun j u d=>⟨b,0,rfl,by rw[Nat.zero_add,h.cell j];simpa using d⟩
theorem Blk.evs{w:World}{b:Nat}{L:List Ev}(h:Blk w b t (q5a L).toArray)(i:k<=L.length)(j:L.length<=1000000):Evs w (some ⟨b,0,none⟩) k L.length (L.take k):=by
 refine⟨by rw[Θ];omega,i,by omega,(fun e=>by cases e),?_⟩;have d:=h.rd.take (k*3);have e:(q5a L).take (k*3)=q5a (L.take k):=by
  conv=>lhs;rw[<-List.take_append_drop k L,q6i]
  exact List.take_left' (by rw[z0v,Θ];omega)
 rw[<-e]
 simpa using d
theorem q9J{w:World}{B:Nat}{n b:Nat}(h:w.ownsRow B e 5 (.slice ao n b) L.length (q3u L)):Tos w ao n b L/\n=L.length:=by
 obtain⟨a,c,d,i⟩:=Tos.of_own (Own.of_row h)
 cases d;exact⟨i,rfl⟩
abbrev evA :Ev:=⟨[97],[],0⟩
abbrev z8M :Ev:=⟨[98],[],0⟩
abbrev st1 :Bt:=⟨[115],0,[evA,z8M]⟩
theorem y2E :z4S [] [115] (-1) [evA,z8M]=0:=by decide
theorem z7x{L:List Ev}(h: ∀e∈L,e.ty.length<=300/\e.da.length<=300):q3i L:=fun e he=>by have:=h e he;omega
def y1e(w:World)(p:Option Addr):Prop:=p=none\/ ∃s,p=some ⟨s,0,none⟩/\Blk w s 137 #[.pointer none,.pointer none,.int .u64 0]
variable {w :World}{p:Option Addr}
theorem z9R(h:y1e w p):Calls Tryz.prog 75 #[.pointer p] w fun e w'=>e= .returned (.bool true)/\w=w':=by
 rcases h with rfl|⟨s,rfl,b⟩
 ·go_enter Tryz.func75,Tryz.ntmps75
  go_wp2_with fail;go_ret;exact⟨rfl,rfl⟩
 ·have d:=b.cell 0
  clear b;go_enter Tryz.func75,Tryz.ntmps75;go_wp2_with fail;go_ret;exact⟨rfl,rfl⟩
theorem z9Q(h:y1e w p)(b:List UInt8):Calls Tryz.prog 53 #[.pointer p,.string ⟨b.toArray⟩] w fun e w'=>e= .returned (.tuple #[.int .i64 (-1),.int .i64 1])/\w=w':=by
 have d:=η (z9R h);clear h;go_enter Tryz.func53,Tryz.ntmps53;go_wp2_with fail;refine d.o.mono ?_;rintro e w1 ⟨rfl,rfl⟩;go_wp2_with fail;go_ret2;exact⟨rfl,rfl⟩
end
section
open Go.RowKit
section
variable {wb w W W1 W2:World}{g gs rate u n:Nat}{sd c s:Int}{bs:List Bt}{K K':Nat->Prop}
end
theorem z4y{i:Type}(p:i->Bool)(A:List i)(d:i)(h:k<A.length):(A.take (k+1)).filter p=(A.take k).filter p++if p (A.getD k d)=true then [A.getD k d] else []:=by
 rw[List.take_succ_eq_append_getElem h,List.filter_append,δ,γ h];simp only[Option.getD_some];by_cases b:p A[k]=true
 ·rw[ξ b,List.filter_cons_of_pos b,List.filter_nil]
 ·rw[κ b,List.filter_cons_of_neg b,List.filter_nil]
structure MoI(W:World)(mb base:Nat)(vL vM:Value)(L:List To)(ms:List Value):Prop where
 blk: ∃su:Int,Blk W mb 64 #[vL,vM,.int .i64 su]
 rowL:W.ownsRow base 57 5 vL L.length (q3u L)
 rowM:W.ownsRow base 3 1 vM ms.length ms
def MoB(mb:Nat)(vL vM:Value)(i:Nat):Prop:=i=mb\/vL.ownBlock=some i\/vM.ownBlock=some i
theorem MoI.same{W W':World}{base:Nat}(h:MoI W mb base vL vM L ms)(k: ∀i,MoB mb vL vM i->W'.heap[i]? =W.heap[i]?):MoI W' mb base vL vM L ms:=by
 obtain⟨j,d⟩:=h.blk;exact⟨⟨j,d.same (k _ (.inl rfl))⟩,q1A h.rowL fun i b=>k i (.inr (.inl b)),q1A h.rowM fun i b=>k i (.inr (.inr b))⟩
theorem MoI.lt{W:World}{base:Nat}(h:MoI W mb base vL vM L ms){i:Nat}(b:MoB mb vL vM i):i<W.heap.size:=by
 obtain⟨j,d⟩:=h.blk;rcases b with rfl|b|b
 ·exact d.lt
 ·exact(q0X h.rowL i b).2
 ·exact(q0X h.rowM i b).2
theorem MoI.ext{W W':World}{base:Nat}(h:MoI W mb base vL vM L ms)(k:Ext W W'):MoI W' mb base vL vM L ms:=h.same fun i b=>k.block i (h.lt b)
theorem z7u{W W2:World}{w0:World}{l n:Nat}{vq:Value}{o:List Value}{ti:TypeId}{b:Obj}(d:Ext w0 W)(hq:W.ownsRow w0.heap.size ti l vq n o)
  (i:(W.alloc b).grownBy W2 vq.ownBlock):Ext w0 W2:=
 Below.grown (d.trans (q0B W b)) i (Ω d.size (q0B W b).size) fun k j=>(q0X hq k j).1
theorem z5W{w:World}{base:Nat}(h:MoI w mb base vL vM L ms)(s:List UInt8)(hl:L.length<=100000):
  Calls Tryz.prog 94 #[.pointer (some ⟨mb,0,none⟩),.string ⟨s.toArray⟩] w fun e w'=> ∃v,e= .returned v/\w'.ownsRow w.heap.size 57 5 v (L.filter fun t=>decide (t.s=s)).length (q3u (L.filter fun t=>decide (t.s=s)))/\Ext w w':=by
 obtain⟨la,lc,rfl⟩:=q0H h.rowL;have HM:=η h;obtain⟨n,S⟩: ∃n,L.length=n:=⟨_,rfl⟩
 have Q:=(q9J h.rowL).1;rw[S] at Q hl HM;have HT:=η Q;have b1:=Q.fits;have b2:=Q.bound;obtain⟨su,d⟩:=h.blk;rw[S] at d;have V:=η d;have Y:=η S;clear h Q d S;go_enter Tryz.func94,Tryz.ntmps94;go_wp2_with fail
 go_loopw [5,6] (fun ov oi W=> ∃(k:Nat) (v:Value) (M:List To),ov=v/\oi= .int .i64 (k:Int)/\k<=n/\Hd ((L.take k).filter (fun t=>decide (t.s=s))=M)/\W.ownsRow w.heap.size 57 5 v M.length (q3u M)/\Ext w W) (fun _ i _=>n-(intOf i).toNat)
 case atStart=>exact⟨0,_,[],rfl,rfl,υ _,η (by simp),⟨rfl,.inl ⟨rfl,rfl⟩⟩,Ext.refl _⟩
 case round=>
  obtain⟨k,v,M,rfl,rfl,hk,q,b,x⟩:=hrel;obtain⟨oa,oc,rfl⟩:=q0H b;have y:=V.o.ext x;have k0:=y.cell 0;have N:M.length<=n:=by rw[<-q.o];exact Ω (List.length_filter_le _ _) (by rw[Θ,Y.o];omega)
  by_cases O:k<n
  ·have hd:decide ((k:Int)<(n:Int))=true:=ζ (by omega)
   have d0:(k:Int)<(n:Int):=by omega
   have q1:IntKind.i64.wrap ((k:Int)+1)=(k:Int)+1:=by rw[ν];omega
   obtain⟨bb,off,rfl,c0,c1,c2,c3,c4⟩:=(HT.o.ext x).at O;have HS:=η (z4y (fun t:To=>decide (t.s=s)) L to0 (k:=k) (by rw[Y.o];exact O));generalize L.getD k to0=t at*;obtain⟨ts,F,⟨ty,da,we⟩⟩:=t;simp only at c0 c1 c2 c3 c4;obtain⟨U,D⟩: ∃U,M.length=U:=⟨_,rfl⟩
   have G:=η D;have e0:=q2p;rw[D] at b N⊢;have r:=η b;have R:=η x;have a0:=η x.size;have Z:=η (show Rd (wr.alloc (.cells #[.string ⟨ts.toArray⟩,.int .i64 F,.string ⟨ty.toArray⟩,.string ⟨da.toArray⟩,.float .f64 we] 57)) (some ⟨wr.heap.size,0,none⟩) (toc ⟨ts,F,⟨ty,da,we⟩⟩) from Rd.lit wr #[.string ⟨ts.toArray⟩,.int .i64 F,.string ⟨ty.toArray⟩,.string ⟨da.toArray⟩,.float .f64 we] 57);have I:=η (q0K b (q0B wr (.cells #[.string ⟨ts.toArray⟩,.int .i64 F,.string ⟨ty.toArray⟩,.string ⟨da.toArray⟩,.float .f64 we] 57)));clear b x y D;by_cases hs:ts=s
   ·subst hs
    have e1:(ts==ts)=true:=beq_self_eq_true ts
    go_wp2_with (at_builtin;refine q0P rfl _ _ 52 rfl w.heap.size 57 _ 5 64 Tryz.underlying52 Tryz.infoTo (by decide) (by decide) _ U (q3u M) rfl I.o _ 1 1 (toc ⟨ts,F,⟨ty,da,we⟩⟩) rfl rfl (fun h=>by cases h) Z.o (by unfold toc;simp[Value.oneCell']) (by unfold maxLen;omega) (by omega) (by have:=a0.o;simp;omega) ?_;intro v2 w8 l j b0;obtain⟨a2,k2,rfl⟩:=q0H l;have HO:=η l;have HX:Hd (Ext w w8):=η (z7u (w0:=w) (W:=wr) (vq:= .slice oa U oc) R.o r.o j);clear l j b0)
    go_roundw
    case rel=>
     refine⟨k+1,_,M++[⟨ts,F,⟨ty,da,we⟩⟩],rfl,by go_num,by omega,η (by rw[HS.o,q.o];simp),?_,HX.o⟩;rw[z0S,θ,G.o];exact HO.o
    case measure=>simp[intOf];omega
   ·have e1:(ts==s)=false:=beq_eq_false_iff_ne.2 hs
    go_wp2_with fail
    go_roundw
    case rel=>exact⟨k+1,_,M,rfl,by go_num,by omega,η (by rw[HS.o,q.o];simp[hs]),by rw[G.o];exact r.o,R.o⟩
    case measure=>simp[intOf];omega
  ·obtain rfl:k=n:=by omega
   have hd:decide ((k:Int)<(k:Int))=false:=ε (by omega);have J:M=L.filter fun t=>decide (t.s=s):=by rw[<-q.o,Δ (by rw[Y.o];exact ι _)]
   have r:=η b;have R:=η x;have X:=η J;clear b x y J N;go_wp2_with fail;go_ret;exact⟨_,rfl,by rw[<-X.o];exact r.o,R.o⟩
section
variable {wb w W W':World}{g gs gw rate u n:Nat}{sd c s:Int}{bs:List Bt}{K K':Nat->Prop}
end
end
end Go.Proofs.YtjigghjfcbbkiaaGreatDoor
