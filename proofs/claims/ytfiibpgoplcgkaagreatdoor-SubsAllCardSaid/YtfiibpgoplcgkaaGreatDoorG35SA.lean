/- The shelf's contract of slices.Reverse at []api.Told at this seat, in plain words. -/
import Derived.Shelf.SlicesQ.Reverse
import Derived.Ground.SlgnProg
import Derived.Test.YtfiibpgoplcgkaaGreatDoorG34SA
import Derived.LaidEql
import Derived.Stop.Asserts
import Derived.RowKitTokens
set_option linter.unusedVariables false
set_option linter.unusedSimpArgs false
set_option maxRecDepth 100000
set_option maxHeartbeats 6400000
namespace Go.Proofs
open Go.Shelf
def Tryz.reverseTold_ren :Go.Shelf.Ren:=⟨fun|35=>106|n=>n,fun|22=>36|23=>69|3=>3|4=>4|0=>0|n=>n,fun|n=>n⟩
theorem Tryz.reverseTold :Go.Proofs.SlLaysE0.n35 Tryz.prog Tryz.reverseTold_ren:={
 mixed:=by kernel_rfl
 f35:=⟨Tryz.f106.name,by decide,Tryz.func106.trans (congrArg some (by kernel_rfl))⟩
 t0:=Tryz.underlying0
 a0:=Tryz.isAgg0
 z0:=Tryz.sizeOf0
 v0:=Tryz.zeroValue0
 t3:=Tryz.underlying3
 a3:=Tryz.isAgg3
 z3:=Tryz.sizeOf3
 v3:=Tryz.zeroValue3
 t4:=Tryz.underlying4
 a4:=Tryz.isAgg4
 z4:=Tryz.sizeOf4
 v4:=Tryz.zeroValue4
 t22:=Tryz.underlying36
 a22:=Tryz.isAgg36
 z22:=Tryz.sizeOf36
 v22:=Tryz.zeroValue36}
end Go.Proofs
namespace Go.Proofs.YtfiibpgoplcgkaaGreatDoor
variable {k cap:Nat}{e t:TypeId}{ao:Option Addr}{L:List Ev}{E:Oth}
section
open Go.RowKit Go.Sort Go.Lib
theorem z2m{w:World}{base:Nat}{g n q:Nat}{cs:List Value}{F:Array Value}(h:w.ownsRow base e k (.slice (some ⟨g,0,none⟩) n cap) n cs)(hF:F.size=n*k):
  (putRow id (Sort.ahead w q) g 0 F).ownsRow base e k (.slice (some ⟨g,0,none⟩) n cap) n F.toList:=by
 rcases h.2 with⟨i,_⟩|⟨J,o,b,i,y,D,v,hm,I,M⟩
 ·cases i
 ·injection i with d _ x
  injection d with d;injection d with d;subst d;subst x;have G:n*k<=cap*k:=Nat.mul_le_mul_right k v;refine⟨by simpa using hF,.inr ⟨g,cap,putCells id 0 F b,rfl,y,?_,v,hm,by simpa [putCells] using I,?_⟩⟩
  ·simp[putRow,mapBlock,Sort.ahead,Array.getElem?_modify,D,onCells]
  ·apply List.ext_getElem?
   intro j;rw[List.getElem?_take,Array.getElem?_toList,Array.getElem?_toList];by_cases r:j<n*k
   ·have l:j<b.size:=by omega
    simp only[ξ r,putCells,Array.getElem?_mapIdx,Array.getElem?_eq_getElem l,Option.map_some];rw[ξ (by omega),Array.getElem?_eq_getElem (by omega)];simp[getElem!_pos,show j<F.size by omega]
   ·rw[κ r,Array.getElem?_eq_none (by omega)]
theorem z0F{w:World}{base:Nat}{g n:Nat}{cs:List Value}(h:w.ownsRow base e k (.slice (some ⟨g,0,none⟩) n cap) n cs):Holds id w g 0 cs.toArray:=by
 have x:=h.1;rcases h.2 with⟨i,_⟩|⟨G,o,d,i,I,q,y,hm,J,F⟩
 ·cases i
 ·injection i with b _ r
  injection b with b;injection b with b;subst b;subst r;have D:n*k<=cap*k:=Nat.mul_le_mul_right k y;intro j v;have l:j<n*k:=by simpa [x] using v
  refine⟨?_,by simp[World.frozen?,q]⟩;have b:(d.toList.take (n*k))[j]? =cs[j]? :=by rw[F]
  rw[List.getElem?_take,ξ l,Array.getElem?_toList] at b;simp only[World.cell?,q,Nat.zero_add];simp only[Option.isSome_none,Bool.false_eq_true,if_false];rw[b,γ (by omega)];simp[getElem!_pos,show j<cs.length by omega]
instance : Inhabited To:=⟨to0⟩
theorem z0x(T:List To):flatK toc 5 T.toArray=(q5B T).toArray:=by
 have b:(flatK toc 5 T.toArray).size=T.length*5:=by simp[flatK]
 refine ext_get! (by rw[b];simp[q8I]) fun t i=>?_
 rw[b] at i;rw[get_flatK _ _ _ _ (by simpa using i)];have d:=q5a T (t/5) (t % 5) (by omega) (Nat.mod_lt _ (by decide));rw[show t/5*5+t % 5=t by omega] at d;have j:t/5<T.length:=by omega
 rw[show(T.toArray)[t/5]! =T.getD (t/5) to0 by simp[getElem!_pos,j,δ]];rw[show(q5B T).toArray[t]! =((q5B T)[t]?).getD default by simp only[getElem!_def,List.getElem?_toArray];cases (q5B T)[t]? <;>rfl,d];simp only[getElem!_def]
 cases (toc (T.getD (t/5) to0))[t % 5]? <;>rfl
theorem z7a{w:World}{base:Nat}{v:Value}{T:List To}(h:w.ownsRow base 69 5 v T.length (q5B T))(J:T.length<=9223372036854775807):
  Calls Tryz.prog 106 #[v] w fun e w'=>e= .returned (.tuple #[])/\w'.ownsRow base 69 5 v T.length (q5B T.reverse)/\(∀w0,Below w0.heap.size w0 w->w0.heap.size<=base->Below w0.heap.size w0 w')/\
   (∀i,v.ownBlock≠some i->w'.heap[i]? =w.heap[i]?)/\w.heap.size<=w'.heap.size:=by
 rcases h.2 with⟨rfl,y⟩|⟨g,cap,l,rfl,S,U,N,O,Q,R⟩
 ·have D:T=[]:=List.length_eq_zero_iff.1 y
  subst D;refine(AnyQ.slices_Reverse_empty Tryz.reverseTold none 0 w).mono ?_;rintro e w' ⟨rfl,rfl⟩;exact⟨rfl,h,fun _ b _=>b,fun _ _=>rfl,ι _⟩
 ·have j:=AnyQ.slices_Reverse Tryz.reverseTold 5 Tryz.isAgg69 Tryz.sizeOf69 toc (fun _=>rfl) (fun x u M=>z9o [x] u (by simpa [q5B] using M)) g 0 cap T.toArray w (by unfold HoldsK;rw[z0x];exact z0F h) (by simpa using J)
  have o:T.toArray.size=T.length:=by simp
  rw[o] at j;refine j.mono ?_;rintro e w' ⟨rfl,q,rfl⟩;have r:putRowK toc 5 (Sort.ahead w q) g 0 T.toArray.reverse=putRow id (Sort.ahead w q) g 0 (q5B T.reverse).toArray:=by
   unfold putRowK;rw[show T.toArray.reverse=T.reverse.toArray by simp,z0x]
  rw[r];refine⟨rfl,?_,fun w0 b I=>below_putRow b (by omega),fun i G=>?_,?_⟩
  ·have:=z2m (q:=q) (F:=(q5B T.reverse).toArray) h (by simp[q8I])
   simpa using this
  ·have d:g≠i:=fun e=>G (by rw[e];rfl)
   simp[putRow,mapBlock,Sort.ahead,Array.getElem?_modify,d]
  ·simp[Sort.ahead]
def y0W(bs:List Bt)(str:List UInt8)(fr ct:Int):List To:=if q2M str fr ct=0 then(z1Q (q5Y bs str) fr ct).reverse else []
section
variable {wb w W W1 W2:World}{g gl gs gx rate:Nat}{m:Man}{ws:List En}{c s sd:Int}{u cnt:Nat}{B:List En}{C:Cks}{P:Pbs}{sure:Int}{K K':Nat->Prop}
theorem z2n(h:StoP wb w g gs gl gx rate m ws sd c s u cnt B C sure P K)(d:List UInt8)(hs:d.length<=4611686018427387903)(fr ct:Int)(e0:fr<=9223372036854775807)(d0:ct<=9223372036854775807)(hl:B.length<=10000)(b0:(q0N (q1f P) d).length<=10000):
  Calls Tryz.prog 54 #[.pointer (some ⟨gs,0,none⟩),.string ⟨d.toArray⟩,.int .i64 fr,.int .i64 ct] w (ToldR wb w g gs gl gx rate m ws sd c s u cnt B C sure P K (y0W (q1f P) d fr ct) (q2M d fr ct)):=by
 have r:=η (z7f h.b d hs fr ct);have HH:=η h;obtain⟨R,y⟩: ∃R,y0W (q1f P) d fr ct=R:=⟨_,rfl⟩
 rw[y];unfold y0W at y;by_cases q:q2M d fr ct=0
 ·have S:0<=fr/\1<=ct:=by
   unfold q2M at q
   split at q
   ·cases q
   ·omega
  rw[ξ q] at y;rw[q] at r⊢;have q1:IntKind.i64.wrap (fr-ct)=fr-ct:=by rw[ν];omega
  have q2:IntKind.i64.wrap (fr-ct+1)=fr-ct+1:=by rw[ν];omega
  have x:=z7N (q1f P) d (f:=fr) (c:=ct) S.1 S.2 (by omega);obtain⟨D,N⟩: ∃D,z1Q (q5Y (q1f P) d) fr ct=D:=⟨_,rfl⟩
  rw[N] at x y;have c0:D.length<=10000:=by
   rw[<-x];refine Ω (List.length_filter_le _ _) ?_;rw[q2N];exact b0
  have HB:=η (fun W (k:Ext w W)=>q7N (h.grow k) d hs (fr-ct+1) fr hl x);have I:Hd (D.reverse=R):=η y;clear q y h x N;go_enter Tryz.func54,Tryz.ntmps54;go_wp2_with fail;refine r.o.mono ?_;rintro e w1 ⟨rfl,Y⟩;have M:=η Y;clear Y;go_wp2_with fail;refine(HB.o _ M.o).mono ?_;rintro e w2 ⟨v,rfl,hh,V,j,Q⟩;obtain⟨ra,rc,rfl⟩:=q0G j;have J:=η (z7a j (by omega));have G:=η hh;have a0:=η ((HH.o.kExt M.o).trans V);have F:=η Q;clear hh V j Q HB;go_wp2_with fail;refine J.o.mono ?_;rintro e w3 ⟨rfl,j,O,l,X⟩;rw[I.o] at j;have U:R.length=D.length:=by rw[<-I.o,List.length_reverse]
  have HF:Hd (ToldR wb w g gs gl gx rate m ws sd c s u cnt B C sure P K R 0 (.returned (.tuple #[.slice ra D.length rc,.int .i64 0])) w3):=η
   ⟨_,rfl,G.o.sideM X (O wb G.o.base (ι _)) (fun i hi hn=>l i fun e=>hn (.inr e)) fun i hi=> .inl hi,a0.o.trans fun i hi=>l i (F.o i hi),by rw[U];exact j,F.o⟩
  clear j O l X J;go_wp2_with fail;go_ret2;exact HF.o
 ·rw [κ q] at y
  subst y;have Z:q2M d fr ct=2:=by
   unfold q2M at q⊢
   split at q
   ·rename_i h1;rw[ξ h1]
   ·exact absurd rfl q
  rw[Z] at r⊢;clear q Z h;go_enter Tryz.func54,Tryz.ntmps54;go_wp2_with fail;refine r.o.mono ?_;rintro e w1 ⟨rfl,Y⟩;have M:=η Y;clear Y;go_wp2_with fail;go_ret2;exact ToldR.nil (HH.o.grow M.o) (HH.o.kExt M.o) 2
end
end
section
open Go.RowKit
theorem z0i : ∀(C:Cks) (b:Nat),(∀ps∈C,ps≠[])->C.length<=(q0f b C).length
 |[],_,_=>ι _
 | ps::t,b,h=>by
  have d:=z0i t (b+4096) fun q hq=>h q (.tail _ hq)
  have i:0<ps.length:=List.length_pos_iff.2 (h ps (.head _));rw[q0f,θ,q4k,χ];omega
theorem z4e{C:Cks}(h:okC C):C.length<=(q0f 0 C).length+1:=by
 rcases List.eq_nil_or_concat C with rfl|⟨D,ps,rfl⟩
 ·exact υ _
 ·rw[List.concat_eq_append] at*
  have d:=z0i D 0 fun b hq=>h.full b (by simpa using hq)
  rw[q1i,θ,θ,List.length_singleton];omega
theorem z0P{bs:List Bt}(h:okBs bs):(tos bs).length<=8*bs.length:=by
 induction bs using z0J with
 |h0=>exact ι _
 | h1 l b ih=>
  obtain⟨h1,d,_⟩:=okBs_snoc.1 h;have i:=(q1B d.1).2.2.2.1;have j:=ih h1;rw[q5C,z0Q,θ,q4Q,θ,List.length_singleton];omega
def SKS(wb W:World)(g gs rate:Nat)(sd c s:Int)(u n:Nat)(bs:List Bt)(k:Nat)(K:Nat->Prop):Prop:=
 ∃gl gx m ws B C sure P,StoP wb W g gs gl gx rate m ws sd c s u (40+3*n) B C sure P K/\q1f P=bs/\m.nx<=n/\bs.length<=n/\(k<=bs.length/\ ∀y∈P.take k,z9y y<=sure)/\0<=sd/\sd<18446744073709551616
abbrev SK(wb W:World)(g gs rate:Nat)(sd c s:Int)(u n:Nat)(bs:List Bt)(K:Nat->Prop):Prop:=SKS wb W g gs rate sd c s u n bs 0 K
def SQ(wb W:World)(g:Nat)(sd c s:Int)(u n:Nat)(bs:List Bt)(K:Nat->Prop):Prop:=
 ∃m B C P,DKQ wb W g m c s u (40+3*n) B C K/\y3E sd m B C P/\B.Nodup/\q1f P=bs/\m.nx<=n/\bs.length<=n/\0<=sd/\sd<18446744073709551616
section
variable {wb w W W':World}{g gs rate u n:Nat}{sd c s:Int}{bs:List Bt}{k0:Nat}{K K':Nat->Prop}
theorem StoP.bounds{gl gx:Nat}{m:Man}{ws:List En}{cnt:Nat}{B:List En}{C:Cks}{sure:Int}{P:Pbs}(h:StoP wb W g gs gl gx rate m ws sd c s u cnt B C sure P K)(d:q1f P=bs)(r:bs.length<=n):
  (tos bs).length<=8*n/\B.length<=8*n/\C.length<=n+1/\okBs bs:=by
 have b:okBs bs:=d▸h.stE.ok;have o:=z0P b;have j:=h.len;rw[d] at j;have l:=z4e h.i.cOk;rw[h.recE,q4N] at l;have q:bs.length=P.length:=by rw[<-d];exact List.length_map _
 exact⟨by omega,by omega,by omega,b⟩
theorem SKS.ok(h:SKS wb W g gs rate sd c s u n bs k0 K):okBs bs:=by
 obtain⟨gl,gx,m,ws,B,C,sure,P,b,d,_,i,_⟩:=h;exact(b.bounds d i).2.2.2
theorem SKS.few(h:SKS wb W g gs rate sd c s u n bs k0 K):bs.length<=n/\(tos bs).length<=8*n:=by
 obtain⟨gl,gx,m,ws,B,C,sure,P,d,i,_,b,_⟩:=h;exact⟨b,(d.bounds i b).1⟩
theorem SKS.base(h:SKS wb W g gs rate sd c s u n bs k0 K):Ext wb W:=by
 obtain⟨gl,gx,m,ws,B,C,sure,P,b,_⟩:=h;exact b.base
theorem SKS.klt(h:SKS wb W g gs rate sd c s u n bs k0 K): ∀i,K i->i<W.heap.size:=by
 obtain⟨gl,gx,m,ws,B,C,sure,P,b,_⟩:=h;exact b.klt
theorem SKS.grow(h:SKS wb W g gs rate sd c s u n bs k0 K)(k:Ext W W'):SKS wb W' g gs rate sd c s u n bs k0 K:=by
 obtain⟨gl,gx,m,ws,B,C,sure,P,b,d⟩:=h;exact⟨gl,gx,m,ws,B,C,sure,P,b.grow k,d⟩
theorem SKS.kExt(h:SKS wb W g gs rate sd c s u n bs k0 K)(k:Ext W W'):Stay K W W':=fun i b=>k.block i (h.klt i b)
theorem SKS.more(h:SKS wb W g gs rate sd c s u n bs k0 K)(k:Ext W W')(hK: ∀i,K' i->K i\/(W.heap.size<=i/\i<W'.heap.size)):SKS wb W' g gs rate sd c s u n bs k0 K':=by
 obtain⟨gl,gx,m,ws,B,C,sure,P,b,d⟩:=h;exact⟨gl,gx,m,ws,B,C,sure,P,b.more k hK,d⟩
theorem SKS.beside(h:SKS wb W g gs rate sd c s u n bs k0 K)(k: ∀i,K' i->K i):SKS wb W g gs rate sd c s u n bs k0 K':=by
 obtain⟨gl,gx,m,ws,B,C,sure,P,b,d⟩:=h;exact⟨gl,gx,m,ws,B,C,sure,P,b.beside k,d⟩
theorem SKS.sideM(h:SKS wb W g gs rate sd c s u n bs k0 K)(j:W.heap.size<=W'.heap.size)(l:Ext wb W')(k: ∀i,i<W.heap.size->¬K i->W'.heap[i]? =W.heap[i]?)(hK: ∀i,K' i->K i\/(W.heap.size<=i/\i<W'.heap.size)):SKS wb W' g gs rate sd c s u n bs k0 K':=by
 obtain⟨gl,gx,m,ws,B,C,sure,P,b,d⟩:=h;exact⟨gl,gx,m,ws,B,C,sure,P,b.sideM j l k hK,d⟩
theorem SKS.mono(h:SKS wb W g gs rate sd c s u n bs k0 K){u' b:Nat}(r:u<=u')(q:n<=b):SKS wb W g gs rate sd c s u' b bs k0 K:=by
 obtain⟨gl,gx,m,ws,B,C,sure,P,d,i,l,o,j⟩:=h;exact⟨gl,gx,m,ws,B,C,sure,P,d.mono (by omega) (by omega),i,by omega,by omega,j⟩
def y3c(wb w:World)(g gs rate:Nat)(sd c s:Int)(u n:Nat)(bs:List Bt)(k0:Nat)(K:Nat->Prop)(R:List To)(z:Int)(e:Ending)(w':World):Prop:=
 ∃v,e= .returned (.tuple #[v,.int .i64 z])/\SKS wb w' g gs rate sd c s u n bs k0 (fun i=>K i\/v.ownBlock=some i)/\Stay K w w'/\w'.ownsRow wb.heap.size 69 5 v R.length (q5B R)/\ ∀i,K i->v.ownBlock≠some i
theorem SKS.last(h:SKS wb w g gs rate sd c s u n bs k0 K)(D:n<=1000)(b:List UInt8)(q:b.length<=4611686018427387903){x y:Int}(o:z2P bs b=(x,y)):
  Calls Tryz.prog 52 #[.pointer (some ⟨gs,0,none⟩),.string ⟨b.toArray⟩] w fun e w'=>e= .returned (.tuple #[.int .i64 x,.int .i64 y])/\SKS wb w' g gs rate sd c s u n bs k0 K/\Stay K w w':=by
 obtain⟨gl,gx,m,ws,B,C,sure,P,d,rfl,j,i,l⟩:=h;obtain⟨b1,b2,b3,b4⟩:=d.bounds rfl i;have v:=q3E (q1f P) b;refine(z7e d b q (by omega) (by omega) o).mono ?_;rintro e w' ⟨rfl,k1,r⟩;exact⟨rfl,⟨gl,gx,m,ws,B,C,sure,P,k1,rfl,j,i,l⟩,r⟩
theorem SKS.forward(h:SKS wb w g gs rate sd c s u n bs k0 K)(D:n<=1000)(b:List UInt8)(r:b.length<=4611686018427387903)(fr ct:Int)(d: -9223372036854775808<=fr)(i:fr<=9223372036854775807):
  Calls Tryz.prog 18 #[.pointer (some ⟨gs,0,none⟩),.string ⟨b.toArray⟩,.int .i64 fr,.int .i64 ct] w (y3c wb w g gs rate sd c s u n bs k0 K (q3y bs b fr ct) (q2M b fr ct)):=by
 obtain⟨gl,gx,m,ws,B,C,sure,P,j,rfl,o,l,q⟩:=h;obtain⟨b1,b2,b3,b4⟩:=j.bounds rfl l;have y:=q3E (q1f P) b;refine(z5S j b r fr ct d i (by omega) (by omega)).mono ?_;rintro e w' ⟨v,rfl,k1,x⟩;exact⟨v,rfl,⟨gl,gx,m,ws,B,C,sure,P,k1,rfl,o,l,q⟩,x⟩
theorem SKS.backward(h:SKS wb w g gs rate sd c s u n bs k0 K)(D:n<=1000)(b:List UInt8)(r:b.length<=4611686018427387903)(fr ct:Int)(i:fr<=9223372036854775807)(d:ct<=9223372036854775807):
  Calls Tryz.prog 54 #[.pointer (some ⟨gs,0,none⟩),.string ⟨b.toArray⟩,.int .i64 fr,.int .i64 ct] w (y3c wb w g gs rate sd c s u n bs k0 K (y0W bs b fr ct) (q2M b fr ct)):=by
 obtain⟨gl,gx,m,ws,B,C,sure,P,j,rfl,o,l,q⟩:=h;obtain⟨b1,b2,b3,b4⟩:=j.bounds rfl l;have y:=q3E (q1f P) b;refine(z2n j b r fr ct i d (by omega) (by omega)).mono ?_;rintro e w' ⟨v,rfl,k1,x⟩;exact⟨v,rfl,⟨gl,gx,m,ws,B,C,sure,P,k1,rfl,o,l,q⟩,x⟩
theorem StoP.sure{gl gx:Nat}{m:Man}{ws:List En}{cnt:Nat}{B:List En}{C:Cks}{sure:Int}{P:Pbs}(h:StoP wb W g gs gl gx rate m ws sd c s u cnt B C sure P K)(d:q1f P=bs):bs.length<=bs.length/\ ∀y∈P.take bs.length,z9y y<=q0X C sure:=
 ⟨ι _,fun y b=>(h.ends (List.mem_of_mem_take b)).2⟩
theorem SKS.less(h:SKS wb w g gs rate sd c s u n bs k0 K){k1:Nat}(r:k1<=k0):SKS wb w g gs rate sd c s u n bs k1 K:=by
 obtain⟨gl,gx,m,ws,B,C,sure,P,d,i,j,l,⟨v,o⟩,q⟩:=h
 exact⟨gl,gx,m,ws,B,C,sure,P,d,i,j,l,⟨by omega,fun y b=>o y (by
  have e:P.take k1=(P.take k0).take k1:=by rw[List.take_take,Nat.min_eq_left r]
  rw[e] at b
  exact List.mem_of_mem_take b)⟩,q⟩
theorem SKS.flushS(h:SKS wb w g gs rate sd c s u n bs k0 K):Calls Tryz.prog 53 #[.pointer (some ⟨gs,0,none⟩)] w fun e w'=>e= .returned (.int .i64 0)/\SKS wb w' g gs rate sd c s u n bs bs.length K/\Stay K w w':=by
 obtain⟨gl,gx,m,ws,B,C,sure,P,b,d,i,j,_,l⟩:=h;refine(z9g b).mono ?_;rintro e w' ⟨rfl,k1,o⟩;exact⟨rfl,⟨gl,gx,m,ws,B,C,_,P,k1,d,i,j,b.sure d,l⟩,o⟩
theorem SKS.append(h:SKS wb w g gs rate sd c s u n bs k0 K)(U:n<=86)(b:List UInt8)(J:b.length<=4611686018427387903)(ex:Int)(M: ∀W,Ext wb W->Stay K w W->Evs W ao k cap L)(I:q3g L)
  (l: ∀e∈L,e.we<18446744073709551616){z:Int}(N:z4V bs b ex L=z):
  Calls Tryz.prog 38 #[.pointer (some ⟨gs,0,none⟩),.string ⟨b.toArray⟩,.int .i64 ex,.slice ao k cap] w fun e w'=>
   ∃ x y d,e= .returned (.tuple #[.int .i64 x,.int .i64 y])/\SKS wb w' g gs rate sd c s (u+2024) (n+1) d k0 K/\Stay K w w'/\
    ((z≠0/\x=0/\y=z/\d=bs)\/(z=0/\x=0/\y=60/\d=bs/\c-(u:Int)-2024<6000)\/(z=0/\x=((q0N bs b).length:Int)/\y=0/\d=bs++[⟨b,(q0N bs b).length,L⟩])):=by
 obtain⟨gl,gx,m,ws,B,C,sure,P,v,rfl,R,G,j⟩:=h;obtain⟨b1,b2,b3,b4⟩:=v.bounds rfl G;have Q:=q3E (q1f P) b;refine(z7d v b J ex M I l (by omega) (by omega) (by omega)).mono ?_;rw[N];rintro e w' ⟨⟨k0,rfl,k1⟩|⟨rfl,rfl,k1,O⟩|⟨rfl,O,pos,r,B',F,i,rfl,k1,q⟩,o⟩
 ·exact⟨_,_,_,rfl,⟨gl,gx,m,ws,B,C,sure,P,k1.mono (by omega) (by omega),rfl,by omega,by omega,j⟩,o,.inl ⟨k0,rfl,rfl,rfl⟩⟩
 ·exact⟨_,_,_,rfl,⟨gl,gx,m,ws,B,C,sure,P,k1.mono (by omega) (by omega),rfl,by omega,by omega,j⟩,o,.inr (.inl ⟨rfl,rfl,rfl,rfl,by omega⟩)⟩
 ·exact⟨_,_,_,rfl,⟨gl,gx,m,r,B',F,i,_,k1.mono (by omega) (by omega),rfl,by omega,by rw[q4Y,θ,List.length_singleton];omega,⟨by rw[q4Y,θ,List.length_singleton];omega,fun y D=>by
   have S:P.length=(q1f P).length:=(List.length_map _).symm;rw[List.take_append_of_le_length (by omega)] at D
   exact Int.le_trans (j.1.2 y D) q⟩,j.2⟩,o,.inr (.inr ⟨rfl,rfl,rfl,q4Y _ _ _⟩)⟩
theorem SQ.open(h:SQ wb w g sd c s u n bs K)(F:n<=200)(rate:Nat):Calls Tryz.prog 33 #[.pointer (some ⟨g,0,none⟩),.int .u64 sd,.float .f64 rate] w fun e w'=>
  ∃gs,e= .returned (.tuple #[.pointer (some ⟨gs,0,none⟩),.int .i64 0])/\SK wb w' g gs rate sd c s u n bs K/\Stay K w w':=by
 obtain⟨m,B,C,P,j,b,l,rfl,x,o,d,i⟩:=h;have D:=z0P b.ok;refine(y1S j b d i (by omega) (by omega) l rate).mono ?_;rintro e w' ⟨gs,gl,gx,v,ws,B',sure,rfl,k1,G,r⟩;exact⟨gs,rfl,⟨gl,gx,v,ws,B',C,sure,P,k1,rfl,by omega,o,⟨υ _,fun y q=>by cases q⟩,d,i⟩,r⟩
theorem DkK.sq(h:DkK noO wb w g c s [] K)(sd:Int)(d:0<=sd)(i:sd<18446744073709551616):SQ wb w g sd c s 0 0 [] K:=by
 obtain⟨F,σ,q,j⟩:=h;have o:Pl σ c s []:=by have:=j.pl;simpa [q1V,noO,q1X,q5I,q2a,q3P] using this
 have r:q0k 0 0 []=true:=by decide
 refine⟨⟨0,0,sd,[]⟩,[],[],[],⟨⟨⟨0,0,sd,[]⟩,0,[],fun _=>none,0⟩,σ,fun _=>none,F,rfl,rfl,q,⟨⟨⟨[],o,List.Pairwise.nil,fun _=>rfl,υ _,υ _⟩,⟨r,d,i⟩,(fun n l=>by cases l),(fun n e he=>by cases he),(fun nm l=>absurd rfl l),okM.nil,okM.nil,fun x=>?_⟩,.inr ⟨rfl,rfl,rfl,rfl⟩,⟨⟨fun k _=>by simp,j.sr,j.le⟩,fun n e he=>by cases he⟩⟩,okC.nil⟩,
  ⟨rfl,rfl,okBs.nil,(fun x b=>by cases b),(fun x b=>by cases b),by show(0:Int)<=q2d [];rw[q9d];decide⟩,List.nodup_nil,rfl,Int.le_refl _,ι _,d,i⟩
 constructor
 ·intro b;cases b
 ·rintro(b|⟨n,e,he,_⟩)
  ·cases b
  ·cases he
end
theorem DkK.rebase{j wb w:World}{g:Nat}{c s:Int}{C:Cks}{K:Nat->Prop}(h:DkK E wb w g c s C K)(k:Ext j wb):DkK E j w g c s C K:=by
 obtain⟨F,σ,b,l⟩:=h;have q:=k.size;exact⟨F,σ,⟨b.d,fun i o=>by have:=b.bF i o;omega,k.trans b.ext,b.k⟩,l⟩
theorem DkK.base{wb w:World}{g:Nat}{c s:Int}{C:Cks}{K:Nat->Prop}(h:DkK E wb w g c s C K):Ext wb w:=by
 obtain⟨F,σ,b,d⟩:=h;exact b.ext
theorem Blk.rd{w:World}{b:Nat}{cs:Array Value}(h:Blk w b t cs):Rd w (some ⟨b,0,none⟩) cs.toList:=fun j u d=>⟨b,0,rfl,by rw[Nat.zero_add,h.cell j];simpa using d⟩
theorem Blk.evs{w:World}{b:Nat}(h:Blk w b t (q5N L).toArray)(i:k<=L.length)(j:L.length<=1000000):Evs w (some ⟨b,0,none⟩) k L.length (L.take k):=by
 refine⟨by rw[Θ];omega,i,by omega,(fun e=>by cases e),?_⟩;have d:=h.rd.take (k*3);have e:(q5N L).take (k*3)=q5N (L.take k):=by
  conv=>lhs;rw[<-List.take_append_drop k L,q7e]
  exact List.take_left' (by rw[z2J,Θ];omega)
 rw[<-e]
 simpa using d
theorem q5b{w:World}{B:Nat}{n b:Nat}{L:List To}(h:w.ownsRow B e 5 (.slice ao n b) L.length (q5B L)):Tos w ao n b L/\n=L.length:=by
 obtain⟨a,c,d,i⟩:=Tos.of_own (Own.of_row h)
 cases d;exact⟨i,rfl⟩
abbrev evA :Ev:=⟨[97],[],0⟩
abbrev z9z :Ev:=⟨[98],[],0⟩
abbrev st1 :Bt:=⟨[115],0,[evA,z9z]⟩
theorem y3z :z4V [] [115] (-1) [evA,z9z]=0:=by decide
theorem z9h(h: ∀e∈L,e.ty.length<=300/\e.da.length<=300):q3g L:=fun e he=>by have:=h e he;omega
variable {w :World}{p:Option Addr}
end
section
open Go.RowKit
section
variable {wb w W W1 W2:World}{g gs rate u n:Nat}{sd c s:Int}{bs:List Bt}{K K':Nat->Prop}
end
structure y3e(sd:Int)(m:Man)(B:List En)(C:Cks)(P:Pbs):Prop where
 sdE:m.sd=sd
 recE:q0f 0 C=z2l P
 ok:okBs (q1f P)
 sub:m.ck<=q2d C-> ∀x∈B,x∈q3Z sd P
 all: ∀x∈q3Z sd P,x∈B\/m.ck<=x.2.2
section
variable {wb w W W1 W2:World}{g gl gs gx rate:Nat}{m:Man}{ws:List En}{c s sd:Int}{u cnt:Nat}{B:List En}{C:Cks}{P:Pbs}{sure:Int}{K K':Nat->Prop}
theorem y1T(M:Calls Tryz.prog 83 #[.pointer (some ⟨g,0,none⟩)] w fun e w'=> ∃gl,e= .returned (.tuple #[.pointer (some ⟨gl,0,none⟩),.int .i64 0])/\DKR wb w' g gl m c s u cnt B C (q2d C) K/\Stay K w w')(O:okC C)(N:m.ok)
  (d:y3e sd m B C P)(Y:0<=sd)(Z:sd<18446744073709551616)(b0:40<=cnt)(hN:(tos (q1f P)).length<=2000)(a0:B.length<=2000)(rate:Nat):
  Calls Tryz.prog 33 #[.pointer (some ⟨g,0,none⟩),.int .u64 sd,.float .f64 rate] w fun e w'=>
   ∃gs gl gx j ws B',e= .returned (.tuple #[.pointer (some ⟨gs,0,none⟩),.int .i64 0])/\StoP wb w' g gs gl gx rate j ws sd c s u cnt B' C (q2d C) P K/\(j.nx<=m.nx\/j.nx=0)/\Stay K w w':=by
 have d0:=z3M d.ok;have e0:(q0f 0 C).length<=2000:=by rw[d.recE,q4N];omega
 have c0:=(Man.bounds N).2.1;have HO:=η M;clear M;go_enter Tryz.func33,Tryz.ntmps33;go_wp2_with fail;refine HO.o.mono ?_;rintro e w1 ⟨gl,rfl,hd,l⟩;have R:=η l;have HR:=η (z7b hd (by omega) (by omega) Y Z rate);clear hd l HO;go_wp2_with fail;refine HR.o.mono ?_;rintro e G ⟨⟨gx,j,B2,D,an,rfl,v,X,hw⟩|⟨rfl,_,r⟩,l⟩
 case inr=>
  exfalso
  rcases r with⟨_,r⟩|r
  ·rw[q3x sd d.recE d.ok] at r;cases r
  ·rw[q3x sd d.recE d.ok] at r;cases r
 rw[q3x sd d.recE d.ok] at X;obtain rfl:=Option.some.inj X;have I:j.sd=sd/\(j.nx<=m.nx\/j.nx=0)/\StI sd (q1Q (q3Z sd (P.filter fun y=>decide (j.ck<=(y.1:Int)))) B2) P/\j.ck<=q2d C/\ ∀x∈q1Q (q3Z sd (P.filter fun y=>decide (j.ck<=(y.1:Int)))) [],j.ck<=x.2.2:=by
  have q:=z3z O d.recE;rcases hw with⟨_,rfl,h1,h2,h3,h4⟩|⟨_,rfl,rfl,_⟩
  ·refine⟨h1,.inl (Int.le_refl _),⟨d.ok,q,fun x=>?_⟩,h2,fun x b=>?_⟩
   ·rw [mem_addEs,q2o,<-h4]
    constructor
    ·rintro(b|b)
     ·exact b.1
     ·exact d.sub h2 x b
    ·intro b
     rcases d.all x b with V|V
     ·exact .inr V
     ·exact .inl ⟨b,V⟩
   ·rw[mem_addEs,q2o] at b
    rcases b with b|b
    ·exact b.2
    ·cases b
  ·refine⟨rfl,.inr rfl,⟨d.ok,q,fun x=>?_⟩,(z2H O).1,fun x b=>?_⟩
   ·rw [mem_addEs,q2o]
    constructor
    ·rintro(b|b)
     ·exact b.1
     ·cases b
    ·intro b
     obtain⟨y,hy,k,hk,rfl⟩:=mem_entsP.1 b;exact .inl ⟨b,by show(0:Int)<=(y.1:Int);omega⟩
   ·rw[mem_addEs,q2o] at b
    rcases b with b|b
    ·exact b.2
    ·cases b
 obtain⟨f1,f2,f3,U,f5⟩:=I;have F:=q0B G (.cells #[.pointer (some ⟨gl,0,none⟩),.pointer (some ⟨gx,0,none⟩),.int .u64 sd] 131);have J:¬K G.heap.size:=fun e=>by have:=v.klt _ e;omega
 have HF:Hd (StoP wb (G.alloc (.cells #[.pointer (some ⟨gl,0,none⟩),.pointer (some ⟨gx,0,none⟩),.int .u64 sd] 131)) g G.heap.size gl gx rate j _ sd c s u cnt _ C (q2d C) P K):=η
  ⟨v.more F (fun i v=>v.imp id fun e=>by rw[ρ];omega),Blk.new G _ _,f1,d.recE,f3,U,f5,U,⟨J,v.base.size⟩⟩
 have S:Hd (Stay K w (G.alloc (.cells #[.pointer (some ⟨gl,0,none⟩),.pointer (some ⟨gx,0,none⟩),.int .u64 sd] 131))):=η ((R.o.trans l).trans (v.kExt F));have Q:=η f2;clear v X hw l f1 f2 f3 U f5 F J HR;go_wp2_with fail;go_ret2;exact⟨_,gl,gx,j,_,_,rfl,HF.o,Q.o,S.o⟩
end
def SKD(wb W:World)(g:Nat)(sd c s:Int)(u n:Nat)(bs:List Bt)(k:Nat)(K:Nat->Prop):Prop:=
 ∃B C sure P st σ φ F xs,st.w=[]/\DkF wb W g F (q5L σ xs) K/\okD σ/\(PInv st σ c s φ u (40+3*n) B/\q6J φ st.m/\z9s st φ σ C sure)/\okC C/\y3E sd st.m B C P/\P.Pairwise (fun a b=>a.1<b.1)/\B.Nodup/\q1f P=bs/\st.m.nx<=n/\bs.length<=n/\(∀y∈P.take k,z9y y<=sure)/\k<=bs.length/\0<=sd/\sd<18446744073709551616
def SQX(wb W:World)(g:Nat)(sd c s:Int)(u n:Nat)(bs:List Bt)(K:Nat->Prop):Prop:=
 ∃m B C P,DKX wb W g m c s u (40+3*n) B C K/\y3e sd m B C P/\B.length<=8*n/\q1f P=bs/\m.nx<=n/\bs.length<=n/\0<=sd/\sd<18446744073709551616
section
variable {wb w W W':World}{g gs rate u n:Nat}{sd c s:Int}{bs:List Bt}{k0:Nat}{K K':Nat->Prop}
theorem SKS.crash(h:SKS wb w g gs rate sd c s u n bs k0 K){v:Option Addr}{kn M:Nat}{q:List Int}(hk:Ints w v kn M q)(G: ∀a,v=some a->K a.block):
  Calls Tryz.prog 31 #[.pointer (some ⟨g,0,none⟩),.slice v kn M] w fun e w'=>e= .returned (.int .i64 0)/\SKD wb w' g sd c s u n bs k0 K/\Stay K w w':=by
 obtain⟨gl,gx,m,ws,B,C,sure,P,j,S,U,V,⟨X,Y⟩,Z⟩:=h;obtain⟨O,q0,Q⟩:=j.i.forget;obtain⟨st,σ,φ,gv,F,rfl,q2,y,N,q5,q6⟩:=q0;have J:=N.1.fl.up;have hM:q6g σ q=(0,q5L σ q):=by unfold q6g;rw[κ (by rw[J];decide)]
 have I:O.Nodup:=N.1.okB.sort.imp fun {a b} o e=>by rw[e,q0c] at o;cases o
 refine(z8X y.d v kn M q (hk.off fun a e=>(y.k a.block (.inl (.inl (G a e)))).2)).mono ?_;rw[hM];rintro e w' ⟨rfl,hd⟩;obtain⟨r,R⟩:=y.disk hd;refine⟨rfl,⟨O,C,sure,P,st,σ,φ,_,q,q2,⟨r.d,r.bF,r.ext,fun i D=>r.k i (.inl (.inl D))⟩,y.d.okD,N,q5.2,⟨j.sdE,j.recE,j.stE.ok,fun x l=>(j.stE.ents x).1 ((Q x).2 (.inr l)),fun x l=>?_,j.ckE⟩,j.stE.pos,I,S,U,V,Y,X,Z⟩,fun i D=>R i (.inl (.inl D))⟩;rcases(Q x).1 ((j.stE.ents x).2 l) with l|l
 ·exact .inr (j.wsE x l)
 ·exact .inl l
theorem okBs.take{bs:List Bt}(h:okBs bs)(j:Nat):okBs (bs.take j):=fun l b r e=>h l b (r++bs.drop j) (by
 rw[<-List.cons_append,<-List.append_assoc,<-e,List.take_append_drop])
theorem z0h(P:Pbs)(j:Nat):q1f (P.take j)=(q1f P).take j:=by unfold q1f;rw[List.map_take]
theorem y1M{P:Pbs}(h:P.Pairwise fun a b=>a.1<b.1){y z:Nat×Bt}(j:y∈P)(l:z∈P)(e:y.1=z.1):y=z:=by
 have d:=q7D h j;have i:=q7D h l;rw[e,i] at d;exact(Option.some.inj d).symm
theorem SKD.start(h:SKD wb w g sd c s u n bs k0 K)(hs:0<=s/\s<1000000):
  Calls Tryz.prog 32 #[.pointer (some ⟨g,0,none⟩)] w fun e w'=>e= .returned (.int .i64 0)/\(∃j,k0<=j/\j<=bs.length/\SQX wb w' g sd c (s+1) u n (bs.take j) K)/\Stay K w w':=by
 obtain⟨B,C,sure,P,st,σ,φ,F,xs,h1,h2,ho,⟨h3,b0,D⟩,h4,G,r,h6,rfl,h8,h9,X,g0,Y⟩:=h;have N:=start_c h2.d;rw[z8A] at N;refine N.mono ?_;rintro e w' ⟨rfl,hd⟩;obtain⟨d1,d2⟩:=h2.disk hd;obtain⟨V,J,p1,p2,p3,p4,p5,p6⟩:=D.toCksS.crash h3 h4 ho hs xs;obtain⟨⟨R,hR⟩,f0,S⟩:=p6;have l:=G.recE;obtain⟨j,hj⟩: ∃j,(q0f 0 J).length=j:=⟨_,rfl⟩
 have i0:j<=P.length:=by
  have:=congrArg List.length hR;rw[l,q4N,θ] at this;omega
 have M:q0f 0 J=z2l (P.take j):=by
  have b:(q0f 0 C).take j=q0f 0 J:=by rw[hR,List.take_append_of_le_length (by omega),Δ (by omega)]
  rw[<-b,l];unfold z2l;rw[List.map_take]
 have q: ∀y∈P,(y.1,btB y.2)∈q0f 0 J->y∈P.take j:=fun y v hr=>by
  rw[M] at hr;obtain⟨z,hz,e⟩:=List.mem_map.1 hr;have e1:z.1=y.1:=(Prod.mk.inj e).1;rw[<-y1M r (List.mem_of_mem_take hz) v e1];exact hz
 have e0:P.length=(q1f P).length:=(List.length_map _).symm;have d0:k0<=j:=by
  rcases Nat.lt_or_ge j k0 with j0|c0
  ·exfalso
   have O:j<P.length:=by omega
   have v:P[j]∈P.take k0:=by
    rw[List.mem_take_iff_getElem];exact⟨j,by omega,rfl⟩
   have b:=X _ v;unfold z9y at b;have U:P[j]∈P:=List.getElem_mem O;have o:(P[j].1,btB P[j].2)∈q0f 0 C:=by rw[l];exact List.mem_map.2 ⟨_,U,rfl⟩
   have Z:=q _ U (f0 _ o (by simp only;omega));obtain⟨i,hi,e⟩:=List.mem_take_iff_getElem.1 Z;have a0:=List.pairwise_iff_getElem.1 r i j (by omega) O (by omega);rw[e] at a0;omega
  ·exact c0
 refine⟨rfl,⟨j,d0,by omega,st.m,B,J,P.take j,⟨st,_,V,_,rfl,h1,d1,⟨p1,?_,D.old⟩,p3,p5,p4⟩,⟨G.sdE,M,by rw[z0h];exact G.ok.take j,fun h0 x I=>?_,fun x I=>?_⟩,?_,z0h P j,h8,by rw[Θ];omega,Y⟩,d2⟩
 ·have hm:V mapN=φ mapN:=p2 mapN fun k Q e=>(q2h Q).1 e.symm
  unfold q6J;rw[hm];exact b0
 ·obtain⟨y,v,k,Q,rfl⟩:=mem_entsP.1 (G.sub x I)
  have l0:((y.1:Nat):Int)<st.m.ck:=by
   rcases(h3.mem _).1 I with b|⟨i,e,he,b⟩
   ·rw[h1] at b;cases b
   ·exact D.old i e he _ b
  have o:(y.1,btB y.2)∈q0f 0 C:=by rw[l];exact List.mem_map.2 ⟨_,v,rfl⟩
  exact mem_entsP.2 ⟨y,q y v (S _ o (by simp only;omega)),k,Q,rfl⟩
 ·obtain⟨y,v,k,Q,rfl⟩:=mem_entsP.1 I
  exact G.all _ (mem_entsP.2 ⟨y,List.mem_of_mem_take v,k,Q,rfl⟩)
 ·have b:=q4v h6 (m:=q3Z sd P) fun x I=>G.sub x I
  rw[q4c] at b;have o:=z0P G.ok;omega
theorem SQX.open(h:SQX wb w g sd c s u n bs K)(M:n<=200)(b:(u:Int)+4096<=c)(rate:Nat):Calls Tryz.prog 33 #[.pointer (some ⟨g,0,none⟩),.int .u64 sd,.float .f64 rate] w fun e w'=>
  ∃gs,e= .returned (.tuple #[.pointer (some ⟨gs,0,none⟩),.int .i64 0])/\SKS wb w' g gs rate sd c s u n bs bs.length K/\Stay K w w':=by
 obtain⟨m,B,C,P,i,o,G,rfl,I,v,q,r⟩:=h;have J:=z0P o.ok;have l:okC C:=by obtain⟨_,_,_,_,_,_,_,_,_,_,j⟩:=i;exact j
 have d:m.ok:=by obtain⟨st,_,_,_,rfl,_,_,⟨j,_⟩,_⟩:=i;exact j.man
 refine(y1T (i.lopen b) l d o q r (by omega) (by omega) (by omega) rate).mono ?_;rintro e w' ⟨gs,gl,gx,F,ws,B',rfl,k1,N,D⟩;exact⟨gs,rfl,⟨gl,gx,F,ws,B',C,_,P,k1,rfl,by omega,v,⟨ι _,fun y x=>(k1.ends (List.mem_of_mem_take x)).1⟩,q,r⟩,D⟩
end
section
variable {wb w W W':World}{g gs gw rate u n:Nat}{sd c s:Int}{bs:List Bt}{K K':Nat->Prop}
end
end
section
open Go.RowKit Go.Extern.Stop Go.Stop Go.Extern
end
section
open Go.RowKit
section
variable {wb w W W':World}{g gs gw rate u n:Nat}{sd c s:Int}{bs:List Bt}{K K':Nat->Prop}
end
theorem q8w(sd:Int)(rate:Nat)(b:Int)(w:World)(v:0<=sd)(x:sd<18446744073709551616):
  Calls Tryz.prog 28 #[.agg #[.int .u64 sd,.float .f64 rate,.int .u16 b]] w fun e w'=> ∃g gs,e= .returned (.tuple #[.pointer (some ⟨g,0,none⟩),.pointer (some ⟨gs,0,none⟩),.bool true])/\SK w w' g gs rate sd 1048576 0 0 0 [] noI:=by
 have j:=q0B w (.cells #[.int .u64 sd,.float .f64 rate,.int .u16 b] 27);have i:=Blk.new w 27 #[.int .u64 sd,.float .f64 rate,.int .u16 b];have l:=η i;have q:=η j;have J:=η (fun W=>DkK.new24 W 1048576 (by decide) (by decide));clear j i;go_enter Tryz.func28,Tryz.ntmps28;go_wp2_with fail;refine(J.o _).mono ?_;rintro e w1 ⟨g,rfl,r⟩;have G:=DkK.base r;have d:=l.o.ext G;have k0:=d.cell 0;have k1:=d.cell 1;have D:=η ((DkK.sq (r.rebase q.o) sd v x).open (by omega) rate);clear r G d;go_wp2_with fail;refine D.o.mono ?_;rintro e M ⟨gs,rfl,F,y⟩;have I:=η F;clear F y D k0 k1;go_wp2_with fail;go_ret3;exact⟨g,gs,rfl,I.o⟩
section
variable {wb w W W':World}{g gs gw rate u n:Nat}{sd c s:Int}{bs:List Bt}{K K':Nat->Prop}
end
section
variable {wb w W W':World}{g gs gw rate u n:Nat}{sd c s:Int}{bs:List Bt}{K K':Nat->Prop}
end
end
end Go.Proofs.YtfiibpgoplcgkaaGreatDoor
