/- The shelf's contract of slices.Reverse at []api.Told at this seat, in plain words. -/
import Derived.Shelf.SlicesQ.Reverse
import Derived.Ground.SlgnProg
import Derived.Test.YtfiibpgoplcgkaaGreatDoorG37WN
set_option linter.unusedVariables false
set_option linter.unusedSimpArgs false
set_option maxRecDepth 100000
set_option maxHeartbeats 12800000
namespace Go.Proofs
open Go.Shelf
end Go.Proofs
namespace Go.Proofs.YtfiibpgoplcgkaaGreatDoor
variable {ao ka p:Option Addr}{cap kn kc x:Nat}{L:List Ev}{xs:List Int}
section
open Go.RowKit Go.Sort Go.Lib
instance : Inhabited To:=⟨to0⟩
section
variable {wb w W W1 W2:World}{g gl gs gx rate:Nat}{m:Man}{ws:List En}{c s sd:Int}{u cnt:Nat}{B:List En}{C:Cks}{P:Pbs}{sure:Int}{K K':Nat->Prop}
end
end
section
open Go.RowKit
theorem z0D : ∀(C:Cks) (b:Nat),(∀ps∈C,ps≠[])->C.length<=(q0c b C).length
 |[],_,_=>ι _
 | ps::t,b,h=>by
  have h1:=z0D t (b+4096) fun q hq=>h q (.tail _ hq)
  have h2:0<ps.length:=List.length_pos_iff.2 (h ps (.head _));rw[q0c,θ,q4a,χ];omega
theorem z3r{C:Cks}(h:okC C):C.length<=(q0c 0 C).length+1:=by
 rcases List.eq_nil_or_concat C with rfl|⟨D,ps,rfl⟩
 ·exact υ _
 ·rw[List.concat_eq_append] at*
  have h1:=z0D D 0 fun b hq=>h.full b (by simpa using hq)
  rw[q1e,θ,θ,List.length_singleton];omega
theorem q9j{bs:List Bt}(h:okBs bs):(tos bs).length<=8*bs.length:=by
 induction bs using q9e with
 |h0=>exact ι _
 | h1 l b ih=>
  obtain⟨h1,h2,_⟩:=okBs_snoc.1 h;have h3:=(q1D h2.1).2.2.2.1;have h4:=ih h1;rw[q4p,q9k,θ,q4H,θ,List.length_singleton];omega
def SKS(wb W:World)(g gs rate:Nat)(sd c s:Int)(u n:Nat)(bs:List Bt)(k:Nat)(K:Nat->Prop):Prop:=
 ∃gl gx m ws B C sure P,StoP wb W g gs gl gx rate m ws sd c s u (40+3*n) B C sure P K/\q2E P=bs/\m.nx<=n/\bs.length<=n/\(k<=bs.length/\ ∀y∈P.take k,z9V y<=sure)/\0<=sd/\sd<18446744073709551616
abbrev SK(wb W:World)(g gs rate:Nat)(sd c s:Int)(u n:Nat)(bs:List Bt)(K:Nat->Prop):Prop:=SKS wb W g gs rate sd c s u n bs 0 K
def SQ(wb W:World)(g:Nat)(sd c s:Int)(u n:Nat)(bs:List Bt)(K:Nat->Prop):Prop:=
 ∃m B C P,DKQ wb W g m c s u (40+3*n) B C K/\y1v sd m B C P/\B.Nodup/\q2E P=bs/\m.nx<=n/\bs.length<=n/\0<=sd/\sd<18446744073709551616
section
variable {wb w W W':World}{g gs rate u n:Nat}{sd c s:Int}{bs:List Bt}{k0:Nat}{K K':Nat->Prop}
theorem StoP.bounds{gl gx:Nat}{m:Man}{ws:List En}{cnt:Nat}{B:List En}{C:Cks}{sure:Int}{P:Pbs}(h:StoP wb W g gs gl gx rate m ws sd c s u cnt B C sure P K)(d:q2E P=bs)(j:bs.length<=n):
  (tos bs).length<=8*n/\B.length<=8*n/\C.length<=n+1/\okBs bs:=by
 have b:okBs bs:=d▸h.stE.ok;have h1:=q9j b;have h2:=h.len;rw[d] at h2;have h3:=z3r h.i.cOk;rw[h.recE,q4D] at h3;have h4:bs.length=P.length:=by rw[<-d];exact List.length_map _
 exact⟨by omega,by omega,by omega,b⟩
theorem SKS.base(h:SKS wb W g gs rate sd c s u n bs k0 K):Ext wb W:=by
 obtain⟨gl,gx,m,ws,B,C,sure,P,h1,_⟩:=h;exact h1.base
theorem SKS.klt(h:SKS wb W g gs rate sd c s u n bs k0 K): ∀i,K i->i<W.heap.size:=by
 obtain⟨gl,gx,m,ws,B,C,sure,P,h1,_⟩:=h;exact h1.klt
theorem SKS.grow(h:SKS wb W g gs rate sd c s u n bs k0 K)(k:Ext W W'):SKS wb W' g gs rate sd c s u n bs k0 K:=by
 obtain⟨gl,gx,m,ws,B,C,sure,P,h1,h2⟩:=h;exact⟨gl,gx,m,ws,B,C,sure,P,h1.grow k,h2⟩
theorem SKS.more(h:SKS wb W g gs rate sd c s u n bs k0 K)(k:Ext W W')(hK: ∀i,K' i->K i\/(W.heap.size<=i/\i<W'.heap.size)):SKS wb W' g gs rate sd c s u n bs k0 K':=by
 obtain⟨gl,gx,m,ws,B,C,sure,P,h1,h2⟩:=h;exact⟨gl,gx,m,ws,B,C,sure,P,h1.more k hK,h2⟩
theorem SKS.beside(h:SKS wb W g gs rate sd c s u n bs k0 K)(k: ∀i,K' i->K i):SKS wb W g gs rate sd c s u n bs k0 K':=by
 obtain⟨gl,gx,m,ws,B,C,sure,P,h1,h2⟩:=h;exact⟨gl,gx,m,ws,B,C,sure,P,h1.beside k,h2⟩
theorem SKS.sideM(h:SKS wb W g gs rate sd c s u n bs k0 K)(b:W.heap.size<=W'.heap.size)(d:Ext wb W')(k: ∀i,i<W.heap.size->¬K i->W'.heap[i]? =W.heap[i]?)(hK: ∀i,K' i->K i\/(W.heap.size<=i/\i<W'.heap.size)):SKS wb W' g gs rate sd c s u n bs k0 K':=by
 obtain⟨gl,gx,m,ws,B,C,sure,P,h1,h2⟩:=h;exact⟨gl,gx,m,ws,B,C,sure,P,h1.sideM b d k hK,h2⟩
theorem SKS.append(h:SKS wb w g gs rate sd c s u n bs k0 K)(O:n<=86)(b:List UInt8)(F:b.length<=4611686018427387903)(ex:Int){k:Nat}(G: ∀W,Ext wb W->Stay K w W->Evs W ao k cap L)(E:q4F L)
  (l: ∀e∈L,e.we<18446744073709551616){z:Int}(I:y0Z bs b ex L=z):
  Calls Tryz.prog 38 #[.pointer (some ⟨gs,0,none⟩),.string ⟨b.toArray⟩,.int .i64 ex,.slice ao k cap] w fun e w'=>
   ∃ x y d,e= .returned (.tuple #[.int .i64 x,.int .i64 y])/\SKS wb w' g gs rate sd c s (u+2024) (n+1) d k0 K/\Stay K w w'/\
    ((z≠0/\x=0/\y=z/\d=bs)\/(z=0/\x=0/\y=60/\d=bs/\c-(u:Int)-2024<6000)\/(z=0/\x=((q1M bs b).length:Int)/\y=0/\d=bs++[⟨b,(q1M bs b).length,L⟩])):=by
 obtain⟨gl,gx,m,ws,B,C,sure,P,h1,rfl,h3,h4,j⟩:=h;obtain⟨b1,b2,b3,b4⟩:=h1.bounds rfl h4;have M:=z2o (q2E P) b;refine(z6h h1 b F ex G E l (by omega) (by omega) (by omega)).mono ?_;rw[I];rintro e w' ⟨⟨k0,rfl,k1⟩|⟨rfl,rfl,k1,J⟩|⟨rfl,J,pos,r,B',D,i,rfl,k1,q⟩,o⟩
 ·exact⟨_,_,_,rfl,⟨gl,gx,m,ws,B,C,sure,P,k1.mono (by omega) (by omega),rfl,by omega,by omega,j⟩,o,.inl ⟨k0,rfl,rfl,rfl⟩⟩
 ·exact⟨_,_,_,rfl,⟨gl,gx,m,ws,B,C,sure,P,k1.mono (by omega) (by omega),rfl,by omega,by omega,j⟩,o,.inr (.inl ⟨rfl,rfl,rfl,rfl,by omega⟩)⟩
 ·exact⟨_,_,_,rfl,⟨gl,gx,m,r,B',D,i,_,k1.mono (by omega) (by omega),rfl,by omega,by rw[q4P,θ,List.length_singleton];omega,⟨by rw[q4P,θ,List.length_singleton];omega,fun y v=>by
   have N:P.length=(q2E P).length:=(List.length_map _).symm;rw[List.take_append_of_le_length (by omega)] at v
   exact Int.le_trans (j.1.2 y v) q⟩,j.2⟩,o,.inr (.inr ⟨rfl,rfl,rfl,q4P _ _ _⟩)⟩
theorem SQ.open(h:SQ wb w g sd c s u n bs K)(r:n<=200)(rate:Nat):Calls Tryz.prog 33 #[.pointer (some ⟨g,0,none⟩),.int .u64 sd,.float .f64 rate] w fun e w'=>
  ∃gs,e= .returned (.tuple #[.pointer (some ⟨gs,0,none⟩),.int .i64 0])/\SK wb w' g gs rate sd c s u n bs K/\Stay K w w':=by
 obtain⟨m,B,C,P,h1,h2,h3,rfl,h4,i,b,d⟩:=h;have q:=q9j h2.ok;refine(y0I h1 h2 b d (by omega) (by omega) h3 rate).mono ?_;rintro e w' ⟨gs,gl,gx,o,ws,B',sure,rfl,k1,v,l⟩;exact⟨gs,rfl,⟨gl,gx,o,ws,B',C,sure,P,k1,rfl,by omega,i,⟨υ _,fun y j=>by cases j⟩,b,d⟩,l⟩
theorem DkK.sq(h:DkK noO wb w g c s [] K)(sd:Int)(d:0<=sd)(i:sd<18446744073709551616):SQ wb w g sd c s 0 0 [] K:=by
 obtain⟨F,σ,h1,h2⟩:=h;have l:Pl σ c s []:=by have:=h2.pl;simpa [q1R,noO,q1T,q4u,q2V,q3G] using this
 have o:q0h 0 0 []=true:=by decide
 refine⟨⟨0,0,sd,[]⟩,[],[],[],⟨⟨⟨0,0,sd,[]⟩,0,[],fun _=>none,0⟩,σ,fun _=>none,F,rfl,rfl,h1,⟨⟨⟨[],l,List.Pairwise.nil,fun _=>rfl,υ _,υ _⟩,⟨o,d,i⟩,(fun n j=>by cases j),(fun n e he=>by cases he),(fun nm j=>absurd rfl j),okM.nil,okM.nil,fun x=>?_⟩,.inr ⟨rfl,rfl,rfl,rfl⟩,⟨⟨fun k _=>by simp,h2.sr,h2.le⟩,fun n e he=>by cases he⟩⟩,okC.nil⟩,
  ⟨rfl,rfl,okBs.nil,(fun x b=>by cases b),(fun x b=>by cases b),by show(0:Int)<=q2g [];rw[q9B];decide⟩,List.nodup_nil,rfl,Int.le_refl _,ι _,d,i⟩
 constructor
 ·intro b;cases b
 ·rintro(b|⟨n,e,he,_⟩)
  ·cases b
  ·cases he
end
structure y2S(sd:Int)(m:Man)(B:List En)(C:Cks)(P:Pbs):Prop where
 sdE:m.sd=sd
 recE:q0c 0 C=z2E P
 ok:okBs (q2E P)
 sub:m.ck<=q2g C-> ∀x∈B,x∈q3R sd P
 all: ∀x∈q3R sd P,x∈B\/m.ck<=x.2.2
section
variable {wb w W W1 W2:World}{g gl gs gx rate:Nat}{m:Man}{ws:List En}{c s sd:Int}{u cnt:Nat}{B:List En}{C:Cks}{P:Pbs}{sure:Int}{K K':Nat->Prop}
theorem y0J(J:Calls Tryz.prog 83 #[.pointer (some ⟨g,0,none⟩)] w fun e w'=> ∃gl,e= .returned (.tuple #[.pointer (some ⟨gl,0,none⟩),.int .i64 0])/\DKR wb w' g gl m c s u cnt B C (q2g C) K/\Stay K w w')(N:okC C)(M:m.ok)
  (d:y2S sd m B C P)(X:0<=sd)(Y:sd<18446744073709551616)(b0:40<=cnt)(hN:(tos (q2E P)).length<=2000)(a0:B.length<=2000)(rate:Nat):
  Calls Tryz.prog 33 #[.pointer (some ⟨g,0,none⟩),.int .u64 sd,.float .f64 rate] w fun e w'=>
   ∃gs gl gx j ws B',e= .returned (.tuple #[.pointer (some ⟨gs,0,none⟩),.int .i64 0])/\StoP wb w' g gs gl gx rate j ws sd c s u cnt B' C (q2g C) P K/\(j.nx<=m.nx\/j.nx=0)/\Stay K w w':=by
 have d0:=z2Z d.ok;have e0:(q0c 0 C).length<=2000:=by rw[d.recE,q4D];omega
 have c0:=(Man.bounds M).2.1;have Z:=η J;clear J;go_enter Tryz.func33,Tryz.ntmps33;go_wp2_with fail;refine Z.o.mono ?_;rintro e w1 ⟨gl,rfl,hd,l⟩;have Q:=η l;have HR:=η (z6f hd (by omega) (by omega) X Y rate);clear hd l Z;go_wp2_with fail;refine HR.o.mono ?_;rintro e F ⟨⟨gx,j,B2,D,an,rfl,v,V,hw⟩|⟨rfl,_,r⟩,l⟩
 case inr=>
  exfalso
  rcases r with⟨_,r⟩|r
  ·rw[q3n sd d.recE d.ok] at r;cases r
  ·rw[q3n sd d.recE d.ok] at r;cases r
 rw[q3n sd d.recE d.ok] at V;obtain rfl:=Option.some.inj V;have G:j.sd=sd/\(j.nx<=m.nx\/j.nx=0)/\StI sd (q1N (q3R sd (P.filter fun y=>decide (j.ck<=(y.1:Int)))) B2) P/\j.ck<=q2g C/\ ∀x∈q1N (q3R sd (P.filter fun y=>decide (j.ck<=(y.1:Int)))) [],j.ck<=x.2.2:=by
  have q:=z3M N d.recE;rcases hw with⟨_,rfl,h1,h2,h3,h4⟩|⟨_,rfl,rfl,_⟩
  ·refine⟨h1,.inl (Int.le_refl _),⟨d.ok,q,fun x=>?_⟩,h2,fun x b=>?_⟩
   ·rw [mem_addEs,q2i,<-h4]
    constructor
    ·rintro(b|b)
     ·exact b.1
     ·exact d.sub h2 x b
    ·intro b
     rcases d.all x b with U|U
     ·exact .inr U
     ·exact .inl ⟨b,U⟩
   ·rw[mem_addEs,q2i] at b
    rcases b with b|b
    ·exact b.2
    ·cases b
  ·refine⟨rfl,.inr rfl,⟨d.ok,q,fun x=>?_⟩,(z1X N).1,fun x b=>?_⟩
   ·rw [mem_addEs,q2i]
    constructor
    ·rintro(b|b)
     ·exact b.1
     ·cases b
    ·intro b
     obtain⟨y,hy,k,hk,rfl⟩:=mem_entsP.1 b;exact .inl ⟨b,by show(0:Int)<=(y.1:Int);omega⟩
   ·rw[mem_addEs,q2i] at b
    rcases b with b|b
    ·exact b.2
    ·cases b
 obtain⟨f1,f2,f3,S,f5⟩:=G;have E:=q0B F (.cells #[.pointer (some ⟨gl,0,none⟩),.pointer (some ⟨gx,0,none⟩),.int .u64 sd] 131);have I:¬K F.heap.size:=fun e=>by have:=v.klt _ e;omega
 have HF:Hd (StoP wb (F.alloc (.cells #[.pointer (some ⟨gl,0,none⟩),.pointer (some ⟨gx,0,none⟩),.int .u64 sd] 131)) g F.heap.size gl gx rate j _ sd c s u cnt _ C (q2g C) P K):=η
  ⟨v.more E (fun i v=>v.imp id fun e=>by rw[ρ];omega),Blk.new F _ _,f1,d.recE,f3,S,f5,S,⟨I,v.base.size⟩⟩
 have R:Hd (Stay K w (F.alloc (.cells #[.pointer (some ⟨gl,0,none⟩),.pointer (some ⟨gx,0,none⟩),.int .u64 sd] 131))):=η ((Q.o.trans l).trans (v.kExt E));have O:=η f2;clear v V hw l f1 f2 f3 S f5 E I HR;go_wp2_with fail;go_ret2;exact⟨_,gl,gx,j,_,_,rfl,HF.o,O.o,R.o⟩
end
def SKD(wb W:World)(g:Nat)(sd c s:Int)(u n:Nat)(bs:List Bt)(k:Nat)(K:Nat->Prop):Prop:=
 ∃B C sure P st σ φ F xs,st.w=[]/\DkF wb W g F (q4x σ xs) K/\okD σ/\(PInv st σ c s φ u (40+3*n) B/\q5q φ st.m/\z8n st φ σ C sure)/\okC C/\y1v sd st.m B C P/\P.Pairwise (fun a b=>a.1<b.1)/\B.Nodup/\q2E P=bs/\st.m.nx<=n/\bs.length<=n/\(∀y∈P.take k,z9V y<=sure)/\k<=bs.length/\0<=sd/\sd<18446744073709551616
def SQX(wb W:World)(g:Nat)(sd c s:Int)(u n:Nat)(bs:List Bt)(K:Nat->Prop):Prop:=
 ∃m B C P,DKX wb W g m c s u (40+3*n) B C K/\y2S sd m B C P/\B.length<=8*n/\q2E P=bs/\m.nx<=n/\bs.length<=n/\0<=sd/\sd<18446744073709551616
section
variable {wb w W W':World}{g gs rate u n:Nat}{sd c s:Int}{bs:List Bt}{k0:Nat}{K K':Nat->Prop}
theorem SKS.crash(h:SKS wb w g gs rate sd c s u n bs k0 K)(S:Ints w ka kn kc xs)(v: ∀a,ka=some a->K a.block):
  Calls Tryz.prog 31 #[.pointer (some ⟨g,0,none⟩),.slice ka kn kc] w fun e w'=>e= .returned (.int .i64 0)/\SKD wb w' g sd c s u n bs k0 K/\Stay K w w':=by
 obtain⟨gl,gx,m,ws,B,C,sure,P,h1,h2,h3,h4,⟨M,N⟩,O⟩:=h;obtain⟨G,U,I⟩:=h1.i.forget;obtain⟨st,σ,φ,Y,F,rfl,V,q,E,X,Z⟩:=U;have D:=E.1.fl.up;have Q:q6L σ xs=(0,q4x σ xs):=by unfold q6L;rw[κ (by rw[D];decide)]
 have y:G.Nodup:=E.1.okB.sort.imp fun {a b} l e=>by rw[e,q0a] at l;cases l
 refine(z7X q.d ka kn kc xs (S.off fun a e=>(q.k a.block (.inl (.inl (v a e)))).2)).mono ?_;rw[Q];rintro e w' ⟨rfl,R⟩;obtain⟨o,J⟩:=q.disk R;refine⟨rfl,⟨G,C,sure,P,st,σ,φ,_,xs,V,⟨o.d,o.bF,o.ext,fun i r=>o.k i (.inl (.inl r))⟩,q.d.okD,E,X.2,⟨h1.sdE,h1.recE,h1.stE.ok,fun x j=>(h1.stE.ents x).1 ((I x).2 (.inr j)),fun x j=>?_,h1.ckE⟩,h1.stE.pos,y,h2,h3,h4,N,M,O⟩,fun i r=>J i (.inl (.inl r))⟩;rcases(I x).1 ((h1.stE.ents x).2 j) with j|j
 ·exact .inr (h1.wsE x j)
 ·exact .inl j
theorem SKD.klt(h:SKD wb W g sd c s u n bs k0 K): ∀i,K i->i<W.heap.size:=by
 obtain⟨B,C,sure,P,st,σ,φ,F,xs,h1,h2,_⟩:=h;exact fun i b=>(h2.k i b).1
theorem okBs.take{bs:List Bt}(h:okBs bs)(j:Nat):okBs (bs.take j):=fun l b r e=>h l b (r++bs.drop j) (by
 rw[<-List.cons_append,<-List.append_assoc,<-e,List.take_append_drop])
theorem z0B(P:Pbs)(j:Nat):q2E (P.take j)=(q2E P).take j:=by unfold q2E;rw[List.map_take]
theorem y0B{P:Pbs}(h:P.Pairwise fun a b=>a.1<b.1){y z:Nat×Bt}(d:y∈P)(i:z∈P)(e:y.1=z.1):y=z:=by
 have h1:=q6i h d;have h2:=q6i h i;rw[e,h2] at h1;exact(Option.some.inj h1).symm
theorem SKD.start(h:SKD wb w g sd c s u n bs k0 K)(hs:0<=s/\s<1000000):
  Calls Tryz.prog 32 #[.pointer (some ⟨g,0,none⟩)] w fun e w'=>e= .returned (.int .i64 0)/\(∃j,k0<=j/\j<=bs.length/\SQX wb w' g sd c (s+1) u n (bs.take j) K)/\Stay K w w':=by
 obtain⟨B,C,sure,P,st,σ,φ,F,xs,h1,h2,ho,⟨h3,a0,D⟩,h4,E,r,h6,rfl,h8,h9,V,f0,X⟩:=h;have M:=y0M h2.d;rw[z6z] at M;refine M.mono ?_;rintro e w' ⟨rfl,hd⟩;obtain⟨d1,d2⟩:=h2.disk hd;obtain⟨U,I,p1,p2,p3,p4,p5,p6⟩:=D.toCksS.crash h3 h4 ho hs xs;obtain⟨⟨R,hR⟩,e0,Q⟩:=p6;have l:=E.recE;obtain⟨j,hj⟩: ∃j,(q0c 0 I).length=j:=⟨_,rfl⟩
 have h0:j<=P.length:=by
  have:=congrArg List.length hR;rw[l,q4D,θ] at this;omega
 have J:q0c 0 I=z2E (P.take j):=by
  have b:(q0c 0 C).take j=q0c 0 I:=by rw[hR,List.take_append_of_le_length (by omega),Δ (by omega)]
  rw[<-b,l];unfold z2E;rw[List.map_take]
 have q: ∀y∈P,(y.1,btB y.2)∈q0c 0 I->y∈P.take j:=fun y v hr=>by
  rw[J] at hr;obtain⟨z,hz,e⟩:=List.mem_map.1 hr;have e1:z.1=y.1:=(Prod.mk.inj e).1;rw[<-y0B r (List.mem_of_mem_take hz) v e1];exact hz
 have d0:P.length=(q2E P).length:=(List.length_map _).symm;have c0:k0<=j:=by
  rcases Nat.lt_or_ge j k0 with i0|b0
  ·exfalso
   have N:j<P.length:=by omega
   have v:P[j]∈P.take k0:=by
    rw[List.mem_take_iff_getElem];exact⟨j,by omega,rfl⟩
   have b:=V _ v;unfold z9V at b;have S:P[j]∈P:=List.getElem_mem N;have o:(P[j].1,btB P[j].2)∈q0c 0 C:=by rw[l];exact List.mem_map.2 ⟨_,S,rfl⟩
   have Y:=q _ S (e0 _ o (by simp only;omega));obtain⟨i,hi,e⟩:=List.mem_take_iff_getElem.1 Y;have Z:=List.pairwise_iff_getElem.1 r i j (by omega) N (by omega);rw[e] at Z;omega
  ·exact b0
 refine⟨rfl,⟨j,c0,by omega,st.m,B,I,P.take j,⟨st,_,U,_,rfl,h1,d1,⟨p1,?_,D.old⟩,p3,p5,p4⟩,⟨E.sdE,J,by rw[z0B];exact E.ok.take j,fun g0 x G=>?_,fun x G=>?_⟩,?_,z0B P j,h8,by rw[Θ];omega,X⟩,d2⟩
 ·have hm:U mapN=φ mapN:=p2 mapN fun k O e=>(q2a O).1 e.symm
  unfold q5q;rw[hm];exact a0
 ·obtain⟨y,v,k,O,rfl⟩:=mem_entsP.1 (E.sub x G)
  have j0:((y.1:Nat):Int)<st.m.ck:=by
   rcases(h3.mem _).1 G with b|⟨i,e,he,b⟩
   ·rw[h1] at b;cases b
   ·exact D.old i e he _ b
  have o:(y.1,btB y.2)∈q0c 0 C:=by rw[l];exact List.mem_map.2 ⟨_,v,rfl⟩
  exact mem_entsP.2 ⟨y,q y v (Q _ o (by simp only;omega)),k,O,rfl⟩
 ·obtain⟨y,v,k,O,rfl⟩:=mem_entsP.1 G
  exact E.all _ (mem_entsP.2 ⟨y,List.mem_of_mem_take v,k,O,rfl⟩)
 ·have b:=q4k h6 (m:=q3R sd P) fun x G=>E.sub x G
  rw[q4S] at b;have o:=q9j E.ok;omega
theorem SQX.open(h:SQX wb w g sd c s u n bs K)(F:n<=200)(b:(u:Int)+4096<=c)(rate:Nat):Calls Tryz.prog 33 #[.pointer (some ⟨g,0,none⟩),.int .u64 sd,.float .f64 rate] w fun e w'=>
  ∃gs,e= .returned (.tuple #[.pointer (some ⟨gs,0,none⟩),.int .i64 0])/\SKS wb w' g gs rate sd c s u n bs bs.length K/\Stay K w w':=by
 obtain⟨m,B,C,P,h1,h2,h3,rfl,h4,q,l,o⟩:=h;have E:=q9j h2.ok;have j:okC C:=by obtain⟨_,_,_,_,_,_,_,_,_,_,i⟩:=h1;exact i
 have d:m.ok:=by obtain⟨st,_,_,_,rfl,_,_,⟨i,_⟩,_⟩:=h1;exact i.man
 refine(y0J (h1.lopen b) j d h2 l o (by omega) (by omega) (by omega) rate).mono ?_;rintro e w' ⟨gs,gl,gx,D,ws,B',rfl,k1,G,v⟩;exact⟨gs,rfl,⟨gl,gx,D,ws,B',C,_,P,k1,rfl,by omega,q,⟨ι _,fun y r=>(k1.ends (List.mem_of_mem_take r)).1⟩,l,o⟩,v⟩
end
def WoB(W:World)(gw g:Nat)(sv:Value)(sd:Int)(rate:Nat):Prop:=Blk W gw 100 #[.pointer (some ⟨g,0,none⟩),sv,.int .u64 sd,.float .f64 rate]
def WoK(wb W:World)(gw g gs rate:Nat)(sd c s:Int)(u n:Nat)(bs:List Bt)(k:Nat)(K:Nat->Prop):Prop:=
 WoB W gw g (.pointer (some ⟨gs,0,none⟩)) sd rate/\SKS wb W g gs rate sd c s u n bs k (fun i=>K i\/i=gw)/\¬K gw/\wb.heap.size<=gw
abbrev q3f(e n:Int):Value:= .agg #[.int .i64 e,.int .i64 n,.slice none 0 0]
section
variable {wb w W W':World}{gw g gs rate u n:Nat}{sd c s:Int}{bs:List Bt}{k0:Nat}{K K':Nat->Prop}
theorem WoK.grow(h:WoK wb W gw g gs rate sd c s u n bs k0 K)(k:Ext W W'):WoK wb W' gw g gs rate sd c s u n bs k0 K:=⟨Blk.ext h.1 k,h.2.1.grow k,h.2.2⟩
theorem WoK.kExt(h:WoK wb W gw g gs rate sd c s u n bs k0 K)(k:Ext W W'):Stay K W W':=fun i b=>k.block i (h.2.1.klt i (.inl b))
theorem WoK.klt(h:WoK wb W gw g gs rate sd c s u n bs k0 K): ∀i,K i->i<W.heap.size:=fun i b=>h.2.1.klt i (.inl b)
theorem WoK.base(h:WoK wb W gw g gs rate sd c s u n bs k0 K):Ext wb W:=h.2.1.base
theorem WoK.beside(h:WoK wb W gw g gs rate sd c s u n bs k0 K)(k: ∀i,K' i->K i):WoK wb W gw g gs rate sd c s u n bs k0 K':=⟨h.1,h.2.1.beside fun i b=>b.imp (k i) id,fun e=>h.2.2.1 (k _ e),h.2.2.2⟩
theorem WoK.more(h:WoK wb W gw g gs rate sd c s u n bs k0 K)(k:Ext W W')(hK: ∀i,K' i->K i\/(W.heap.size<=i/\i<W'.heap.size)):WoK wb W' gw g gs rate sd c s u n bs k0 K':=
 ⟨Blk.ext h.1 k,h.2.1.more k fun i b=>by
  rcases b with b|b
  ·exact(hK i b).imp .inl id
  ·exact .inl (.inr b),fun e=>by
  rcases hK gw e with h1|⟨h1,_⟩
  ·exact h.2.2.1 h1
  ·have:=h.2.1.klt gw (.inr rfl);omega,h.2.2.2⟩
theorem WoK.pokes{b:Nat}(h:WoK wb W gw g gs rate sd c s u n bs k0 (fun i=>K i\/i=b))(l:¬K b)(q:wb.heap.size<=b)(off:OffS (fun i=>i=b) W W'):WoK wb W' gw g gs rate sd c s u n bs k0 K/\Stay K W W':=by
 have o:gw≠b:=fun e=>h.2.2.1 (.inr e)
 have j:=h.klt;refine⟨⟨Blk.same h.1 (off.block gw (h.2.1.klt gw (.inr rfl)) o),h.2.1.sideM off.size (off.ext h.base fun i d=>by rw[d];exact q) (fun i d r=>off.block i d fun e=>r (.inl (.inr e))) (fun i d=> .inl (d.imp .inl id)),fun e=>h.2.2.1 (.inl e),h.2.2.2⟩,fun i d=>off.block i (j i (.inl d)) fun e=>l (e▸d)⟩
theorem y2H(W:World)(b:Nat)(d j l:Value):OffS (fun i=>i=b) W (((W.setCell ⟨b,0,none⟩ d).setCell ⟨b,1,none⟩ j).setCell ⟨b,2,none⟩ l):=
 ((OffS.set (F:=fun i=>i=b) W rfl 0 d).trans (OffS.set (F:=fun i=>i=b) (W.setCell ⟨b,0,none⟩ d) rfl 1 j)).trans (OffS.set (F:=fun i=>i=b) ((W.setCell ⟨b,0,none⟩ d).setCell ⟨b,1,none⟩ j) rfl 2 l)
theorem WoK.fin3{b:Nat}(h:WoK wb W gw g gs rate sd c s u n bs k0 (fun i=>K i\/i=b))(o:¬K b/\wb.heap.size<=b)(q:Stay K w W)(d j l:Value):
  WoK wb (((W.setCell ⟨b,0,none⟩ d).setCell ⟨b,1,none⟩ j).setCell ⟨b,2,none⟩ l) gw g gs rate sd c s u n bs k0 K/\Stay K w (((W.setCell ⟨b,0,none⟩ d).setCell ⟨b,1,none⟩ j).setCell ⟨b,2,none⟩ l):=by
 have h1:=h.pokes o.1 o.2 (((OffS.set (F:=fun i=>i=b) W rfl 0 d).trans (OffS.set (F:=fun i=>i=b) (W.setCell ⟨b,0,none⟩ d) rfl 1 j)).trans (OffS.set (F:=fun i=>i=b) ((W.setCell ⟨b,0,none⟩ d).setCell ⟨b,1,none⟩ j) rfl 2 l));exact⟨h1.1,q.trans h1.2⟩
theorem z7F(x y:Int)(w:World):Calls Tryz.prog 120 #[.int .i64 x,.int .i64 y] w fun e w'=>e= .returned (q3f y x)/\Ext w w':=by
 go_enter Tryz.func120,Tryz.ntmps120;go_wp2_with fail
 ((try simp only[Exit.inBlock,Exit.then]);refine bodyPost_ret (v:=q3f y x) (by rw[q0V rfl];go_simp) rfl ?_)
 exact⟨rfl,q0B _ _⟩
theorem q7o{b:Value}(h:WoB w gw g b sd rate):Calls Tryz.prog 71 #[.pointer (some ⟨gw,0,none⟩)] w fun e w'=>e= .returned (.bool false)/\w=w':=by
 have d:=h.cell 0;clear h;go_enter Tryz.func71,Tryz.ntmps71;go_wp2_with fail;go_ret;exact⟨rfl,rfl⟩
theorem z3k(h:WoK wb w gw g gs rate sd c s u n bs k0 K)(hn:n<=86)(nm:List UInt8)(a b:Int)(kp:Value)(tx:List UInt8)(m0:nm.length<=4611686018427387903){m:Nat}(I: ∀W,Ext wb W->Stay K w W->Evs W ao m cap L)(hL:q4F L)(a0: ∀e∈L,e.we<18446744073709551616){z:Int}(hz:y0Z bs nm a L=z):
  Calls Tryz.prog 75 #[.pointer (some ⟨gw,0,none⟩),.agg #[.int .i64 1,.string ⟨nm.toArray⟩,.int .i64 a,.int .i64 b,(.slice ao m cap),kp,.string ⟨tx.toArray⟩]] w fun e w'=> ∃x y d,e= .returned (q3f y x)/\(WoK wb w' gw g gs rate sd c s (u+2024) (n+1) d k0 K/\Stay K w w')/\((z≠0/\x=0/\y=z/\d=bs)\/(z=0/\x=0/\y=60/\d=bs/\c-(u:Int)-2024<6000)\/(z=0/\x=((q1M bs nm).length:Int)/\y=0/\d=bs++[⟨nm,(q1M bs nm).length,L⟩])):=by
 have M:=q2U w (.cells #[.int .i64 1,.string ⟨nm.toArray⟩,.int .i64 a,.int .i64 b,(.slice ao m cap),kp,.string ⟨tx.toArray⟩] 83) (.cells #[.int .i64 0,.int .i64 0,.slice none 0 0] 80);have hb:=(Blk.new w 83 #[.int .i64 1,.string ⟨nm.toArray⟩,.int .i64 a,.int .i64 b,(.slice ao m cap),kp,.string ⟨tx.toArray⟩]).ext (q0B _ (.cells #[.int .i64 0,.int .i64 0,.slice none 0 0] 80));have ha:=Blk.new (w.alloc (.cells #[.int .i64 1,.string ⟨nm.toArray⟩,.int .i64 a,.int .i64 b,(.slice ao m cap),kp,.string ⟨tx.toArray⟩] 83)) 80 #[.int .i64 0,.int .i64 0,.slice none 0 0];rw[ρ] at ha;have X:¬K (w.heap.size+1):=fun e=>by have:=h.klt _ e;omega
 have Z:wb.heap.size<=w.heap.size+1:=by have:=h.base.size;omega
 have S:=h.more (K':=fun i=>(K i\/i=w.heap.size+1)\/i=w.heap.size) M fun i q=>by
  rcases q with(q|q)|q
  ·exact .inl q
  ·exact .inr (by simp only[ρ];omega)
  ·exact .inr (by simp only[ρ];omega)
 have HK:=η (S.grow (Ext.refl _).drew);have HS:=η (h.kExt (M.trans (Ext.refl _).drew));have HA:=η (ha.ext (Ext.refl _).drew);have HB:=η (hb.ext (Ext.refl _).drew);have g0:=η (And.intro X Z);have z0:=hb.cell 0;have d1:=HK.o.1.cell 1;have d2:=HB.o.cell 1;have d3:=HB.o.cell 2;have d4:=HB.o.cell 4;clear M hb ha X Z S;have HL:=η (HK.o.2.1.append hn nm m0 a (fun W hW n0=>I W hW (HS.o.trans fun i q=>n0 i (.inl (.inl (.inl q))))) hL a0 hz);clear I hL a0 hz;clear h;go_enter Tryz.func75,Tryz.ntmps75;go_wp2_with fail
 go_region_held3 (fun W=>W.cell? ⟨gw,1,none⟩=some (.pointer (some ⟨gs,0,none⟩))/\W.cell? ⟨w.heap.size,1,none⟩=some (.string ⟨nm.toArray⟩)/\W.cell? ⟨w.heap.size,2,none⟩=some (.int .i64 a)/\W.cell? ⟨w.heap.size,4,none⟩=some (.slice ao m cap))
  (first|exact R.o|exact Q.o|exact O.o|exact⟨d1,d2,d3,d4⟩)
  (first
   |(go_at_call 38;refine HL.o.mono ?_;rintro e N ⟨x,y,d,rfl,h3,Y,U⟩;have d0:=η U;have J:WoK wb N gw g gs rate sd c s (u+2024) (n+1) d k0 (fun i=>(K i\/i=w.heap.size+1)\/i=w.heap.size):=⟨Blk.same HK.o.1 (Y _ (.inr rfl)),h3,HK.o.2.2⟩;clear U;have E:=η J;have i0:Hd (Stay K w N):=η (HS.o.trans fun i q=>Y i (.inl (.inl (.inl q))));have b0:=η (HA.o.same (Y _ (.inl (.inl (.inr rfl)))));have r:=HB.o.same (Y _ (.inl (.inr rfl)));have c0:=η r;have O:Hd (N.cell? ⟨gw,1,none⟩=some (.pointer (some ⟨gs,0,none⟩))/\N.cell? ⟨w.heap.size,1,none⟩=some (.string ⟨nm.toArray⟩)/\N.cell? ⟨w.heap.size,2,none⟩=some (.int .i64 a)/\N.cell? ⟨w.heap.size,4,none⟩=some (.slice ao m cap)):=η ⟨J.1.cell 1,r.cell 1,r.cell 2,r.cell 4⟩;have h0:=η (fun W=>z7F x y W);clear Y J r)
   |(go_at_call 120;refine(h0.o _).mono ?_;rintro e D ⟨rfl,I⟩;have l0:=η ((E.o.grow I).beside (K':=fun i=>K i\/i=w.heap.size+1) fun i q=> .inl q);have j0:Hd (Stay K w D):=η (i0.o.trans fun i q=>E.o.kExt I i (.inl (.inl q)));have l:=c0.o.ext I;have G:=Blk.ext E.o.1 I;have Q:Hd (D.cell? ⟨gw,1,none⟩=some (.pointer (some ⟨gs,0,none⟩))/\D.cell? ⟨w.heap.size,1,none⟩=some (.string ⟨nm.toArray⟩)/\D.cell? ⟨w.heap.size,2,none⟩=some (.int .i64 a)/\D.cell? ⟨w.heap.size,4,none⟩=some (.slice ao m cap)):=η ⟨G.cell 1,l.cell 1,l.cell 2,l.cell 4⟩;have o3:=y2H D (w.heap.size+1) (.int .i64 y) (.int .i64 x) (.slice none 0 0);have F:=l.same (o3.block _ l.lt (by omega));have V:=Blk.same G (o3.block _ (Blk.lt G) fun e=>E.o.2.2.1 (.inl (.inr e)));have R:Hd ((((D.setCell ⟨w.heap.size+1,0,none⟩ (.int .i64 y)).setCell ⟨w.heap.size+1,1,none⟩ (.int .i64 x)).setCell ⟨w.heap.size+1,2,none⟩ (.slice none 0 0)).cell? ⟨gw,1,none⟩=some (.pointer (some ⟨gs,0,none⟩))/\(((D.setCell ⟨w.heap.size+1,0,none⟩ (.int .i64 y)).setCell ⟨w.heap.size+1,1,none⟩ (.int .i64 x)).setCell ⟨w.heap.size+1,2,none⟩ (.slice none 0 0)).cell? ⟨w.heap.size,1,none⟩=some (.string ⟨nm.toArray⟩)/\(((D.setCell ⟨w.heap.size+1,0,none⟩ (.int .i64 y)).setCell ⟨w.heap.size+1,1,none⟩ (.int .i64 x)).setCell ⟨w.heap.size+1,2,none⟩ (.slice none 0 0)).cell? ⟨w.heap.size,2,none⟩=some (.int .i64 a)/\(((D.setCell ⟨w.heap.size+1,0,none⟩ (.int .i64 y)).setCell ⟨w.heap.size+1,1,none⟩ (.int .i64 x)).setCell ⟨w.heap.size+1,2,none⟩ (.slice none 0 0)).cell? ⟨w.heap.size,4,none⟩=some (.slice ao m cap)):=η ⟨V.cell 1,F.cell 1,F.cell 2,F.cell 4⟩;have j:=b0.o.ext I;have e0:=j.cell 0;have e1:=j.cell 1;have e2:=j.cell 2;have f0:=j.free 0;have f1:=j.free 1;have f2:=j.free 2;clear I j l G F V o3))
 all_goals
  clear O Q R;go_wp2_with fail
  ((try simp only[Exit.inBlock,Exit.then]);refine bodyPost_ret (v:=q3f y x) (by rw[q0V rfl];go_simp) rfl ?_)
  exact⟨x,y,d,rfl,l0.o.fin3 g0.o j0.o _ _ _,d0.o⟩
end
def WoD(wb W:World)(gw g rate:Nat)(sd c s:Int)(u n:Nat)(bs:List Bt)(k:Nat)(K:Nat->Prop):Prop:=
 WoB W gw g (.pointer none) sd rate/\SKD wb W g sd c s u n bs k (fun i=>K i\/i=gw)/\¬K gw/\wb.heap.size<=gw
section
variable {wb w W W':World}{gw g gs rate u n:Nat}{sd c s:Int}{bs:List Bt}{k0:Nat}{K K':Nat->Prop}
theorem SKD.more(h:SKD wb W g sd c s u n bs k0 K)(k:Ext W W')(hK: ∀i,K' i->K i\/(W.heap.size<=i/\i<W'.heap.size)):SKD wb W' g sd c s u n bs k0 K':=by
 obtain⟨B,C,sure,P,st,σ,φ,F,xs,h1,h2,h3⟩:=h;have b: ∀i,F i->i<W.heap.size:=by obtain⟨_,_,_,_,_,_,h⟩:=h2.d;exact h
 refine⟨B,C,sure,P,st,σ,φ,F,xs,h1,⟨h2.d.ext k,h2.bF,h2.ext.trans k,fun i o=>?_⟩,h3⟩;rcases hK i o with h4|⟨h4,j⟩
 ·exact⟨Ψ (h2.k i h4).1 k.size,(h2.k i h4).2⟩
 ·exact⟨j,fun l=>by have:=b i l;omega⟩
theorem SKD.base(h:SKD wb W g sd c s u n bs k0 K):Ext wb W:=by
 obtain⟨B,C,sure,P,st,σ,φ,F,xs,h1,h2,h3⟩:=h;exact h2.ext
theorem SKD.sideM(h:SKD wb W g sd c s u n bs k0 K)(l:W.heap.size<=W'.heap.size)(v:Ext wb W')(k: ∀i,i<W.heap.size->¬K i->W'.heap[i]? =W.heap[i]?)(hK: ∀i,K' i->K i\/(W.heap.size<=i/\i<W'.heap.size)):SKD wb W' g sd c s u n bs k0 K':=by
 obtain⟨B,C,sure,P,st,σ,φ,F,xs,h1,h2,h3⟩:=h;have b: ∀i,F i->i<W.heap.size:=by obtain⟨_,_,_,_,_,_,h⟩:=h2.d;exact h
 refine⟨B,C,sure,P,st,σ,φ,F,xs,h1,⟨h2.d.held l fun i j=>k i (b i j) fun r=>(h2.k i r).2 j,h2.bF,v,fun i j=>?_⟩,h3⟩;rcases hK i j with h4|⟨h4,o⟩
 ·exact⟨Ψ (h2.k i h4).1 l,(h2.k i h4).2⟩
 ·exact⟨o,fun q=>by have:=b i q;omega⟩
theorem WoD.more(h:WoD wb W gw g rate sd c s u n bs k0 K)(k:Ext W W')(hK: ∀i,K' i->K i\/(W.heap.size<=i/\i<W'.heap.size)):WoD wb W' gw g rate sd c s u n bs k0 K':=
 ⟨Blk.ext h.1 k,h.2.1.more k fun i b=>by
  rcases b with b|b
  ·exact(hK i b).imp .inl id
  ·exact .inl (.inr b),fun e=>by
  rcases hK gw e with h1|⟨h1,_⟩
  ·exact h.2.2.1 h1
  ·have:=h.2.1.klt gw (.inr rfl);omega,h.2.2.2⟩
theorem WoD.grow(h:WoD wb W gw g rate sd c s u n bs k0 K)(k:Ext W W'):WoD wb W' gw g rate sd c s u n bs k0 K:=h.more k fun i b=> .inl b
theorem WoD.kExt(h:WoD wb W gw g rate sd c s u n bs k0 K)(k:Ext W W'):Stay K W W':=fun i b=>k.block i (h.2.1.klt i (.inl b))
theorem WoD.pokes{b:Nat}(h:WoD wb W gw g rate sd c s u n bs k0 (fun i=>K i\/i=b))(o:¬K b/\wb.heap.size<=b)(off:OffS (fun i=>i=b) W W'):WoD wb W' gw g rate sd c s u n bs k0 K/\Stay K W W':=by
 have l:gw≠b:=fun e=>h.2.2.1 (.inr e)
 have j:=h.2.1.klt;refine⟨⟨Blk.same h.1 (off.block gw (j gw (.inr rfl)) l),h.2.1.sideM off.size (off.ext h.2.1.base fun i d=>by rw[d];exact o.2) (fun i d q=>off.block i d fun e=>q (.inl (.inr e))) (fun i d=> .inl (d.imp .inl id)),fun e=>h.2.2.1 (.inl e),h.2.2.2⟩,fun i d=>off.block i (j i (.inl (.inl d))) fun e=>o.1 (e▸d)⟩
theorem WoD.fin3{b:Nat}(h:WoD wb W gw g rate sd c s u n bs k0 (fun i=>K i\/i=b))(o:¬K b/\wb.heap.size<=b)(q:Stay K w W)(d j l:Value):
  WoD wb (((W.setCell ⟨b,0,none⟩ d).setCell ⟨b,1,none⟩ j).setCell ⟨b,2,none⟩ l) gw g rate sd c s u n bs k0 K/\Stay K w (((W.setCell ⟨b,0,none⟩ d).setCell ⟨b,1,none⟩ j).setCell ⟨b,2,none⟩ l):=by
 have h1:=h.pokes o (y2H W b d j l);exact⟨h1.1,q.trans h1.2⟩
theorem SKS.upC(h:SKS wb w g gs rate sd c s u n bs k0 K):Calls Tryz.prog 76 #[.pointer (some ⟨g,0,none⟩)] w fun e w'=>e= .returned (.bool true)/\w=w':=by
 obtain⟨gl,gx,m,ws,B,C,sure,P,h1,_⟩:=h;obtain⟨st,σ,φ,o,rfl,h2,h3,h4,⟨F,j,l,Y,q⟩,b,r⟩:=h1.i;have:=y0b q.i.d;rw[b.1.fl.up] at this;exact this
theorem SKD.upC(h:SKD wb w g sd c s u n bs k0 K):Calls Tryz.prog 76 #[.pointer (some ⟨g,0,none⟩)] w fun e w'=>e= .returned (.bool false)/\w=w':=by
 obtain⟨B,C,sure,P,st,σ,φ,F,xs,h1,h2,h3⟩:=h;exact y0b h2.d
theorem SQ.upC(h:SQ wb w g sd c s u n bs K):Calls Tryz.prog 76 #[.pointer (some ⟨g,0,none⟩)] w fun e w'=>e= .returned (.bool true)/\w=w':=by
 obtain⟨m,B,C,P,⟨st,σ,φ,F,h1,h2,h3,h4,b⟩,_⟩:=h;have:=y0b h3.d;rw[h4.1.fl.up] at this;exact this
theorem z5V(h:WoK wb w gw g gs rate sd c s u n bs k0 K)(hn:n<=86)(nm:List UInt8)(a b:Int)(O:Value)(tx:List UInt8)(Y:nm.length<=4611686018427387903){m:Nat}(hx: ∀W,Ext wb W->Stay K w W->Evs W ao m cap L)(hL:q4F L)(N: ∀e∈L,e.we<18446744073709551616){z:Int}(hz:y0Z bs nm a L=z):
  Calls Tryz.prog 26 #[.pointer (some ⟨gw,0,none⟩),.agg #[.int .i64 1,.string ⟨nm.toArray⟩,.int .i64 a,.int .i64 b,(.slice ao m cap),O,.string ⟨tx.toArray⟩]] w fun e w'=> ∃x y j,e= .returned (q3f y x)/\(WoK wb w' gw g gs rate sd c s (u+2024) (n+1) j k0 K/\Stay K w w')/\((z≠0/\x=0/\y=z/\j=bs)\/(z=0/\x=0/\y=60/\j=bs/\c-(u:Int)-2024<6000)\/(z=0/\x=((q1M bs nm).length:Int)/\y=0/\j=bs++[⟨nm,(q1M bs nm).length,L⟩])):=by
 have q:=q2U w (.cells #[.int .i64 1,.string ⟨nm.toArray⟩,.int .i64 a,.int .i64 b,(.slice ao m cap),O,.string ⟨tx.toArray⟩] 83) (.cells #[.int .i64 0,.int .i64 0,.slice none 0 0] 80);have D:=(Blk.new w 83 #[.int .i64 1,.string ⟨nm.toArray⟩,.int .i64 a,.int .i64 b,(.slice ao m cap),O,.string ⟨tx.toArray⟩]).ext (q0B _ (.cells #[.int .i64 0,.int .i64 0,.slice none 0 0] 80));have X:=Blk.new (w.alloc (.cells #[.int .i64 1,.string ⟨nm.toArray⟩,.int .i64 a,.int .i64 b,(.slice ao m cap),O,.string ⟨tx.toArray⟩] 83)) 80 #[.int .i64 0,.int .i64 0,.slice none 0 0];rw[ρ] at X;have J:¬K (w.heap.size+1):=fun e=>by have:=h.klt _ e;omega
 have M:wb.heap.size<=w.heap.size+1:=by have:=h.base.size;omega
 have Q:=η (h.more (K':=fun i=>K i\/i=w.heap.size+1) q fun i F=>F.imp id fun e=>by simp only[ρ];omega);have HS:=η (h.kExt q);have HA:=η X;have S:=η (And.intro J M);have b0:=η q;have z0:=D.cell 0;have z1:=D.cell 1;have z2:=D.cell 2;have z3:=D.cell 3;have z4:=D.cell 4;have z5:=D.cell 5;have z6:=D.cell 6;have g1:=Q.o.1.cell 1;have g0:=Q.o.1.cell 0;have HQ:=η (z3k Q.o hn nm a b O tx Y (fun W hW hs=>hx W hW (HS.o.trans fun i F=>hs i (.inl F))) hL N hz);clear h q D X J M hx hL N hz;go_enter Tryz.func26,Tryz.ntmps26;go_wp2_with fail;refine(q7o Q.o.1).mono ?_;rintro e w1 ⟨rfl,rfl⟩;go_wp2_with fail;refine HQ.o.mono ?_;rintro e Z ⟨x,y,j,rfl,⟨h3,G⟩,I⟩;have R:=η I;clear I;have U:Hd (Stay K w Z):=η (HS.o.trans fun i F=>G i (.inl F));have r:=q0B Z (.cells #[.int .i64 y,.int .i64 x,.slice none 0 0] 80);have E:=η (h3.grow r);have V:=η (U.o.trans fun i F=>h3.kExt r i (.inl F));have d:=(HA.o.same (G _ (.inr rfl))).ext r;have l:=Blk.new Z 80 #[.int .i64 y,.int .i64 x,.slice none 0 0];have a0:=η l;have e0:=d.cell 0;have e1:=d.cell 1;have e2:=d.cell 2;have f0:=d.free 0;have f1:=d.free 1;have f2:=d.free 2;have y0:=l.cell 0;have y1:=l.cell 1;have y2:=l.cell 2;have HU:=η E.o.2.1.upC;have gg:=E.o.1.cell 0;clear G d r h3 z0 z1 z2 z3 z4 z5 z6 g1 g0 l;go_wp2_with fail;refine HU.o.mono ?_;rintro e w5 ⟨rfl,rfl⟩;go_wp2_with fail
 ((try simp only[Exit.inBlock,Exit.then]);refine bodyPost_ret (v:= .agg #[.int .i64 y,.int .i64 x,.slice none 0 0]) (by rw[q0V rfl];go_simp) rfl ?_)
 exact⟨x,y,j,rfl,E.o.fin3 S.o V.o _ _ _,R.o⟩
end
section
variable {wb w W W':World}{gw g gs rate u n:Nat}{sd c s:Int}{bs:List Bt}{k0:Nat}{K K':Nat->Prop}
theorem SKS.pokeS(h:SKS wb W g gs rate sd c s u n bs k0 K)(hK:K x)(d:wb.heap.size<=x)(j:Nat)(v:Value):SKS wb (W.setCell ⟨x,j,none⟩ v) g gs rate sd c s u n bs k0 K:=
 h.sideM (by rw[World.size_setCell];exact ι _) ((OffS.set (F:=fun i=>i=x) W rfl j v).ext h.base fun i b=>by rw[b];exact d) (fun i b l=>heap_setCell_other _ _ _ _ fun e=>l (by rw[show i=x from e];exact hK)) fun i b=> .inl b
theorem SKD.pokeS(h:SKD wb W g sd c s u n bs k0 K)(hK:K x)(d:wb.heap.size<=x)(j:Nat)(v:Value):SKD wb (W.setCell ⟨x,j,none⟩ v) g sd c s u n bs k0 K:=
 h.sideM (by rw[World.size_setCell];exact ι _) ((OffS.set (F:=fun i=>i=x) W rfl j v).ext h.base fun i b=>by rw[b];exact d) (fun i b l=>heap_setCell_other _ _ _ _ fun e=>l (by rw[show i=x from e];exact hK)) fun i b=> .inl b
theorem z7g(h:WoK wb w gw g gs rate sd c s u n bs k0 K)(nm:List UInt8)(a b:Int)(ev:Value)(tx:List UInt8)(hk:Ints w ka kn kc xs)(a0: ∀a,ka=some a->K a.block):
  Calls Tryz.prog 26 #[.pointer (some ⟨gw,0,none⟩),.agg #[.int .i64 11,.string ⟨nm.toArray⟩,.int .i64 a,.int .i64 b,ev,.slice ka kn kc,.string ⟨tx.toArray⟩]] w fun e w'=>e= .returned (q3f 0 0)/\WoD wb w' gw g rate sd c s u n bs k0 K/\Stay K w w':=by
 have D:=q2U w (.cells #[.int .i64 11,.string ⟨nm.toArray⟩,.int .i64 a,.int .i64 b,ev,.slice ka kn kc,.string ⟨tx.toArray⟩] 83) (.cells #[.int .i64 0,.int .i64 0,.slice none 0 0] 80);have Q:=(Blk.new w 83 #[.int .i64 11,.string ⟨nm.toArray⟩,.int .i64 a,.int .i64 b,ev,.slice ka kn kc,.string ⟨tx.toArray⟩]).ext (q0B _ (.cells #[.int .i64 0,.int .i64 0,.slice none 0 0] 80));have O:=Blk.new (w.alloc (.cells #[.int .i64 11,.string ⟨nm.toArray⟩,.int .i64 a,.int .i64 b,ev,.slice ka kn kc,.string ⟨tx.toArray⟩] 83)) 80 #[.int .i64 0,.int .i64 0,.slice none 0 0];rw[ρ] at O;have b0:¬K (w.heap.size+1):=fun e=>by have:=h.klt _ e;omega
 have d0:wb.heap.size<=w.heap.size+1:=by have:=h.base.size;omega
 have r0:gw<w.heap.size:=h.2.1.klt gw (.inr rfl);have U:=h.more (K':=fun i=>(K i\/i=w.heap.size+1)\/i=w.heap.size) D fun i q=>by
  rcases q with(q|q)|q
  ·exact .inl q
  ·exact .inr (by simp only[ρ];omega)
  ·exact .inr (by simp only[ρ];omega)
 have l:=η U;have HS:=η (h.kExt D);have HI:=η (hk.ext D);have V:=η a0;have j0:=η (And.intro b0 d0);obtain⟨M,J⟩: ∃M,(w.alloc (.cells #[.int .i64 11,.string ⟨nm.toArray⟩,.int .i64 a,.int .i64 b,ev,.slice ka kn kc,.string ⟨tx.toArray⟩] 83)).alloc (.cells #[.int .i64 0,.int .i64 0,.slice none 0 0] 80)=M:=⟨_,rfl⟩
 rw[J] at Q O l HS HI;have p0:=η Q;have o0:=η O;have d:=OffS.set (F:=fun i=>i=gw) M rfl 1 (.pointer none);have c0:=(l.o.2.1.pokeS (x:=gw) (.inr rfl) l.o.2.2.2 1 (.pointer none)).grow (Ext.refl _).drew;have E:=(HI.o.off (F:=fun i=>i=gw) (fun a e e2=>l.o.2.2.1 (.inl (.inl (by rw[<-show a.block=gw from e2];exact V.o a e)))) _ d).ext (Ext.refl _).drew;have HC:=η (c0.crash E (fun a e=> .inl (.inl (.inl (V.o a e)))));have I:=(l.o.1.set 1 (.pointer none)).ext (Ext.refl _).drew;have G:=(Q.same (w':=M.setCell ⟨gw,1,none⟩ (.pointer none)) (d.block _ Q.lt (by omega))).ext (Ext.refl _).drew;have X:=(O.same (w':=M.setCell ⟨gw,1,none⟩ (.pointer none)) (d.block _ O.lt (by omega))).ext (Ext.refl _).drew;have i0:=η I;have h0:=η G;have g0:=η X;have l0:Hd (Stay K w ((M.setCell ⟨gw,1,none⟩ (.pointer none)).drew)):=η (HS.o.trans fun i q=>(((Ext.refl (M.setCell ⟨gw,1,none⟩ (.pointer none))).drew).block i (by rw[World.size_setCell];have:=l.o.klt i (.inl (.inl q));exact this)).trans (d.block i (l.o.klt i (.inl (.inl q))) fun e=>l.o.2.2.1 (.inl (.inl (by rw[<-show i=gw from e];exact q)))));have z0:=Q.cell 0;have g1:=l.o.1.cell 1;have q0:=l.o.1.free 1;have d1:=I.cell 0;have d2:=G.cell 5;clear h D Q O b0 d0 U hk a0 d c0 E I G X;go_enter Tryz.func26,Tryz.ntmps26;go_wp2_with fail
 try rw[J]
 refine(q7o l.o.1).mono ?_;rintro e w1 ⟨rfl,rfl⟩;clear J;go_wp2_with fail
 go_region_held3 (fun W=>W.cell? ⟨gw,0,none⟩=some (.pointer (some ⟨g,0,none⟩))/\W.cell? ⟨w.heap.size,5,none⟩=some (.slice ka kn kc))
  (first|exact S.o|exact R.o|exact⟨d1,d2⟩)
  (first
   |(go_at_call 31;refine HC.o.mono ?_;rintro e N ⟨rfl,h3,hs⟩;have r:=Blk.same i0.o (hs _ (.inr rfl));have y:=h0.o.same (hs _ (.inl (.inr rfl)));have j:=g0.o.same (hs _ (.inl (.inl (.inr rfl))));have n0:Hd (WoD wb N gw g rate sd c s u n bs k0 (fun i=>K i\/i=w.heap.size+1)):=η ⟨r,h3.more (Ext.refl _) (fun i q=> .inl (q.imp .inl id)),fun e=>l.o.2.2.1 (.inl e),l.o.2.2.2⟩;have m0:Hd (Stay K w N):=η (l0.o.trans fun i q=>hs i (.inl (.inl (.inl q))));have R:Hd (N.cell? ⟨gw,0,none⟩=some (.pointer (some ⟨g,0,none⟩))/\N.cell? ⟨w.heap.size,5,none⟩=some (.slice ka kn kc)):=η ⟨r.cell 0,y.cell 5⟩;have o3:=y2H N (w.heap.size+1) (.int .i64 0) (.int .i64 0) (.slice none 0 0);have Z:=Blk.same r (o3.block _ (Blk.lt r) (by omega));have Y:=y.same (o3.block _ y.lt (by omega));have S:Hd ((((N.setCell ⟨w.heap.size+1,0,none⟩ (.int .i64 0)).setCell ⟨w.heap.size+1,1,none⟩ (.int .i64 0)).setCell ⟨w.heap.size+1,2,none⟩ (.slice none 0 0)).cell? ⟨gw,0,none⟩=some (.pointer (some ⟨g,0,none⟩))/\(((N.setCell ⟨w.heap.size+1,0,none⟩ (.int .i64 0)).setCell ⟨w.heap.size+1,1,none⟩ (.int .i64 0)).setCell ⟨w.heap.size+1,2,none⟩ (.slice none 0 0)).cell? ⟨w.heap.size,5,none⟩=some (.slice ka kn kc)):=η ⟨Z.cell 0,Y.cell 5⟩;have e0:=j.cell 0;have e1:=j.cell 1;have e2:=j.cell 2;have f0:=j.free 0;have f1:=j.free 1;have f2:=j.free 2;clear h3 hs r y j o3 Z Y))
 all_goals
  clear R S;go_wp2_with fail
  ((try simp only[Exit.inBlock,Exit.then]);refine bodyPost_ret (v:=q3f 0 0) (by rw[q0V rfl];go_simp) rfl ?_)
  exact⟨rfl,n0.o.fin3 j0.o m0.o _ _ _⟩
theorem z5W(h:WoD wb w gw g rate sd c s u n bs k0 K)(nm:List UInt8)(a b:Int)(ev i:Value)(tx:List UInt8):
  Calls Tryz.prog 26 #[.pointer (some ⟨gw,0,none⟩),.agg #[.int .i64 5,.string ⟨nm.toArray⟩,.int .i64 a,.int .i64 b,ev,i,.string ⟨tx.toArray⟩]] w fun e w'=>e= .returned (q3f 61 0)/\Ext w w':=by
 have d:=q2U w (.cells #[.int .i64 5,.string ⟨nm.toArray⟩,.int .i64 a,.int .i64 b,ev,i,.string ⟨tx.toArray⟩] 83) (.cells #[.int .i64 0,.int .i64 0,.slice none 0 0] 80);have l:=(Blk.new w 83 #[.int .i64 5,.string ⟨nm.toArray⟩,.int .i64 a,.int .i64 b,ev,i,.string ⟨tx.toArray⟩]).ext (q0B _ (.cells #[.int .i64 0,.int .i64 0,.slice none 0 0] 80));have j:=η (h.grow d);have r:=l.cell 0;have q:=j.o.1.cell 1;clear h d l;go_enter Tryz.func26,Tryz.ntmps26;go_wp2_with fail;refine(q7o j.o.1).mono ?_;rintro e w1 ⟨rfl,rfl⟩;go_wp2_with fail
 ((try simp only[Exit.inBlock,Exit.then]);refine bodyPost_ret (v:=q3f 61 0) (by rw[q0V rfl];go_simp) rfl ?_)
 exact⟨rfl,q2U _ _ _⟩
end
section
variable {wb w W W':World}{gw g gs rate u n:Nat}{sd c s:Int}{bs:List Bt}{k0:Nat}{K K':Nat->Prop}
theorem SQX.grow(h:SQX wb W g sd c s u n bs K)(k:Ext W W'):SQX wb W' g sd c s u n bs K:=by
 obtain⟨m,B,C,P,⟨st,σ,φ,F,h1,h2,h3,h4⟩,b⟩:=h;exact⟨m,B,C,P,⟨st,σ,φ,F,h1,h2,h3.grow k,h4⟩,b⟩
theorem y0W(h:WoD wb w gw g rate sd c s u n bs k0 K)(hs:0<=s/\s<1000000)(hn:n<=200)(q:(u:Int)+4096<=c):
  Calls Tryz.prog 70 #[.pointer (some ⟨gw,0,none⟩)] w fun e w'=>e= .returned (.int .i64 0)/\(∃j gs,k0<=j/\j<=bs.length/\WoK wb w' gw g gs rate sd c (s+1) u n (bs.take j) j K)/\Stay K w w':=by
 have y:=OffS.set (F:=fun i=>i=gw) w rfl 1 (.pointer none);have I:=h.2.1.pokeS (x:=gw) (.inr rfl) h.2.2.2 1 (.pointer none);have E:=h.1.set 1 (.pointer none);have Q:Stay K w (w.setCell ⟨gw,1,none⟩ (.pointer none)):=fun i l=>y.block i (h.2.1.klt i (.inl l)) fun e=>h.2.2.1 (by rw[<-show i=gw from e];exact l)
 have g1:=h.1.cell 1;have g0:=h.1.free 1;have c0:=E.cell 0;have Y:=η E;have a0:=η Q;have HU:=η I.upC;have e0:=η (I.start hs);have D:=η h.2.2;have Z:=η (fun i (l:K i)=>h.2.1.klt i (.inl l));have HN:=η (And.intro hn q);clear h y I E Q hs hn q;go_enter Tryz.func70,Tryz.ntmps70;go_wp2_with fail;refine HU.o.mono ?_;rintro e w2 ⟨rfl,rfl⟩;go_wp2_with fail;refine e0.o.mono ?_;rintro e X ⟨rfl,⟨j,S,U,hq⟩,J⟩;have R:=Blk.same Y.o (J _ (.inr rfl));have O:Hd (Stay K w X):=η (a0.o.trans fun i l=>J i (.inl l));have HJ:=η (And.intro S U);have V:(bs.take j).length=j:=by rw[Θ];omega
 have ho:=(hq.grow (Ext.refl X).drew).open HN.o.1 HN.o.2 rate;rw[V] at ho;have HO:=η ho;have r:=η (R.ext (Ext.refl X).drew);have d0:=r.o.cell 0;have d2:=r.o.cell 2;have d3:=r.o.cell 3;clear J R S U V ho hq c0 g1 g0;go_wp2_with fail
 go_region_held3 (fun W=>W.cell? ⟨gw,0,none⟩=some (.pointer (some ⟨g,0,none⟩))/\W.cell? ⟨gw,2,none⟩=some (.int .u64 sd)/\W.cell? ⟨gw,3,none⟩=some (.float .f64 rate))
  (first|exact N.o|exact M.o|exact⟨d0,d2,d3⟩)
  (first|(go_at_call 33;refine HO.o.mono ?_;rintro e v ⟨gs,rfl,h4,G⟩;have b:=Blk.same r.o (G _ (.inr rfl));have d:=b.set 1 (.pointer (some ⟨gs,0,none⟩));have h0:=η d;have e1:=b.cell 1;have f1:=b.free 1;have f0:Hd (WoK wb (v.setCell ⟨gw,1,none⟩ (.pointer (some ⟨gs,0,none⟩))) gw g gs rate sd c (s+1) u n (bs.take j) j K):=η ⟨d,h4.pokeS (x:=gw) (.inr rfl) D.o.2 1 _,D.o⟩;have b0:Hd (Stay K w (v.setCell ⟨gw,1,none⟩ (.pointer (some ⟨gs,0,none⟩)))):=η (fun i l=>(heap_setCell_other v ⟨gw,1,none⟩ i (.pointer (some ⟨gs,0,none⟩)) fun e=>D.o.1 (by rw[<-show i=gw from e];exact l)).trans ((G i (.inl l)).trans (((Ext.refl X).drew.block i (z1i (Z.o i l) (O.o i l))).trans (O.o i l))));have M:Hd (v.cell? ⟨gw,0,none⟩=some (.pointer (some ⟨g,0,none⟩))/\v.cell? ⟨gw,2,none⟩=some (.int .u64 sd)/\v.cell? ⟨gw,3,none⟩=some (.float .f64 rate)):=η ⟨b.cell 0,b.cell 2,b.cell 3⟩;have N:Hd ((v.setCell ⟨gw,1,none⟩ (.pointer (some ⟨gs,0,none⟩))).cell? ⟨gw,0,none⟩=some (.pointer (some ⟨g,0,none⟩))/\(v.setCell ⟨gw,1,none⟩ (.pointer (some ⟨gs,0,none⟩))).cell? ⟨gw,2,none⟩=some (.int .u64 sd)/\(v.setCell ⟨gw,1,none⟩ (.pointer (some ⟨gs,0,none⟩))).cell? ⟨gw,3,none⟩=some (.float .f64 rate)):=η ⟨d.cell 0,d.cell 2,d.cell 3⟩;clear h4 G b d))
 all_goals
  clear M N d0 d2 d3;go_wp2_with fail;go_ret;exact⟨rfl,⟨j,gs,HJ.o.1,HJ.o.2,f0.o⟩,b0.o⟩
theorem y0X(Q:WoB w gw g (.pointer none) sd rate)(h:SQ wb w g sd c s u n bs (fun i=>K i\/i=gw))(R:¬K gw/\wb.heap.size<=gw)(hn:n<=200):
  Calls Tryz.prog 70 #[.pointer (some ⟨gw,0,none⟩)] w fun e w'=>e= .returned (.int .i64 0)/\(∃gs,WoK wb w' gw g gs rate sd c s u n bs 0 K)/\Stay K w w':=by
 have G: ∀i,(K i\/i=gw)->i<w.heap.size:=by
  obtain⟨m,B,C,P,⟨st,σ,φ,F,h1,h2,h3,h4⟩,_⟩:=h;exact fun i b=>(h3.k i b).1
 have l:Ext wb w:=by
  obtain⟨m,B,C,P,⟨st,σ,φ,F,h1,h2,h3,h4⟩,_⟩:=h;exact h3.ext
 have r:=OffS.set (F:=fun i=>i=gw) w rfl 1 (.pointer none);have hq:SQ wb (w.setCell ⟨gw,1,none⟩ (.pointer none)) g sd c s u n bs (fun i=>K i\/i=gw):=by
  obtain⟨m,B,C,P,⟨st,σ,φ,F,h1,h2,h3,h4⟩,X⟩:=h;exact⟨m,B,C,P,⟨st,σ,φ,F,h1,h2,⟨h3.d.held (by rw[World.size_setCell];exact ι _) (fun i b=>heap_setCell_other _ _ _ _ fun e=>(h3.k gw (.inr rfl)).2 (by rw[<-show i=gw from e];exact b)),h3.bF,r.ext l fun i b=>by rw[b];exact R.2,fun i b=>⟨by rw[World.size_setCell];exact(h3.k i b).1,(h3.k i b).2⟩⟩,h4⟩,X⟩
 have E:=Q.set 1 (.pointer none);have N:Stay K w (w.setCell ⟨gw,1,none⟩ (.pointer none)):=fun i b=>r.block i (G i (.inl b)) fun e=>R.1 (by rw[<-show i=gw from e];exact b)
 have g1:=Q.cell 1;have a0:=Q.free 1;have c0:=E.cell 0;have HU:=η hq.upC;have O:SQ wb (w.setCell ⟨gw,1,none⟩ (.pointer none)).drew g sd c s u n bs (fun i=>K i\/i=gw):=by
  obtain⟨m,B,C,P,⟨st,σ,φ,F,h1,h2,h3,h4⟩,X⟩:=hq;exact⟨m,B,C,P,⟨st,σ,φ,F,h1,h2,h3.grow (Ext.refl _).drew,h4⟩,X⟩
 have HO:=η (O.open hn rate);have v:=η (E.ext (Ext.refl _).drew);have Y:=v.o.cell 0;have Z:=v.o.cell 2;have d3:=v.o.cell 3;have S:Hd (Stay K w (w.setCell ⟨gw,1,none⟩ (.pointer none)).drew):=η fun i b=>((Ext.refl _).drew.block i (by rw[World.size_setCell];exact G i (.inl b))).trans (N i b)
 have D:=η R;clear h Q R G l r hq O E N;go_enter Tryz.func70,Tryz.ntmps70;go_wp2_with fail;refine HU.o.mono ?_;rintro e w2 ⟨rfl,rfl⟩;go_wp2_with fail
 go_region_held3 (fun W=>W.cell? ⟨gw,0,none⟩=some (.pointer (some ⟨g,0,none⟩))/\W.cell? ⟨gw,2,none⟩=some (.int .u64 sd)/\W.cell? ⟨gw,3,none⟩=some (.float .f64 rate))
  (first|exact M.o|exact J.o|exact⟨Y,Z,d3⟩)
  (first|(go_at_call 33;refine HO.o.mono ?_;rintro e y ⟨gs,rfl,h4,I⟩;have j:=Blk.same v.o (I _ (.inr rfl));have q:=j.set 1 (.pointer (some ⟨gs,0,none⟩));have e1:=j.cell 1;have f1:=j.free 1;have V:Hd (WoK wb (y.setCell ⟨gw,1,none⟩ (.pointer (some ⟨gs,0,none⟩))) gw g gs rate sd c s u n bs 0 K):=η ⟨q,h4.pokeS (x:=gw) (.inr rfl) D.o.2 1 _,D.o⟩;have U:Hd (Stay K w (y.setCell ⟨gw,1,none⟩ (.pointer (some ⟨gs,0,none⟩)))):=η (fun i b=>(heap_setCell_other y ⟨gw,1,none⟩ i (.pointer (some ⟨gs,0,none⟩)) fun e=>D.o.1 (by rw[<-show i=gw from e];exact b)).trans ((I i (.inl b)).trans (S.o i b)));have J:Hd (y.cell? ⟨gw,0,none⟩=some (.pointer (some ⟨g,0,none⟩))/\y.cell? ⟨gw,2,none⟩=some (.int .u64 sd)/\y.cell? ⟨gw,3,none⟩=some (.float .f64 rate)):=η ⟨j.cell 0,j.cell 2,j.cell 3⟩;have M:Hd ((y.setCell ⟨gw,1,none⟩ (.pointer (some ⟨gs,0,none⟩))).cell? ⟨gw,0,none⟩=some (.pointer (some ⟨g,0,none⟩))/\(y.setCell ⟨gw,1,none⟩ (.pointer (some ⟨gs,0,none⟩))).cell? ⟨gw,2,none⟩=some (.int .u64 sd)/\(y.setCell ⟨gw,1,none⟩ (.pointer (some ⟨gs,0,none⟩))).cell? ⟨gw,3,none⟩=some (.float .f64 rate)):=η ⟨q.cell 0,q.cell 2,q.cell 3⟩;clear h4 I j q))
 all_goals
  clear J M Y Z d3;go_wp2_with fail;go_ret;exact⟨rfl,⟨gs,V.o⟩,U.o⟩
theorem DkK.more{w0:World}{C:Cks}(h:DkK noO w0 W g c s C K)(k:Ext W W')(hK: ∀i,K' i->K i\/(W.heap.size<=i/\i<W'.heap.size)):DkK noO w0 W' g c s C K':=by
 obtain⟨F,σ,h1,h2⟩:=h;have b: ∀i,F i->i<W.heap.size:=by obtain⟨_,_,_,_,_,_,h⟩:=h1.d;exact h
 refine⟨F,σ,⟨h1.d.ext k,h1.bF,h1.ext.trans k,fun i o=>?_⟩,h2⟩;rcases hK i o with h4|⟨h4,j⟩
 ·exact⟨Ψ (h1.k i h4).1 k.size,(h1.k i h4).2⟩
 ·exact⟨j,fun l=>by have:=b i l;omega⟩
theorem y1l(w:World)(c sd:Int)(rate:Nat)(D:0<=c)(h1:c<=1048576)(d:0<=sd)(j:sd<18446744073709551616):
  Calls Tryz.prog 25 #[.int .i64 c,.int .u64 sd,.float .f64 rate] w fun e w'=> ∃gw g gs,e= .returned (.tuple #[.pointer (some ⟨gw,0,none⟩),.int .i64 0])/\WoK w w' gw g gs rate sd c 0 0 0 [] 0 noI:=by
 have r:=η (DkK.new w c D h1);have y:=η (And.intro d j);clear D h1 d j;go_enter Tryz.func25,Tryz.ntmps25;go_wp2_with fail;refine r.o.mono ?_;rintro e w1 ⟨g,rfl,q⟩;have G:=q0B w1 (.cells #[.pointer (some ⟨g,0,none⟩),.pointer none,.int .u64 sd,.float .f64 rate] 100);have E:=Blk.new w1 100 #[.pointer (some ⟨g,0,none⟩),.pointer none,.int .u64 sd,.float .f64 rate];have l:w.heap.size<=w1.heap.size:=by obtain⟨F,σ,J,M⟩:=q;exact J.ext.size
 have hq:=(q.more (K':=fun i=>noI i\/i=w1.heap.size) G fun i b=>by
  rcases b with b|b
  ·exact b.elim
  ·exact .inr (by rw[b,ρ];omega)).sq sd y.o.1 y.o.2
 have v:=η (y0X (rate:=rate) E hq ⟨fun e=>e,l⟩ (by omega));clear q G E hq r l;go_wp2_with fail;refine v.o.mono ?_;rintro e N ⟨rfl,⟨gs,h2⟩,_⟩;have I:=η h2;clear h2 v;go_wp2_with fail;go_ret2;exact⟨_,g,gs,rfl,I.o⟩
theorem z3e(w:World)(c sd:Int)(rate:Nat)(h:c<0\/1048576<c):
  Calls Tryz.prog 25 #[.int .i64 c,.int .u64 sd,.float .f64 rate] w fun e w'=>e= .returned (.tuple #[.pointer none,.int .i64 2])/\w=w':=by
 have b:=η (z9s w c h);clear h;go_enter Tryz.func25,Tryz.ntmps25;go_wp2_with fail;refine b.o.mono ?_;rintro e w1 ⟨rfl,rfl⟩;go_wp2_with fail;go_ret2;exact⟨rfl,rfl⟩
theorem z9Q(h:WoD wb w gw g rate sd c s u n bs k0 K)(X:0<=s/\s<1000000)(V:n<=200)(l:(u:Int)+4096<=c)(nm:List UInt8)(a b:Int)(ev I:Value)(tx:List UInt8):
  Calls Tryz.prog 26 #[.pointer (some ⟨gw,0,none⟩),.agg #[.int .i64 9,.string ⟨nm.toArray⟩,.int .i64 a,.int .i64 b,ev,I,.string ⟨tx.toArray⟩]] w fun e w'=>e= .returned (q3f 0 0)/\(∃j gs,k0<=j/\j<=bs.length/\WoK wb w' gw g gs rate sd c (s+1) u n (bs.take j) j K)/\Stay K w w':=by
 have y:=q2U w (.cells #[.int .i64 9,.string ⟨nm.toArray⟩,.int .i64 a,.int .i64 b,ev,I,.string ⟨tx.toArray⟩] 83) (.cells #[.int .i64 0,.int .i64 0,.slice none 0 0] 80);have U:=(Blk.new w 83 #[.int .i64 9,.string ⟨nm.toArray⟩,.int .i64 a,.int .i64 b,ev,I,.string ⟨tx.toArray⟩]).ext (q0B _ (.cells #[.int .i64 0,.int .i64 0,.slice none 0 0] 80));have O:=Blk.new (w.alloc (.cells #[.int .i64 9,.string ⟨nm.toArray⟩,.int .i64 a,.int .i64 b,ev,I,.string ⟨tx.toArray⟩] 83)) 80 #[.int .i64 0,.int .i64 0,.slice none 0 0];rw[ρ] at O;have F:¬K (w.heap.size+1):=fun e=>by have:=h.2.1.klt _ (.inl e);omega
 have G:wb.heap.size<=w.heap.size+1:=by have:=h.2.1.base.size;omega
 have S:=η (h.more (K':=fun i=>K i\/i=w.heap.size+1) y fun i Q=>Q.imp id fun e=>by simp only[ρ];omega);have HS:=η (h.kExt y);have Y:=η O;have J:=η (And.intro F G);have z0:=U.cell 0;have Z:=η (y0W S.o X V l);clear h y U O F G X V l;go_enter Tryz.func26,Tryz.ntmps26;go_wp2_with fail;refine(q7o S.o.1).mono ?_;rintro e w1 ⟨rfl,rfl⟩;go_wp2_with fail;refine Z.o.mono ?_;rintro e w3 ⟨rfl,⟨j,gs,D,E,h3⟩,r⟩;have N:=η h3;have R:=η (And.intro D E);have M:Hd (Stay K w w3):=η (HS.o.trans fun i Q=>r i (.inl Q));have d:=Y.o.same (r _ (.inr rfl));have e0:=d.cell 0;have e1:=d.cell 1;have e2:=d.cell 2;have f0:=d.free 0;have f1:=d.free 1;have f2:=d.free 2;clear h3 r d D E;go_wp2_with fail
 ((try simp only[Exit.inBlock,Exit.then]);refine bodyPost_ret (v:=q3f 0 0) (by rw[q0V rfl];go_simp) rfl ?_)
 have q:=fun v0 v1 v2=>N.o.fin3 J.o M.o v0 v1 v2
 exact⟨rfl,⟨j,gs,R.o.1,R.o.2,(q _ _ _).1⟩,(q _ _ _).2⟩
theorem z3f{b:Option Addr}(h:WoB w gw g (.pointer b) sd rate):Calls Tryz.prog 37 #[.pointer (some ⟨gw,0,none⟩)] w fun e w'=>e= .returned (.pointer b)/\w=w':=by
 have d:=η (q7o h);have i:=h.cell 1;clear h;go_enter Tryz.func37,Tryz.ntmps37;go_wp2_with fail;refine d.o.mono ?_;rintro e w1 ⟨rfl,rfl⟩;go_wp2_with fail;go_ret;exact⟨rfl,rfl⟩
def NoW(W:World)(p:Option Addr):Prop:=p=none\/ ∃gw,p=some ⟨gw,0,none⟩/\Blk W gw 100 #[.pointer none,.pointer none,.int .u64 0,.float .f64 0]
theorem q5d(h:NoW w p):Calls Tryz.prog 71 #[.pointer p] w fun e w'=>e= .returned (.bool true)/\w=w':=by
 rcases h with rfl|⟨gw,rfl,h⟩
 ·go_enter Tryz.func71,Tryz.ntmps71
  go_wp2_with fail;go_ret;exact⟨rfl,rfl⟩
 ·have b:=h.cell 0
  clear h;go_enter Tryz.func71,Tryz.ntmps71;go_wp2_with fail;go_ret;exact⟨rfl,rfl⟩
theorem z6L(h:NoW w p):Calls Tryz.prog 36 #[.pointer p] w fun e w'=>e= .returned (.pointer none)/\w=w':=by
 have b:=η (q5d h);clear h;go_enter Tryz.func36,Tryz.ntmps36;go_wp2_with fail;refine b.o.mono ?_;rintro e w1 ⟨rfl,rfl⟩;go_wp2_with fail;go_ret;exact⟨rfl,rfl⟩
theorem z4V(h:NoW w p):Calls Tryz.prog 37 #[.pointer p] w fun e w'=>e= .returned (.pointer none)/\w=w':=by
 have b:=η (q5d h);clear h;go_enter Tryz.func37,Tryz.ntmps37;go_wp2_with fail;refine b.o.mono ?_;rintro e w1 ⟨rfl,rfl⟩;go_wp2_with fail;go_ret;exact⟨rfl,rfl⟩
theorem z9t(h: ∀W,Ext w W->NoW W p)(kd:Int)(nm:List UInt8)(a b:Int)(ev i:Value)(tx:List UInt8):
  Calls Tryz.prog 26 #[.pointer p,.agg #[.int .i64 kd,.string ⟨nm.toArray⟩,.int .i64 a,.int .i64 b,ev,i,.string ⟨tx.toArray⟩]] w fun e w'=>e= .returned (q3f 1 0)/\Ext w w':=by
 have d:=q2U w (.cells #[.int .i64 kd,.string ⟨nm.toArray⟩,.int .i64 a,.int .i64 b,ev,i,.string ⟨tx.toArray⟩] 83) (.cells #[.int .i64 0,.int .i64 0,.slice none 0 0] 80);have j:=η (q5d (h _ d));clear h d;go_enter Tryz.func26,Tryz.ntmps26;go_wp2_with fail;refine j.o.mono ?_;rintro e w1 ⟨rfl,rfl⟩;go_wp2_with fail
 ((try simp only[Exit.inBlock,Exit.then]);refine bodyPost_ret (v:=q3f 1 0) (by rw[q0V rfl];go_simp) rfl ?_)
 exact⟨rfl,q2U _ _ _⟩
end
theorem Evs.blk{w W:World}{b off n:Nat}(h:Evs w (some ⟨b,off,none⟩) n cap L)(k:W.heap[b]? =w.heap[b]?):Evs W (some ⟨b,off,none⟩) n cap L:=
 ⟨h.len,h.fits,h.bound,h.nil,fun j u i=>by
  obtain⟨b2,d,e,hc⟩:=h.rd j u i
  cases e
  exact⟨_,_,rfl,(z0C k _).trans hc⟩⟩
theorem z5z(w:World):Calls Tryz.prog 24 #[] w fun e w'=>e= .returned (.bool true)/\Ext w w':=by
 have HN:=η (y1l w 100000 0 4576918229304087675 (by omega) (by omega) (by omega) (by omega));go_enter Tryz.func24,Tryz.ntmps24;go_wp2_with fail;refine HN.o.mono ?_;rintro e w1 ⟨gw,g,gs,rfl,E⟩;have HD:=η E;have V:=q0B w1 (.cells #[.string ⟨#[116]⟩,.string ⟨#[]⟩,.float .f64 0] 67);have hE:=Evs.lit1 w1 ⟨[116],[],0⟩;have S:=E.more (K':=fun i=>i=w1.heap.size) V fun i r=> .inr (by rw[r,ρ];omega)
 have c0:w1.heap.size<(w1.alloc (.cells #[.string ⟨#[116]⟩,.string ⟨#[]⟩,.float .f64 0] 67)).heap.size:=by rw[ρ];omega
 have HA:=η (z5V S (by omega) [115] (-1) 0 (.slice none 0 0) [] (by simp) (ao:=some ⟨w1.heap.size,0,none⟩) (m:=1) (cap:=1) (L:=[⟨[116],[],0⟩]) (fun W hW hs=>hE.blk (hs _ rfl)) (fun e he=>by rw[List.mem_singleton.1 he];simp) (fun e he=>by rw[List.mem_singleton.1 he];simp) (z:=0) (by rfl));clear E S HN hE;go_wp2_with fail;refine(z3f HD.o.1).mono ?_;rintro e i0 ⟨rfl,rfl⟩;go_wp2_with fail;refine HA.o.mono ?_;rintro e Y ⟨x,y,f0,rfl,⟨h3,d0⟩,d⟩;rcases d with d|d|⟨_,rfl,rfl,rfl⟩
 ·exact absurd rfl d.1
 ·have:=d.2.2.2.2;omega
 have X:=q0B Y (.cells #[.int .i64 0,.int .i64 0,.slice none 0 0] 80);have h4:=h3.more (K':=fun i=>i=Y.heap.size) X fun i r=> .inr (by rw[r,ρ];omega)
 have G:=η (Blk.new Y 80 #[.int .i64 0,.int .i64 0,.slice none 0 0]);have HC:=η (z7g h4 [] 0 0 (.slice none 0 0) [] (ka:=none) (kn:=0) (kc:=0) (xs:=[]) ⟨rfl,by omega,by omega,fun _=>rfl,Rd.nil _ _⟩ (fun a e=>by cases e));clear h3 d0 V c0 X h4 HA HD;go_wp2_with fail;refine HC.o.mono ?_;rintro e Z ⟨rfl,h5,U⟩;have v:=q0B Z (.cells #[.int .i64 0,.int .i64 0,.slice none 0 0] 80);have R:=G.o.same (U _ rfl);have I:=η (R.ext v);have M:=η (Blk.new Z 80 #[.int .i64 0,.int .i64 0,.slice none 0 0]);have h6:=h5.more (K':=fun i=>i=Y.heap.size\/i=Z.heap.size) v fun i r=>r.imp id fun e=>by rw[e,ρ];omega
 have H6:=η h6;have Q:=η (z5W h6 [] 0 0 (.slice none 0 0) (.slice none 0 0) []);clear h5 U v R h6 HC G;go_wp2_with fail;refine Q.o.mono ?_;rintro e w7 ⟨rfl,D⟩;have q:=D.trans (q0B w7 (.cells #[.int .i64 61,.int .i64 0,.slice none 0 0] 80));have J:=η (I.o.ext q);have N:=η (M.o.ext q);have O:=η (Blk.new w7 80 #[.int .i64 61,.int .i64 0,.slice none 0 0]);have h8:=H6.o.more (K':=fun i=>(i=Y.heap.size\/i=Z.heap.size)\/i=w7.heap.size) q fun i r=>r.imp id fun e=>by have:=D.size;simp only[ρ] at this⊢;omega
 have HO:=η (z9Q h8 (by omega) (by omega) (by omega) [] 0 0 (.slice none 0 0) (.slice none 0 0) []);clear D q Q H6 I M h8;go_wp2_with fail;refine HO.o.mono ?_;rintro e w9 ⟨rfl,⟨j,g0,a0,b0,h9⟩,l⟩;have b:=q0B w9 (.cells #[.int .i64 0,.int .i64 0,.slice none 0 0] 80);have ha:=(J.o.same (l _ (.inl (.inl rfl)))).ext b;have hb:=(N.o.same (l _ (.inl (.inr rfl)))).ext b;have hc:=(O.o.same (l _ (.inr rfl))).ext b;have E:=Blk.new w9 80 #[.int .i64 0,.int .i64 0,.slice none 0 0];have F:=η (h9.grow b);have e0:=ha.cell 0;have e1:=ha.cell 1;have e2:=hb.cell 0;have e3:=hc.cell 0;have e4:=E.cell 0;clear h9 l b ha hb hc E HO J N O a0 b0;go_wp2_with fail;refine(z3f F.o.1).mono ?_;rintro e h0 ⟨rfl,rfl⟩;go_wp2_with fail;go_ret;exact⟨rfl,F.o.base⟩
theorem NoW.ext{W W':World}(h:NoW W p)(k:Ext W W'):NoW W' p:=by
 rcases h with h|⟨gw,h1,h2⟩
 ·exact .inl h
 ·exact .inr ⟨gw,h1,Blk.ext h2 k⟩
theorem worldsnone_c(x:Stp)(j:Int)(w:World)(he:Evs w x.ao x.n x.cap x.L)(hk:Ints w x.ka x.kn x.kc x.xs)(ho:z4W x)(hr: -9223372036854775808<=j/\j<=9223372036854775807):
  Calls Tryz.prog 7 #[.agg #[.int .i64 x.kd,.string ⟨x.nm.toArray⟩,.int .i64 x.a,.int .i64 x.b,.slice x.ao x.n x.cap,.slice x.ka x.kn x.kc,.string ⟨x.tx.toArray⟩],.int .i64 j] w fun e w'=>e= .returned (.bool true)/\Ext w w':=by
 have M:=q2U w (.cells #[.int .i64 x.kd,.string ⟨x.nm.toArray⟩,.int .i64 x.a,.int .i64 x.b,.slice x.ao x.n x.cap,.slice x.ka x.kn x.kc,.string ⟨x.tx.toArray⟩] 83) (.cells #[.int .i64 x.kd,.string ⟨x.nm.toArray⟩,.int .i64 x.a,.int .i64 x.b,.slice x.ao x.n x.cap,.slice x.ka x.kn x.kc,.string ⟨x.tx.toArray⟩] 83);have d:=Blk.new w 83 #[.int .i64 x.kd,.string ⟨x.nm.toArray⟩,.int .i64 x.a,.int .i64 x.b,.slice x.ao x.n x.cap,.slice x.ka x.kn x.kc,.string ⟨x.tx.toArray⟩];have hg:=(z5t 1 _ (Stps.one (w.alloc (.cells #[.int .i64 x.kd,.string ⟨x.nm.toArray⟩,.int .i64 x.a,.int .i64 x.b,.slice x.ao x.n x.cap,.slice x.ka x.kn x.kc,.string ⟨x.tx.toArray⟩] 83)) x (he.ext (q0B _ _)) (hk.ext (q0B _ _)) ho))
 rw[ρ] at hg;have HG:=η hg;have y:=η M;have HB:=η (d.ext (q0B _ (.cells #[.int .i64 x.kd,.string ⟨x.nm.toArray⟩,.int .i64 x.a,.int .i64 x.b,.slice x.ao x.n x.cap,.slice x.ka x.kn x.kc,.string ⟨x.tx.toArray⟩] 83)));have S:=d.cell 0;have U:=d.cell 1;have V:=d.cell 2;have X:=d.cell 3;have Y:=d.cell 4;have Z:=d.cell 5;have z6:=d.cell 6;clear M d he hk ho hg;obtain⟨kd,nm,xa,xb,I,en,r,L,ka,kn,kc,xs,tx⟩:=x;simp only at HG y HB S U V X Y Z z6⊢;go_enter Tryz.func7,Tryz.ntmps7;go_wp2_with fail;refine HG.o.mono ?_;rintro e w3 ⟨rfl,E⟩;have a0:=η (HB.o.ext E);have G:=η (y.o.trans E);clear E S U V X Y Z z6 HG y HB;generalize q8T [⟨kd,nm,xa,xb,I,en,r,L,ka,kn,kc,xs,tx⟩] 1=gr
 cases gr with
 | true=>
  have HL:=η (z5z w3);go_wp2_with fail;refine HL.o.mono ?_;rintro e w4 ⟨rfl,N⟩;have g0:=η (G.o.trans N);clear N;go_wp2_with fail
  (try rw[Exit.noGoto_ret])
  go_ret;exact⟨rfl,g0.o⟩
 | false=>
  go_wp2_with fail
  go_loopw [5,6] (fun p i W=> ∃(q:Option Addr) (k:Nat),p= .pointer q/\k<=2/\i= .int .i64 (k:Int)/\Hd (NoW W q)/\Hd (Ext w3 W)) (fun _ i _=>2-(intOf i).toNat)
  case atStart=>exact⟨none,0,rfl,by omega,rfl,η (.inl rfl),η (Ext.refl _)⟩
  case round=>
   obtain⟨q,k,rfl,hk,rfl,HN,HX⟩:=hrel;by_cases j0:k<2
   ·have hd:decide ((k:Int)<(2:Int))=true:=ζ (by omega)
    have q8:IntKind.i64.wrap ((k:Int)+1)=(k:Int)+1:=by rw[ν];omega
    have d:=a0.o.ext HX.o;have S:=d.cell 0;have U:=d.cell 1;have V:=d.cell 2;have X:=d.cell 3;have Y:=d.cell 4;have Z:=d.cell 5;have z6:=d.cell 6;have HD:=η (z9t (w:=wr) (p:=q) (fun W hW=>HN.o.ext hW) kd nm xa xb (.slice I en r) (.slice ka kn kc) tx);clear d;go_wp2_with fail;refine HD.o.mono ?_;rintro e R ⟨rfl,O⟩;have F:=O.trans (q0B R (.cells #[.int .i64 1,.int .i64 0,.slice none 0 0] 80));have v:=η (HN.o.ext F);have h0:=η (HX.o.trans F);have Q:=Blk.new R 80 #[.int .i64 1,.int .i64 0,.slice none 0 0];have e0:=Q.cell 0;have e1:=Q.cell 1;have e2:=Q.cell 2;have i0:=η (q5d v.o);have d0:=η (z6L v.o);have f0:=η (z4V v.o);have l:=h0.o.trans (q0B _ (.cells #[.pointer none,.pointer none,.int .u64 0,.float .f64 0] 100));have J:=Blk.new (R.alloc (.cells #[.int .i64 1,.int .i64 0,.slice none 0 0] 80)) 100 #[.pointer none,.pointer none,.int .u64 0,.float .f64 0];have D:=η l;have b0:=η J;clear O F Q HD S U V X Y Z z6 l J;go_wp2_with fail;refine d0.o.mono ?_;rintro e w8 ⟨rfl,rfl⟩;go_wp2_with fail;refine f0.o.mono ?_;rintro e w9 ⟨rfl,rfl⟩;go_wp2_with fail
    go_roundw
    case rel=>exact⟨_,k+1,rfl,by omega,by go_num,η (.inr ⟨_,rfl,by have h7:=b0.o;rwa [ρ] at h7⟩),D⟩
    case measure=>simp[intOf];omega
   ·obtain rfl:k=2:=by omega
    have hd:decide (((2:Nat):Int)<(2:Int))=false:=ε (by omega);have c0:=η (z3e wr (min j (-1)) 1 4607182418800017408 (.inl (by omega)));have HM:=η (z3e wr (max j 1048577) 1 4607182418800017408 (.inr (by omega)));have HL:=η (z5z wr);have HE:=η (G.o.trans HX.o);go_wp2_with fail;refine c0.o.mono ?_;rintro e R ⟨rfl,rfl⟩;go_wp2_with fail;refine HM.o.mono ?_;rintro e w6 ⟨rfl,rfl⟩;go_wp2_with fail;refine HL.o.mono ?_;rintro e w7 ⟨rfl,l⟩;have D:=η (HE.o.trans l);clear l;go_wp2_with fail;go_ret;exact⟨rfl,D.o⟩
end
end Go.Proofs.YtfiibpgoplcgkaaGreatDoor
