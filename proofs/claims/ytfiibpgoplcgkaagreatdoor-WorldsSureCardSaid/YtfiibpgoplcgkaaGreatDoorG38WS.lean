/- The shelf's contract of slices.Reverse at []api.Told at this seat, in plain words. -/
import Derived.Shelf.SlicesQ.Reverse
import Derived.Ground.SlgnProg
import Derived.Test.YtfiibpgoplcgkaaGreatDoorG37WS
set_option linter.unusedVariables false
set_option linter.unusedSimpArgs false
set_option maxRecDepth 100000
set_option maxHeartbeats 25600000
namespace Go.Proofs
open Go.Shelf
end Go.Proofs
namespace Go.Proofs.YtfiibpgoplcgkaaGreatDoor
variable {u' n' cap kn kc:Nat}{x y:Int}{ao ka:Option Addr}{L:List Ev}{xs:List Int}
section
open Go.RowKit Go.Sort Go.Lib
instance : Inhabited To:=⟨to0⟩
section
variable {wb w W W1 W2:World}{g gl gs gx rate:Nat}{m:Man}{ws:List En}{c s sd:Int}{u cnt:Nat}{B:List En}{C:Cks}{P:Pbs}{sure:Int}{K K':Nat->Prop}
end
end
section
open Go.RowKit
theorem z1U : ∀(C:Cks) (b:Nat),(∀ps∈C,ps≠[])->C.length<=(q0k b C).length
 |[],_,_=>ι _
 | ps::t,b,h=>by
  have h1:=z1U t (b+4096) fun q hq=>h q (.tail _ hq)
  have h2:0<ps.length:=List.length_pos_iff.2 (h ps (.head _));rw[q0k,θ,q5D,χ];omega
theorem z5U{C:Cks}(h:okC C):C.length<=(q0k 0 C).length+1:=by
 rcases List.eq_nil_or_concat C with rfl|⟨D,ps,rfl⟩
 ·exact υ _
 ·rw[List.concat_eq_append] at*
  have h1:=z1U D 0 fun b hq=>h.full b (by simpa using hq)
  rw[q1n,θ,θ,List.length_singleton];omega
theorem z0x{bs:List Bt}(h:okBs bs):(tos bs).length<=8*bs.length:=by
 induction bs using z0s with
 |h0=>exact ι _
 | h1 l b ih=>
  obtain⟨h1,h2,_⟩:=okBs_snoc.1 h;have h3:=(q1H h2.1).2.2.2.1;have h4:=ih h1;rw[q2o,q7B,θ,q3r,θ,List.length_singleton];omega
def SKS(wb W:World)(g gs rate:Nat)(sd c s:Int)(u n:Nat)(bs:List Bt)(k:Nat)(K:Nat->Prop):Prop:=
 ∃gl gx m ws B C sure P,StoP wb W g gs gl gx rate m ws sd c s u (40+3*n) B C sure P K/\q1j P=bs/\m.nx<=n/\bs.length<=n/\(k<=bs.length/\ ∀y∈P.take k,z9l y<=sure)/\0<=sd/\sd<18446744073709551616
abbrev SK(wb W:World)(g gs rate:Nat)(sd c s:Int)(u n:Nat)(bs:List Bt)(K:Nat->Prop):Prop:=SKS wb W g gs rate sd c s u n bs 0 K
def SQ(wb W:World)(g:Nat)(sd c s:Int)(u n:Nat)(bs:List Bt)(K:Nat->Prop):Prop:=
 ∃m B C P,DKQ wb W g m c s u (40+3*n) B C K/\y4R sd m B C P/\B.Nodup/\q1j P=bs/\m.nx<=n/\bs.length<=n/\0<=sd/\sd<18446744073709551616
section
variable {wb w W W':World}{g gs rate u n:Nat}{sd c s:Int}{bs:List Bt}{k0:Nat}{K K':Nat->Prop}
theorem StoP.bounds{gl gx:Nat}{m:Man}{ws:List En}{cnt:Nat}{B:List En}{C:Cks}{sure:Int}{P:Pbs}(h:StoP wb W g gs gl gx rate m ws sd c s u cnt B C sure P K)(d:q1j P=bs)(j:bs.length<=n):
  (tos bs).length<=8*n/\B.length<=8*n/\C.length<=n+1/\okBs bs:=by
 have b:okBs bs:=d▸h.stE.ok;have h1:=z0x b;have h2:=h.len;rw[d] at h2;have h3:=z5U h.i.cOk;rw[h.recE,q4i] at h3;have h4:bs.length=P.length:=by rw[<-d];exact List.length_map _
 exact⟨by omega,by omega,by omega,b⟩
theorem SKS.base(h:SKS wb W g gs rate sd c s u n bs k0 K):Ext wb W:=by
 obtain⟨gl,gx,m,ws,B,C,sure,P,h1,_⟩:=h;exact h1.base
theorem SKS.klt(h:SKS wb W g gs rate sd c s u n bs k0 K): ∀i,K i->i<W.heap.size:=by
 obtain⟨gl,gx,m,ws,B,C,sure,P,h1,_⟩:=h;exact h1.klt
theorem SKS.grow(h:SKS wb W g gs rate sd c s u n bs k0 K)(k:Ext W W'):SKS wb W' g gs rate sd c s u n bs k0 K:=by
 obtain⟨gl,gx,m,ws,B,C,sure,P,h1,h2⟩:=h;exact⟨gl,gx,m,ws,B,C,sure,P,h1.grow k,h2⟩
theorem SKS.more(h:SKS wb W g gs rate sd c s u n bs k0 K)(k:Ext W W')(hK: ∀i,K' i->K i\/(W.heap.size<=i/\i<W'.heap.size)):SKS wb W' g gs rate sd c s u n bs k0 K':=by
 obtain⟨gl,gx,m,ws,B,C,sure,P,h1,h2⟩:=h;exact⟨gl,gx,m,ws,B,C,sure,P,h1.more k hK,h2⟩
theorem SKS.beside(h:SKS wb W g gs rate sd c s u n bs k0 K)(k: ∀i,K' i->K i):SKS wb W g gs rate sd c s u n bs k0 K':=by
 obtain⟨gl,gx,m,ws,B,C,sure,P,h1,h2⟩:=h;exact⟨gl,gx,m,ws,B,C,sure,P,h1.beside k,h2⟩
theorem SKS.sideM(h:SKS wb W g gs rate sd c s u n bs k0 K)(b:W.heap.size<=W'.heap.size)(d:Ext wb W')(k: ∀i,i<W.heap.size->¬K i->W'.heap[i]? =W.heap[i]?)(hK: ∀i,K' i->K i\/(W.heap.size<=i/\i<W'.heap.size)):SKS wb W' g gs rate sd c s u n bs k0 K':=by
 obtain⟨gl,gx,m,ws,B,C,sure,P,h1,h2⟩:=h;exact⟨gl,gx,m,ws,B,C,sure,P,h1.sideM b d k hK,h2⟩
theorem SKS.mono(h:SKS wb W g gs rate sd c s u n bs k0 K)(i:u<=u')(d:n<=n'):SKS wb W g gs rate sd c s u' n' bs k0 K:=by
 obtain⟨gl,gx,m,ws,B,C,sure,P,h1,h2,h3,h4,b⟩:=h;exact⟨gl,gx,m,ws,B,C,sure,P,h1.mono (by omega) (by omega),h2,by omega,by omega,b⟩
def y4p(wb w:World)(g gs rate:Nat)(sd c s:Int)(u n:Nat)(bs:List Bt)(k0:Nat)(K:Nat->Prop)(R:List To)(z:Int)(e:Ending)(w':World):Prop:=
 ∃v,e= .returned (.tuple #[v,.int .i64 z])/\SKS wb w' g gs rate sd c s u n bs k0 (fun i=>K i\/v.ownBlock=some i)/\Stay K w w'/\w'.ownsRow wb.heap.size 69 5 v R.length (z2S R)/\ ∀i,K i->v.ownBlock≠some i
theorem SKS.last(h:SKS wb w g gs rate sd c s u n bs k0 K)(r:n<=1000)(b:List UInt8)(j:b.length<=4611686018427387903)(i:z0Y bs b=(x,y)):
  Calls Tryz.prog 52 #[.pointer (some ⟨gs,0,none⟩),.string ⟨b.toArray⟩] w fun e w'=>e= .returned (.tuple #[.int .i64 x,.int .i64 y])/\SKS wb w' g gs rate sd c s u n bs k0 K/\Stay K w w':=by
 obtain⟨gl,gx,m,ws,B,C,sure,P,h1,rfl,h3,h4,d⟩:=h;obtain⟨b1,b2,b3,b4⟩:=h1.bounds rfl h4;have q:=z0N (q1j P) b;refine(z8b h1 b j (by omega) (by omega) i).mono ?_;rintro e w' ⟨rfl,l,o⟩;exact⟨rfl,⟨gl,gx,m,ws,B,C,sure,P,l,rfl,h3,h4,d⟩,o⟩
theorem SKS.all(h:SKS wb w g gs rate sd c s u n bs k0 K)(j:n<=1000):Calls Tryz.prog 51 #[.pointer (some ⟨gs,0,none⟩)] w (y4p wb w g gs rate sd c s u n bs k0 K (tos bs) 0):=by
 obtain⟨gl,gx,m,ws,B,C,sure,P,h1,rfl,h3,h4,b⟩:=h;obtain⟨b1,b2,b3,b4⟩:=h1.bounds rfl h4;refine(y3t h1 rfl (by omega)).mono ?_;rintro e w' ⟨v,rfl,d,i⟩;exact⟨v,rfl,⟨gl,gx,m,ws,B,C,sure,P,d,rfl,h3,h4,b⟩,i⟩
theorem StoP.sure{gl gx:Nat}{m:Man}{ws:List En}{cnt:Nat}{B:List En}{C:Cks}{sure:Int}{P:Pbs}(h:StoP wb W g gs gl gx rate m ws sd c s u cnt B C sure P K)(d:q1j P=bs):bs.length<=bs.length/\ ∀y∈P.take bs.length,z9l y<=q0Q C sure:=
 ⟨ι _,fun y b=>(h.ends (List.mem_of_mem_take b)).2⟩
theorem SKS.flushS(h:SKS wb w g gs rate sd c s u n bs k0 K):Calls Tryz.prog 53 #[.pointer (some ⟨gs,0,none⟩)] w fun e w'=>e= .returned (.int .i64 0)/\SKS wb w' g gs rate sd c s u n bs bs.length K/\Stay K w w':=by
 obtain⟨gl,gx,m,ws,B,C,sure,P,h1,h2,h3,h4,_,b⟩:=h;refine(y0b h1).mono ?_;rintro e w' ⟨rfl,d,i⟩;exact⟨rfl,⟨gl,gx,m,ws,B,C,_,P,d,h2,h3,h4,h1.sure h2,b⟩,i⟩
theorem SKS.append(h:SKS wb w g gs rate sd c s u n bs k0 K)(Q:n<=86)(b:List UInt8)(G:b.length<=4611686018427387903)(ex:Int){k:Nat}(I: ∀W,Ext wb W->Stay K w W->Evs W ao k cap L)(F:q4k L)
  (o: ∀e∈L,e.we<18446744073709551616){z:Int}(J:y0p bs b ex L=z):
  Calls Tryz.prog 38 #[.pointer (some ⟨gs,0,none⟩),.string ⟨b.toArray⟩,.int .i64 ex,.slice ao k cap] w fun e w'=>
   ∃ x y d,e= .returned (.tuple #[.int .i64 x,.int .i64 y])/\SKS wb w' g gs rate sd c s (u+2024) (n+1) d k0 K/\Stay K w w'/\
    ((z≠0/\x=0/\y=z/\d=bs)\/(z=0/\x=0/\y=60/\d=bs/\c-(u:Int)-2024<6000)\/(z=0/\x=((q1V bs b).length:Int)/\y=0/\d=bs++[⟨b,(q1V bs b).length,L⟩])):=by
 obtain⟨gl,gx,m,ws,B,C,sure,P,h1,rfl,h3,h4,l⟩:=h;obtain⟨b1,b2,b3,b4⟩:=h1.bounds rfl h4;have N:=z0N (q1j P) b;refine(z8Y h1 b G ex I F o (by omega) (by omega) (by omega)).mono ?_;rw[J];rintro e w' ⟨⟨k0,rfl,j⟩|⟨rfl,rfl,j,M⟩|⟨rfl,M,pos,v,B',E,i,rfl,j,r⟩,q⟩
 ·exact⟨_,_,_,rfl,⟨gl,gx,m,ws,B,C,sure,P,j.mono (by omega) (by omega),rfl,by omega,by omega,l⟩,q,.inl ⟨k0,rfl,rfl,rfl⟩⟩
 ·exact⟨_,_,_,rfl,⟨gl,gx,m,ws,B,C,sure,P,j.mono (by omega) (by omega),rfl,by omega,by omega,l⟩,q,.inr (.inl ⟨rfl,rfl,rfl,rfl,by omega⟩)⟩
 ·exact⟨_,_,_,rfl,⟨gl,gx,m,v,B',E,i,_,j.mono (by omega) (by omega),rfl,by omega,by rw[q4H,θ,List.length_singleton];omega,⟨by rw[q4H,θ,List.length_singleton];omega,fun y D=>by
   have O:P.length=(q1j P).length:=(List.length_map _).symm;rw[List.take_append_of_le_length (by omega)] at D
   exact Int.le_trans (l.1.2 y D) r⟩,l.2⟩,q,.inr (.inr ⟨rfl,rfl,rfl,q4H _ _ _⟩)⟩
theorem SQ.open(h:SQ wb w g sd c s u n bs K)(v:n<=200)(rate:Nat):Calls Tryz.prog 33 #[.pointer (some ⟨g,0,none⟩),.int .u64 sd,.float .f64 rate] w fun e w'=>
  ∃gs,e= .returned (.tuple #[.pointer (some ⟨gs,0,none⟩),.int .i64 0])/\SK wb w' g gs rate sd c s u n bs K/\Stay K w w':=by
 obtain⟨m,B,C,P,h1,h2,h3,rfl,h4,i,b,d⟩:=h;have r:=z0x h2.ok;refine(y2O h1 h2 b d (by omega) (by omega) h3 rate).mono ?_;rintro e w' ⟨gs,gl,gx,q,ws,B',sure,rfl,l,D,o⟩;exact⟨gs,rfl,⟨gl,gx,q,ws,B',C,sure,P,l,rfl,by omega,i,⟨υ _,fun y j=>by cases j⟩,b,d⟩,o⟩
theorem DkK.sq(h:DkK noO wb w g c s [] K)(sd:Int)(d:0<=sd)(i:sd<18446744073709551616):SQ wb w g sd c s 0 0 [] K:=by
 obtain⟨F,σ,h1,h2⟩:=h;have l:Pl σ c s []:=by have:=h2.pl;simpa [q1b,noO,q1R,q5Q,q2i,q3e] using this
 have o:q0e 0 0 []=true:=by decide
 refine⟨⟨0,0,sd,[]⟩,[],[],[],⟨⟨⟨0,0,sd,[]⟩,0,[],fun _=>none,0⟩,σ,fun _=>none,F,rfl,rfl,h1,⟨⟨⟨[],l,List.Pairwise.nil,fun _=>rfl,υ _,υ _⟩,⟨o,d,i⟩,(fun n j=>by cases j),(fun n e he=>by cases he),(fun nm j=>absurd rfl j),okM.nil,okM.nil,fun x=>?_⟩,.inr ⟨rfl,rfl,rfl,rfl⟩,⟨⟨fun k _=>by simp,h2.sr,h2.le⟩,fun n e he=>by cases he⟩⟩,okC.nil⟩,
  ⟨rfl,rfl,okBs.nil,(fun x b=>by cases b),(fun x b=>by cases b),by show(0:Int)<=q1u [];rw[z0J];decide⟩,List.nodup_nil,rfl,Int.le_refl _,ι _,d,i⟩
 constructor
 ·intro b;cases b
 ·rintro(b|⟨n,e,he,_⟩)
  ·cases b
  ·cases he
end
structure y4l(sd:Int)(m:Man)(B:List En)(C:Cks)(P:Pbs):Prop where
 sdE:m.sd=sd
 recE:q0k 0 C=q9B P
 ok:okBs (q1j P)
 sub:m.ck<=q1u C-> ∀x∈B,x∈q3t sd P
 all: ∀x∈q3t sd P,x∈B\/m.ck<=x.2.2
section
variable {wb w W W1 W2:World}{g gl gs gx rate:Nat}{m:Man}{ws:List En}{c s sd:Int}{u cnt:Nat}{B:List En}{C:Cks}{P:Pbs}{sure:Int}{K K':Nat->Prop}
theorem y2P(J:Calls Tryz.prog 83 #[.pointer (some ⟨g,0,none⟩)] w fun e w'=> ∃gl,e= .returned (.tuple #[.pointer (some ⟨gl,0,none⟩),.int .i64 0])/\DKR wb w' g gl m c s u cnt B C (q1u C) K/\Stay K w w')(N:okC C)(M:m.ok)
  (d:y4l sd m B C P)(X:0<=sd)(Y:sd<18446744073709551616)(b0:40<=cnt)(hN:(tos (q1j P)).length<=2000)(a0:B.length<=2000)(rate:Nat):
  Calls Tryz.prog 33 #[.pointer (some ⟨g,0,none⟩),.int .u64 sd,.float .f64 rate] w fun e w'=>
   ∃gs gl gx j ws B',e= .returned (.tuple #[.pointer (some ⟨gs,0,none⟩),.int .i64 0])/\StoP wb w' g gs gl gx rate j ws sd c s u cnt B' C (q1u C) P K/\(j.nx<=m.nx\/j.nx=0)/\Stay K w w':=by
 have d0:=z4A d.ok;have e0:(q0k 0 C).length<=2000:=by rw[d.recE,q4i];omega
 have c0:=(Man.bounds M).2.1;have Z:=η J;clear J;go_enter Tryz.func33,Tryz.ntmps33;go_wp2_with fail;refine Z.o.mono ?_;rintro e w1 ⟨gl,rfl,hd,l⟩;have Q:=η l;have HR:=η (z8W hd (by omega) (by omega) X Y rate);clear hd l Z;go_wp2_with fail;refine HR.o.mono ?_;rintro e F ⟨⟨gx,j,B2,D,an,rfl,v,V,hw⟩|⟨rfl,_,r⟩,l⟩
 case inr=>
  exfalso
  rcases r with⟨_,r⟩|r
  ·rw[q4P sd d.recE d.ok] at r;cases r
  ·rw[q4P sd d.recE d.ok] at r;cases r
 rw[q4P sd d.recE d.ok] at V;obtain rfl:=Option.some.inj V;have G:j.sd=sd/\(j.nx<=m.nx\/j.nx=0)/\StI sd (q1Y (q3t sd (P.filter fun y=>decide (j.ck<=(y.1:Int)))) B2) P/\j.ck<=q1u C/\ ∀x∈q1Y (q3t sd (P.filter fun y=>decide (j.ck<=(y.1:Int)))) [],j.ck<=x.2.2:=by
  have q:=z4p N d.recE;rcases hw with⟨_,rfl,h1,h2,h3,h4⟩|⟨_,rfl,rfl,_⟩
  ·refine⟨h1,.inl (Int.le_refl _),⟨d.ok,q,fun x=>?_⟩,h2,fun x b=>?_⟩
   ·rw [mem_addEs,q2y,<-h4]
    constructor
    ·rintro(b|b)
     ·exact b.1
     ·exact d.sub h2 x b
    ·intro b
     rcases d.all x b with U|U
     ·exact .inr U
     ·exact .inl ⟨b,U⟩
   ·rw[mem_addEs,q2y] at b
    rcases b with b|b
    ·exact b.2
    ·cases b
  ·refine⟨rfl,.inr rfl,⟨d.ok,q,fun x=>?_⟩,(z3A N).1,fun x b=>?_⟩
   ·rw [mem_addEs,q2y]
    constructor
    ·rintro(b|b)
     ·exact b.1
     ·cases b
    ·intro b
     obtain⟨y,hy,k,hk,rfl⟩:=mem_entsP.1 b;exact .inl ⟨b,by show(0:Int)<=(y.1:Int);omega⟩
   ·rw[mem_addEs,q2y] at b
    rcases b with b|b
    ·exact b.2
    ·cases b
 obtain⟨f1,f2,f3,S,f5⟩:=G;have E:=q0C F (.cells #[.pointer (some ⟨gl,0,none⟩),.pointer (some ⟨gx,0,none⟩),.int .u64 sd] 131);have I:¬K F.heap.size:=fun e=>by have:=v.klt _ e;omega
 have HF:Hd (StoP wb (F.alloc (.cells #[.pointer (some ⟨gl,0,none⟩),.pointer (some ⟨gx,0,none⟩),.int .u64 sd] 131)) g F.heap.size gl gx rate j _ sd c s u cnt _ C (q1u C) P K):=η
  ⟨v.more E (fun i v=>v.imp id fun e=>by rw[ρ];omega),Blk.new F _ _,f1,d.recE,f3,S,f5,S,⟨I,v.base.size⟩⟩
 have R:Hd (Stay K w (F.alloc (.cells #[.pointer (some ⟨gl,0,none⟩),.pointer (some ⟨gx,0,none⟩),.int .u64 sd] 131))):=η ((Q.o.trans l).trans (v.kExt E));have O:=η f2;clear v V hw l f1 f2 f3 S f5 E I HR;go_wp2_with fail;go_ret2;exact⟨_,gl,gx,j,_,_,rfl,HF.o,O.o,R.o⟩
end
def SKD(wb W:World)(g:Nat)(sd c s:Int)(u n:Nat)(bs:List Bt)(k:Nat)(K:Nat->Prop):Prop:=
 ∃B C sure P st σ φ F xs,st.w=[]/\DkF wb W g F (q5a σ xs) K/\okD σ/\(PInv st σ c s φ u (40+3*n) B/\q6B φ st.m/\z9E st φ σ C sure)/\okC C/\y4R sd st.m B C P/\P.Pairwise (fun a b=>a.1<b.1)/\B.Nodup/\q1j P=bs/\st.m.nx<=n/\bs.length<=n/\(∀y∈P.take k,z9l y<=sure)/\k<=bs.length/\0<=sd/\sd<18446744073709551616
def SQX(wb W:World)(g:Nat)(sd c s:Int)(u n:Nat)(bs:List Bt)(K:Nat->Prop):Prop:=
 ∃m B C P,DKX wb W g m c s u (40+3*n) B C K/\y4l sd m B C P/\B.length<=8*n/\q1j P=bs/\m.nx<=n/\bs.length<=n/\0<=sd/\sd<18446744073709551616
section
variable {wb w W W':World}{g gs rate u n:Nat}{sd c s:Int}{bs:List Bt}{k0:Nat}{K K':Nat->Prop}
theorem SKS.crash(h:SKS wb w g gs rate sd c s u n bs k0 K)(U:Ints w ka kn kc xs)(v: ∀a,ka=some a->K a.block):
  Calls Tryz.prog 31 #[.pointer (some ⟨g,0,none⟩),.slice ka kn kc] w fun e w'=>e= .returned (.int .i64 0)/\SKD wb w' g sd c s u n bs k0 K/\Stay K w w':=by
 obtain⟨gl,gx,m,ws,B,C,sure,P,h1,h2,h3,h4,⟨N,O⟩,Q⟩:=h;obtain⟨I,V,J⟩:=h1.i.forget;obtain⟨st,σ,φ,Z,F,rfl,X,q,G,Y,q6⟩:=V;have E:=G.1.fl.up;have R:q7F σ xs=(0,q5a σ xs):=by unfold q7F;rw[κ (by rw[E];decide)]
 have D:I.Nodup:=G.1.okB.sort.imp fun {a b} l e=>by rw[e,q0j] at l;cases l
 refine(z9U q.d ka kn kc xs (U.off fun a e=>(q.k a.block (.inl (.inl (v a e)))).2)).mono ?_;rw[R];rintro e w' ⟨rfl,S⟩;obtain⟨o,M⟩:=q.disk S;refine⟨rfl,⟨I,C,sure,P,st,σ,φ,_,xs,X,⟨o.d,o.bF,o.ext,fun i r=>o.k i (.inl (.inl r))⟩,q.d.okD,G,Y.2,⟨h1.sdE,h1.recE,h1.stE.ok,fun x j=>(h1.stE.ents x).1 ((J x).2 (.inr j)),fun x j=>?_,h1.ckE⟩,h1.stE.pos,D,h2,h3,h4,O,N,Q⟩,fun i r=>M i (.inl (.inl r))⟩;rcases(J x).1 ((h1.stE.ents x).2 j) with j|j
 ·exact .inr (h1.wsE x j)
 ·exact .inl j
theorem SKD.klt(h:SKD wb W g sd c s u n bs k0 K): ∀i,K i->i<W.heap.size:=by
 obtain⟨B,C,sure,P,st,σ,φ,F,xs,h1,h2,_⟩:=h;exact fun i b=>(h2.k i b).1
theorem okBs.take{bs:List Bt}(h:okBs bs)(j:Nat):okBs (bs.take j):=fun l b r e=>h l b (r++bs.drop j) (by
 rw[<-List.cons_append,<-List.append_assoc,<-e,List.take_append_drop])
theorem z1S(P:Pbs)(j:Nat):q1j (P.take j)=(q1j P).take j:=by unfold q1j;rw[List.map_take]
theorem y2G{P:Pbs}(h:P.Pairwise fun a b=>a.1<b.1){y z:Nat×Bt}(d:y∈P)(i:z∈P)(e:y.1=z.1):y=z:=by
 have h1:=q7g h d;have h2:=q7g h i;rw[e,h2] at h1;exact(Option.some.inj h1).symm
theorem SKD.start(h:SKD wb w g sd c s u n bs k0 K)(hs:0<=s/\s<1000000):
  Calls Tryz.prog 32 #[.pointer (some ⟨g,0,none⟩)] w fun e w'=>e= .returned (.int .i64 0)/\(∃j,k0<=j/\j<=bs.length/\SQX wb w' g sd c (s+1) u n (bs.take j) K)/\Stay K w w':=by
 obtain⟨B,C,sure,P,st,σ,φ,F,xs,h1,h2,ho,⟨h3,a0,D⟩,h4,E,r,h6,rfl,h8,h9,V,f0,X⟩:=h;have M:=y2S h2.d;rw[z8v] at M;refine M.mono ?_;rintro e w' ⟨rfl,hd⟩;obtain⟨d1,d2⟩:=h2.disk hd;obtain⟨U,I,p1,p2,p3,p4,p5,p6⟩:=D.toCksS.crash h3 h4 ho hs xs;obtain⟨⟨R,hR⟩,e0,Q⟩:=p6;have l:=E.recE;obtain⟨j,hj⟩: ∃j,(q0k 0 I).length=j:=⟨_,rfl⟩
 have h0:j<=P.length:=by
  have:=congrArg List.length hR;rw[l,q4i,θ] at this;omega
 have J:q0k 0 I=q9B (P.take j):=by
  have b:(q0k 0 C).take j=q0k 0 I:=by rw[hR,List.take_append_of_le_length (by omega),Δ (by omega)]
  rw[<-b,l];unfold q9B;rw[List.map_take]
 have q: ∀y∈P,(y.1,btB y.2)∈q0k 0 I->y∈P.take j:=fun y v hr=>by
  rw[J] at hr;obtain⟨z,hz,e⟩:=List.mem_map.1 hr;have e1:z.1=y.1:=(Prod.mk.inj e).1;rw[<-y2G r (List.mem_of_mem_take hz) v e1];exact hz
 have d0:P.length=(q1j P).length:=(List.length_map _).symm;have c0:k0<=j:=by
  rcases Nat.lt_or_ge j k0 with i0|b0
  ·exfalso
   have N:j<P.length:=by omega
   have v:P[j]∈P.take k0:=by
    rw[List.mem_take_iff_getElem];exact⟨j,by omega,rfl⟩
   have b:=V _ v;unfold z9l at b;have S:P[j]∈P:=List.getElem_mem N;have o:(P[j].1,btB P[j].2)∈q0k 0 C:=by rw[l];exact List.mem_map.2 ⟨_,S,rfl⟩
   have Y:=q _ S (e0 _ o (by simp only;omega));obtain⟨i,hi,e⟩:=List.mem_take_iff_getElem.1 Y;have Z:=List.pairwise_iff_getElem.1 r i j (by omega) N (by omega);rw[e] at Z;omega
  ·exact b0
 refine⟨rfl,⟨j,c0,by omega,st.m,B,I,P.take j,⟨st,_,U,_,rfl,h1,d1,⟨p1,?_,D.old⟩,p3,p5,p4⟩,⟨E.sdE,J,by rw[z1S];exact E.ok.take j,fun g0 x G=>?_,fun x G=>?_⟩,?_,z1S P j,h8,by rw[Θ];omega,X⟩,d2⟩
 ·have hm:U mapN=φ mapN:=p2 mapN fun k O e=>(q2V O).1 e.symm
  unfold q6B;rw[hm];exact a0
 ·obtain⟨y,v,k,O,rfl⟩:=mem_entsP.1 (E.sub x G)
  have j0:((y.1:Nat):Int)<st.m.ck:=by
   rcases(h3.mem _).1 G with b|⟨i,e,he,b⟩
   ·rw[h1] at b;cases b
   ·exact D.old i e he _ b
  have o:(y.1,btB y.2)∈q0k 0 C:=by rw[l];exact List.mem_map.2 ⟨_,v,rfl⟩
  exact mem_entsP.2 ⟨y,q y v (Q _ o (by simp only;omega)),k,O,rfl⟩
 ·obtain⟨y,v,k,O,rfl⟩:=mem_entsP.1 G
  exact E.all _ (mem_entsP.2 ⟨y,List.mem_of_mem_take v,k,O,rfl⟩)
 ·have b:=q4e h6 (m:=q3t sd P) fun x G=>E.sub x G
  rw[q4w] at b;have o:=z0x E.ok;omega
theorem SQX.open(h:SQX wb w g sd c s u n bs K)(G:n<=200)(b:(u:Int)+4096<=c)(rate:Nat):Calls Tryz.prog 33 #[.pointer (some ⟨g,0,none⟩),.int .u64 sd,.float .f64 rate] w fun e w'=>
  ∃gs,e= .returned (.tuple #[.pointer (some ⟨gs,0,none⟩),.int .i64 0])/\SKS wb w' g gs rate sd c s u n bs bs.length K/\Stay K w w':=by
 obtain⟨m,B,C,P,h1,h2,h3,rfl,h4,r,l,o⟩:=h;have F:=z0x h2.ok;have j:okC C:=by obtain⟨_,_,_,_,_,_,_,_,_,_,i⟩:=h1;exact i
 have d:m.ok:=by obtain⟨st,_,_,_,rfl,_,_,⟨i,_⟩,_⟩:=h1;exact i.man
 refine(y2P (h1.lopen b) j d h2 l o (by omega) (by omega) (by omega) rate).mono ?_;rintro e w' ⟨gs,gl,gx,E,ws,B',rfl,q,I,D⟩;exact⟨gs,rfl,⟨gl,gx,E,ws,B',C,_,P,q,rfl,by omega,r,⟨ι _,fun y v=>(q.ends (List.mem_of_mem_take v)).1⟩,l,o⟩,D⟩
end
def WoB(W:World)(gw g:Nat)(sv:Value)(sd:Int)(rate:Nat):Prop:=Blk W gw 100 #[.pointer (some ⟨g,0,none⟩),sv,.int .u64 sd,.float .f64 rate]
def WoK(wb W:World)(gw g gs rate:Nat)(sd c s:Int)(u n:Nat)(bs:List Bt)(k:Nat)(K:Nat->Prop):Prop:=
 WoB W gw g (.pointer (some ⟨gs,0,none⟩)) sd rate/\SKS wb W g gs rate sd c s u n bs k (fun i=>K i\/i=gw)/\¬K gw/\wb.heap.size<=gw
abbrev q1c(e n:Int):Value:= .agg #[.int .i64 e,.int .i64 n,.slice none 0 0]
section
variable {wb w W W':World}{gw g gs rate u n:Nat}{sd c s:Int}{bs:List Bt}{k0:Nat}{K K':Nat->Prop}
theorem WoK.grow(h:WoK wb W gw g gs rate sd c s u n bs k0 K)(k:Ext W W'):WoK wb W' gw g gs rate sd c s u n bs k0 K:=⟨Blk.ext h.1 k,h.2.1.grow k,h.2.2⟩
theorem WoK.kExt(h:WoK wb W gw g gs rate sd c s u n bs k0 K)(k:Ext W W'):Stay K W W':=fun i b=>k.block i (h.2.1.klt i (.inl b))
theorem WoK.klt(h:WoK wb W gw g gs rate sd c s u n bs k0 K): ∀i,K i->i<W.heap.size:=fun i b=>h.2.1.klt i (.inl b)
theorem WoK.base(h:WoK wb W gw g gs rate sd c s u n bs k0 K):Ext wb W:=h.2.1.base
theorem WoK.beside(h:WoK wb W gw g gs rate sd c s u n bs k0 K)(k: ∀i,K' i->K i):WoK wb W gw g gs rate sd c s u n bs k0 K':=⟨h.1,h.2.1.beside fun i b=>b.imp (k i) id,fun e=>h.2.2.1 (k _ e),h.2.2.2⟩
theorem WoK.more(h:WoK wb W gw g gs rate sd c s u n bs k0 K)(k:Ext W W')(hK: ∀i,K' i->K i\/(W.heap.size<=i/\i<W'.heap.size)):WoK wb W' gw g gs rate sd c s u n bs k0 K':=
 ⟨Blk.ext h.1 k,h.2.1.more k fun i b=>by
  rcases b with b|b
  ·exact(hK i b).imp .inl id
  ·exact .inl (.inr b),fun e=>by
  rcases hK gw e with h1|⟨h1,_⟩
  ·exact h.2.2.1 h1
  ·have:=h.2.1.klt gw (.inr rfl);omega,h.2.2.2⟩
theorem WoK.pokes{b:Nat}(h:WoK wb W gw g gs rate sd c s u n bs k0 (fun i=>K i\/i=b))(l:¬K b)(q:wb.heap.size<=b)(off:OffS (fun i=>i=b) W W'):WoK wb W' gw g gs rate sd c s u n bs k0 K/\Stay K W W':=by
 have o:gw≠b:=fun e=>h.2.2.1 (.inr e)
 have j:=h.klt;refine⟨⟨Blk.same h.1 (off.block gw (h.2.1.klt gw (.inr rfl)) o),h.2.1.sideM off.size (off.ext h.base fun i d=>by rw[d];exact q) (fun i d r=>off.block i d fun e=>r (.inl (.inr e))) (fun i d=> .inl (d.imp .inl id)),fun e=>h.2.2.1 (.inl e),h.2.2.2⟩,fun i d=>off.block i (j i (.inl d)) fun e=>l (e▸d)⟩
theorem y4M(W:World)(b:Nat)(d j l:Value):OffS (fun i=>i=b) W (((W.setCell ⟨b,0,none⟩ d).setCell ⟨b,1,none⟩ j).setCell ⟨b,2,none⟩ l):=
 ((OffS.set (F:=fun i=>i=b) W rfl 0 d).trans (OffS.set (F:=fun i=>i=b) (W.setCell ⟨b,0,none⟩ d) rfl 1 j)).trans (OffS.set (F:=fun i=>i=b) ((W.setCell ⟨b,0,none⟩ d).setCell ⟨b,1,none⟩ j) rfl 2 l)
theorem WoK.fin3{b:Nat}(h:WoK wb W gw g gs rate sd c s u n bs k0 (fun i=>K i\/i=b))(o:¬K b/\wb.heap.size<=b)(q:Stay K w W)(d j l:Value):
  WoK wb (((W.setCell ⟨b,0,none⟩ d).setCell ⟨b,1,none⟩ j).setCell ⟨b,2,none⟩ l) gw g gs rate sd c s u n bs k0 K/\Stay K w (((W.setCell ⟨b,0,none⟩ d).setCell ⟨b,1,none⟩ j).setCell ⟨b,2,none⟩ l):=by
 have h1:=h.pokes o.1 o.2 (((OffS.set (F:=fun i=>i=b) W rfl 0 d).trans (OffS.set (F:=fun i=>i=b) (W.setCell ⟨b,0,none⟩ d) rfl 1 j)).trans (OffS.set (F:=fun i=>i=b) ((W.setCell ⟨b,0,none⟩ d).setCell ⟨b,1,none⟩ j) rfl 2 l));exact⟨h1.1,q.trans h1.2⟩
theorem z2b(x y:Int)(w:World):Calls Tryz.prog 120 #[.int .i64 x,.int .i64 y] w fun e w'=>e= .returned (q1c y x)/\Ext w w':=by
 go_enter Tryz.func120,Tryz.ntmps120;go_wp2_with fail
 ((try simp only[Exit.inBlock,Exit.then]);refine bodyPost_ret (v:=q1c y x) (by rw[q0L rfl];go_simp) rfl ?_)
 exact⟨rfl,q0C _ _⟩
theorem y2f(ao:Option Addr)(k cap:Nat)(y:Int)(w:World):Calls Tryz.prog 121 #[.slice ao k cap,.int .i64 y] w fun e w'=>e= .returned (.agg #[.int .i64 y,.int .i64 0,.slice ao k cap])/\Ext w w':=by
 go_enter Tryz.func121,Tryz.ntmps121;go_wp2_with fail
 ((try simp only[Exit.inBlock,Exit.then]);refine bodyPost_ret (v:= .agg #[.int .i64 y,.int .i64 0,.slice ao k cap]) (by rw[q0L rfl];go_simp) rfl ?_)
 exact⟨rfl,q0C _ _⟩
theorem q4m{b:Value}(h:WoB w gw g b sd rate):Calls Tryz.prog 71 #[.pointer (some ⟨gw,0,none⟩)] w fun e w'=>e= .returned (.bool false)/\w=w':=by
 have d:=h.cell 0;clear h;go_enter Tryz.func71,Tryz.ntmps71;go_wp2_with fail;go_ret;exact⟨rfl,rfl⟩
theorem z6d(h:WoK wb w gw g gs rate sd c s u n bs k0 K)(nm:List UInt8)(a b:Int)(ev:Value)(G:Value)(I:List UInt8):
  Calls Tryz.prog 75 #[.pointer (some ⟨gw,0,none⟩),.agg #[.int .i64 6,.string ⟨nm.toArray⟩,.int .i64 a,.int .i64 b,ev,G,.string ⟨I.toArray⟩]] w fun e w'=>e= .returned (q1c 0 0)/\WoK wb w' gw g gs rate sd c s u n bs bs.length K/\Stay K w w':=by
 have l:=q1x w (.cells #[.int .i64 6,.string ⟨nm.toArray⟩,.int .i64 a,.int .i64 b,ev,G,.string ⟨I.toArray⟩] 83) (.cells #[.int .i64 0,.int .i64 0,.slice none 0 0] 80);have q:=(Blk.new w 83 #[.int .i64 6,.string ⟨nm.toArray⟩,.int .i64 a,.int .i64 b,ev,G,.string ⟨I.toArray⟩]).ext (q0C _ (.cells #[.int .i64 0,.int .i64 0,.slice none 0 0] 80));have O:=Blk.new (w.alloc (.cells #[.int .i64 6,.string ⟨nm.toArray⟩,.int .i64 a,.int .i64 b,ev,G,.string ⟨I.toArray⟩] 83)) 80 #[.int .i64 0,.int .i64 0,.slice none 0 0];rw[ρ] at O;have D:¬K (w.heap.size+1):=fun e=>by have:=h.klt _ e;omega
 have E:wb.heap.size<=w.heap.size+1:=by have:=h.base.size;omega
 have F:=η (h.more (K':=fun i=>K i\/i=w.heap.size+1) l fun i r=>r.imp id fun e=>by simp only[ρ];omega);have V:=η (h.kExt l);have S:=η O;have J:=η (And.intro D E);have z0:=q.cell 0;have z1:=q.cell 1;have z2:=q.cell 2;have z3:=q.cell 3;have z4:=q.cell 4;have g1:=F.o.1.cell 1;clear l q O D E;clear h;go_enter Tryz.func75,Tryz.ntmps75;go_wp2_with fail;refine F.o.2.1.flushS.mono ?_;rintro e R ⟨rfl,h3,Q⟩;have j:Stay (fun i=>K i\/i=w.heap.size+1) _ R:=fun i r=>Q i (.inl r)
 have N:Hd (WoK wb R gw g gs rate sd c s u n bs bs.length (fun i=>K i\/i=w.heap.size+1)):=η ⟨Blk.same F.o.1 (Q _ (.inr rfl)),h3,F.o.2.2⟩;clear h3 Q;have M:Hd (Stay K w R):=η (V.o.trans fun i r=>j i (.inl r));have d:=S.o.same (j _ (.inr rfl));have U:=η d;have e0:=d.cell 0;have X:=d.cell 1;have Y:=d.cell 2;have Z:=d.free 0;have f1:=d.free 1;have f2:=d.free 2;clear j d;go_wp2_with fail
 ((try simp only[Exit.inBlock,Exit.then]);refine bodyPost_ret (v:=q1c 0 0) (by rw[q0L rfl];go_simp) rfl ?_)
 exact⟨rfl,N.o.fin3 J.o M.o _ _ _⟩
theorem y1M(h:WoK wb w gw g gs rate sd c s u n bs k0 K)(hn:n<=1000)(nm:List UInt8)(a b:Int)(ev:Value)(S:Value)(U:List UInt8):
  Calls Tryz.prog 75 #[.pointer (some ⟨gw,0,none⟩),.agg #[.int .i64 5,.string ⟨nm.toArray⟩,.int .i64 a,.int .i64 b,ev,S,.string ⟨U.toArray⟩]] w fun e w'=> ∃v,e= .returned (.agg #[.int .i64 0,.int .i64 0,v])/\WoK wb w' gw g gs rate sd c s u n bs k0 K/\Stay K w w'/\w'.ownsRow wb.heap.size 69 5 v (tos bs).length (z2S (tos bs)):=by
 have F:=q1x w (.cells #[.int .i64 5,.string ⟨nm.toArray⟩,.int .i64 a,.int .i64 b,ev,S,.string ⟨U.toArray⟩] 83) (.cells #[.int .i64 0,.int .i64 0,.slice none 0 0] 80);have G:=(Blk.new w 83 #[.int .i64 5,.string ⟨nm.toArray⟩,.int .i64 a,.int .i64 b,ev,S,.string ⟨U.toArray⟩]).ext (q0C _ (.cells #[.int .i64 0,.int .i64 0,.slice none 0 0] 80));have ha:=Blk.new (w.alloc (.cells #[.int .i64 5,.string ⟨nm.toArray⟩,.int .i64 a,.int .i64 b,ev,S,.string ⟨U.toArray⟩] 83)) 80 #[.int .i64 0,.int .i64 0,.slice none 0 0];rw[ρ] at ha;have N:¬K (w.heap.size+1):=fun e=>by have:=h.klt _ e;omega
 have O:wb.heap.size<=w.heap.size+1:=by have:=h.base.size;omega
 have R:=η (h.more (K':=fun i=>K i\/i=w.heap.size+1) F fun i q=>q.imp id fun e=>by simp only[ρ];omega);have HS:=η (h.kExt F);have HA:=η ha;have X:=η (And.intro N O);have z0:=G.cell 0;have z1:=G.cell 1;have z2:=G.cell 2;have z3:=G.cell 3;have z4:=G.cell 4;have g1:=R.o.1.cell 1;clear F G ha N O;have HN:=η hn;clear hn;clear h;go_enter Tryz.func75,Tryz.ntmps75;go_wp2_with fail;refine(R.o.2.1.all HN.o).mono ?_;rintro e w3 ⟨v,rfl,h3,hs,l,M⟩;obtain⟨ta,tc,rfl⟩:=q0H l;have I:=η l;have r:=η (M _ (.inl (.inr rfl)));have HT:=η (fun W=>y2f ta (tos bs).length tc 0 W);have E:Stay (fun i=>K i\/i=w.heap.size+1) _ w3:=fun i q=>hs i (.inl q)
 have J:Hd (WoK wb w3 gw g gs rate sd c s u n bs k0 (fun i=>K i\/i=w.heap.size+1)):=η ⟨Blk.same R.o.1 (hs _ (.inr rfl)),h3.beside fun i q=> .inl q,R.o.2.2⟩;clear h3 hs l M;have Y:Hd (Stay K w w3):=η (HS.o.trans fun i q=>E i (.inl q));have d:=HA.o.same (E _ (.inr rfl));have V:=η d;have e0:=d.cell 0;have e1:=d.cell 1;have e2:=d.cell 2;have f0:=d.free 0;have f1:=d.free 1;have f2:=d.free 2;clear E d;clear e0 e1 e2 f0 f1 f2;go_wp2_with fail;refine(HT.o _).mono ?_;rintro e w4 ⟨rfl,Q⟩;have a0:=η (J.o.grow Q);have Z:=η (Y.o.trans (fun i q=>J.o.kExt Q i (.inl q)));have D:=η (q0J I.o Q);have j:=(V.o).ext Q;have e0:=j.cell 0;have e1:=j.cell 1;have e2:=j.cell 2;have f0:=j.free 0;have f1:=j.free 1;have f2:=j.free 2;clear Q j;go_wp2_with fail
 ((try simp only[Exit.inBlock,Exit.then]);refine bodyPost_ret (v:= .agg #[.int .i64 0,.int .i64 0,.slice ta (tos bs).length tc]) (by rw[q0L rfl];go_simp) rfl ?_)
 exact⟨_,rfl,and_assoc.1 ⟨a0.o.fin3 X.o Z.o _ _ _,q0d (q0d (q0d D.o _ r.o) _ r.o) _ r.o⟩⟩
theorem z9J(h:WoK wb w gw g gs rate sd c s u n bs k0 K)(hn:n<=1000)(nm:List UInt8)(a b:Int)(ev:Value)(Z:Value)(tx:List UInt8)(j0:nm.length<=4611686018427387903)(hr:z0Y bs nm=(x,y)):
  Calls Tryz.prog 75 #[.pointer (some ⟨gw,0,none⟩),.agg #[.int .i64 4,.string ⟨nm.toArray⟩,.int .i64 a,.int .i64 b,ev,Z,.string ⟨tx.toArray⟩]] w fun e w'=>e= .returned (q1c y x)/\WoK wb w' gw g gs rate sd c s u n bs k0 K/\Stay K w w':=by
 have F:=q1x w (.cells #[.int .i64 4,.string ⟨nm.toArray⟩,.int .i64 a,.int .i64 b,ev,Z,.string ⟨tx.toArray⟩] 83) (.cells #[.int .i64 0,.int .i64 0,.slice none 0 0] 80);have hb:=(Blk.new w 83 #[.int .i64 4,.string ⟨nm.toArray⟩,.int .i64 a,.int .i64 b,ev,Z,.string ⟨tx.toArray⟩]).ext (q0C _ (.cells #[.int .i64 0,.int .i64 0,.slice none 0 0] 80));have ha:=Blk.new (w.alloc (.cells #[.int .i64 4,.string ⟨nm.toArray⟩,.int .i64 a,.int .i64 b,ev,Z,.string ⟨tx.toArray⟩] 83)) 80 #[.int .i64 0,.int .i64 0,.slice none 0 0];rw[ρ] at ha;have S:¬K (w.heap.size+1):=fun e=>by have:=h.klt _ e;omega
 have V:wb.heap.size<=w.heap.size+1:=by have:=h.base.size;omega
 have O:=h.more (K':=fun i=>(K i\/i=w.heap.size+1)\/i=w.heap.size) F fun i j=>by
  rcases j with(j|j)|j
  ·exact .inl j
  ·exact .inr (by simp only[ρ];omega)
  ·exact .inr (by simp only[ρ];omega)
 have Y:=η (O.grow (Ext.refl _).drew);have HS:=η (h.kExt (F.trans (Ext.refl _).drew));have HA:=η (ha.ext (Ext.refl _).drew);have X:=η (hb.ext (Ext.refl _).drew);have c0:=η (And.intro S V);have z0:=hb.cell 0;have d1:=Y.o.1.cell 1;have d2:=X.o.cell 1;have d3:=X.o.cell 2;have d4:=X.o.cell 4;clear F hb ha S V O;have HL:=η (Y.o.2.1.last hn nm j0 hr);clear hr;clear h;go_enter Tryz.func75,Tryz.ntmps75;go_wp2_with fail
 go_region_held3 (fun W=>W.cell? ⟨gw,1,none⟩=some (.pointer (some ⟨gs,0,none⟩))/\W.cell? ⟨w.heap.size,1,none⟩=some (.string ⟨nm.toArray⟩))
  (first|exact N.o|exact M.o|exact J.o|exact⟨d1,d2⟩)
  (first
   |(go_at_call 52;refine HL.o.mono ?_;rintro e w3 ⟨rfl,h3,U⟩;have E:WoK wb w3 gw g gs rate sd c s u n bs k0 (fun i=>(K i\/i=w.heap.size+1)\/i=w.heap.size):=⟨Blk.same Y.o.1 (U _ (.inr rfl)),h3,Y.o.2.2⟩;have l:=η E;have g0:Hd (Stay K w w3):=η (HS.o.trans fun i j=>U i (.inl (.inl (.inl j))));have a0:=η (HA.o.same (U _ (.inl (.inl (.inr rfl)))));have D:=X.o.same (U _ (.inl (.inr rfl)));have b0:=η D;have J:Hd (w3.cell? ⟨gw,1,none⟩=some (.pointer (some ⟨gs,0,none⟩))/\w3.cell? ⟨w.heap.size,1,none⟩=some (.string ⟨nm.toArray⟩)):=η ⟨E.1.cell 1,D.cell 1⟩;have d0:=η (fun W=>z2b x y W);clear U E D)
   |(go_at_call 120;refine(d0.o _).mono ?_;rintro e I ⟨rfl,G⟩;have i0:=η ((l.o.grow G).beside (K':=fun i=>K i\/i=w.heap.size+1) fun i j=> .inl j);have h0:Hd (Stay K w I):=η (g0.o.trans fun i j=>l.o.kExt G i (.inl (.inl j)));have q:=b0.o.ext G;have r:=Blk.ext l.o.1 G;have M:Hd (I.cell? ⟨gw,1,none⟩=some (.pointer (some ⟨gs,0,none⟩))/\I.cell? ⟨w.heap.size,1,none⟩=some (.string ⟨nm.toArray⟩)):=η ⟨r.cell 1,q.cell 1⟩;have o3:=y4M I (w.heap.size+1) (.int .i64 y) (.int .i64 x) (.slice none 0 0);have Q:=q.same (o3.block _ q.lt (by omega));have R:=Blk.same r (o3.block _ (Blk.lt r) fun e=>l.o.2.2.1 (.inl (.inr e)));have N:Hd ((((I.setCell ⟨w.heap.size+1,0,none⟩ (.int .i64 y)).setCell ⟨w.heap.size+1,1,none⟩ (.int .i64 x)).setCell ⟨w.heap.size+1,2,none⟩ (.slice none 0 0)).cell? ⟨gw,1,none⟩=some (.pointer (some ⟨gs,0,none⟩))/\(((I.setCell ⟨w.heap.size+1,0,none⟩ (.int .i64 y)).setCell ⟨w.heap.size+1,1,none⟩ (.int .i64 x)).setCell ⟨w.heap.size+1,2,none⟩ (.slice none 0 0)).cell? ⟨w.heap.size,1,none⟩=some (.string ⟨nm.toArray⟩)):=η ⟨R.cell 1,Q.cell 1⟩;have d:=a0.o.ext G;have e0:=d.cell 0;have e1:=d.cell 1;have e2:=d.cell 2;have f0:=d.free 0;have f1:=d.free 1;have f2:=d.free 2;clear G d q r Q R o3))
 all_goals
  clear J M N;go_wp2_with fail
  ((try simp only[Exit.inBlock,Exit.then]);refine bodyPost_ret (v:=q1c y x) (by rw[q0L rfl];go_simp) rfl ?_)
  exact⟨rfl,i0.o.fin3 c0.o h0.o _ _ _⟩
theorem z5M(h:WoK wb w gw g gs rate sd c s u n bs k0 K)(hn:n<=86)(nm:List UInt8)(a b:Int)(kp:Value)(tx:List UInt8)(m0:nm.length<=4611686018427387903){m:Nat}(I: ∀W,Ext wb W->Stay K w W->Evs W ao m cap L)(hL:q4k L)(a0: ∀e∈L,e.we<18446744073709551616){z:Int}(hz:y0p bs nm a L=z):
  Calls Tryz.prog 75 #[.pointer (some ⟨gw,0,none⟩),.agg #[.int .i64 1,.string ⟨nm.toArray⟩,.int .i64 a,.int .i64 b,(.slice ao m cap),kp,.string ⟨tx.toArray⟩]] w fun e w'=> ∃x y d,e= .returned (q1c y x)/\(WoK wb w' gw g gs rate sd c s (u+2024) (n+1) d k0 K/\Stay K w w')/\((z≠0/\x=0/\y=z/\d=bs)\/(z=0/\x=0/\y=60/\d=bs/\c-(u:Int)-2024<6000)\/(z=0/\x=((q1V bs nm).length:Int)/\y=0/\d=bs++[⟨nm,(q1V bs nm).length,L⟩])):=by
 have M:=q1x w (.cells #[.int .i64 1,.string ⟨nm.toArray⟩,.int .i64 a,.int .i64 b,(.slice ao m cap),kp,.string ⟨tx.toArray⟩] 83) (.cells #[.int .i64 0,.int .i64 0,.slice none 0 0] 80);have hb:=(Blk.new w 83 #[.int .i64 1,.string ⟨nm.toArray⟩,.int .i64 a,.int .i64 b,(.slice ao m cap),kp,.string ⟨tx.toArray⟩]).ext (q0C _ (.cells #[.int .i64 0,.int .i64 0,.slice none 0 0] 80));have ha:=Blk.new (w.alloc (.cells #[.int .i64 1,.string ⟨nm.toArray⟩,.int .i64 a,.int .i64 b,(.slice ao m cap),kp,.string ⟨tx.toArray⟩] 83)) 80 #[.int .i64 0,.int .i64 0,.slice none 0 0];rw[ρ] at ha;have X:¬K (w.heap.size+1):=fun e=>by have:=h.klt _ e;omega
 have Z:wb.heap.size<=w.heap.size+1:=by have:=h.base.size;omega
 have S:=h.more (K':=fun i=>(K i\/i=w.heap.size+1)\/i=w.heap.size) M fun i q=>by
  rcases q with(q|q)|q
  ·exact .inl q
  ·exact .inr (by simp only[ρ];omega)
  ·exact .inr (by simp only[ρ];omega)
 have HK:=η (S.grow (Ext.refl _).drew);have HS:=η (h.kExt (M.trans (Ext.refl _).drew));have HA:=η (ha.ext (Ext.refl _).drew);have HB:=η (hb.ext (Ext.refl _).drew);have g0:=η (And.intro X Z);have z0:=hb.cell 0;have d1:=HK.o.1.cell 1;have d2:=HB.o.cell 1;have d3:=HB.o.cell 2;have d4:=HB.o.cell 4;clear M hb ha X Z S;have HL:=η (HK.o.2.1.append hn nm m0 a (fun W hW n0=>I W hW (HS.o.trans fun i q=>n0 i (.inl (.inl (.inl q))))) hL a0 hz);clear I hL a0 hz;clear h;go_enter Tryz.func75,Tryz.ntmps75;go_wp2_with fail
 go_region_held3 (fun W=>W.cell? ⟨gw,1,none⟩=some (.pointer (some ⟨gs,0,none⟩))/\W.cell? ⟨w.heap.size,1,none⟩=some (.string ⟨nm.toArray⟩)/\W.cell? ⟨w.heap.size,2,none⟩=some (.int .i64 a)/\W.cell? ⟨w.heap.size,4,none⟩=some (.slice ao m cap))
  (first|exact R.o|exact Q.o|exact O.o|exact⟨d1,d2,d3,d4⟩)
  (first
   |(go_at_call 38;refine HL.o.mono ?_;rintro e N ⟨x,y,d,rfl,h3,Y,U⟩;have d0:=η U;have J:WoK wb N gw g gs rate sd c s (u+2024) (n+1) d k0 (fun i=>(K i\/i=w.heap.size+1)\/i=w.heap.size):=⟨Blk.same HK.o.1 (Y _ (.inr rfl)),h3,HK.o.2.2⟩;clear U;have E:=η J;have i0:Hd (Stay K w N):=η (HS.o.trans fun i q=>Y i (.inl (.inl (.inl q))));have b0:=η (HA.o.same (Y _ (.inl (.inl (.inr rfl)))));have r:=HB.o.same (Y _ (.inl (.inr rfl)));have c0:=η r;have O:Hd (N.cell? ⟨gw,1,none⟩=some (.pointer (some ⟨gs,0,none⟩))/\N.cell? ⟨w.heap.size,1,none⟩=some (.string ⟨nm.toArray⟩)/\N.cell? ⟨w.heap.size,2,none⟩=some (.int .i64 a)/\N.cell? ⟨w.heap.size,4,none⟩=some (.slice ao m cap)):=η ⟨J.1.cell 1,r.cell 1,r.cell 2,r.cell 4⟩;have h0:=η (fun W=>z2b x y W);clear Y J r)
   |(go_at_call 120;refine(h0.o _).mono ?_;rintro e D ⟨rfl,I⟩;have l0:=η ((E.o.grow I).beside (K':=fun i=>K i\/i=w.heap.size+1) fun i q=> .inl q);have j0:Hd (Stay K w D):=η (i0.o.trans fun i q=>E.o.kExt I i (.inl (.inl q)));have l:=c0.o.ext I;have G:=Blk.ext E.o.1 I;have Q:Hd (D.cell? ⟨gw,1,none⟩=some (.pointer (some ⟨gs,0,none⟩))/\D.cell? ⟨w.heap.size,1,none⟩=some (.string ⟨nm.toArray⟩)/\D.cell? ⟨w.heap.size,2,none⟩=some (.int .i64 a)/\D.cell? ⟨w.heap.size,4,none⟩=some (.slice ao m cap)):=η ⟨G.cell 1,l.cell 1,l.cell 2,l.cell 4⟩;have o3:=y4M D (w.heap.size+1) (.int .i64 y) (.int .i64 x) (.slice none 0 0);have F:=l.same (o3.block _ l.lt (by omega));have V:=Blk.same G (o3.block _ (Blk.lt G) fun e=>E.o.2.2.1 (.inl (.inr e)));have R:Hd ((((D.setCell ⟨w.heap.size+1,0,none⟩ (.int .i64 y)).setCell ⟨w.heap.size+1,1,none⟩ (.int .i64 x)).setCell ⟨w.heap.size+1,2,none⟩ (.slice none 0 0)).cell? ⟨gw,1,none⟩=some (.pointer (some ⟨gs,0,none⟩))/\(((D.setCell ⟨w.heap.size+1,0,none⟩ (.int .i64 y)).setCell ⟨w.heap.size+1,1,none⟩ (.int .i64 x)).setCell ⟨w.heap.size+1,2,none⟩ (.slice none 0 0)).cell? ⟨w.heap.size,1,none⟩=some (.string ⟨nm.toArray⟩)/\(((D.setCell ⟨w.heap.size+1,0,none⟩ (.int .i64 y)).setCell ⟨w.heap.size+1,1,none⟩ (.int .i64 x)).setCell ⟨w.heap.size+1,2,none⟩ (.slice none 0 0)).cell? ⟨w.heap.size,2,none⟩=some (.int .i64 a)/\(((D.setCell ⟨w.heap.size+1,0,none⟩ (.int .i64 y)).setCell ⟨w.heap.size+1,1,none⟩ (.int .i64 x)).setCell ⟨w.heap.size+1,2,none⟩ (.slice none 0 0)).cell? ⟨w.heap.size,4,none⟩=some (.slice ao m cap)):=η ⟨V.cell 1,F.cell 1,F.cell 2,F.cell 4⟩;have j:=b0.o.ext I;have e0:=j.cell 0;have e1:=j.cell 1;have e2:=j.cell 2;have f0:=j.free 0;have f1:=j.free 1;have f2:=j.free 2;clear I j l G F V o3))
 all_goals
  clear O Q R;go_wp2_with fail
  ((try simp only[Exit.inBlock,Exit.then]);refine bodyPost_ret (v:=q1c y x) (by rw[q0L rfl];go_simp) rfl ?_)
  exact⟨x,y,d,rfl,l0.o.fin3 g0.o j0.o _ _ _,d0.o⟩
end
def WoD(wb W:World)(gw g rate:Nat)(sd c s:Int)(u n:Nat)(bs:List Bt)(k:Nat)(K:Nat->Prop):Prop:=
 WoB W gw g (.pointer none) sd rate/\SKD wb W g sd c s u n bs k (fun i=>K i\/i=gw)/\¬K gw/\wb.heap.size<=gw
section
variable {wb w W W':World}{gw g gs rate u n:Nat}{sd c s:Int}{bs:List Bt}{k0:Nat}{K K':Nat->Prop}
theorem SKD.more(h:SKD wb W g sd c s u n bs k0 K)(k:Ext W W')(hK: ∀i,K' i->K i\/(W.heap.size<=i/\i<W'.heap.size)):SKD wb W' g sd c s u n bs k0 K':=by
 obtain⟨B,C,sure,P,st,σ,φ,F,xs,h1,h2,h3⟩:=h;have b: ∀i,F i->i<W.heap.size:=by obtain⟨_,_,_,_,_,_,h⟩:=h2.d;exact h
 refine⟨B,C,sure,P,st,σ,φ,F,xs,h1,⟨h2.d.ext k,h2.bF,h2.ext.trans k,fun i o=>?_⟩,h3⟩;rcases hK i o with h4|⟨h4,j⟩
 ·exact⟨Ψ (h2.k i h4).1 k.size,(h2.k i h4).2⟩
 ·exact⟨j,fun l=>by have:=b i l;omega⟩
theorem SKD.base(h:SKD wb W g sd c s u n bs k0 K):Ext wb W:=by
 obtain⟨B,C,sure,P,st,σ,φ,F,xs,h1,h2,h3⟩:=h;exact h2.ext
theorem SKD.sideM(h:SKD wb W g sd c s u n bs k0 K)(l:W.heap.size<=W'.heap.size)(v:Ext wb W')(k: ∀i,i<W.heap.size->¬K i->W'.heap[i]? =W.heap[i]?)(hK: ∀i,K' i->K i\/(W.heap.size<=i/\i<W'.heap.size)):SKD wb W' g sd c s u n bs k0 K':=by
 obtain⟨B,C,sure,P,st,σ,φ,F,xs,h1,h2,h3⟩:=h;have b: ∀i,F i->i<W.heap.size:=by obtain⟨_,_,_,_,_,_,h⟩:=h2.d;exact h
 refine⟨B,C,sure,P,st,σ,φ,F,xs,h1,⟨h2.d.held l fun i j=>k i (b i j) fun r=>(h2.k i r).2 j,h2.bF,v,fun i j=>?_⟩,h3⟩;rcases hK i j with h4|⟨h4,o⟩
 ·exact⟨Ψ (h2.k i h4).1 l,(h2.k i h4).2⟩
 ·exact⟨o,fun q=>by have:=b i q;omega⟩
theorem WoD.more(h:WoD wb W gw g rate sd c s u n bs k0 K)(k:Ext W W')(hK: ∀i,K' i->K i\/(W.heap.size<=i/\i<W'.heap.size)):WoD wb W' gw g rate sd c s u n bs k0 K':=
 ⟨Blk.ext h.1 k,h.2.1.more k fun i b=>by
  rcases b with b|b
  ·exact(hK i b).imp .inl id
  ·exact .inl (.inr b),fun e=>by
  rcases hK gw e with h1|⟨h1,_⟩
  ·exact h.2.2.1 h1
  ·have:=h.2.1.klt gw (.inr rfl);omega,h.2.2.2⟩
theorem WoD.grow(h:WoD wb W gw g rate sd c s u n bs k0 K)(k:Ext W W'):WoD wb W' gw g rate sd c s u n bs k0 K:=h.more k fun i b=> .inl b
theorem WoD.kExt(h:WoD wb W gw g rate sd c s u n bs k0 K)(k:Ext W W'):Stay K W W':=fun i b=>k.block i (h.2.1.klt i (.inl b))
theorem WoD.pokes{b:Nat}(h:WoD wb W gw g rate sd c s u n bs k0 (fun i=>K i\/i=b))(o:¬K b/\wb.heap.size<=b)(off:OffS (fun i=>i=b) W W'):WoD wb W' gw g rate sd c s u n bs k0 K/\Stay K W W':=by
 have l:gw≠b:=fun e=>h.2.2.1 (.inr e)
 have j:=h.2.1.klt;refine⟨⟨Blk.same h.1 (off.block gw (j gw (.inr rfl)) l),h.2.1.sideM off.size (off.ext h.2.1.base fun i d=>by rw[d];exact o.2) (fun i d q=>off.block i d fun e=>q (.inl (.inr e))) (fun i d=> .inl (d.imp .inl id)),fun e=>h.2.2.1 (.inl e),h.2.2.2⟩,fun i d=>off.block i (j i (.inl (.inl d))) fun e=>o.1 (e▸d)⟩
theorem WoD.fin3{b:Nat}(h:WoD wb W gw g rate sd c s u n bs k0 (fun i=>K i\/i=b))(o:¬K b/\wb.heap.size<=b)(q:Stay K w W)(d j l:Value):
  WoD wb (((W.setCell ⟨b,0,none⟩ d).setCell ⟨b,1,none⟩ j).setCell ⟨b,2,none⟩ l) gw g rate sd c s u n bs k0 K/\Stay K w (((W.setCell ⟨b,0,none⟩ d).setCell ⟨b,1,none⟩ j).setCell ⟨b,2,none⟩ l):=by
 have h1:=h.pokes o (y4M W b d j l);exact⟨h1.1,q.trans h1.2⟩
theorem SKS.upC(h:SKS wb w g gs rate sd c s u n bs k0 K):Calls Tryz.prog 76 #[.pointer (some ⟨g,0,none⟩)] w fun e w'=>e= .returned (.bool true)/\w=w':=by
 obtain⟨gl,gx,m,ws,B,C,sure,P,h1,_⟩:=h;obtain⟨st,σ,φ,o,rfl,h2,h3,h4,⟨F,j,l,Y,q⟩,b,r⟩:=h1.i;have:=y2l q.i.d;rw[b.1.fl.up] at this;exact this
theorem SKD.upC(h:SKD wb w g sd c s u n bs k0 K):Calls Tryz.prog 76 #[.pointer (some ⟨g,0,none⟩)] w fun e w'=>e= .returned (.bool false)/\w=w':=by
 obtain⟨B,C,sure,P,st,σ,φ,F,xs,h1,h2,h3⟩:=h;exact y2l h2.d
theorem SQ.upC(h:SQ wb w g sd c s u n bs K):Calls Tryz.prog 76 #[.pointer (some ⟨g,0,none⟩)] w fun e w'=>e= .returned (.bool true)/\w=w':=by
 obtain⟨m,B,C,P,⟨st,σ,φ,F,h1,h2,h3,h4,b⟩,_⟩:=h;have:=y2l h3.d;rw[h4.1.fl.up] at this;exact this
theorem z9d(h:WoK wb w gw g gs rate sd c s u n bs k0 K)(nm:List UInt8)(a b:Int)(ev:Value)(J:Value)(M:List UInt8):
  Calls Tryz.prog 26 #[.pointer (some ⟨gw,0,none⟩),.agg #[.int .i64 6,.string ⟨nm.toArray⟩,.int .i64 a,.int .i64 b,ev,J,.string ⟨M.toArray⟩]] w fun e w'=>e= .returned (q1c 0 0)/\WoK wb w' gw g gs rate sd c s u n bs bs.length K/\Stay K w w':=by
 have l:=q1x w (.cells #[.int .i64 6,.string ⟨nm.toArray⟩,.int .i64 a,.int .i64 b,ev,J,.string ⟨M.toArray⟩] 83) (.cells #[.int .i64 0,.int .i64 0,.slice none 0 0] 80);have r:=(Blk.new w 83 #[.int .i64 6,.string ⟨nm.toArray⟩,.int .i64 a,.int .i64 b,ev,J,.string ⟨M.toArray⟩]).ext (q0C _ (.cells #[.int .i64 0,.int .i64 0,.slice none 0 0] 80));have S:=Blk.new (w.alloc (.cells #[.int .i64 6,.string ⟨nm.toArray⟩,.int .i64 a,.int .i64 b,ev,J,.string ⟨M.toArray⟩] 83)) 80 #[.int .i64 0,.int .i64 0,.slice none 0 0];rw[ρ] at S;have G:¬K (w.heap.size+1):=fun e=>by have:=h.klt _ e;omega
 have I:wb.heap.size<=w.heap.size+1:=by have:=h.base.size;omega
 have N:=η (h.more (K':=fun i=>K i\/i=w.heap.size+1) l fun i F=>F.imp id fun e=>by simp only[ρ];omega);have Z:=η (h.kExt l);have V:=η S;have O:=η (And.intro G I);have a0:=η l;have z0:=r.cell 0;have z1:=r.cell 1;have z2:=r.cell 2;have z3:=r.cell 3;have z4:=r.cell 4;have z5:=r.cell 5;have z6:=r.cell 6;have g1:=N.o.1.cell 1;have g0:=N.o.1.cell 0;have Y:=η (z6d N.o nm a b ev J M);clear h l r S G I;go_enter Tryz.func26,Tryz.ntmps26;go_wp2_with fail;refine(q4m N.o.1).mono ?_;rintro e w1 ⟨rfl,rfl⟩;go_wp2_with fail;refine Y.o.mono ?_;rintro e U ⟨rfl,h3,E⟩;have Q:Hd (Stay K w U):=η (Z.o.trans fun i F=>E i (.inl F));have q:=q0C U (.cells #[.int .i64 0,.int .i64 0,.slice none 0 0] 80);have D:=η (h3.grow q);have R:=η (Q.o.trans fun i F=>h3.kExt q i (.inl F));have d:=(V.o.same (E _ (.inr rfl))).ext q;have j:=Blk.new U 80 #[.int .i64 0,.int .i64 0,.slice none 0 0];have X:=η j;have e0:=d.cell 0;have e1:=d.cell 1;have e2:=d.cell 2;have f0:=d.free 0;have f1:=d.free 1;have f2:=d.free 2;have y0:=j.cell 0;have y1:=j.cell 1;have y2:=j.cell 2;have HU:=η D.o.2.1.upC;have gg:=D.o.1.cell 0;clear E d q h3 z0 z1 z2 z3 z4 z5 z6 g1 g0 j;go_wp2_with fail;refine HU.o.mono ?_;rintro e w5 ⟨rfl,rfl⟩;go_wp2_with fail
 ((try simp only[Exit.inBlock,Exit.then]);refine bodyPost_ret (v:= .agg #[.int .i64 0,.int .i64 0,.slice none 0 0]) (by rw[q0L rfl];go_simp) rfl ?_)
 exact⟨rfl,D.o.fin3 O.o R.o _ _ _⟩
theorem y1V(h:WoK wb w gw g gs rate sd c s u n bs k0 K)(hn:n<=1000)(nm:List UInt8)(a b:Int)(ev:Value)(J:Value)(M:List UInt8)(U:nm.length<=4611686018427387903)(X:z0Y bs nm=(x,y)):
  Calls Tryz.prog 26 #[.pointer (some ⟨gw,0,none⟩),.agg #[.int .i64 4,.string ⟨nm.toArray⟩,.int .i64 a,.int .i64 b,ev,J,.string ⟨M.toArray⟩]] w fun e w'=>e= .returned (q1c y x)/\WoK wb w' gw g gs rate sd c s u n bs k0 K/\Stay K w w':=by
 have l:=q1x w (.cells #[.int .i64 4,.string ⟨nm.toArray⟩,.int .i64 a,.int .i64 b,ev,J,.string ⟨M.toArray⟩] 83) (.cells #[.int .i64 0,.int .i64 0,.slice none 0 0] 80);have r:=(Blk.new w 83 #[.int .i64 4,.string ⟨nm.toArray⟩,.int .i64 a,.int .i64 b,ev,J,.string ⟨M.toArray⟩]).ext (q0C _ (.cells #[.int .i64 0,.int .i64 0,.slice none 0 0] 80));have S:=Blk.new (w.alloc (.cells #[.int .i64 4,.string ⟨nm.toArray⟩,.int .i64 a,.int .i64 b,ev,J,.string ⟨M.toArray⟩] 83)) 80 #[.int .i64 0,.int .i64 0,.slice none 0 0];rw[ρ] at S;have G:¬K (w.heap.size+1):=fun e=>by have:=h.klt _ e;omega
 have I:wb.heap.size<=w.heap.size+1:=by have:=h.base.size;omega
 have N:=η (h.more (K':=fun i=>K i\/i=w.heap.size+1) l fun i F=>F.imp id fun e=>by simp only[ρ];omega);have HS:=η (h.kExt l);have Y:=η S;have O:=η (And.intro G I);have a0:=η l;have z0:=r.cell 0;have z1:=r.cell 1;have z2:=r.cell 2;have z3:=r.cell 3;have z4:=r.cell 4;have z5:=r.cell 5;have z6:=r.cell 6;have g1:=N.o.1.cell 1;have g0:=N.o.1.cell 0;have HQ:=η (z9J N.o hn nm a b ev J M U X);clear h l r S G I X;go_enter Tryz.func26,Tryz.ntmps26;go_wp2_with fail;refine(q4m N.o.1).mono ?_;rintro e w1 ⟨rfl,rfl⟩;go_wp2_with fail;refine HQ.o.mono ?_;rintro e V ⟨rfl,h3,E⟩;have Q:Hd (Stay K w V):=η (HS.o.trans fun i F=>E i (.inl F));have q:=q0C V (.cells #[.int .i64 y,.int .i64 x,.slice none 0 0] 80);have D:=η (h3.grow q);have R:=η (Q.o.trans fun i F=>h3.kExt q i (.inl F));have d:=(Y.o.same (E _ (.inr rfl))).ext q;have j:=Blk.new V 80 #[.int .i64 y,.int .i64 x,.slice none 0 0];have Z:=η j;have e0:=d.cell 0;have e1:=d.cell 1;have e2:=d.cell 2;have f0:=d.free 0;have f1:=d.free 1;have f2:=d.free 2;have y0:=j.cell 0;have y1:=j.cell 1;have y2:=j.cell 2;have HU:=η D.o.2.1.upC;have gg:=D.o.1.cell 0;clear E d q h3 z0 z1 z2 z3 z4 z5 z6 g1 g0 j;go_wp2_with fail;refine HU.o.mono ?_;rintro e w5 ⟨rfl,rfl⟩;go_wp2_with fail
 ((try simp only[Exit.inBlock,Exit.then]);refine bodyPost_ret (v:= .agg #[.int .i64 y,.int .i64 x,.slice none 0 0]) (by rw[q0L rfl];go_simp) rfl ?_)
 exact⟨rfl,D.o.fin3 O.o R.o _ _ _⟩
theorem z1a(h:WoK wb w gw g gs rate sd c s u n bs k0 K)(hn:n<=86)(nm:List UInt8)(a b:Int)(O:Value)(Q:List UInt8)(Z:nm.length<=4611686018427387903){m:Nat}(hx: ∀W,Ext wb W->Stay K w W->Evs W ao m cap L)(hL:q4k L)(N: ∀e∈L,e.we<18446744073709551616){z:Int}(hz:y0p bs nm a L=z):
  Calls Tryz.prog 26 #[.pointer (some ⟨gw,0,none⟩),.agg #[.int .i64 1,.string ⟨nm.toArray⟩,.int .i64 a,.int .i64 b,(.slice ao m cap),O,.string ⟨Q.toArray⟩]] w fun e w'=> ∃x y j,e= .returned (q1c y x)/\(WoK wb w' gw g gs rate sd c s (u+2024) (n+1) j k0 K/\Stay K w w')/\((z≠0/\x=0/\y=z/\j=bs)\/(z=0/\x=0/\y=60/\j=bs/\c-(u:Int)-2024<6000)\/(z=0/\x=((q1V bs nm).length:Int)/\y=0/\j=bs++[⟨nm,(q1V bs nm).length,L⟩])):=by
 have q:=q1x w (.cells #[.int .i64 1,.string ⟨nm.toArray⟩,.int .i64 a,.int .i64 b,(.slice ao m cap),O,.string ⟨Q.toArray⟩] 83) (.cells #[.int .i64 0,.int .i64 0,.slice none 0 0] 80);have D:=(Blk.new w 83 #[.int .i64 1,.string ⟨nm.toArray⟩,.int .i64 a,.int .i64 b,(.slice ao m cap),O,.string ⟨Q.toArray⟩]).ext (q0C _ (.cells #[.int .i64 0,.int .i64 0,.slice none 0 0] 80));have Y:=Blk.new (w.alloc (.cells #[.int .i64 1,.string ⟨nm.toArray⟩,.int .i64 a,.int .i64 b,(.slice ao m cap),O,.string ⟨Q.toArray⟩] 83)) 80 #[.int .i64 0,.int .i64 0,.slice none 0 0];rw[ρ] at Y;have J:¬K (w.heap.size+1):=fun e=>by have:=h.klt _ e;omega
 have M:wb.heap.size<=w.heap.size+1:=by have:=h.base.size;omega
 have R:=η (h.more (K':=fun i=>K i\/i=w.heap.size+1) q fun i F=>F.imp id fun e=>by simp only[ρ];omega);have HS:=η (h.kExt q);have HA:=η Y;have U:=η (And.intro J M);have b0:=η q;have z0:=D.cell 0;have z1:=D.cell 1;have z2:=D.cell 2;have z3:=D.cell 3;have z4:=D.cell 4;have z5:=D.cell 5;have z6:=D.cell 6;have g1:=R.o.1.cell 1;have g0:=R.o.1.cell 0;have HQ:=η (z5M R.o hn nm a b O Q Z (fun W hW hs=>hx W hW (HS.o.trans fun i F=>hs i (.inl F))) hL N hz);clear h q D Y J M hx hL N hz;go_enter Tryz.func26,Tryz.ntmps26;go_wp2_with fail;refine(q4m R.o.1).mono ?_;rintro e w1 ⟨rfl,rfl⟩;go_wp2_with fail;refine HQ.o.mono ?_;rintro e w3 ⟨x,y,j,rfl,⟨h3,G⟩,I⟩;have S:=η I;clear I;have V:Hd (Stay K w w3):=η (HS.o.trans fun i F=>G i (.inl F));have r:=q0C w3 (.cells #[.int .i64 y,.int .i64 x,.slice none 0 0] 80);have E:=η (h3.grow r);have X:=η (V.o.trans fun i F=>h3.kExt r i (.inl F));have d:=(HA.o.same (G _ (.inr rfl))).ext r;have l:=Blk.new w3 80 #[.int .i64 y,.int .i64 x,.slice none 0 0];have a0:=η l;have e0:=d.cell 0;have e1:=d.cell 1;have e2:=d.cell 2;have f0:=d.free 0;have f1:=d.free 1;have f2:=d.free 2;have y0:=l.cell 0;have y1:=l.cell 1;have y2:=l.cell 2;have HU:=η E.o.2.1.upC;have gg:=E.o.1.cell 0;clear G d r h3 z0 z1 z2 z3 z4 z5 z6 g1 g0 l;go_wp2_with fail;refine HU.o.mono ?_;rintro e w5 ⟨rfl,rfl⟩;go_wp2_with fail
 ((try simp only[Exit.inBlock,Exit.then]);refine bodyPost_ret (v:= .agg #[.int .i64 y,.int .i64 x,.slice none 0 0]) (by rw[q0L rfl];go_simp) rfl ?_)
 exact⟨x,y,j,rfl,E.o.fin3 U.o X.o _ _ _,S.o⟩
theorem y3D(h:WoK wb w gw g gs rate sd c s u n bs k0 K)(hn:n<=1000)(nm:List UInt8)(a b:Int)(ev:Value)(Q:Value)(R:List UInt8):
  Calls Tryz.prog 26 #[.pointer (some ⟨gw,0,none⟩),.agg #[.int .i64 5,.string ⟨nm.toArray⟩,.int .i64 a,.int .i64 b,ev,Q,.string ⟨R.toArray⟩]] w fun e w'=> ∃v,e= .returned (.agg #[.int .i64 0,.int .i64 0,v])/\WoK wb w' gw g gs rate sd c s u n bs k0 K/\Stay K w w'/\w'.ownsRow wb.heap.size 69 5 v (tos bs).length (z2S (tos bs)):=by
 have r:=q1x w (.cells #[.int .i64 5,.string ⟨nm.toArray⟩,.int .i64 a,.int .i64 b,ev,Q,.string ⟨R.toArray⟩] 83) (.cells #[.int .i64 0,.int .i64 0,.slice none 0 0] 80);have E:=(Blk.new w 83 #[.int .i64 5,.string ⟨nm.toArray⟩,.int .i64 a,.int .i64 b,ev,Q,.string ⟨R.toArray⟩]).ext (q0C _ (.cells #[.int .i64 0,.int .i64 0,.slice none 0 0] 80));have Y:=Blk.new (w.alloc (.cells #[.int .i64 5,.string ⟨nm.toArray⟩,.int .i64 a,.int .i64 b,ev,Q,.string ⟨R.toArray⟩] 83)) 80 #[.int .i64 0,.int .i64 0,.slice none 0 0];rw[ρ] at Y;have N:¬K (w.heap.size+1):=fun e=>by have:=h.klt _ e;omega
 have O:wb.heap.size<=w.heap.size+1:=by have:=h.base.size;omega
 have S:=η (h.more (K':=fun i=>K i\/i=w.heap.size+1) r fun i M=>M.imp id fun e=>by simp only[ρ];omega);have HS:=η (h.kExt r);have HA:=η Y;have U:=η (And.intro N O);have b0:=η r;have z0:=E.cell 0;have z1:=E.cell 1;have z2:=E.cell 2;have z3:=E.cell 3;have z4:=E.cell 4;have z5:=E.cell 5;have z6:=E.cell 6;have g1:=S.o.1.cell 1;have g0:=S.o.1.cell 0;have HQ:=η (y1M S.o hn nm a b ev Q R);clear h r E Y N O;go_enter Tryz.func26,Tryz.ntmps26;go_wp2_with fail;refine(q4m S.o.1).mono ?_;rintro e w1 ⟨rfl,rfl⟩;go_wp2_with fail;refine HQ.o.mono ?_;rintro e w3 ⟨v,rfl,h3,q,j⟩;have J:v.ownBlock≠some (w.heap.size+1):=fun e=>by
  obtain⟨ec,q1⟩:=q5E j e;exact Blk.ne (HA.o.same (q _ (.inr rfl))) q1 (by decide) rfl
 obtain⟨Z,tc,rfl⟩:=q0H j;have I:=η j;have F:=η J;clear j J;have V:Hd (Stay K w w3):=η (HS.o.trans fun i M=>q i (.inl M));have D:=q0C w3 (.cells #[.int .i64 0,.int .i64 0,.slice Z (tos bs).length tc] 80);have G:=η (h3.grow D);have X:=η (V.o.trans fun i M=>h3.kExt D i (.inl M));have d:=(HA.o.same (q _ (.inr rfl))).ext D;have l:=Blk.new w3 80 #[.int .i64 0,.int .i64 0,.slice Z (tos bs).length tc];have a0:=η l;have e0:=d.cell 0;have e1:=d.cell 1;have e2:=d.cell 2;have f0:=d.free 0;have f1:=d.free 1;have f2:=d.free 2;have y0:=l.cell 0;have y1:=l.cell 1;have y2:=l.cell 2;have HU:=η G.o.2.1.upC;have gg:=G.o.1.cell 0;clear q d D h3 z0 z1 z2 z3 z4 z5 z6 g1 g0 l;go_wp2_with fail;refine HU.o.mono ?_;rintro e w5 ⟨rfl,rfl⟩;go_wp2_with fail
 ((try simp only[Exit.inBlock,Exit.then]);refine bodyPost_ret (v:= .agg #[.int .i64 0,.int .i64 0,.slice Z (tos bs).length tc]) (by rw[q0L rfl];go_simp) rfl ?_)
 exact⟨_,rfl,and_assoc.1 ⟨G.o.fin3 U.o X.o _ _ _,q0d (q0d (q0d (q0J I.o (q0C _ _)) _ F.o) _ F.o) _ F.o⟩⟩
end
section
variable {wb w W W1 W2:World}{g gl gs gx rate:Nat}{m:Man}{ws:List En}{c s sd:Int}{u cnt:Nat}{B:List En}{C:Cks}{P:Pbs}{sure:Int}{K K':Nat->Prop}
theorem z5j{m:Man}(h:m.ok){n:Nat}(j:m.nx<=n):m.L.flatten.length<=n:=by
 obtain⟨_,_,_,h4,_,_,b,_⟩:=Man.bounds h;have:=q4e (m:=(List.range n).map fun (i:Nat)=>(i:Int)) b fun x d=>by
  have:=h4 x d;exact List.mem_map.2 ⟨x.toNat,List.mem_range.2 (by omega),by omega⟩
 simpa using this
theorem z3F(h:IXG wb W g gx gl rate m ws c s u cnt B C sure K)(en:Int)(v:m.L.flatten.length<40):(q7I m ws en).1=0:=by
 have h2:(addS m.L m.nx).2=0:=by
  obtain⟨st,σ,φ,j,rfl,h2,h3,h4,l,⟨d,i⟩,o,q⟩:=h;have r:=Man.bounds d.man;have b:=d.grow.addS;rw[show((st.m.nx.toNat:Nat):Int)=st.m.nx by omega] at b;rw[b,κ (by omega)]
 unfold q7I
 split
 ·rfl
 ·rw[κ (by rw[h2];decide)]
theorem z8a(h:StoP wb w g gs gl gx rate m ws sd c s u cnt B C sure P K)(hl:B.length<=1000)(N:cnt<397)(R:m.nx<1000000)(hr:6000<=c-(u:Int)-(28*(B.length:Int)+440))(O:m.L.flatten.length<40):
  Calls Tryz.prog 58 #[.pointer (some ⟨gs,0,none⟩)] w fun e w'=>
   ∃z d j,e= .returned (.int .i64 z)/\z=0/\d.nx<=m.nx+1/\StoP wb w' g gs gl gx rate d j sd c s (u+(28*B.length+440)) (cnt+3) B C (q0Q C sure) P K/\Stay K w w':=by
 have HN:=η (q8h h.b);have F:=z3F h.i (q1u C) O;have hm: ∀z,q7I m ws (q1u C)=z->z.2.1.nx<=m.nx+1/\z.2.1.sd=sd/\z.2.1.ck<=q1u C/\(∀x∈z.2.2,z.2.1.ck<=x.2.2)/\z.2.1.ck<=q0Q C sure:=by
  rintro z rfl;have h1:=h.sdE;have h2:=h.ckE;have h3:=h.wsE;have h4:=Int.le_trans h.ckS (q8j h.i.sureLe);unfold q7I
  split
  ·exact⟨by simp only;omega,h1,h2,h3,h4⟩
  ·split
   ·exact⟨by simp only;omega,h1,h2,h3,h4⟩
   ·rename_i Q _
    obtain⟨x,G⟩:=List.exists_mem_of_ne_nil _ Q;exact⟨Int.le_refl _,h1,Int.le_refl _,(fun x G=>by cases G),(h.wsLt x G).2⟩
 have HF:Hd (Calls Tryz.prog 107 #[.pointer (some ⟨gx,0,none⟩),.pointer (some ⟨gl,0,none⟩)] w.drew fun e w'=> ∃z d j,e= .returned (.int .i64 z)/\(z=0/\d.nx<=m.nx+1/\d.sd=sd/\d.ck<=q1u C/\(∀x∈j,d.ck<=x.2.2)/\d.ck<=q0Q C sure)/\
   IXG wb w' g gx gl rate d j c s (u+(28*B.length+440)) (cnt+3) B C (q0Q C sure) (fun i=>K i\/i=gs)/\Stay (fun i=>K i\/i=gs) w.drew w'):=η (((h.grow (Ext.refl _).drew).i.flush hl N R h.ckE fun x G=>(h.wsLt x G).1).mono (by
  rintro e w' ⟨⟨rfl,q⟩|⟨rfl,q,r⟩,hs⟩
  ·obtain⟨a1,a2,a3,a4,a5⟩:=hm _ rfl
   exact⟨_,_,_,rfl,⟨F,a1,a2,a3,a4,a5⟩,q,hs⟩
  ·exact absurd r (by omega)))
 obtain⟨Y,Z,s2⟩:=h.cells;have U:=q0A (Ext.refl _).drew Y;have V:=q0A (Ext.refl _).drew Z;have I:=η h;clear h hm F Y Z s2;go_enter Tryz.func58,Tryz.ntmps58;go_wp2_with fail;refine HN.o.mono ?_;rintro e w1 ⟨rfl,rfl⟩;go_wp2_with fail
 go_region_held3 (fun W=>W.cell? ⟨gs,0,none⟩=some (.pointer (some ⟨gl,0,none⟩))/\W.cell? ⟨gs,1,none⟩=some (.pointer (some ⟨gx,0,none⟩)))
  (first|exact E.o|exact⟨U,V⟩)
  (first|(go_at_call 107;refine HF.o.mono ?_;rintro e w3 ⟨z,m3,S,rfl,X,q,v⟩;have J:=η q;have M:=η v;have D:=η X;have l:=η ((I.o.grow (Ext.refl _).drew).b.same (v _ (.inr rfl)));have E:=η (And.intro (l.o.cell 0) (l.o.cell 1));clear q v X))
 all_goals
  clear E U V;go_wp2_with fail;go_ret;exact⟨z,m3,S,rfl,D.o.1,D.o.2.1,⟨J.o,l.o,D.o.2.2.1,I.o.recE,I.o.stE,D.o.2.2.2.1,D.o.2.2.2.2.1,D.o.2.2.2.2.2,I.o.k⟩,fun i q=>M.o i (.inl q)⟩
end
section
variable {wb w W W':World}{gw g gs rate u n:Nat}{sd c s:Int}{bs:List Bt}{k0:Nat}{K K':Nat->Prop}
theorem SKS.indexR(h:SKS wb w g gs rate sd c s u n bs k0 K)(v:n<=39)(D:(u:Int)+16000<=c):Calls Tryz.prog 58 #[.pointer (some ⟨gs,0,none⟩)] w fun e w'=> ∃z,e= .returned (.int .i64 z)/\z=0/\SKS wb w' g gs rate sd c s (u+20000) (n+1) bs bs.length K/\Stay K w w':=by
 obtain⟨gl,gx,m,ws,B,C,sure,P,h1,rfl,h3,h4,_,d⟩:=h;obtain⟨b1,b2,b3,b4⟩:=h1.bounds rfl h4;refine(z8a h1 (by omega) (by omega) (by omega) (by omega) (by have:=z5j h1.i.man h3;omega)).mono ?_;rintro e w' ⟨z,r,b,rfl,l,j,o,q⟩;exact⟨z,rfl,l,⟨gl,gx,r,b,B,C,_,P,o.mono (by omega) (by omega),rfl,by omega,by omega,h1.sure rfl,d⟩,q⟩
theorem z5N(h:WoK wb w gw g gs rate sd c s u n bs k0 K)(U:n<=39)(V:(u:Int)+16000<=c)(nm:List UInt8)(a b:Int)(ev:Value)(G:Value)(I:List UInt8):
  Calls Tryz.prog 75 #[.pointer (some ⟨gw,0,none⟩),.agg #[.int .i64 7,.string ⟨nm.toArray⟩,.int .i64 a,.int .i64 b,ev,G,.string ⟨I.toArray⟩]] w fun e w'=> ∃z,e= .returned (q1c z 0)/\z=0/\WoK wb w' gw g gs rate sd c s (u+20000) (n+1) bs bs.length K/\Stay K w w':=by
 have l:=q1x w (.cells #[.int .i64 7,.string ⟨nm.toArray⟩,.int .i64 a,.int .i64 b,ev,G,.string ⟨I.toArray⟩] 83) (.cells #[.int .i64 0,.int .i64 0,.slice none 0 0] 80);have q:=(Blk.new w 83 #[.int .i64 7,.string ⟨nm.toArray⟩,.int .i64 a,.int .i64 b,ev,G,.string ⟨I.toArray⟩]).ext (q0C _ (.cells #[.int .i64 0,.int .i64 0,.slice none 0 0] 80));have O:=Blk.new (w.alloc (.cells #[.int .i64 7,.string ⟨nm.toArray⟩,.int .i64 a,.int .i64 b,ev,G,.string ⟨I.toArray⟩] 83)) 80 #[.int .i64 0,.int .i64 0,.slice none 0 0];rw[ρ] at O;have D:¬K (w.heap.size+1):=fun e=>by have:=h.klt _ e;omega
 have E:wb.heap.size<=w.heap.size+1:=by have:=h.base.size;omega
 have F:=η (h.more (K':=fun i=>K i\/i=w.heap.size+1) l fun i r=>r.imp id fun e=>by simp only[ρ];omega);have HS:=η (h.kExt l);have Y:=η O;have J:=η (And.intro D E);have z0:=q.cell 0;have z1:=q.cell 1;have z2:=q.cell 2;have z3:=q.cell 3;have z4:=q.cell 4;have g1:=F.o.1.cell 1;clear l q O D E;have S:=η (And.intro U V);clear U V;clear h;go_enter Tryz.func75,Tryz.ntmps75;go_wp2_with fail;refine(F.o.2.1.indexR S.o.1 S.o.2).mono ?_;rintro e R ⟨z,rfl,X,h3,Q⟩;have HZ:=η X;have j:Stay (fun i=>K i\/i=w.heap.size+1) _ R:=fun i r=>Q i (.inl r)
 have N:Hd (WoK wb R gw g gs rate sd c s (u+20000) (n+1) bs bs.length (fun i=>K i\/i=w.heap.size+1)):=η ⟨Blk.same F.o.1 (Q _ (.inr rfl)),h3,F.o.2.2⟩;clear h3 Q X;have M:Hd (Stay K w R):=η (HS.o.trans fun i r=>j i (.inl r));have d:=Y.o.same (j _ (.inr rfl));have Z:=η d;have e0:=d.cell 0;have e1:=d.cell 1;have e2:=d.cell 2;have f0:=d.free 0;have f1:=d.free 1;have f2:=d.free 2;clear j d;go_wp2_with fail
 ((try simp only[Exit.inBlock,Exit.then]);refine bodyPost_ret (v:=q1c z 0) (by rw[q0L rfl];go_simp) rfl ?_)
 exact⟨z,rfl,HZ.o,N.o.fin3 J.o M.o _ _ _⟩
theorem z7E(h:WoK wb w gw g gs rate sd c s u n bs k0 K)(hn:n<=39)(hr:(u:Int)+16000<=c)(nm:List UInt8)(a b:Int)(ev:Value)(J:Value)(M:List UInt8):
  Calls Tryz.prog 26 #[.pointer (some ⟨gw,0,none⟩),.agg #[.int .i64 7,.string ⟨nm.toArray⟩,.int .i64 a,.int .i64 b,ev,J,.string ⟨M.toArray⟩]] w fun e w'=> ∃z,e= .returned (q1c z 0)/\z=0/\WoK wb w' gw g gs rate sd c s (u+20000) (n+1) bs bs.length K/\Stay K w w':=by
 have l:=q1x w (.cells #[.int .i64 7,.string ⟨nm.toArray⟩,.int .i64 a,.int .i64 b,ev,J,.string ⟨M.toArray⟩] 83) (.cells #[.int .i64 0,.int .i64 0,.slice none 0 0] 80);have r:=(Blk.new w 83 #[.int .i64 7,.string ⟨nm.toArray⟩,.int .i64 a,.int .i64 b,ev,J,.string ⟨M.toArray⟩]).ext (q0C _ (.cells #[.int .i64 0,.int .i64 0,.slice none 0 0] 80));have S:=Blk.new (w.alloc (.cells #[.int .i64 7,.string ⟨nm.toArray⟩,.int .i64 a,.int .i64 b,ev,J,.string ⟨M.toArray⟩] 83)) 80 #[.int .i64 0,.int .i64 0,.slice none 0 0];rw[ρ] at S;have G:¬K (w.heap.size+1):=fun e=>by have:=h.klt _ e;omega
 have I:wb.heap.size<=w.heap.size+1:=by have:=h.base.size;omega
 have N:=η (h.more (K':=fun i=>K i\/i=w.heap.size+1) l fun i F=>F.imp id fun e=>by simp only[ρ];omega);have HS:=η (h.kExt l);have X:=η S;have O:=η (And.intro G I);have a0:=η l;have z0:=r.cell 0;have z1:=r.cell 1;have z2:=r.cell 2;have z3:=r.cell 3;have z4:=r.cell 4;have z5:=r.cell 5;have z6:=r.cell 6;have g1:=N.o.1.cell 1;have g0:=N.o.1.cell 0;have Z:=η (z5N N.o hn hr nm a b ev J M);clear h l r S G I;go_enter Tryz.func26,Tryz.ntmps26;go_wp2_with fail;refine(q4m N.o.1).mono ?_;rintro e w1 ⟨rfl,rfl⟩;go_wp2_with fail;refine Z.o.mono ?_;rintro e U ⟨z,rfl,V,h3,E⟩;have HZ:=η V;clear V;have Q:Hd (Stay K w U):=η (HS.o.trans fun i F=>E i (.inl F));have q:=q0C U (.cells #[.int .i64 z,.int .i64 0,.slice none 0 0] 80);have D:=η (h3.grow q);have R:=η (Q.o.trans fun i F=>h3.kExt q i (.inl F));have d:=(X.o.same (E _ (.inr rfl))).ext q;have j:=Blk.new U 80 #[.int .i64 z,.int .i64 0,.slice none 0 0];have Y:=η j;have e0:=d.cell 0;have e1:=d.cell 1;have e2:=d.cell 2;have f0:=d.free 0;have f1:=d.free 1;have f2:=d.free 2;have y0:=j.cell 0;have y1:=j.cell 1;have y2:=j.cell 2;have HU:=η D.o.2.1.upC;have gg:=D.o.1.cell 0;clear E d q h3 z0 z1 z2 z3 z4 z5 z6 g1 g0 j;go_wp2_with fail;refine HU.o.mono ?_;rintro e w5 ⟨rfl,rfl⟩;go_wp2_with fail
 ((try simp only[Exit.inBlock,Exit.then]);refine bodyPost_ret (v:= .agg #[.int .i64 z,.int .i64 0,.slice none 0 0]) (by rw[q0L rfl];go_simp) rfl ?_)
 exact⟨z,rfl,HZ.o,D.o.fin3 O.o R.o _ _ _⟩
end
section
variable {wb w W W':World}{gw g gs rate u n:Nat}{sd c s:Int}{bs:List Bt}{k0:Nat}{K K':Nat->Prop}
theorem SKS.pokeS(h:SKS wb W g gs rate sd c s u n bs k0 K){x:Nat}(hK:K x)(d:wb.heap.size<=x)(j:Nat)(v:Value):SKS wb (W.setCell ⟨x,j,none⟩ v) g gs rate sd c s u n bs k0 K:=
 h.sideM (by rw[World.size_setCell];exact ι _) ((OffS.set (F:=fun i=>i=x) W rfl j v).ext h.base fun i b=>by rw[b];exact d) (fun i b l=>heap_setCell_other _ _ _ _ fun e=>l (by rw[show i=x from e];exact hK)) fun i b=> .inl b
theorem SKD.pokeS(h:SKD wb W g sd c s u n bs k0 K){x:Nat}(hK:K x)(d:wb.heap.size<=x)(j:Nat)(v:Value):SKD wb (W.setCell ⟨x,j,none⟩ v) g sd c s u n bs k0 K:=
 h.sideM (by rw[World.size_setCell];exact ι _) ((OffS.set (F:=fun i=>i=x) W rfl j v).ext h.base fun i b=>by rw[b];exact d) (fun i b l=>heap_setCell_other _ _ _ _ fun e=>l (by rw[show i=x from e];exact hK)) fun i b=> .inl b
theorem z4J(h:WoK wb w gw g gs rate sd c s u n bs k0 K)(nm:List UInt8)(a b:Int)(ev:Value)(tx:List UInt8)(hk:Ints w ka kn kc xs)(b0: ∀a,ka=some a->K a.block):
  Calls Tryz.prog 26 #[.pointer (some ⟨gw,0,none⟩),.agg #[.int .i64 11,.string ⟨nm.toArray⟩,.int .i64 a,.int .i64 b,ev,.slice ka kn kc,.string ⟨tx.toArray⟩]] w fun e w'=>e= .returned (q1c 0 0)/\WoD wb w' gw g rate sd c s u n bs k0 K/\Stay K w w':=by
 have E:=q1x w (.cells #[.int .i64 11,.string ⟨nm.toArray⟩,.int .i64 a,.int .i64 b,ev,.slice ka kn kc,.string ⟨tx.toArray⟩] 83) (.cells #[.int .i64 0,.int .i64 0,.slice none 0 0] 80);have R:=(Blk.new w 83 #[.int .i64 11,.string ⟨nm.toArray⟩,.int .i64 a,.int .i64 b,ev,.slice ka kn kc,.string ⟨tx.toArray⟩]).ext (q0C _ (.cells #[.int .i64 0,.int .i64 0,.slice none 0 0] 80));have Q:=Blk.new (w.alloc (.cells #[.int .i64 11,.string ⟨nm.toArray⟩,.int .i64 a,.int .i64 b,ev,.slice ka kn kc,.string ⟨tx.toArray⟩] 83)) 80 #[.int .i64 0,.int .i64 0,.slice none 0 0];rw[ρ] at Q;have c0:¬K (w.heap.size+1):=fun e=>by have:=h.klt _ e;omega
 have g0:wb.heap.size<=w.heap.size+1:=by have:=h.base.size;omega
 have s0:gw<w.heap.size:=h.2.1.klt gw (.inr rfl);have V:=h.more (K':=fun i=>(K i\/i=w.heap.size+1)\/i=w.heap.size) E fun i q=>by
  rcases q with(q|q)|q
  ·exact .inl q
  ·exact .inr (by simp only[ρ];omega)
  ·exact .inr (by simp only[ρ];omega)
 have l:=η V;have HS:=η (h.kExt E);have HI:=η (hk.ext E);have X:=η b0;have l0:=η (And.intro c0 g0);obtain⟨N,M⟩: ∃N,(w.alloc (.cells #[.int .i64 11,.string ⟨nm.toArray⟩,.int .i64 a,.int .i64 b,ev,.slice ka kn kc,.string ⟨tx.toArray⟩] 83)).alloc (.cells #[.int .i64 0,.int .i64 0,.slice none 0 0] 80)=N:=⟨_,rfl⟩
 rw[M] at R Q l HS HI;have q0:=η R;have p0:=η Q;have d:=OffS.set (F:=fun i=>i=gw) N rfl 1 (.pointer none);have d0:=(l.o.2.1.pokeS (x:=gw) (.inr rfl) l.o.2.2.2 1 (.pointer none)).grow (Ext.refl _).drew;have G:=(HI.o.off (F:=fun i=>i=gw) (fun a e e2=>l.o.2.2.1 (.inl (.inl (by rw[<-show a.block=gw from e2];exact X.o a e)))) _ d).ext (Ext.refl _).drew;have HC:=η (d0.crash G (fun a e=> .inl (.inl (.inl (X.o a e)))));have J:=(l.o.1.set 1 (.pointer none)).ext (Ext.refl _).drew;have I:=(R.same (w':=N.setCell ⟨gw,1,none⟩ (.pointer none)) (d.block _ R.lt (by omega))).ext (Ext.refl _).drew;have Y:=(Q.same (w':=N.setCell ⟨gw,1,none⟩ (.pointer none)) (d.block _ Q.lt (by omega))).ext (Ext.refl _).drew;have j0:=η J;have i0:=η I;have h0:=η Y;have m0:Hd (Stay K w ((N.setCell ⟨gw,1,none⟩ (.pointer none)).drew)):=η (HS.o.trans fun i q=>(((Ext.refl (N.setCell ⟨gw,1,none⟩ (.pointer none))).drew).block i (by rw[World.size_setCell];have:=l.o.klt i (.inl (.inl q));exact this)).trans (d.block i (l.o.klt i (.inl (.inl q))) fun e=>l.o.2.2.1 (.inl (.inl (by rw[<-show i=gw from e];exact q)))));have z0:=R.cell 0;have g1:=l.o.1.cell 1;have r0:=l.o.1.free 1;have d1:=J.cell 0;have d2:=I.cell 5;clear h E R Q c0 g0 V hk b0 d d0 G J I Y;go_enter Tryz.func26,Tryz.ntmps26;go_wp2_with fail
 try rw[M]
 refine(q4m l.o.1).mono ?_;rintro e w1 ⟨rfl,rfl⟩;clear M;go_wp2_with fail
 go_region_held3 (fun W=>W.cell? ⟨gw,0,none⟩=some (.pointer (some ⟨g,0,none⟩))/\W.cell? ⟨w.heap.size,5,none⟩=some (.slice ka kn kc))
  (first|exact U.o|exact S.o|exact⟨d1,d2⟩)
  (first
   |(go_at_call 31;refine HC.o.mono ?_;rintro e O ⟨rfl,h3,hs⟩;have r:=Blk.same j0.o (hs _ (.inr rfl));have D:=i0.o.same (hs _ (.inl (.inr rfl)));have j:=h0.o.same (hs _ (.inl (.inl (.inr rfl))));have o0:Hd (WoD wb O gw g rate sd c s u n bs k0 (fun i=>K i\/i=w.heap.size+1)):=η ⟨r,h3.more (Ext.refl _) (fun i q=> .inl (q.imp .inl id)),fun e=>l.o.2.2.1 (.inl e),l.o.2.2.2⟩;have n0:Hd (Stay K w O):=η (m0.o.trans fun i q=>hs i (.inl (.inl (.inl q))));have S:Hd (O.cell? ⟨gw,0,none⟩=some (.pointer (some ⟨g,0,none⟩))/\O.cell? ⟨w.heap.size,5,none⟩=some (.slice ka kn kc)):=η ⟨r.cell 0,D.cell 5⟩;have o3:=y4M O (w.heap.size+1) (.int .i64 0) (.int .i64 0) (.slice none 0 0);have a0:=Blk.same r (o3.block _ (Blk.lt r) (by omega));have Z:=D.same (o3.block _ D.lt (by omega));have U:Hd ((((O.setCell ⟨w.heap.size+1,0,none⟩ (.int .i64 0)).setCell ⟨w.heap.size+1,1,none⟩ (.int .i64 0)).setCell ⟨w.heap.size+1,2,none⟩ (.slice none 0 0)).cell? ⟨gw,0,none⟩=some (.pointer (some ⟨g,0,none⟩))/\(((O.setCell ⟨w.heap.size+1,0,none⟩ (.int .i64 0)).setCell ⟨w.heap.size+1,1,none⟩ (.int .i64 0)).setCell ⟨w.heap.size+1,2,none⟩ (.slice none 0 0)).cell? ⟨w.heap.size,5,none⟩=some (.slice ka kn kc)):=η ⟨a0.cell 0,Z.cell 5⟩;have e0:=j.cell 0;have e1:=j.cell 1;have e2:=j.cell 2;have f0:=j.free 0;have f1:=j.free 1;have f2:=j.free 2;clear h3 hs r D j o3 a0 Z))
 all_goals
  clear S U;go_wp2_with fail
  ((try simp only[Exit.inBlock,Exit.then]);refine bodyPost_ret (v:=q1c 0 0) (by rw[q0L rfl];go_simp) rfl ?_)
  exact⟨rfl,o0.o.fin3 l0.o n0.o _ _ _⟩
theorem z7D(h:WoD wb w gw g rate sd c s u n bs k0 K)(nm:List UInt8)(a b:Int)(ev i:Value)(j:List UInt8):
  Calls Tryz.prog 26 #[.pointer (some ⟨gw,0,none⟩),.agg #[.int .i64 5,.string ⟨nm.toArray⟩,.int .i64 a,.int .i64 b,ev,i,.string ⟨j.toArray⟩]] w fun e w'=>e= .returned (q1c 61 0)/\Ext w w':=by
 have d:=q1x w (.cells #[.int .i64 5,.string ⟨nm.toArray⟩,.int .i64 a,.int .i64 b,ev,i,.string ⟨j.toArray⟩] 83) (.cells #[.int .i64 0,.int .i64 0,.slice none 0 0] 80);have q:=(Blk.new w 83 #[.int .i64 5,.string ⟨nm.toArray⟩,.int .i64 a,.int .i64 b,ev,i,.string ⟨j.toArray⟩]).ext (q0C _ (.cells #[.int .i64 0,.int .i64 0,.slice none 0 0] 80));have l:=η (h.grow d);have D:=q.cell 0;have r:=l.o.1.cell 1;clear h d q;go_enter Tryz.func26,Tryz.ntmps26;go_wp2_with fail;refine(q4m l.o.1).mono ?_;rintro e w1 ⟨rfl,rfl⟩;go_wp2_with fail
 ((try simp only[Exit.inBlock,Exit.then]);refine bodyPost_ret (v:=q1c 61 0) (by rw[q0L rfl];go_simp) rfl ?_)
 exact⟨rfl,q1x _ _ _⟩
end
section
variable {wb w W W':World}{gw g gs rate u n:Nat}{sd c s:Int}{bs:List Bt}{k0:Nat}{K K':Nat->Prop}
theorem SQX.grow(h:SQX wb W g sd c s u n bs K)(k:Ext W W'):SQX wb W' g sd c s u n bs K:=by
 obtain⟨m,B,C,P,⟨st,σ,φ,F,h1,h2,h3,h4⟩,b⟩:=h;exact⟨m,B,C,P,⟨st,σ,φ,F,h1,h2,h3.grow k,h4⟩,b⟩
theorem y2d(h:WoD wb w gw g rate sd c s u n bs k0 K)(hs:0<=s/\s<1000000)(hn:n<=200)(q:(u:Int)+4096<=c):
  Calls Tryz.prog 70 #[.pointer (some ⟨gw,0,none⟩)] w fun e w'=>e= .returned (.int .i64 0)/\(∃j gs,k0<=j/\j<=bs.length/\WoK wb w' gw g gs rate sd c (s+1) u n (bs.take j) j K)/\Stay K w w':=by
 have D:=OffS.set (F:=fun i=>i=gw) w rfl 1 (.pointer none);have J:=h.2.1.pokeS (x:=gw) (.inr rfl) h.2.2.2 1 (.pointer none);have G:=h.1.set 1 (.pointer none);have R:Stay K w (w.setCell ⟨gw,1,none⟩ (.pointer none)):=fun i l=>D.block i (h.2.1.klt i (.inl l)) fun e=>h.2.2.1 (by rw[<-show i=gw from e];exact l)
 have g1:=h.1.cell 1;have h0:=h.1.free 1;have c0:=G.cell 0;have Z:=η G;have b0:=η R;have HU:=η J.upC;have f0:=η (J.start hs);have E:=η h.2.2;have a0:=η (fun i (l:K i)=>h.2.1.klt i (.inl l));have HN:=η (And.intro hn q);clear h D J G R hs hn q;go_enter Tryz.func70,Tryz.ntmps70;go_wp2_with fail;refine HU.o.mono ?_;rintro e w2 ⟨rfl,rfl⟩;go_wp2_with fail;refine f0.o.mono ?_;rintro e Y ⟨rfl,⟨j,U,V,hq⟩,M⟩;have S:=Blk.same Z.o (M _ (.inr rfl));have Q:Hd (Stay K w Y):=η (b0.o.trans fun i l=>M i (.inl l));have HJ:=η (And.intro U V);have X:(bs.take j).length=j:=by rw[Θ];omega
 have ho:=(hq.grow (Ext.refl Y).drew).open HN.o.1 HN.o.2 rate;rw[X] at ho;have HO:=η ho;have r:=η (S.ext (Ext.refl Y).drew);have d0:=r.o.cell 0;have d2:=r.o.cell 2;have d3:=r.o.cell 3;clear M S U V X ho hq c0 g1 h0;go_wp2_with fail
 go_region_held3 (fun W=>W.cell? ⟨gw,0,none⟩=some (.pointer (some ⟨g,0,none⟩))/\W.cell? ⟨gw,2,none⟩=some (.int .u64 sd)/\W.cell? ⟨gw,3,none⟩=some (.float .f64 rate))
  (first|exact O.o|exact N.o|exact⟨d0,d2,d3⟩)
  (first|(go_at_call 33;refine HO.o.mono ?_;rintro e v ⟨gs,rfl,h4,I⟩;have b:=Blk.same r.o (I _ (.inr rfl));have d:=b.set 1 (.pointer (some ⟨gs,0,none⟩));have i0:=η d;have e1:=b.cell 1;have f1:=b.free 1;have g0:Hd (WoK wb (v.setCell ⟨gw,1,none⟩ (.pointer (some ⟨gs,0,none⟩))) gw g gs rate sd c (s+1) u n (bs.take j) j K):=η ⟨d,h4.pokeS (x:=gw) (.inr rfl) E.o.2 1 _,E.o⟩;have e0:Hd (Stay K w (v.setCell ⟨gw,1,none⟩ (.pointer (some ⟨gs,0,none⟩)))):=η (fun i l=>(heap_setCell_other v ⟨gw,1,none⟩ i (.pointer (some ⟨gs,0,none⟩)) fun e=>E.o.1 (by rw[<-show i=gw from e];exact l)).trans ((I i (.inl l)).trans (((Ext.refl Y).drew.block i (z3N (a0.o i l) (Q.o i l))).trans (Q.o i l))));have N:Hd (v.cell? ⟨gw,0,none⟩=some (.pointer (some ⟨g,0,none⟩))/\v.cell? ⟨gw,2,none⟩=some (.int .u64 sd)/\v.cell? ⟨gw,3,none⟩=some (.float .f64 rate)):=η ⟨b.cell 0,b.cell 2,b.cell 3⟩;have O:Hd ((v.setCell ⟨gw,1,none⟩ (.pointer (some ⟨gs,0,none⟩))).cell? ⟨gw,0,none⟩=some (.pointer (some ⟨g,0,none⟩))/\(v.setCell ⟨gw,1,none⟩ (.pointer (some ⟨gs,0,none⟩))).cell? ⟨gw,2,none⟩=some (.int .u64 sd)/\(v.setCell ⟨gw,1,none⟩ (.pointer (some ⟨gs,0,none⟩))).cell? ⟨gw,3,none⟩=some (.float .f64 rate)):=η ⟨d.cell 0,d.cell 2,d.cell 3⟩;clear h4 I b d))
 all_goals
  clear N O d0 d2 d3;go_wp2_with fail;go_ret;exact⟨rfl,⟨j,gs,HJ.o.1,HJ.o.2,g0.o⟩,e0.o⟩
theorem y2e(R:WoB w gw g (.pointer none) sd rate)(h:SQ wb w g sd c s u n bs (fun i=>K i\/i=gw))(S:¬K gw/\wb.heap.size<=gw)(hn:n<=200):
  Calls Tryz.prog 70 #[.pointer (some ⟨gw,0,none⟩)] w fun e w'=>e= .returned (.int .i64 0)/\(∃gs,WoK wb w' gw g gs rate sd c s u n bs 0 K)/\Stay K w w':=by
 have I: ∀i,(K i\/i=gw)->i<w.heap.size:=by
  obtain⟨m,B,C,P,⟨st,σ,φ,F,h1,h2,h3,h4⟩,_⟩:=h;exact fun i b=>(h3.k i b).1
 have l:Ext wb w:=by
  obtain⟨m,B,C,P,⟨st,σ,φ,F,h1,h2,h3,h4⟩,_⟩:=h;exact h3.ext
 have r:=OffS.set (F:=fun i=>i=gw) w rfl 1 (.pointer none);have hq:SQ wb (w.setCell ⟨gw,1,none⟩ (.pointer none)) g sd c s u n bs (fun i=>K i\/i=gw):=by
  obtain⟨m,B,C,P,⟨st,σ,φ,F,h1,h2,h3,h4⟩,Y⟩:=h;exact⟨m,B,C,P,⟨st,σ,φ,F,h1,h2,⟨h3.d.held (by rw[World.size_setCell];exact ι _) (fun i b=>heap_setCell_other _ _ _ _ fun e=>(h3.k gw (.inr rfl)).2 (by rw[<-show i=gw from e];exact b)),h3.bF,r.ext l fun i b=>by rw[b];exact S.2,fun i b=>⟨by rw[World.size_setCell];exact(h3.k i b).1,(h3.k i b).2⟩⟩,h4⟩,Y⟩
 have G:=R.set 1 (.pointer none);have O:Stay K w (w.setCell ⟨gw,1,none⟩ (.pointer none)):=fun i b=>r.block i (I i (.inl b)) fun e=>S.1 (by rw[<-show i=gw from e];exact b)
 have g1:=R.cell 1;have a0:=R.free 1;have c0:=G.cell 0;have HU:=η hq.upC;have Q:SQ wb (w.setCell ⟨gw,1,none⟩ (.pointer none)).drew g sd c s u n bs (fun i=>K i\/i=gw):=by
  obtain⟨m,B,C,P,⟨st,σ,φ,F,h1,h2,h3,h4⟩,Y⟩:=hq;exact⟨m,B,C,P,⟨st,σ,φ,F,h1,h2,h3.grow (Ext.refl _).drew,h4⟩,Y⟩
 have HO:=η (Q.open hn rate);have v:=η (G.ext (Ext.refl _).drew);have Z:=v.o.cell 0;have d2:=v.o.cell 2;have d3:=v.o.cell 3;have U:Hd (Stay K w (w.setCell ⟨gw,1,none⟩ (.pointer none)).drew):=η fun i b=>((Ext.refl _).drew.block i (by rw[World.size_setCell];exact I i (.inl b))).trans (O i b)
 have E:=η S;clear h R S I l r hq Q G O;go_enter Tryz.func70,Tryz.ntmps70;go_wp2_with fail;refine HU.o.mono ?_;rintro e w2 ⟨rfl,rfl⟩;go_wp2_with fail
 go_region_held3 (fun W=>W.cell? ⟨gw,0,none⟩=some (.pointer (some ⟨g,0,none⟩))/\W.cell? ⟨gw,2,none⟩=some (.int .u64 sd)/\W.cell? ⟨gw,3,none⟩=some (.float .f64 rate))
  (first|exact N.o|exact M.o|exact⟨Z,d2,d3⟩)
  (first|(go_at_call 33;refine HO.o.mono ?_;rintro e D ⟨gs,rfl,h4,J⟩;have j:=Blk.same v.o (J _ (.inr rfl));have q:=j.set 1 (.pointer (some ⟨gs,0,none⟩));have e1:=j.cell 1;have f1:=j.free 1;have X:Hd (WoK wb (D.setCell ⟨gw,1,none⟩ (.pointer (some ⟨gs,0,none⟩))) gw g gs rate sd c s u n bs 0 K):=η ⟨q,h4.pokeS (x:=gw) (.inr rfl) E.o.2 1 _,E.o⟩;have V:Hd (Stay K w (D.setCell ⟨gw,1,none⟩ (.pointer (some ⟨gs,0,none⟩)))):=η (fun i b=>(heap_setCell_other D ⟨gw,1,none⟩ i (.pointer (some ⟨gs,0,none⟩)) fun e=>E.o.1 (by rw[<-show i=gw from e];exact b)).trans ((J i (.inl b)).trans (U.o i b)));have M:Hd (D.cell? ⟨gw,0,none⟩=some (.pointer (some ⟨g,0,none⟩))/\D.cell? ⟨gw,2,none⟩=some (.int .u64 sd)/\D.cell? ⟨gw,3,none⟩=some (.float .f64 rate)):=η ⟨j.cell 0,j.cell 2,j.cell 3⟩;have N:Hd ((D.setCell ⟨gw,1,none⟩ (.pointer (some ⟨gs,0,none⟩))).cell? ⟨gw,0,none⟩=some (.pointer (some ⟨g,0,none⟩))/\(D.setCell ⟨gw,1,none⟩ (.pointer (some ⟨gs,0,none⟩))).cell? ⟨gw,2,none⟩=some (.int .u64 sd)/\(D.setCell ⟨gw,1,none⟩ (.pointer (some ⟨gs,0,none⟩))).cell? ⟨gw,3,none⟩=some (.float .f64 rate)):=η ⟨q.cell 0,q.cell 2,q.cell 3⟩;clear h4 J j q))
 all_goals
  clear M N Z d2 d3;go_wp2_with fail;go_ret;exact⟨rfl,⟨gs,X.o⟩,V.o⟩
theorem DkK.more{w0:World}{C:Cks}(h:DkK noO w0 W g c s C K)(k:Ext W W')(hK: ∀i,K' i->K i\/(W.heap.size<=i/\i<W'.heap.size)):DkK noO w0 W' g c s C K':=by
 obtain⟨F,σ,h1,h2⟩:=h;have b: ∀i,F i->i<W.heap.size:=by obtain⟨_,_,_,_,_,_,h⟩:=h1.d;exact h
 refine⟨F,σ,⟨h1.d.ext k,h1.bF,h1.ext.trans k,fun i o=>?_⟩,h2⟩;rcases hK i o with h4|⟨h4,j⟩
 ·exact⟨Ψ (h1.k i h4).1 k.size,(h1.k i h4).2⟩
 ·exact⟨j,fun l=>by have:=b i l;omega⟩
theorem y1D(w:World)(c sd:Int)(rate:Nat)(E:0<=c)(h1:c<=1048576)(d:0<=sd)(j:sd<18446744073709551616):
  Calls Tryz.prog 25 #[.int .i64 c,.int .u64 sd,.float .f64 rate] w fun e w'=> ∃gw g gs,e= .returned (.tuple #[.pointer (some ⟨gw,0,none⟩),.int .i64 0])/\WoK w w' gw g gs rate sd c 0 0 0 [] 0 noI:=by
 have r:=η (DkK.new w c E h1);have D:=η (And.intro d j);clear E h1 d j;go_enter Tryz.func25,Tryz.ntmps25;go_wp2_with fail;refine r.o.mono ?_;rintro e w1 ⟨g,rfl,q⟩;have I:=q0C w1 (.cells #[.pointer (some ⟨g,0,none⟩),.pointer none,.int .u64 sd,.float .f64 rate] 100);have G:=Blk.new w1 100 #[.pointer (some ⟨g,0,none⟩),.pointer none,.int .u64 sd,.float .f64 rate];have l:w.heap.size<=w1.heap.size:=by obtain⟨F,σ,M,N⟩:=q;exact M.ext.size
 have hq:=(q.more (K':=fun i=>noI i\/i=w1.heap.size) I fun i b=>by
  rcases b with b|b
  ·exact b.elim
  ·exact .inr (by rw[b,ρ];omega)).sq sd D.o.1 D.o.2
 have v:=η (y2e (rate:=rate) G hq ⟨fun e=>e,l⟩ (by omega));clear q I G hq r l;go_wp2_with fail;refine v.o.mono ?_;rintro e O ⟨rfl,⟨gs,h2⟩,_⟩;have J:=η h2;clear h2 v;go_wp2_with fail;go_ret2;exact⟨_,g,gs,rfl,J.o⟩
theorem z7G(h:WoD wb w gw g rate sd c s u n bs k0 K)(Z:0<=s/\s<1000000)(Y:n<=200)(l:(u:Int)+4096<=c)(nm:List UInt8)(a b:Int)(ev J:Value)(M:List UInt8):
  Calls Tryz.prog 26 #[.pointer (some ⟨gw,0,none⟩),.agg #[.int .i64 9,.string ⟨nm.toArray⟩,.int .i64 a,.int .i64 b,ev,J,.string ⟨M.toArray⟩]] w fun e w'=>e= .returned (q1c 0 0)/\(∃j gs,k0<=j/\j<=bs.length/\WoK wb w' gw g gs rate sd c (s+1) u n (bs.take j) j K)/\Stay K w w':=by
 have D:=q1x w (.cells #[.int .i64 9,.string ⟨nm.toArray⟩,.int .i64 a,.int .i64 b,ev,J,.string ⟨M.toArray⟩] 83) (.cells #[.int .i64 0,.int .i64 0,.slice none 0 0] 80);have X:=(Blk.new w 83 #[.int .i64 9,.string ⟨nm.toArray⟩,.int .i64 a,.int .i64 b,ev,J,.string ⟨M.toArray⟩]).ext (q0C _ (.cells #[.int .i64 0,.int .i64 0,.slice none 0 0] 80));have R:=Blk.new (w.alloc (.cells #[.int .i64 9,.string ⟨nm.toArray⟩,.int .i64 a,.int .i64 b,ev,J,.string ⟨M.toArray⟩] 83)) 80 #[.int .i64 0,.int .i64 0,.slice none 0 0];rw[ρ] at R;have G:¬K (w.heap.size+1):=fun e=>by have:=h.2.1.klt _ (.inl e);omega
 have I:wb.heap.size<=w.heap.size+1:=by have:=h.2.1.base.size;omega
 have V:=η (h.more (K':=fun i=>K i\/i=w.heap.size+1) D fun i S=>S.imp id fun e=>by simp only[ρ];omega);have HS:=η (h.kExt D);have HA:=η R;have N:=η (And.intro G I);have z0:=X.cell 0;have HO:=η (y2d V.o Z Y l);clear h D X R G I Z Y l;go_enter Tryz.func26,Tryz.ntmps26;go_wp2_with fail;refine(q4m V.o.1).mono ?_;rintro e w1 ⟨rfl,rfl⟩;go_wp2_with fail;refine HO.o.mono ?_;rintro e w3 ⟨rfl,⟨j,gs,E,F,h3⟩,r⟩;have Q:=η h3;have U:=η (And.intro E F);have O:Hd (Stay K w w3):=η (HS.o.trans fun i S=>r i (.inl S));have d:=HA.o.same (r _ (.inr rfl));have e0:=d.cell 0;have e1:=d.cell 1;have e2:=d.cell 2;have f0:=d.free 0;have f1:=d.free 1;have f2:=d.free 2;clear h3 r d E F;go_wp2_with fail
 ((try simp only[Exit.inBlock,Exit.then]);refine bodyPost_ret (v:=q1c 0 0) (by rw[q0L rfl];go_simp) rfl ?_)
 have q:=fun v0 v1 v2=>Q.o.fin3 N.o O.o v0 v1 v2
 exact⟨rfl,⟨j,gs,U.o.1,U.o.2,(q _ _ _).1⟩,(q _ _ _).2⟩
theorem z5H{b:Option Addr}(h:WoB w gw g (.pointer b) sd rate):Calls Tryz.prog 37 #[.pointer (some ⟨gw,0,none⟩)] w fun e w'=>e= .returned (.pointer b)/\w=w':=by
 have d:=η (q4m h);have i:=h.cell 1;clear h;go_enter Tryz.func37,Tryz.ntmps37;go_wp2_with fail;refine d.o.mono ?_;rintro e w1 ⟨rfl,rfl⟩;go_wp2_with fail;go_ret;exact⟨rfl,rfl⟩
end
theorem Evs.blk{w W:World}{b off n:Nat}(h:Evs w (some ⟨b,off,none⟩) n cap L)(k:W.heap[b]? =w.heap[b]?):Evs W (some ⟨b,off,none⟩) n cap L:=
 ⟨h.len,h.fits,h.bound,h.nil,fun j u i=>by
  obtain⟨b2,d,e,hc⟩:=h.rd j u i
  cases e
  exact⟨_,_,rfl,(z1T k _).trans hc⟩⟩
theorem z7n(w:World):Calls Tryz.prog 24 #[] w fun e w'=>e= .returned (.bool true)/\Ext w w':=by
 have HN:=η (y1D w 100000 0 4576918229304087675 (by omega) (by omega) (by omega) (by omega));go_enter Tryz.func24,Tryz.ntmps24;go_wp2_with fail;refine HN.o.mono ?_;rintro e w1 ⟨gw,g,gs,rfl,E⟩;have HD:=η E;have V:=q0C w1 (.cells #[.string ⟨#[116]⟩,.string ⟨#[]⟩,.float .f64 0] 67);have hE:=Evs.lit1 w1 ⟨[116],[],0⟩;have S:=E.more (K':=fun i=>i=w1.heap.size) V fun i r=> .inr (by rw[r,ρ];omega)
 have c0:w1.heap.size<(w1.alloc (.cells #[.string ⟨#[116]⟩,.string ⟨#[]⟩,.float .f64 0] 67)).heap.size:=by rw[ρ];omega
 have HA:=η (z1a S (by omega) [115] (-1) 0 (.slice none 0 0) [] (by simp) (ao:=some ⟨w1.heap.size,0,none⟩) (m:=1) (cap:=1) (L:=[⟨[116],[],0⟩]) (fun W hW hs=>hE.blk (hs _ rfl)) (fun e he=>by rw[List.mem_singleton.1 he];simp) (fun e he=>by rw[List.mem_singleton.1 he];simp) (z:=0) (by rfl));clear E S HN hE;go_wp2_with fail;refine(z5H HD.o.1).mono ?_;rintro e i0 ⟨rfl,rfl⟩;go_wp2_with fail;refine HA.o.mono ?_;rintro e Y ⟨x,y,f0,rfl,⟨h3,d0⟩,d⟩;rcases d with d|d|⟨_,rfl,rfl,rfl⟩
 ·exact absurd rfl d.1
 ·have:=d.2.2.2.2;omega
 have X:=q0C Y (.cells #[.int .i64 0,.int .i64 0,.slice none 0 0] 80);have h4:=h3.more (K':=fun i=>i=Y.heap.size) X fun i r=> .inr (by rw[r,ρ];omega)
 have G:=η (Blk.new Y 80 #[.int .i64 0,.int .i64 0,.slice none 0 0]);have HC:=η (z4J h4 [] 0 0 (.slice none 0 0) [] (ka:=none) (kn:=0) (kc:=0) (xs:=[]) ⟨rfl,by omega,by omega,fun _=>rfl,Rd.nil _ _⟩ (fun a e=>by cases e));clear h3 d0 V c0 X h4 HA HD;go_wp2_with fail;refine HC.o.mono ?_;rintro e Z ⟨rfl,h5,U⟩;have v:=q0C Z (.cells #[.int .i64 0,.int .i64 0,.slice none 0 0] 80);have R:=G.o.same (U _ rfl);have I:=η (R.ext v);have M:=η (Blk.new Z 80 #[.int .i64 0,.int .i64 0,.slice none 0 0]);have h6:=h5.more (K':=fun i=>i=Y.heap.size\/i=Z.heap.size) v fun i r=>r.imp id fun e=>by rw[e,ρ];omega
 have H6:=η h6;have Q:=η (z7D h6 [] 0 0 (.slice none 0 0) (.slice none 0 0) []);clear h5 U v R h6 HC G;go_wp2_with fail;refine Q.o.mono ?_;rintro e w7 ⟨rfl,D⟩;have q:=D.trans (q0C w7 (.cells #[.int .i64 61,.int .i64 0,.slice none 0 0] 80));have J:=η (I.o.ext q);have N:=η (M.o.ext q);have O:=η (Blk.new w7 80 #[.int .i64 61,.int .i64 0,.slice none 0 0]);have h8:=H6.o.more (K':=fun i=>(i=Y.heap.size\/i=Z.heap.size)\/i=w7.heap.size) q fun i r=>r.imp id fun e=>by have:=D.size;simp only[ρ] at this⊢;omega
 have HO:=η (z7G h8 (by omega) (by omega) (by omega) [] 0 0 (.slice none 0 0) (.slice none 0 0) []);clear D q Q H6 I M h8;go_wp2_with fail;refine HO.o.mono ?_;rintro e w9 ⟨rfl,⟨j,g0,a0,b0,h9⟩,l⟩;have b:=q0C w9 (.cells #[.int .i64 0,.int .i64 0,.slice none 0 0] 80);have ha:=(J.o.same (l _ (.inl (.inl rfl)))).ext b;have hb:=(N.o.same (l _ (.inl (.inr rfl)))).ext b;have hc:=(O.o.same (l _ (.inr rfl))).ext b;have E:=Blk.new w9 80 #[.int .i64 0,.int .i64 0,.slice none 0 0];have F:=η (h9.grow b);have e0:=ha.cell 0;have e1:=ha.cell 1;have e2:=hb.cell 0;have e3:=hc.cell 0;have e4:=E.cell 0;clear h9 l b ha hb hc E HO J N O a0 b0;go_wp2_with fail;refine(z5H F.o.1).mono ?_;rintro e h0 ⟨rfl,rfl⟩;go_wp2_with fail;go_ret;exact⟨rfl,F.o.base⟩
def evD :Ev:=⟨[116],[100,97,116,97],0⟩
def sbN :Nat->List Bt
 |0=>[]
 |k+1=>sbN k++[⟨[115],k,[evD]⟩]
theorem z3c(k:Nat):(q1V (sbN k) [115]).length=k:=by
 induction k with
 |zero=>rfl
 |succ k ih=>rw[sbN,q6p,ξ rfl,θ,ih];rfl
theorem z0p(k:Nat):(sbN k).length=k:=by
 induction k with
 |zero=>rfl
 |succ k ih=>rw[sbN,θ,ih];rfl
theorem y2L(k:Nat):(tos (sbN k)).length=k:=by
 induction k with
 |zero=>rfl
 |succ k ih=>rw[sbN,q2o,q7B,θ,ih,q3r];rfl
theorem y0a(k:Nat): ∀j,j<=k->(sbN k).take j=sbN j:=by
 induction k with
 |zero=>intro j b;rw[show j=0 by omega];rfl
 | succ k ih=>
  intro j b;by_cases h:j=k+1
  ·subst h;rw[Δ (by rw[z0p];exact ι _)]
  ·rw[sbN,List.take_append_of_le_length (by rw[z0p];omega)];exact ih j (by omega)
theorem y2K(k:Nat)(ex:Int)(h:ex= -2\/ex=(k:Int)-1):y0p (sbN k) [115] ex [evD]=0:=by
 have b:q0t [115] 0 [evD]=0:=by decide
 unfold y0p;rw[b,z3c,κ (by simp),κ (by omega),κ (by omega)]
theorem y0Z(k:Nat):z0Y (sbN k) [115]=((k:Int)-1,0):=by
 unfold z0Y;rw[ξ (by rfl),z3c]
section
variable {wb w W W':World}{gw g gs rate u n:Nat}{sd c s:Int}{bs:List Bt}{k0:Nat}{K K':Nat->Prop}
theorem WoK.mono(h:WoK wb W gw g gs rate sd c s u n bs k0 K)(d:u<=u')(b:n<=n'):WoK wb W gw g gs rate sd c s u' n' bs k0 K:=⟨h.1,h.2.1.mono d b,h.2.2⟩
theorem y1c{b:Nat}(h:Blk W b 67 #[.string ⟨#[116]⟩,.string ⟨#[100,97,116,97]⟩,.float .f64 0]):Evs W (some ⟨b,0,none⟩) 1 1 [evD]:=
 ⟨rfl,ι _,by omega,(fun h=>by cases h),fun j u d=>by
  refine⟨b,0,rfl,?_⟩;rw[Nat.zero_add,h.cell]
  match j,d with
  |0,d=>exact d
  |1,d=>exact d
  |2,d=>exact d⟩
theorem z7F{E i:Nat}(h:WoK wb w gw g gs rate sd c s u n (sbN i) k0 K)(D:n<=86)(I:(u:Int)+8024<=c)(q:K E)(v:Blk w E 67 #[.string ⟨#[116]⟩,.string ⟨#[100,97,116,97]⟩,.float .f64 0])(a b:Int)(r:a= -2\/a=(i:Int)-1)(j:Value)(l:List UInt8):
  Calls Tryz.prog 26 #[.pointer (some ⟨gw,0,none⟩),.agg #[.int .i64 1,.string ⟨[115].toArray⟩,.int .i64 a,.int .i64 b,.slice (some ⟨E,0,none⟩) 1 1,j,.string ⟨l.toArray⟩]] w fun e w'=>e= .returned (q1c 0 (i:Int))/\WoK wb w' gw g gs rate sd c s (u+2024) (n+1) (sbN (i+1)) k0 K/\Stay K w w':=
 (z1a h D [115] a b j l (by decide) (ao:=some ⟨E,0,none⟩) (m:=1) (cap:=1) (L:=[evD]) (fun W G F=>y1c (Blk.same v (F _ q))) (fun e he=>by rw[List.mem_singleton.1 he];exact⟨by decide,by decide⟩) (fun e he=>by rw[List.mem_singleton.1 he];decide) (y2K i a r)).mono (by
  rintro e w' ⟨x,y,o,rfl,h3,d⟩;rcases d with d|d|⟨_,rfl,rfl,rfl⟩
  ·exact absurd rfl d.1
  ·have:=d.2.2.2.2;omega
  ·rw[z3c] at h3⊢
   exact⟨rfl,h3⟩)
theorem y1W(h:WoK wb w gw g gs rate sd c s u n bs k0 K)(l:n<=39)(o:(u:Int)+16000<=c)(j:Bool)(nm:List UInt8)(a b:Int)(ev d:Value)(i:List UInt8):
  Calls Tryz.prog 26 #[.pointer (some ⟨gw,0,none⟩),.agg #[.int .i64 (cond j 7 6),.string ⟨nm.toArray⟩,.int .i64 a,.int .i64 b,ev,d,.string ⟨i.toArray⟩]] w fun e w'=>e= .returned (q1c 0 0)/\WoK wb w' gw g gs rate sd c s (u+20000) (n+1) bs bs.length K/\Stay K w w':=by
 cases j with
 |false=>exact(z9d h nm a b ev d i).mono fun e w' ⟨h1,h2,h3⟩=>⟨h1,h2.mono (by omega) (by omega),h3⟩
 |true=>exact(z7E h l o nm a b ev d i).mono fun e w' ⟨z,h1,q,h2,h3⟩=>⟨by rw[h1,q],h2,h3⟩
end
theorem q7l(a b c:Value)(w:World):(Instr.field 80 (.agg #[a,b,c]) 0).run Tryz.prog w= .ok a w:=by
 rfl
theorem z2c(a b : Nat)(ha:a<=255)(hb:b<=255){n:Nat}(ib:Bool)(w:World)(hx:Slf (fun b:Int=>Value.int .u8 b) w ao n cap xs)(N: ∀x∈xs,(Lit.int .u8 x).wf=true):
  Calls Tryz.prog 5 #[.agg #[.int .u8 (a:Int),.int .u8 (b:Int)],.slice ao n cap,.bool ib] w fun e w'=>e= .returned (.bool true)/\Ext w w':=by
 have l0:=q0C w (.cells #[.int .u8 (a:Int),.int .u8 (b:Int)] 55);have HB:=η (Blk.new w 55 #[.int .u8 (a:Int),.int .u8 (b:Int)]);have h0:=η l0;have HK:=η (hx.ext l0);have A0:=hx.len;have b1:=hx.fits;have a1:=hx.bound;have R0:=η N;obtain⟨wA,j0⟩: ∃wA,w.alloc (.cells #[.int .u8 (a:Int),.int .u8 (b:Int)] 55)=wA:=⟨_,rfl⟩
 have HL:=η (z7n wA);have HN:=η (y1D wA 200000 1 4602678819172646912 (by omega) (by omega) (by omega) (by omega));rw[j0] at HB h0 HK;obtain⟨R,D0⟩: ∃R,a % 40=R:=⟨_,rfl⟩
 obtain⟨m0,C0⟩: ∃m0,b % 40=m0:=⟨_,rfl⟩
 have f1:R<40:=by omega
 have d1:m0<40:=by omega
 have q1:IntKind.i64.wrap (a:Int)=(a:Int):=by rw[ν];omega
 have q2:Int.tmod (a:Int) 40=(R:Int):=by rw[Int.tmod_eq_emod_of_nonneg (by omega),<-D0];omega
 have q3:IntKind.i64.wrap (R:Int)=(R:Int):=by rw[ν];omega
 have q4:IntKind.i64.wrap (b:Int)=(b:Int):=by rw[ν];omega
 have q5:Int.tmod (b:Int) 40=(m0:Int):=by rw[Int.tmod_eq_emod_of_nonneg (by omega),<-C0];omega
 have q6:IntKind.i64.wrap (m0:Int)=(m0:Int):=by rw[ν];omega
 clear hx l0 N D0 C0;go_enter Tryz.func5,Tryz.ntmps5;by_cases V0:40<n
 ·have hd:decide ((40:Int)<(n:Int))=true:=ζ (by omega)
  go_wp2_with fail;refine HL.o.mono ?_;rintro e w4 ⟨rfl,J0⟩;have S0:=η (h0.o.trans J0);clear J0 j0;go_wp2_with fail
  (try rw[Exit.noGoto_ret])
  go_ret;exact⟨rfl,S0.o⟩
 have hd:decide ((40:Int)<(n:Int))=false:=ε (by omega);go_wp2_with fail;refine HN.o.mono ?_;rintro e w1 ⟨gw,g,gs,rfl,hk⟩;have I0:=q0C w1 (.cells #[.string ⟨#[116]⟩,.string ⟨#[100,97,116,97]⟩,.float .f64 0] 67);have L0:=η (Blk.new w1 67 #[.string ⟨#[116]⟩,.string ⟨#[100,97,116,97]⟩,.float .f64 0]);have N0:=η (hk.more (K':=fun i=>i=w1.heap.size) I0 fun i hi=> .inr (by rw[hi,ρ];omega));have j1:n<=40:=by omega
 clear hk I0 HN j0 hd V0 HL;go_wp2_with fail
 go_loopw [10] (fun o W=> ∃k:Nat,k<=R/\o= .int .i64 (k:Int)/\Hd (WoK wA W gw g gs 4602678819172646912 1 200000 0 (2024*k) k (sbN k) 0 (fun i=>i=w1.heap.size))/\Hd (Blk W w1.heap.size 67 #[.string ⟨#[116]⟩,.string ⟨#[100,97,116,97]⟩,.float .f64 0])) (fun i _=>R-(intOf i).toNat)
 case atStart=>exact⟨0,by omega,rfl,N0,L0⟩
 case round =>
  obtain⟨k,hk,rfl,HR,HE⟩:=hrel;have d:=Blk.ext HB.o HR.o.base;have c0:=d.cell 0;have c1:=d.cell 1;clear d;by_cases q:k<R
  ·have hd:decide ((k:Int)<(R:Int))=true:=ζ (by omega)
   have q8:IntKind.i64.wrap ((k:Int)+1)=(k:Int)+1:=by rw[ν];omega
   have q9:IntKind.i64.wrap ((k:Int)-1)=(k:Int)-1:=by rw[ν];omega
   have HA:=η (z7F HR.o (by omega) (by omega) rfl HE.o ((k:Int)-1) 0 (.inr rfl) (.slice none 0 0) []);clear c1;go_wp2_with fail;refine HA.o.mono ?_;rintro e w3 ⟨rfl,h3,M⟩;rw[show 2024*k+2024=2024*(k+1) by omega] at h3;have H3:=η h3;have g0:=η (Blk.same HE.o (M _ rfl));clear h3 M HA c0;unfold q1c;have l:=q7l;go_wp2_with fail;clear l
   go_roundw
   case rel=>exact⟨k+1,by omega,by go_num,H3,g0⟩
   case measure=>simp[intOf];omega
  ·obtain rfl : k=R:=by omega
   have hd:decide ((k:Int)<(k:Int))=false:=ε (by omega);clear q
   go_upto_if 47 with fail
   go_cut [11] from 48 to 141 (fun s W=>s= .int .i64 (cond ib 7 6)/\W=wr)
   case first=>
    cases ib with
    | false=>
     go_wp2_with fail
     go_meet
     case rel=>exact⟨rfl,rfl⟩
    | true=>
     go_wp2_with fail
     go_meet
     case rel=>exact⟨rfl,rfl⟩
   case rest =>
    obtain⟨rfl,rfl⟩:=hcut;have HS:=η (y1W HR.o (by omega) (by omega) ib [] 0 0 (.slice none 0 0) (.slice none 0 0) []);have P0:=η (And.intro q1 (And.intro q2 q3));clear c0 q1 q2 q3;go_wp2_with fail;refine HS.o.mono ?_;rintro e w3 ⟨rfl,h3,M⟩;rw[z0p] at h3;have H3:=η h3;have g0:=η (Blk.same HE.o (M _ rfl));clear h3 M HS c1;unfold q1c;have l:=q7l;go_wp2_with fail;clear l;obtain⟨u1,F0⟩: ∃u1,2024*k+20000=u1:=⟨_,rfl⟩
    rw[F0] at H3;have l1:u1<=98936:=by omega
    clear F0
    go_loopw [12] (fun o W=> ∃j:Nat,j<=m0/\o= .int .i64 (j:Int)/\Hd (WoK wA W gw g gs 4602678819172646912 1 200000 0 (u1+2024*j) (k+1+j) (sbN (k+j)) k (fun i=>i=w1.heap.size))/\Hd (Blk W w1.heap.size 67 #[.string ⟨#[116]⟩,.string ⟨#[100,97,116,97]⟩,.float .f64 0])) (fun i _=>m0-(intOf i).toNat)
    case atStart=>exact⟨0,by omega,rfl,H3,g0⟩
    case round =>
     obtain⟨j,hj,rfl,E,HF⟩:=hrel;have d:=Blk.ext HB.o E.o.base;have c0:=d.cell 0;have c1:=d.cell 1;clear d;by_cases q:j<m0
     ·have y0:decide ((j:Int)<(m0:Int))=true:=ζ (by omega)
      have q8:IntKind.i64.wrap ((j:Int)+1)=(j:Int)+1:=by rw[ν];omega
      have HA:=η (z7F E.o (by omega) (by omega) rfl HF.o (-2) 0 (.inl rfl) (.slice none 0 0) []);clear c0;go_wp2_with fail;refine HA.o.mono ?_;rintro e w4 ⟨rfl,h4,E0⟩;rw[show u1+2024*j+2024=u1+2024*(j+1) by omega] at h4;have H4:=η h4;have M0:=η (Blk.same HF.o (E0 _ rfl));clear h4 E0 HA c1;unfold q1c;have l:=q7l;go_wp2_with fail;clear l
      go_roundw
      case rel=>exact⟨j+1,by omega,by go_num,H4,M0⟩
      case measure=>simp[intOf];omega
     ·obtain rfl:j=m0:=by omega
      have y0:decide ((j:Int)<(j:Int))=false:=ε (by omega);have q0:=η (HK.o.ext E.o.base);clear q c0;obtain⟨w5,G0⟩: ∃w5,w5=wr:=⟨_,rfl⟩
      rw[<-G0] at E HF q0 c1⊢;clear G0;go_wp2_with fail;have Q0:=η (And.intro q4 (And.intro q5 q6));clear c1 q4 q5 q6 hd y0
      go_loopw [13,14] (fun v i W=> ∃p:Nat,p<=n/\i= .int .i64 (p:Int)/\Hd (Own W w5.heap.size 3 1 v p ((xs.take p).map (Value.int .i64)))/\Hd (Ext w5 W)) (fun _ i _=>n-(intOf i).toNat)
      case atStart=>exact⟨0,by omega,rfl,η (Own.nil _ _ _ _),η (Ext.refl _)⟩
      case round=>
       obtain⟨p,hp,rfl,S,HX⟩:=hrel;by_cases q:p<n
       ·have hd:decide ((p:Int)<(n:Int))=true:=ζ (by omega)
        have k1:(p:Int)<(n:Int):=by omega
        have q8:IntKind.i64.wrap ((p:Int)+1)=(p:Int)+1:=by rw[ν];omega
        obtain⟨b2,off,rfl,z1⟩:=(q0.o.ext HX.o).at 0 q;have N:=y2b R0.o p (by decide);have HT:=η (q0Z xs 0 p (by rw[A0];exact q));generalize xs.getD p 0=X at*;have hX:=bounds_u8 N;have q9:IntKind.i64.wrap X=X:=by rw[ν];omega
        clear N
        go_wp2_with (at_builtin;refine q0Y rfl _ _ 37 rfl w5.heap.size 3 _ 1 8 Tryz.underlying37 Tryz.infoInt rfl (by decide) _ _ _ rfl (S.o.ext ((Ext.refl _).alloc _)) _ _ _ [.int .i64 X] rfl rfl (fun h=>by cases h) (Rd.lit _ _ _) (by intro u hu;rw[List.mem_singleton.1 hu];rfl) (by omega) (by omega) (by have:=HX.o.size;simp;omega) ?_;intro v' w6 I hg U0)
        have x0:=q0z (HX.o.alloc (.cells #[.int .i64 X] 3)) (S.o.ext ((Ext.refl _).alloc _)) hg (by have:=HX.o.size;simp;omega);have T0:=η x0;have J:Own w6 w5.heap.size 3 1 v' (p+1) ((xs.take (p+1)).map (Value.int .i64)):=by rw[HT.o,List.map_append];exact I
        have O0:=η J;clear x0 J I hg U0;go_wp2_with fail
        go_roundw
        case rel=>exact⟨p+1,by omega,by go_num,O0,T0⟩
        case measure=>simp[intOf];omega
       ·obtain rfl:p=n:=by omega
        have hd:decide ((p:Int)<(p:Int))=false:=ε (by omega);have s0:Hd (xs.take p=xs):=η (Δ (by omega));have r:=S.o;rw[s0.o] at r;have B0:=r.lt;obtain⟨ka,kc,rfl,G⟩:=q2d r;have H0:=E.o.more (K':=fun i=> ∃a,ka=some a/\a.block=i) HX.o fun i hi=>by
         obtain⟨a,rfl,rfl⟩:=hi;exact .inr (B0 a.block rfl)
        have HC:=η (z4J H0 [] 0 0 (.slice none 0 0) [] G (fun a e=>⟨a,e,rfl⟩));clear r B0 G H0 S s0 q;unfold q1c at HC;go_wp2_with fail;refine HC.o.mono ?_;rintro e w7 ⟨rfl,h7,W0⟩;have HO:=η (z7G h7 (by omega) (by omega) (by omega) [] 0 0 (.slice none 0 0) (.slice none 0 0) []);clear h7 W0 HC;unfold q1c at HO;have l:=q7l;go_wp2_with fail;refine HO.o.mono ?_;rintro e w8 ⟨rfl,⟨Q,g1,i1,z0,h8⟩,X0⟩;rw[z0p] at z0;rw[y0a _ _ z0] at h8;have r0:=η (y1V (h8.beside (K':=noI) fun i hi=>hi.elim) (by omega) [115] 0 0 (.slice none 0 0) (.slice none 0 0) [] (by decide) (y0Z Q));clear h8 X0 HO;go_wp2_with fail;clear l;refine r0.o.mono ?_;rintro e w9 ⟨rfl,h9,Y0⟩;have d0:=q0C w9 (.cells #[.int .i64 0,.int .i64 ((Q:Int)-1),.slice none 0 0] 80);have U:=η (Blk.new w9 80 #[.int .i64 0,.int .i64 ((Q:Int)-1),.slice none 0 0]);have v0:=h9.more (K':=fun i=>i=w9.heap.size) d0 fun i hi=> .inr (by rw[hi,ρ];omega)
        have o0:=η (y3D v0 (by omega) [] 0 0 (.slice none 0 0) (.slice none 0 0) []);clear h9 Y0 d0 v0 r0;go_wp2_with fail;refine o0.o.mono ?_;rintro e K0 ⟨v,rfl,w0,b0,a0⟩;obtain⟨ta,tc,rfl⟩:=q0H a0;have O:=q0C K0 (.cells #[.int .i64 0,.int .i64 0,.slice ta (tos (sbN Q)).length tc] 80);have V:=η ((U.o.same (b0 _ rfl)).ext O);have Z:=η (Blk.new K0 80 #[.int .i64 0,.int .i64 0,.slice ta (tos (sbN Q)).length tc]);have F:=η (w0.base.trans O);rw[y2L] at V Z F⊢;clear a0 w0 b0 O o0 U;obtain⟨q1,q2,q3⟩:=P0.o;obtain⟨q4,q5,q6⟩:=Q0.o;have q7:IntKind.i64.wrap ((k:Int)+(j:Int))=(k:Int)+(j:Int):=by rw[ν];omega
        have d:=Blk.ext HB.o F.o;have c0:=q0D (d.cell 0);have c1:=q0D (d.cell 1);clear d;go_wp2_with fail;refine q0E (by kernel_rfl) (by kernel_rfl) ?_
        repeat (go_big_quiet_step (fail))
        refine wpQuiet_nil ?_;intro Z0 D;have Y:=η (V.o.ext D);have p0:=η (Z.o.ext D);have t0:=η (h0.o.trans (F.o.trans D));clear c0 c1 D q1 q2 q4 q5;have e0:=Y.o.cell 0;have e1:=Y.o.cell 1;have e2:=p0.o.cell 2;have q8:IntKind.i64.wrap ((k:Int)-1)=(k:Int)-1:=by rw[ν];omega
        have q9:IntKind.i64.wrap ((Q:Int)-1+1)=(Q:Int):=by rw[ν];omega
        have qa:decide ((k:Int)-1<=(Q:Int)-1)=true:=ζ (by omega);have qb:decide ((Q:Int)-1<(k:Int)+(j:Int))=true:=ζ (by omega);have qc:((Q:Int)==(Q:Int))=true:=by simp
        have HL:=η (z7n Z0);go_wp2_with fail;refine HL.o.mono ?_;rintro e m1 ⟨rfl,f0⟩;have u0:=η (t0.o.trans f0);clear f0;go_wp2_with fail;go_ret;exact⟨rfl,u0.o⟩
theorem worldssure_w(a b:Int)(l:0<=a/\a<=255)(o:0<=b/\b<=255){n:Nat}(i:Bool)(w:World)(j:Slf (fun b:Int=>Value.int .u8 b) w ao n cap xs)(d: ∀x∈xs,(Lit.int .u8 x).wf=true):
  Calls Tryz.prog 5 #[.agg #[.int .u8 a,.int .u8 b],.slice ao n cap,.bool i] w fun e w'=>e= .returned (.bool true)/\Ext w w':=by
 obtain⟨a,rfl⟩: ∃n:Nat,a=(n:Int):=⟨a.toNat,by omega⟩
 obtain⟨b,rfl⟩: ∃n:Nat,b=(n:Int):=⟨b.toNat,by omega⟩
 exact z2c a b (by omega) (by omega) i w j d
end
end Go.Proofs.YtfiibpgoplcgkaaGreatDoor
