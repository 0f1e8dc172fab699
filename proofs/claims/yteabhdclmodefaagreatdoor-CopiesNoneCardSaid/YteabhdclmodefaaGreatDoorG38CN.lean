/- The shelf's contract of slices.Reverse at []api.Told at this seat, in plain words. -/
import Derived.Shelf.SlicesQ.Reverse
import Derived.Ground.SlgnProg
import Derived.Test.YteabhdclmodefaaGreatDoorG37CN
set_option linter.unusedVariables false
set_option linter.unusedSimpArgs false
set_option maxRecDepth 100000
set_option maxHeartbeats 12800000
namespace Go.Proofs
open Go.Shelf
end Go.Proofs
namespace Go.Proofs.YteabhdclmodefaaGreatDoor
variable {k:Nat}{E:Oth}{t:TypeId}
section
open Go.RowKit Go.Sort Go.Lib
instance : Inhabited To:=⟨to0⟩
section
variable {wb w W W1 W2:World}{g gl gs gx rate:Nat}{m:Man}{ws:List En}{c s sd:Int}{u cnt:Nat}{B:List En}{C:Cks}{P:Pbs}{sure:Int}{K K':Nat->Prop}
end
end
section
open Go.RowKit
theorem q9V : ∀(C:Cks) (b:Nat),(∀ps∈C,ps≠[])->C.length<=(q0t b C).length
 |[],_,_=>ι _
 | ps::t,b,h=>by
  have h1:=q9V t (b+4096) fun q hq=>h q (.tail _ hq)
  have h2:0<ps.length:=List.length_pos_iff.2 (h ps (.head _));rw[q0t,θ,q4D,χ];omega
theorem z5n{bs:List Bt}(h:okBs bs):(tos bs).length<=8*bs.length:=by
 induction bs using q9D with
 |h0=>exact ι _
 | h1 l b ih=>
  obtain⟨h1,h2,_⟩:=okBs_snoc.1 h;have h3:=(q0q h2.1).2.2.2.1;have h4:=ih h1;rw[q2q,q7J,θ,q3f,θ,List.length_singleton];omega
def SK(wb W:World)(g gs rate:Nat)(sd c s:Int)(u n:Nat)(bs:List Bt)(K:Nat->Prop):Prop:=
 ∃gl gx m ws B C sure P,StoP wb W g gs gl gx rate m ws sd c s u (40+3*n) B C sure P K/\q1j P=bs/\m.nx<=n/\bs.length<=n/\0<=sd/\sd<18446744073709551616
def SQ(wb W:World)(g:Nat)(sd c s:Int)(u n:Nat)(bs:List Bt)(K:Nat->Prop):Prop:=
 ∃m B C P,DKQ wb W g m c s u (40+3*n) B C K/\y0o sd m B C P/\B.Nodup/\q1j P=bs/\m.nx<=n/\bs.length<=n/\0<=sd/\sd<18446744073709551616
section
variable {wb w W W':World}{g gs rate u n:Nat}{sd c s:Int}{bs:List Bt}{K K':Nat->Prop}
theorem StoP.bounds{gl gx:Nat}{m:Man}{ws:List En}{cnt:Nat}{B:List En}{C:Cks}{sure:Int}{P:Pbs}(h:StoP wb W g gs gl gx rate m ws sd c s u cnt B C sure P K)(d:q1j P=bs)(j:bs.length<=n):
  (tos bs).length<=8*n/\B.length<=8*n/\C.length<=n/\okBs bs:=by
 have b:okBs bs:=d▸h.stE.ok;have h1:=z5n b;have h2:=h.len;rw[d] at h2;have h3:=q9V C 0 h.i.cOk.full;rw[h.recE,q7A] at h3;have h4:bs.length=P.length:=by rw[<-d];exact List.length_map _
 exact⟨by omega,by omega,by omega,b⟩
theorem SK.base(h:SK wb W g gs rate sd c s u n bs K):Ext wb W:=by
 obtain⟨gl,gx,m,ws,B,C,sure,P,h1,_⟩:=h;exact h1.base
theorem SK.klt(h:SK wb W g gs rate sd c s u n bs K): ∀i,K i->i<W.heap.size:=by
 obtain⟨gl,gx,m,ws,B,C,sure,P,h1,_⟩:=h;exact h1.klt
theorem SK.grow(h:SK wb W g gs rate sd c s u n bs K)(k:Ext W W'):SK wb W' g gs rate sd c s u n bs K:=by
 obtain⟨gl,gx,m,ws,B,C,sure,P,h1,h2⟩:=h;exact⟨gl,gx,m,ws,B,C,sure,P,h1.grow k,h2⟩
theorem SK.kExt(h:SK wb W g gs rate sd c s u n bs K)(k:Ext W W'):Stay K W W':=fun i b=>k.block i (h.klt i b)
theorem SK.more(h:SK wb W g gs rate sd c s u n bs K)(k:Ext W W')(hK: ∀i,K' i->K i\/(W.heap.size<=i/\i<W'.heap.size)):SK wb W' g gs rate sd c s u n bs K':=by
 obtain⟨gl,gx,m,ws,B,C,sure,P,h1,h2⟩:=h;exact⟨gl,gx,m,ws,B,C,sure,P,h1.more k hK,h2⟩
theorem SK.beside(h:SK wb W g gs rate sd c s u n bs K)(k: ∀i,K' i->K i):SK wb W g gs rate sd c s u n bs K':=by
 obtain⟨gl,gx,m,ws,B,C,sure,P,h1,h2⟩:=h;exact⟨gl,gx,m,ws,B,C,sure,P,h1.beside k,h2⟩
def EvR(wb w:World)(g gs rate:Nat)(sd c s:Int)(u n:Nat)(bs:List Bt)(K:Nat->Prop)(R:List To)(z:Int)(e:Ending)(w':World):Prop:=
 ∃v,e= .returned (.tuple #[v,.int .i64 z])/\SK wb w' g gs rate sd c s u n bs (fun i=>K i\/v.ownBlock=some i)/\Stay K w w'/\w'.ownsRow wb.heap.size 68 5 v R.length (q7V R)/\ ∀i,K i->v.ownBlock≠some i
theorem SK.all(h:SK wb w g gs rate sd c s u n bs K)(j:n<=1000):Calls Tryz.prog 20 #[.pointer (some ⟨gs,0,none⟩)] w (EvR wb w g gs rate sd c s u n bs K (tos bs) 0):=by
 obtain⟨gl,gx,m,ws,B,C,sure,P,h1,rfl,h3,h4,b⟩:=h;obtain⟨b1,b2,b3,b4⟩:=h1.bounds rfl h4;refine(y0D h1 rfl (by omega)).mono ?_;rintro e w' ⟨v,rfl,d,i⟩;exact⟨v,rfl,⟨gl,gx,m,ws,B,C,sure,P,d,rfl,h3,h4,b⟩,i⟩
theorem SK.append(h:SK wb w g gs rate sd c s u n bs K)(Q:n<=86)(b:List UInt8)(F:b.length<=4611686018427387903)(ex:Int){ao:Option Addr}{cap:Nat}{L:List Ev}(I: ∀W,Ext wb W->Stay K w W->Evs W ao k cap L)(D:q4P L)
  (o: ∀e∈L,e.we<18446744073709551616){z:Int}(J:z9I bs b ex L=z):
  Calls Tryz.prog 27 #[.pointer (some ⟨gs,0,none⟩),.string ⟨b.toArray⟩,.int .i64 ex,.slice ao k cap] w fun e w'=>
   ∃ x y d,e= .returned (.tuple #[.int .i64 x,.int .i64 y])/\SK wb w' g gs rate sd c s (u+2024) (n+1) d K/\Stay K w w'/\
    ((z≠0/\x=0/\y=z/\d=bs)\/(z=0/\x=0/\y=60/\d=bs/\c-(u:Int)-2024<6000)\/(z=0/\x=((q1L bs b).length:Int)/\y=0/\d=bs++[⟨b,(q1L bs b).length,L⟩])):=by
 obtain⟨gl,gx,m,ws,B,C,sure,P,h1,rfl,h3,h4,l⟩:=h;obtain⟨b1,b2,b3,b4⟩:=h1.bounds rfl h4;have O:=z2G (q1j P) b;refine(z5e h1 b F ex I D o (by omega) (by omega) (by omega)).mono ?_;rw[J];rintro e w' ⟨⟨M,rfl,j⟩|⟨rfl,rfl,j,N⟩|⟨rfl,N,pos,r,B',v,i,rfl,j⟩,q⟩
 ·exact⟨_,_,_,rfl,⟨gl,gx,m,ws,B,C,sure,P,j.mono (by omega) (by omega),rfl,by omega,by omega,l⟩,q,.inl ⟨M,rfl,rfl,rfl⟩⟩
 ·exact⟨_,_,_,rfl,⟨gl,gx,m,ws,B,C,sure,P,j.mono (by omega) (by omega),rfl,by omega,by omega,l⟩,q,.inr (.inl ⟨rfl,rfl,rfl,rfl,by omega⟩)⟩
 ·exact⟨_,_,_,rfl,⟨gl,gx,m,r,B',v,i,_,j.mono (by omega) (by omega),rfl,by omega,by rw[q3t,θ,List.length_singleton];omega,l⟩,q,.inr (.inr ⟨rfl,rfl,rfl,q3t _ _ _⟩)⟩
theorem SQ.open(h:SQ wb w g sd c s u n bs K)(r:n<=200)(rate:Nat):Calls Tryz.prog 26 #[.pointer (some ⟨g,0,none⟩),.int .u64 sd,.float .f64 rate] w fun e w'=>
  ∃gs,e= .returned (.tuple #[.pointer (some ⟨gs,0,none⟩),.int .i64 0])/\SK wb w' g gs rate sd c s u n bs K/\Stay K w w':=by
 obtain⟨m,B,C,P,h1,h2,h3,rfl,h4,i,b,d⟩:=h;have q:=z5n h2.ok;refine(z8o h1 h2 b d (by omega) (by omega) h3 rate).mono ?_;rintro e w' ⟨gs,gl,gx,o,ws,B',sure,rfl,j,v,l⟩;exact⟨gs,rfl,⟨gl,gx,o,ws,B',C,sure,P,j,rfl,by omega,i,b,d⟩,l⟩
theorem DkK.sq(h:DkK noO wb w g c s [] K)(sd:Int)(d:0<=sd)(i:sd<18446744073709551616):SQ wb w g sd c s 0 0 [] K:=by
 obtain⟨F,σ,h1,h2⟩:=h;have l:Pl σ c s []:=by have:=h2.pl;simpa [q2G,noO,q2O,q5Q,q3C,q3k] using this
 have o:q0Z 0 0 []=true:=by decide
 refine⟨⟨0,0,sd,[]⟩,[],[],[],⟨⟨⟨0,0,sd,[]⟩,0,[],fun _=>none,0⟩,σ,fun _=>none,F,rfl,rfl,h1,⟨⟨⟨[],l,List.Pairwise.nil,fun _=>rfl,υ _,υ _⟩,⟨o,d,i⟩,(fun n j=>by cases j),(fun n e he=>by cases he),(fun nm j=>absurd rfl j),okM.nil,okM.nil,fun x=>?_⟩,.inr ⟨rfl,rfl,rfl,rfl⟩,fun k _=>by simp⟩,okC.nil⟩,
  ⟨rfl,rfl,okBs.nil,(fun x b=>by cases b),(fun x b=>by cases b),by show(0:Int)<=q4d [];rw[z2D];decide⟩,List.nodup_nil,rfl,Int.le_refl _,ι _,d,i⟩
 constructor
 ·intro b;cases b
 ·rintro(b|⟨n,e,he,_⟩)
  ·cases b
  ·cases he
end
theorem DkK.rebase{b wb w:World}{g:Nat}{c s:Int}{C:Cks}{K:Nat->Prop}(h:DkK E wb w g c s C K)(k:Ext b wb):DkK E b w g c s C K:=by
 obtain⟨F,σ,h1,h2⟩:=h;have l:=k.size;exact⟨F,σ,⟨h1.d,fun i j=>by have:=h1.bF i j;omega,k.trans h1.ext,h1.k⟩,h2⟩
theorem DkK.base{wb w:World}{g:Nat}{c s:Int}{C:Cks}{K:Nat->Prop}(h:DkK E wb w g c s C K):Ext wb w:=by
 obtain⟨F,σ,h1,h2⟩:=h;exact h1.ext
theorem Blk.rd{w:World}{b:Nat}{cs:Array Value}(h:Blk w b t cs):Rd w (some ⟨b,0,none⟩) cs.toList:=fun j u d=>⟨b,0,rfl,by rw[Nat.zero_add,h.cell j];simpa using d⟩
theorem Blk.evs{w:World}{b:Nat}{L:List Ev}(h:Blk w b t (q5v L).toArray)(d:k<=L.length)(i:L.length<=1000000):Evs w (some ⟨b,0,none⟩) k L.length (L.take k):=by
 refine⟨by rw[Θ];omega,d,by omega,(fun e=>by cases e),?_⟩;have h1:=h.rd.take (k*3);have e:(q5v L).take (k*3)=q5v (L.take k):=by
  conv=>lhs;rw[<-List.take_append_drop k L,q6h]
  exact List.take_left' (by rw[z0q,Θ];omega)
 rw[<-e]
 simpa using h1
theorem z7U{L:List Ev}(h: ∀e∈L,e.ty.length<=300/\e.da.length<=300):q4P L:=fun e he=>by have:=h e he;omega
section
variable {wb w W W1 W2:World}{g gs rate u n:Nat}{sd c s:Int}{bs:List Bt}{K K':Nat->Prop}
end
end
section
open Go.RowKit Go.Maps
variable {W W1 W2:World}{base gm n:Nat}{L:List To}{G:List UInt8->Value}
end
section
open Go.RowKit Go.Maps
theorem z4y(s p:List UInt8)(w:World)(i:s.length<=9223372036854775807)(j:p.length<=9223372036854775807):
  Calls Tryz.prog 82 #[.string ⟨s.toArray⟩,.string ⟨p.toArray⟩] w fun e w'=>e= .returned (.tuple #[.string ⟨(if q7U s p=true then s.drop p.length else s).toArray⟩,.bool (q7U s p)])/\w=w':=by
 have b:=η (fun W=>q5l s p W i j)
 cases hb:q7U s p with
 | false=>
  rw[hb] at b;go_enter Tryz.func82,Tryz.ntmps82;go_wp2_with fail;refine(b.o _).mono ?_;rintro e w1 ⟨rfl,rfl⟩;go_wp2_with fail;go_ret2;exact⟨rfl,rfl⟩
 | true=>
  rw[hb] at b;have d:p.length<=s.length:=by unfold q7U at hb;rw[Ξ] at hb;exact of_decide_eq_true hb.1
  have l:=q1u s (p.length:Int) p.length rfl d;rw[ξ rfl];go_enter Tryz.func82,Tryz.ntmps82;go_wp2_with fail;refine(b.o _).mono ?_;rintro e w1 ⟨rfl,rfl⟩;go_wp2_with fail;go_ret2;exact⟨rfl,rfl⟩
theorem z0o(s p:List UInt8)(w:World)(d:s.length<=9223372036854775807)(i:p.length<=9223372036854775807):
  Calls Tryz.prog 44 #[.string ⟨s.toArray⟩,.string ⟨p.toArray⟩] w fun e w'=>e= .returned (.tuple #[.string ⟨(if q7U s p=true then s.drop p.length else s).toArray⟩,.bool (q7U s p)])/\w=w':=by
 have b:=η (z4y s p w d i);generalize (if q7U s p=true then s.drop p.length else s)=X at*;generalize q7U s p=z at*;go_enter Tryz.func44,Tryz.ntmps44;go_wp2_with fail;refine b.o.mono ?_;rintro e w1 ⟨rfl,rfl⟩;go_wp2_with fail;go_ret2;exact⟨rfl,rfl⟩
theorem z0C(t:List UInt8):(q7U t markB=true)↔t.take 9=markB:=by
 unfold q7U;rw[Ξ,Φ,beq_iff_eq]
 constructor
 ·exact fun h=>h.2
 ·intro h
  refine⟨?_,h⟩;have:=congrArg List.length h;rw[Θ] at this;show 9<=t.length;have b:markB.length=9:=rfl;omega
theorem q8W(s:List UInt8)(w:World)(hl:s.length<=1000000):
  Calls Tryz.prog 12 #[.string ⟨s.toArray⟩] w fun e w'=> ∃v,e= .returned (.tuple #[v,.int .i64 (q1y s).2])/\w'.ownsRow w.heap.size 68 5 v (q1y s).1.length (q7V (q1y s).1)/\Ext w w':=by
 have j:=η (World.ownsRow_nil w w.heap.size 68 5);have HO:=η (fun W=>q9x s W (by omega));have j1:(q1I s).length<=s.length:=by unfold q1I;split<;>simp
 obtain⟨t,ht⟩: ∃t,q1I s=t:=⟨_,rfl⟩
 rw[ht] at HO j1;have U:Hd ((∀L,q3h t≠some (L,[]))->q1y s=([],10)):=η (fun h=>z6J (by rw[ht];exact h));have i0:Hd (∀L,q3h t=some (L,[])->q1y s=(L,0)):=η (fun L h=>z4F (by rw[ht];exact h));generalize q1b s=ob at*;clear ht;have HC:=η (fun W=>z0o t markB W (by omega) (by show 9<=_;omega));by_cases hp:q7U t markB=true
 case neg=>
  have K0:q7U t markB=false:=by simpa using hp
  rw[κ hp,K0] at HC
  have HR:Hd (q1y s=([],10)):=η (U.o fun L h=>by
   unfold q3h at h;rw[κ (fun h=>hp ((z0C t).2 h.1))] at h
   cases h)
  clear hp K0;have Q:Hd (∀W,Calls Tryz.prog 44 #[.string ⟨t.toArray⟩,.string ⟨#[97,110,110,97,108,105,115,116,10]⟩] W fun e w'=>e= .returned (.tuple #[.string ⟨t.toArray⟩,.bool false])/\W=w'):=HC;clear HC;go_enter Tryz.func12,Tryz.ntmps12;go_wp2_with fail;refine(HO.o _).mono ?_;rintro e w1 ⟨rfl,d⟩;have F:=η d;clear d;go_wp2_with fail;refine(Q.o _).mono ?_;rintro e w2 ⟨rfl,rfl⟩;go_wp2_with fail;go_ret2;exact⟨.slice none 0 0,by rw[HR.o];rfl,by rw[HR.o];exact q0I j.o F.o,F.o⟩
 rw[ξ hp,hp] at HC;have c0:=(z0C t).1 hp;have h9:9<=t.length:=by
  have:=congrArg List.length c0;rw[Θ,show markB.length=9 from rfl] at this;omega
 have Q:Hd (∀W,Calls Tryz.prog 44 #[.string ⟨t.toArray⟩,.string ⟨#[97,110,110,97,108,105,115,116,10]⟩] W fun e w'=>e= .returned (.tuple #[.string ⟨(t.drop 9).toArray⟩,.bool true])/\W=w'):=HC;clear HC hp;obtain⟨M,N⟩: ∃r,t.drop 9=r:=⟨_,rfl⟩
 have r1:M.length+9=t.length:=by rw[<-N,List.length_drop];omega
 rw[N] at Q;by_cases h4:M.length<4
 ·have HR:Hd (q1y s=([],10)):=η (U.o fun L h=>by
   unfold q3h at h;rw[κ (fun h=>by omega)] at h
   cases h)
  have hd:decide ((M.length:Int)<4)=true:=ζ (by omega);clear c0 N;go_enter Tryz.func12,Tryz.ntmps12;go_wp2_with fail;refine(HO.o _).mono ?_;rintro e w1 ⟨rfl,d⟩;have F:=η d;clear d;go_wp2_with fail;refine(Q.o _).mono ?_;rintro e w2 ⟨rfl,rfl⟩;go_wp2_with fail;go_ret2;exact⟨.slice none 0 0,by rw[HR.o];rfl,by rw[HR.o];exact q0I j.o F.o,F.o⟩
 have hd:decide ((M.length:Int)<4)=false:=ε (by omega);have s1:=q3J M 4 4 rfl (by omega);have s2:=q1u M 4 4 rfl (by omega);have x0:=η (fun W=>q7Y (M.take 4) W (by rw[Θ];omega));rw[List.take_take,show min 8 4=4 from rfl] at x0;have u1:q1C (M.take 4)<4294967296:=by
  have:=q1k (M.take 4);rw[Θ,Nat.min_eq_left (by omega)] at this;exact this
 have k0:q3h t=crd (q1C (M.take 4)) (M.drop 4) []:=by
  unfold q3h;rw[ξ ⟨c0,by omega⟩,N,<-N,List.drop_drop]
 rw[k0] at U i0;generalize q1C (M.take 4)=many at*;have b1:(M.drop 4).length<=1000000:=by rw[List.length_drop];omega
 generalize M.drop 4=S0 at*;clear c0 N h4 k0;go_enter Tryz.func12,Tryz.ntmps12;go_wp2_with fail;refine(HO.o _).mono ?_;rintro e w1 ⟨rfl,d⟩;have F:=η d;clear d;go_wp2_with fail;refine(Q.o _).mono ?_;rintro e w2 ⟨rfl,rfl⟩;go_wp2_with fail;refine(x0.o _).mono ?_;rintro e w2 ⟨rfl,d⟩;have E0:=η (F.o.trans d);clear d;have z0:=η (CntM.made w2);have G0:=η (E0.o.trans (q0B w2 (.map #[] 0)));have l1:=E0.o.size;have v1:=@run_makeMap Tryz.prog;go_wp2_with fail
 go_loopw [6,10,40] (fun r l i W=> ∃(k:Nat) (R:List UInt8) (acc:List To) (v:Value),i= .int .u64 (k:Int)/\r= .string ⟨R.toArray⟩/\l=v/\W.ownsRow w.heap.size 68 5 v k (q7V acc)/\acc.length=k/\k<=1000/\k<=many/\CntM W w2.heap.size k acc/\R.length<=1000000/\Hd (crd many S0 []=crd (many-k) R acc)/\Ext w W) (fun _ _ i _=>many-(intOf i).toNat)
 case atStart=>exact⟨0,S0,[],_,rfl,rfl,rfl,World.ownsRow_nil _ _ _ _,rfl,by omega,υ _,z0.o,b1,η rfl,G0.o⟩
 case round=>
  obtain⟨k,R,acc,v,rfl,rfl,rfl,a0,J,o1,p1,hm,n1,m0,d⟩:=hrel;obtain⟨va,vc,rfl⟩:=q0H a0;have h0:=η a0;have g0:=η J;have HM:=η hm;have HX:=η d;clear a0 hm d G0 z0 F;by_cases t1:k<many
  ·have f1:decide ((k:Int)<(many:Int))=true:=ζ (by omega)
   have B0:=η (fun W=>q8s R W (by omega));have x1:=q5p R;have A1:=z0G R;have w0:=η (fun W=>z4c (rdR R) W (by omega));obtain⟨⟨y1,y2,y3⟩,R',o',hv,hy,hn,C1,D1,m1⟩:=z5X (rdR R);have M0:y0R (rdE (rdR R))= .tuple #[.agg #[.string ⟨y1.toArray⟩,.string ⟨y2.toArray⟩,.float .f64 y3],.string ⟨R'.toArray⟩,.bool o']:=hv;rw[M0] at w0;have C0:=η (fun W=>q9F (rdT R) W (by omega));obtain⟨m,hm⟩: ∃m,many-k=m+1:=⟨many-k-1,by omega⟩
   have S:Hd (crd many S0 []=if q6A R=true/\q1d (rdT R)=true/\k≠1000 then(rdE (rdR R)).bind fun x=>crd m x.2 (acc++[⟨rdT R,q7i acc (rdT R),x.1⟩]) else none):=η (by rw[m0.o,hm,crd,J]);have J0:many-(k+1)=m:=by omega
   have I0:q7i acc (rdT R)<=k:=by unfold q7i;rw[<-J];exact List.length_filter_le _ _
   have y0:=η (z0y (rdT R) (by omega));generalize rdR R=R1 at*;generalize rdT R=st at*;obtain⟨z1,N0⟩: ∃z,q6A R=z:=⟨_,rfl⟩
   obtain⟨z2,O0⟩: ∃z,q1d st=z:=⟨_,rfl⟩
   rw[N0] at B0 S;rw[O0] at C0 S;have HY:=η hy;have HN:=η hn;have B1:=q2Q;clear hv M0 hy hn hm N0 O0 J m0;obtain⟨Y,t0⟩: ∃z,q7i acc st=z:=⟨_,rfl⟩
   have l0:=η t0;rw[t0] at I0 S;clear t0;have y:Hd ((z1=false\/o'=false\/z2=false\/k=1000)->q1y s=([],10)):=η fun h=>U.o fun L e=>by
    rw[S.o] at e
    split at e
    ·rename_i hc
     rcases h with h|h|h|h
     ·rw[h] at hc;exact absurd hc.1 (by decide)
     ·rw[HN.o h] at e;cases e
     ·rw[h] at hc;exact absurd hc.2.1 (by decide)
     ·exact hc.2.2 h
    ·cases e
   go_wp2_with fail;refine(B0.o _).mono ?_;rintro e w3 ⟨rfl,d⟩;have a1:=η (HX.o.trans d);have V0:=η (q0I h0.o d);have T0:=η (HM.o.ext d);clear d;go_wp2_with fail;refine(w0.o _).mono ?_;rintro e w4 ⟨rfl,d⟩;have f0:=d.trans (q0B w4 (.cells #[.string ⟨y1.toArray⟩,.string ⟨y2.toArray⟩,.float .f64 y3] 66));have V:=η (a1.o.trans f0);have W0:=η (q0I V0.o f0);have U0:=η (T0.o.ext f0);have Q0:=η (Blk.new w4 66 #[.string ⟨y1.toArray⟩,.string ⟨y2.toArray⟩,.float .f64 y3]);clear d f0
   cases z1 with
   | false=>
    have b:=η (y.o (.inl rfl));go_wp2_with fail
    (try rw[Exit.noGoto_ret])
    go_ret2;exact⟨.slice none 0 0,by rw[b.o];rfl,by rw[b.o];exact q0I j.o V.o,V.o⟩
   |true=>
   cases o' with
   | false=>
    have b:=η (y.o (.inr (.inl rfl)));go_wp2_with fail
    (try rw[Exit.noGoto_ret])
    go_ret2;exact⟨.slice none 0 0,by rw[b.o];rfl,by rw[b.o];exact q0I j.o V.o,V.o⟩
   |true=>
   go_wp2_with fail;refine(C0.o _).mono ?_;rintro e w5 ⟨rfl,d⟩;have X:=η (V.o.trans d);have X0:=η (q0I W0.o d);have A0:=η (U0.o.ext d);have O:=η (Q0.o.ext d);clear d
   cases z2 with
   | false=>
    have b:=η (y.o (.inr (.inr (.inl rfl))));go_wp2_with fail
    (try rw[Exit.noGoto_ret])
    go_ret2;exact⟨.slice none 0 0,by rw[b.o];rfl,by rw[b.o];exact q0I j.o X.o,X.o⟩
   |true=>
   by_cases D:k=1000
   ·have b:=η (y.o (.inr (.inr (.inr D))))
    have g1:((k:Int)==1000)=true:=by rw[D];rfl
    clear D;go_wp2_with fail
    (try rw[Exit.noGoto_ret])
    go_ret2;exact⟨.slice none 0 0,by rw[b.o];rfl,by rw[b.o];exact q0I j.o X.o,X.o⟩
   have g1:((k:Int)==1000)=false:=beq_eq_false_iff_ne.2 (by omega);have q1:IntKind.u64.wrap ((k:Int)+1)=(k:Int)+1:=by rw[IntKind.wrap_u64];omega
   obtain⟨D0,s0,H0⟩:=A0.o;have v0:=η H0;have i1:(Instr.lookup 83 (.map (some w2.heap.size)) (.string ⟨st.toArray⟩) false).run Tryz.prog w5= .ok (.int .i64 (Y:Int)) w5:=by
    have:=A0.o.look (s:=st) (by omega)
    rwa [l0.o] at this
   have d0:=O.o.cell 0;have d1:=O.o.cell 1;have d2:=O.o.cell 2;have e0:=q0B w5 (.cells #[.string ⟨st.toArray⟩,.int .i64 (Y:Int),.string ⟨y1.toArray⟩,.string ⟨y2.toArray⟩,.float .f64 y3] 68);have p0:=η (q0I X0.o e0);have n0:=η (q1X s0 (e0.block _ s0.lt));have q0:=η (X.o.trans e0);have Z0:=η q0.o.size;have Y0:=η (show Rd (w5.alloc (.cells #[.string ⟨st.toArray⟩,.int .i64 (Y:Int),.string ⟨y1.toArray⟩,.string ⟨y2.toArray⟩,.float .f64 y3] 68)) (some ⟨w5.heap.size,0,none⟩) (toc ⟨st,Y,⟨y1,y2,y3⟩⟩) from Rd.lit w5 #[.string ⟨st.toArray⟩,.int .i64 (Y:Int),.string ⟨y1.toArray⟩,.string ⟨y2.toArray⟩,.float .f64 y3] 68);have k1:(Lit.int .i64 ((Y:Int)+1)).wf=true:=by
    unfold Lit.wf;rw[Ξ,Φ,Φ];have e1:IntKind.i64.min= -9223372036854775808:=by decide
    have e2:IntKind.i64.max=9223372036854775807:=by decide
    omega
   have q3:IntKind.i64.wrap ((Y:Int)+1)=(Y:Int)+1:=by rw[ν];omega
   have R0:Hd (many-(k+1)=m):=η J0;have L0:st.length<=9223372036854775807:=by omega
   clear s0 H0 e0 J0
   go_wp2_with (first|(at_builtin;refine q0N rfl _ _ 22 rfl w.heap.size 68 _ 5 64 Tryz.underlying22 Tryz.infoTo (by decide) (by decide) _ k (q7V acc) rfl p0.o _ 1 1 (toc ⟨st,Y,⟨y1,y2,y3⟩⟩) rfl rfl (fun h=>by cases h) Y0.o (by unfold toc;simp[Value.oneCell']) (by unfold maxLen;omega) (by omega) Z0.o ?_;intro v2 w8 Z I c1;obtain⟨a2,c2,rfl⟩:=q0H Z;have o0:=η Z;have b0:=η (q1X n0.o (I.block w2.heap.size n0.o.lt (fun e=>q6q n0.o (Own.of_row p0.o) e.symm)));have F0:=η (q0.o.grown I q0.o.size (fun q hq=>(q0S p0.o q hq).1));have P0:(Instr.lookup 83 (.map (some w2.heap.size)) (.string ⟨st.toArray⟩) false).run Tryz.prog w8= .ok (.int .i64 (Y:Int)) w8:=(by have:=CntM.look (L:=acc) ⟨D0,b0.o,v0.o⟩ L0;rwa [l0.o] at this);clear Z I c1)|(at_mapUpdate;refine wpList_mapUpdate_own _ rfl _ _ _ 83 rfl 9 3 z5x Tryz.underlying83 _ w2.heap.size k D0 rfl b0.o (by unfold maxLen;omega) _ _ (.string st) rfl rfl y0.o _ [] (plainElem_int Tryz.underlying3 k1) ?_;intro w9 u0 j0))
   go_roundw
   case measure=>simp[intOf];omega
   case rel=>
    refine⟨k+1,R',acc++[⟨st,Y,⟨y1,y2,y3⟩⟩],.slice a2 (k+1) c2,by go_num,rfl,rfl,?_,by rw[θ,g0.o];rfl,by omega,by omega,?_,by omega,η ?_,?_⟩
    ·rw[q7I]
     exact q0y o0.o fun i hi=>j0.block i (q0S o0.o i hi).2 fun e=>q6q b0.o (Own.of_row o0.o) (hi.trans e)
    ·exact CntM.put (L:=acc) v0.o (World.ownsMap.isMap b0.o) (by rw[l0.o];exact u0) rfl
    ·rw[S.o,ξ ⟨trivial,trivial,D⟩,HY.o trivial,Option.bind_some,R0.o]
    ·exact F0.o.grown j0 F0.o.size (fun q hq=>by cases hq;exact l1)
  ·obtain rfl:k=many:=by omega
   have f1:decide ((k:Int)<(k:Int))=false:=ε (by omega);have hC:crd k S0 []=some (acc,R):=by rw[m0.o,Nat.sub_self,crd]
   cases R with
   | cons r0 R=>
    have b:Hd (q1y s=([],10)):=η (U.o fun L e=>by rw[hC] at e;cases e);clear hC;go_wp2_with fail;go_ret2;exact⟨.slice none 0 0,by rw[b.o];rfl,by rw[b.o];exact q0I j.o HX.o,HX.o⟩
   | nil=>
    have b:Hd (q1y s=(acc,0)):=η (i0.o acc hC);clear hC;go_wp2_with fail;go_ret2;exact⟨.slice va k vc,by rw[b.o];rfl,by rw[b.o,g0.o];exact h0.o,HX.o⟩
end
section
open Go.RowKit
section
variable {wb w W W':World}{g gs gw rate u n:Nat}{sd c s:Int}{bs:List Bt}{K K':Nat->Prop}
end
def y0Q(w:World)(p:Option Addr):Prop:=p=none\/ ∃s,p=some ⟨s,0,none⟩/\Blk w s 116 #[.pointer none,.pointer none,.int .u64 0]
variable {w :World}{p:Option Addr}
theorem z8c(h:y0Q w p):Calls Tryz.prog 59 #[.pointer p] w fun e w'=>e= .returned (.bool true)/\w=w':=by
 rcases h with rfl|⟨s,rfl,b⟩
 ·go_enter Tryz.func59,Tryz.ntmps59
  go_wp2_with fail;go_ret;exact⟨rfl,rfl⟩
 ·have d:=b.cell 0
  clear b;go_enter Tryz.func59,Tryz.ntmps59;go_wp2_with fail;go_ret;exact⟨rfl,rfl⟩
theorem z7i(h:y0Q w p):Calls Tryz.prog 20 #[.pointer p] w fun e w'=>e= .returned (.tuple #[.slice none 0 0,.int .i64 1])/\w=w':=by
 have b:=η (z8c h);clear h;go_enter Tryz.func20,Tryz.ntmps20;go_wp2_with fail;refine b.o.mono ?_;rintro e w1 ⟨rfl,rfl⟩;go_wp2_with fail;go_ret2;exact⟨rfl,rfl⟩
end
end Go.Proofs.YteabhdclmodefaaGreatDoor
