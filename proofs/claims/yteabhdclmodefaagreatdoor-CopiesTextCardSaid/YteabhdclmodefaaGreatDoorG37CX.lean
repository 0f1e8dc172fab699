/- The shelf's contract of slices.Reverse at []api.Told at this seat, in plain words. -/
import Derived.Shelf.SlicesQ.Reverse
import Derived.Ground.SlgnProg
import Derived.Test.YteabhdclmodefaaGreatDoorG36CX
set_option linter.unusedVariables false
set_option linter.unusedSimpArgs false
set_option maxRecDepth 100000
set_option maxHeartbeats 12800000
namespace Go.Proofs
open Go.Shelf
end Go.Proofs
namespace Go.Proofs.YteabhdclmodefaaGreatDoor
variable {ao:Option Addr}{k cap:Nat}{E:Oth}{t e:TypeId}
section
open Go.RowKit Go.Sort Go.Lib
instance : Inhabited To:=⟨to0⟩
section
variable {wb w W W1 W2:World}{g gl gs gx rate:Nat}{m:Man}{ws:List En}{c s sd:Int}{u cnt:Nat}{B:List En}{C:Cks}{P:Pbs}{sure:Int}{K K':Nat->Prop}
end
end
section
open Go.RowKit
theorem q9r : ∀(C:Cks) (b:Nat),(∀ps∈C,ps≠[])->C.length<=(q1B b C).length
 |[],_,_=>ι _
 | ps::t,b,h=>by
  have h1:=q9r t (b+4096) fun q hq=>h q (.tail _ hq)
  have h2:0<ps.length:=List.length_pos_iff.2 (h ps (.head _));rw[q1B,θ,q4N,χ];omega
theorem z6e{bs:List Bt}(h:okBs bs):(tos bs).length<=8*bs.length:=by
 induction bs using q9X with
 |h0=>exact ι _
 | h1 l b ih=>
  obtain⟨h1,h2,_⟩:=okBs_snoc.1 h;have h3:=(q0x h2.1).2.2.2.1;have h4:=ih h1;rw[q2z,q7h,θ,q3o,θ,List.length_singleton];omega
def SK(wb W:World)(g gs rate:Nat)(sd c s:Int)(u n:Nat)(bs:List Bt)(K:Nat->Prop):Prop:=
 ∃gl gx m ws B C sure P,StoP wb W g gs gl gx rate m ws sd c s u (40+3*n) B C sure P K/\q1t P=bs/\m.nx<=n/\bs.length<=n/\0<=sd/\sd<18446744073709551616
def SQ(wb W:World)(g:Nat)(sd c s:Int)(u n:Nat)(bs:List Bt)(K:Nat->Prop):Prop:=
 ∃m B C P,DKQ wb W g m c s u (40+3*n) B C K/\y1y sd m B C P/\B.Nodup/\q1t P=bs/\m.nx<=n/\bs.length<=n/\0<=sd/\sd<18446744073709551616
section
variable {wb w W W':World}{g gs rate u n:Nat}{sd c s:Int}{bs:List Bt}{K K':Nat->Prop}
theorem StoP.bounds{gl gx:Nat}{m:Man}{ws:List En}{cnt:Nat}{B:List En}{C:Cks}{sure:Int}{P:Pbs}(h:StoP wb W g gs gl gx rate m ws sd c s u cnt B C sure P K)(d:q1t P=bs)(j:bs.length<=n):
  (tos bs).length<=8*n/\B.length<=8*n/\C.length<=n/\okBs bs:=by
 have b:okBs bs:=d▸h.stE.ok;have h1:=z6e b;have h2:=h.len;rw[d] at h2;have h3:=q9r C 0 h.i.cOk.full;rw[h.recE,q7V] at h3;have h4:bs.length=P.length:=by rw[<-d];exact List.length_map _
 exact⟨by omega,by omega,by omega,b⟩
theorem SK.base(h:SK wb W g gs rate sd c s u n bs K):Ext wb W:=by
 obtain⟨gl,gx,m,ws,B,C,sure,P,h1,_⟩:=h;exact h1.base
theorem SK.klt(h:SK wb W g gs rate sd c s u n bs K): ∀i,K i->i<W.heap.size:=by
 obtain⟨gl,gx,m,ws,B,C,sure,P,h1,_⟩:=h;exact h1.klt
theorem SK.grow(h:SK wb W g gs rate sd c s u n bs K)(k:Ext W W'):SK wb W' g gs rate sd c s u n bs K:=by
 obtain⟨gl,gx,m,ws,B,C,sure,P,h1,h2⟩:=h;exact⟨gl,gx,m,ws,B,C,sure,P,h1.grow k,h2⟩
theorem SK.kExt(h:SK wb W g gs rate sd c s u n bs K)(k:Ext W W'):Stay K W W':=fun i b=>k.block i (h.klt i b)
theorem SK.more(h:SK wb W g gs rate sd c s u n bs K)(k:Ext W W')(hK: ∀i,K' i->K i\/(W.heap.size<=i/\i<W'.heap.size)):SK wb W' g gs rate sd c s u n bs K':=by
 obtain⟨gl,gx,m,ws,B,C,sure,P,h1,h2⟩:=h;exact⟨gl,gx,m,ws,B,C,sure,P,h1.more k hK,h2⟩
theorem SK.beside(h:SK wb W g gs rate sd c s u n bs K)(k: ∀i,K' i->K i):SK wb W g gs rate sd c s u n bs K':=by
 obtain⟨gl,gx,m,ws,B,C,sure,P,h1,h2⟩:=h;exact⟨gl,gx,m,ws,B,C,sure,P,h1.beside k,h2⟩
def EvR(wb w:World)(g gs rate:Nat)(sd c s:Int)(u n:Nat)(bs:List Bt)(K:Nat->Prop)(R:List To)(z:Int)(e:Ending)(w':World):Prop:=
 ∃v,e= .returned (.tuple #[v,.int .i64 z])/\SK wb w' g gs rate sd c s u n bs (fun i=>K i\/v.ownBlock=some i)/\Stay K w w'/\w'.ownsRow wb.heap.size 68 5 v R.length (q4g R)/\ ∀i,K i->v.ownBlock≠some i
theorem SK.all(h:SK wb w g gs rate sd c s u n bs K)(j:n<=1000):Calls Tryz.prog 20 #[.pointer (some ⟨gs,0,none⟩)] w (EvR wb w g gs rate sd c s u n bs K (tos bs) 0):=by
 obtain⟨gl,gx,m,ws,B,C,sure,P,h1,rfl,h3,h4,b⟩:=h;obtain⟨b1,b2,b3,b4⟩:=h1.bounds rfl h4;refine(y1N h1 rfl (by omega)).mono ?_;rintro e w' ⟨v,rfl,d,i⟩;exact⟨v,rfl,⟨gl,gx,m,ws,B,C,sure,P,d,rfl,h3,h4,b⟩,i⟩
theorem SK.append(h:SK wb w g gs rate sd c s u n bs K)(V:n<=86)(b:List UInt8)(I:b.length<=4611686018427387903)(ex:Int){L:List Ev}(J: ∀W,Ext wb W->Stay K w W->Evs W ao k cap L)(F:q4c L)
  (o: ∀e∈L,e.we<18446744073709551616){z:Int}(N:y0P bs b ex L=z):
  Calls Tryz.prog 27 #[.pointer (some ⟨gs,0,none⟩),.string ⟨b.toArray⟩,.int .i64 ex,.slice ao k cap] w fun e w'=>
   ∃ x y d,e= .returned (.tuple #[.int .i64 x,.int .i64 y])/\SK wb w' g gs rate sd c s (u+2024) (n+1) d K/\Stay K w w'/\
    ((z≠0/\x=0/\y=z/\d=bs)\/(z=0/\x=0/\y=60/\d=bs/\c-(u:Int)-2024<6000)\/(z=0/\x=((q1U bs b).length:Int)/\y=0/\d=bs++[⟨b,(q1U bs b).length,L⟩])):=by
 obtain⟨gl,gx,m,ws,B,C,sure,P,h1,rfl,h3,h4,l⟩:=h;obtain⟨b1,b2,b3,b4⟩:=h1.bounds rfl h4;have U:=z2g (q1t P) b;refine(z6U h1 b I ex J F o (by omega) (by omega) (by omega)).mono ?_;rw[N];rintro e w' ⟨⟨O,rfl,j⟩|⟨rfl,rfl,j,R⟩|⟨rfl,R,pos,r,B',D,i,rfl,j⟩,q⟩
 ·exact⟨_,_,_,rfl,⟨gl,gx,m,ws,B,C,sure,P,j.mono (by omega) (by omega),rfl,by omega,by omega,l⟩,q,.inl ⟨O,rfl,rfl,rfl⟩⟩
 ·exact⟨_,_,_,rfl,⟨gl,gx,m,ws,B,C,sure,P,j.mono (by omega) (by omega),rfl,by omega,by omega,l⟩,q,.inr (.inl ⟨rfl,rfl,rfl,rfl,by omega⟩)⟩
 ·exact⟨_,_,_,rfl,⟨gl,gx,m,r,B',D,i,_,j.mono (by omega) (by omega),rfl,by omega,by rw[q4C,θ,List.length_singleton];omega,l⟩,q,.inr (.inr ⟨rfl,rfl,rfl,q4C _ _ _⟩)⟩
theorem SQ.open(h:SQ wb w g sd c s u n bs K)(r:n<=200)(rate:Nat):Calls Tryz.prog 26 #[.pointer (some ⟨g,0,none⟩),.int .u64 sd,.float .f64 rate] w fun e w'=>
  ∃gs,e= .returned (.tuple #[.pointer (some ⟨gs,0,none⟩),.int .i64 0])/\SK wb w' g gs rate sd c s u n bs K/\Stay K w w':=by
 obtain⟨m,B,C,P,h1,h2,h3,rfl,h4,i,b,d⟩:=h;have q:=z6e h2.ok;refine(z9t h1 h2 b d (by omega) (by omega) h3 rate).mono ?_;rintro e w' ⟨gs,gl,gx,o,ws,B',sure,rfl,j,x,l⟩;exact⟨gs,rfl,⟨gl,gx,o,ws,B',C,sure,P,j,rfl,by omega,i,b,d⟩,l⟩
theorem DkK.sq(h:DkK noO wb w g c s [] K)(sd:Int)(d:0<=sd)(i:sd<18446744073709551616):SQ wb w g sd c s 0 0 [] K:=by
 obtain⟨F,σ,h1,h2⟩:=h;have l:Pl σ c s []:=by have:=h2.pl;simpa [q2Q,noO,q2Y,q5k,q3K,q3t] using this
 have o:q0e 0 0 []=true:=by decide
 refine⟨⟨0,0,sd,[]⟩,[],[],[],⟨⟨⟨0,0,sd,[]⟩,0,[],fun _=>none,0⟩,σ,fun _=>none,F,rfl,rfl,h1,⟨⟨⟨[],l,List.Pairwise.nil,fun _=>rfl,υ _,υ _⟩,⟨o,d,i⟩,(fun n j=>by cases j),(fun n e he=>by cases he),(fun nm j=>absurd rfl j),okM.nil,okM.nil,fun x=>?_⟩,.inr ⟨rfl,rfl,rfl,rfl⟩,fun k _=>by simp⟩,okC.nil⟩,
  ⟨rfl,rfl,okBs.nil,(fun x b=>by cases b),(fun x b=>by cases b),by show(0:Int)<=q4t [];rw[z2d];decide⟩,List.nodup_nil,rfl,Int.le_refl _,ι _,d,i⟩
 constructor
 ·intro b;cases b
 ·rintro(b|⟨n,e,he,_⟩)
  ·cases b
  ·cases he
end
theorem q4O(t d:List UInt8)(k:FloatKind)(b:Nat)(w:World)(r:t.length<=4611686018427387903)(q:d.length<=4611686018427387903):
  Calls Tryz.prog 38 #[.agg #[.string ⟨t.toArray⟩,.string ⟨d.toArray⟩,.float k b]] w fun e w'=>e= .returned (.int .i64 (q0R t d))/\Ext w w':=by
 have i:=Blk.new w 66 #[.string ⟨t.toArray⟩,.string ⟨d.toArray⟩,.float k b];have l:=η (q0B w (.cells #[.string ⟨t.toArray⟩,.string ⟨d.toArray⟩,.float k b] 66));have x:(w.alloc (.cells #[.string ⟨t.toArray⟩,.string ⟨d.toArray⟩,.float k b] 66)).cell? ⟨w.heap.size,0,none⟩=some (.string ⟨t.toArray⟩):=i.cell 0;have y:(w.alloc (.cells #[.string ⟨t.toArray⟩,.string ⟨d.toArray⟩,.float k b] 66)).cell? ⟨w.heap.size,1,none⟩=some (.string ⟨d.toArray⟩):=i.cell 1;have h3:(((t.length:Int)==0)=true/\q0R t d=2)\/(((t.length:Int)==0)=false/\((decide ((16:Int)<(t.length:Int))=true/\q0R t d=3)\/(decide ((16:Int)<(t.length:Int))=false/\((decide ((200:Int)<(d.length:Int))=true/\q0R t d=3)\/(decide ((200:Int)<(d.length:Int))=false/\q0R t d=0))))):=by
  unfold q0R;by_cases j:t=[]
  ·exact .inl ⟨by rw[j];rfl,by rw[ξ j]⟩
  ·have D:0<t.length:=List.length_pos_iff.2 j
   refine .inr ⟨by simp;omega,?_⟩;rw[κ j];by_cases h1:16<t.length
   ·exact .inl ⟨ζ (by omega),by rw[ξ h1]⟩
   ·rw[κ h1]
    refine .inr ⟨ε (by omega),?_⟩;by_cases h2:200<d.length
    ·exact .inl ⟨ζ (by omega),by rw[ξ h2]⟩
    ·exact .inr ⟨ε (by omega),by rw[κ h2]⟩
 clear i;rcases h3 with⟨j,he⟩|⟨j,⟨h1,he⟩|⟨h1,⟨h2,he⟩|⟨h2,he⟩⟩⟩
 all_goals
  rw[he];clear he;go_enter Tryz.func38,Tryz.ntmps38;go_wp2_with fail;go_ret;exact⟨rfl,l.o⟩
theorem z1q(e:Ev)(w:World)(he:z4c e):Calls Tryz.prog 41 #[evV e] w fun r w'=>r= .returned (.string ⟨(evB e).toArray⟩)/\Ext w w':=by
 obtain⟨t,d,b⟩:=e;obtain⟨h1,h2⟩:=he;obtain⟨_,h3,h4⟩:=q2E h1;simp only at h1 h2 h3 h4;show Calls _ _ #[.agg #[.string ⟨t.toArray⟩,.string ⟨d.toArray⟩,.float .f64 b]] _ fun r w'=>r= .returned (.string ⟨(q1P t++(q1P d++be 8 b)).toArray⟩)/\Ext w w'
 have U:=η (fun W=>q4O t d .f64 b W (by omega) (by omega));rw[h1] at U;have y:=η (fun W=>q7X t W (by omega));have F:=η (fun W=>q7X d W (by omega));have V:=η (fun W=>z8O (b:Int) 8 8 W rfl (by omega) (by omega) (by omega) (by omega));have l1:(q1P t).length<=1000:=by unfold q1P;split<;>simp[q0F];omega
 have l2:(q1P d).length<=1000:=by unfold q1P;split<;>simp[q0F];omega
 have Y:=q0F 8 ((b:Int)).toNat;obtain⟨R,l⟩: ∃R,be 8 ((b:Int)).toNat=R:=⟨_,rfl⟩
 rw[l] at V Y;rw[Int.toNat_natCast] at l;rw[l];have b0:R.length<=8:=by omega
 have Z:=η (q0B w (.cells #[.string ⟨t.toArray⟩,.string ⟨d.toArray⟩,.float .f64 b] 66));have i:=Blk.new w 66 #[.string ⟨t.toArray⟩,.string ⟨d.toArray⟩,.float .f64 b];have k0:(w.alloc (.cells #[.string ⟨t.toArray⟩,.string ⟨d.toArray⟩,.float .f64 b] 66)).cell? ⟨w.heap.size,0,none⟩=some (.string ⟨t.toArray⟩):=i.cell 0;have k1:(w.alloc (.cells #[.string ⟨t.toArray⟩,.string ⟨d.toArray⟩,.float .f64 b] 66)).cell? ⟨w.heap.size,1,none⟩=some (.string ⟨d.toArray⟩):=i.cell 1;have k2:(w.alloc (.cells #[.string ⟨t.toArray⟩,.string ⟨d.toArray⟩,.float .f64 b] 66)).cell? ⟨w.heap.size,2,none⟩=some (.float .f64 b):=i.cell 2;have x:=η i;generalize q1P t=A at*;generalize q1P d=D at*;clear i h1 h3 h4 l Y;go_enter Tryz.func41,Tryz.ntmps41;go_wp2_with fail;generalize w.alloc (.cells #[.string ⟨t.toArray⟩,.string ⟨d.toArray⟩,.float .f64 b] 66)=w1 at*;generalize w.heap.size=q at*;refine(U.o _).mono ?_;rintro e O ⟨rfl,N⟩;have I:=η (Z.o.trans N);have j:=x.o.ext N;have c0:O.cell? ⟨q,0,none⟩=some (.string ⟨t.toArray⟩):=j.cell 0;have c1:O.cell? ⟨q,1,none⟩=some (.string ⟨d.toArray⟩):=j.cell 1;have c2:O.cell? ⟨q,2,none⟩=some (.float .f64 b):=j.cell 2;have u0:=q0C c0;have u1:=q0C c1;have u2:=q0C c2;have q1:¬(9223372036854775807<A.length+D.length):=by omega
 have q2:¬(9223372036854775807<(A++D).length+R.length):=by rw[θ];omega
 have q3:¬(9223372036854775807<A.length+D.length+R.length):=by omega
 have a0:=q5U b;clear N j k0 k1 k2;go_wp2_with fail;refine q0D (by kernel_rfl) (by kernel_rfl) ?_
 repeat (go_big_quiet_step (fail))
 go_big_quiet_step (exact Calls.quiet_ext (y.o _))
 repeat (go_big_quiet_step (fail))
 go_big_quiet_step (exact Calls.quiet_ext (F.o _))
 repeat (go_big_quiet_step (fail))
 go_big_quiet_step (exact Calls.quiet_ext (V.o _))
 repeat (go_big_quiet_step (fail))
 refine wpQuiet_nil ?_;intro w3 X;have J:=η (I.o.trans X);clear X;go_wp2_with fail;go_ret;exact⟨by rw[q1w,q1w];simp,J.o⟩
theorem z4O(s:List UInt8)(w:World)(hl:s.length<=4611686018427387903):
  Calls Tryz.prog 51 #[.string ⟨s.toArray⟩] w fun e w'=>e= .returned (y0I (rdE s))/\Ext w w':=by
 have D:=η (fun W=>q7W s W hl);have F:=η (fun W=>q7W (rdR s) W (by have:=q3s s;omega));have D0:=q6J s;have E0:=q6J (rdR s);have F0:=q3s s;have s0:=q3s (rdR s);have d0:=η (fun b W=>q4O (rdT s) (rdT (rdR s)) .f64 b W (by omega) (by omega));have HX:=η (q0B w (.cells #[.string ⟨#[]⟩,.string ⟨#[]⟩,.float .f64 0] 66));have U:=η (Blk.new w 66 #[.string ⟨#[]⟩,.string ⟨#[]⟩,.float .f64 0])
 have I:Hd (∀(W:World) (a b c:Value),Blk W w.heap.size 66 #[a,b,c]-> ∀a' b',W.cell? ⟨w.heap.size,0,none⟩=some a/\W.cell? ⟨w.heap.size,1,none⟩=some b/\W.cell? ⟨w.heap.size,2,none⟩=some c/\
   W.frozen? ⟨w.heap.size,0,none⟩=false/\W.frozen? ⟨w.heap.size,1,none⟩=false/\W.frozen? ⟨w.heap.size,2,none⟩=false/\((W.setCell ⟨w.heap.size,0,none⟩ a').setCell ⟨w.heap.size,1,none⟩ b').frozen? ⟨w.heap.size,2,none⟩=false/\
   ((W.setCell ⟨w.heap.size,0,none⟩ a').setCell ⟨w.heap.size,1,none⟩ b').cell? ⟨w.heap.size,2,none⟩=some c):=η fun W a b c h a' b'=>by
  have h2:=(h.set 0 a').set 1 b';exact⟨h.cell 0,h.cell 1,h.cell 2,h.free 0,h.free 1,h.free 2,h2.free 2,h2.cell 2⟩
 have G0:=q1j;obtain⟨R,hR⟩: ∃R,rdR (rdR s)=R:=⟨_,rfl⟩
 obtain⟨J,Y⟩: ∃T,rdT s=T:=⟨_,rfl⟩
 obtain⟨N,Z⟩: ∃T,rdT (rdR s)=T:=⟨_,rfl⟩
 obtain⟨z1,e0⟩: ∃z,q3d s=z:=⟨_,rfl⟩
 obtain⟨z2,g0⟩: ∃z,q3d (rdR s)=z:=⟨_,rfl⟩
 have V:Hd ((z1=false\/z2=false\/R.length<8\/q0R J N≠0)->rdE s=none):=η fun h=>by
  unfold rdE;rw[e0,g0,hR,Y,Z,κ];rintro⟨a,b,c,d⟩;rcases h with h|h|h|h
  ·rw[h] at a;cases a
  ·rw[h] at b;cases b
  ·omega
  ·exact h d
 have l0:Hd (z1=true->z2=true->¬R.length<8->q0R J N=0->rdE s=some (⟨J,N,q0o (R.take 8)⟩,R.drop 8)):=η fun a b c d=>by
  unfold rdE;rw[e0,g0,hR,Y,Z,ξ ⟨a,b,by omega,d⟩]
 rw[e0,Y] at D;rw[g0,Z,hR] at F;rw[Y,Z] at d0;rw[hR] at s0;generalize rdR s=S1 at*;clear e0 g0 Y Z hR
 cases z1 with
 | false=>
  have HE:=η (V.o (.inl rfl));go_enter Tryz.func51,Tryz.ntmps51;go_wp2_with fail;refine(D.o _).mono ?_;rintro e w1 ⟨rfl,i⟩;have q:=η (U.o.ext i);have r:=η (HX.o.trans i);clear i;go_wp2_with fail;refine(F.o _).mono ?_;rintro e w2 ⟨rfl,i⟩;have l:=η (q.o.ext i);have x:=η (r.o.trans i);clear i;obtain⟨c0,c1,c2,f0,f1,f2,g2,d2⟩:=I.o w2 _ _ _ l.o (.string ⟨#[]⟩) (.string ⟨#[]⟩);go_wp2_with fail
  ((try simp only[Exit.inBlock,Exit.then]);refine bodyPost_ret (v:= .tuple #[.agg #[.string ⟨#[]⟩,.string ⟨#[]⟩,.float .f64 0],.string ⟨#[]⟩,.bool false]) (by rw[q0J rfl];go_simp) rfl ?_)
  exact⟨by rw[HE.o];rfl,q1R x.o _ _ _⟩
 |true=>
 cases z2 with
 | false=>
  have HE:=η (V.o (.inr (.inl rfl)));go_enter Tryz.func51,Tryz.ntmps51;go_wp2_with fail;refine(D.o _).mono ?_;rintro e w1 ⟨rfl,i⟩;have q:=η (U.o.ext i);have r:=η (HX.o.trans i);clear i;go_wp2_with fail;refine(F.o _).mono ?_;rintro e w2 ⟨rfl,i⟩;have l:=η (q.o.ext i);have x:=η (r.o.trans i);clear i;obtain⟨c0,c1,c2,f0,f1,f2,g2,d2⟩:=I.o w2 _ _ _ l.o (.string ⟨#[]⟩) (.string ⟨#[]⟩);go_wp2_with fail
  ((try simp only[Exit.inBlock,Exit.then]);refine bodyPost_ret (v:= .tuple #[.agg #[.string ⟨#[]⟩,.string ⟨#[]⟩,.float .f64 0],.string ⟨#[]⟩,.bool false]) (by rw[q0J rfl];go_simp) rfl ?_)
  exact⟨by rw[HE.o];rfl,q1R x.o _ _ _⟩
 |true=>
 by_cases h3:R.length<8
 ·have HE:=η (V.o (.inr (.inr (.inl h3))))
  have hd:decide ((R.length:Int)<8)=true:=ζ (by omega);go_enter Tryz.func51,Tryz.ntmps51;go_wp2_with fail;refine(D.o _).mono ?_;rintro e w1 ⟨rfl,i⟩;have q:=η (U.o.ext i);have r:=η (HX.o.trans i);clear i;go_wp2_with fail;refine(F.o _).mono ?_;rintro e w2 ⟨rfl,i⟩;have l:=η (q.o.ext i);have x:=η (r.o.trans i);clear i;obtain⟨c0,c1,c2,f0,f1,f2,g2,d2⟩:=I.o w2 _ _ _ l.o (.string ⟨#[]⟩) (.string ⟨#[]⟩);go_wp2_with fail
  ((try simp only[Exit.inBlock,Exit.then]);refine bodyPost_ret (v:= .tuple #[.agg #[.string ⟨#[]⟩,.string ⟨#[]⟩,.float .f64 0],.string ⟨#[]⟩,.bool false]) (by rw[q0J rfl];go_simp) rfl ?_)
  exact⟨by rw[HE.o];rfl,q1R x.o _ _ _⟩
 have hd:decide ((R.length:Int)<8)=false:=ε (by omega);have s1:=q2w R 8 8 rfl (by omega);have s2:=q1f R 8 8 rfl (by omega);have l8:(R.take 8).length=8:=by rw[Θ];omega
 have HG:=η (fun W=>z3E (R.take 8) W (by omega));have o0:=q1Q (R.take 8);rw[l8] at o0;have X:=η (l0.o rfl rfl h3);obtain⟨b,hb⟩: ∃b,q0o (R.take 8)=b:=⟨_,rfl⟩
 rw[show(R.take 8).take 8=R.take 8 from Δ (by omega),hb] at HG;rw[hb] at X o0;have C0:=q6E b;obtain⟨E,hE⟩: ∃E,q0R J N=E:=⟨_,rfl⟩
 rw[hE] at d0 V X;clear hE hb l0 h3;by_cases h4:E=0
 case neg=>
  have HE:=η (V.o (.inr (.inr (.inr h4))));have B0:(E !=0)=true:=by simpa using h4
  clear h4;go_enter Tryz.func51,Tryz.ntmps51;go_wp2_with fail;refine(D.o _).mono ?_;rintro e w1 ⟨rfl,i⟩;have q:=η (U.o.ext i);have r:=η (HX.o.trans i);clear i;go_wp2_with fail;refine(F.o _).mono ?_;rintro e w2 ⟨rfl,i⟩;have l:=η (q.o.ext i);have x:=η (r.o.trans i);clear i;go_wp2_with fail;refine(HG.o _).mono ?_;rintro e O ⟨rfl,i⟩;have y:=i.trans (q0B O (.cells #[.string ⟨J.toArray⟩,.string ⟨N.toArray⟩,.float .f64 b] 66));have h0:=η (l.o.ext y);have j0:=η (x.o.trans y);have i0:=η (Blk.new O 66 #[.string ⟨J.toArray⟩,.string ⟨N.toArray⟩,.float .f64 b]);have a0:=y.size;have q0:Hd (w.heap.size<O.heap.size):=η (by have:=l.o.lt;have:=i.size;omega);clear i y a0;go_wp2_with fail;refine(d0.o b _).mono ?_;rintro e w4 ⟨rfl,i⟩;have b0:=η (h0.o.ext i);have k0:=η (j0.o.trans i);have m0:=η (i0.o.ext i);clear i;obtain⟨c0,c1,c2,f0,f1,f2,g2,d2⟩:=I.o w4 _ _ _ b0.o (.string ⟨#[]⟩) (.string ⟨#[]⟩);go_wp2_with fail
  ((try simp only[Exit.inBlock,Exit.then]);refine bodyPost_ret (v:= .tuple #[.agg #[.string ⟨#[]⟩,.string ⟨#[]⟩,.float .f64 0],.string ⟨#[]⟩,.bool false]) (by rw[q0J rfl];go_simp) rfl ?_)
  exact⟨by rw[HE.o];rfl,q1R k0.o _ _ _⟩
 subst h4;have HE:=η (X.o rfl);go_enter Tryz.func51,Tryz.ntmps51;go_wp2_with fail;refine(D.o _).mono ?_;rintro e w1 ⟨rfl,i⟩;have q:=η (U.o.ext i);have r:=η (HX.o.trans i);clear i;go_wp2_with fail;refine(F.o _).mono ?_;rintro e w2 ⟨rfl,i⟩;have l:=η (q.o.ext i);have x:=η (r.o.trans i);clear i;go_wp2_with fail;refine(HG.o _).mono ?_;rintro e O ⟨rfl,i⟩;have y:=i.trans (q0B O (.cells #[.string ⟨J.toArray⟩,.string ⟨N.toArray⟩,.float .f64 b] 66));have h0:=η (l.o.ext y);have j0:=η (x.o.trans y);have i0:=η (Blk.new O 66 #[.string ⟨J.toArray⟩,.string ⟨N.toArray⟩,.float .f64 b]);have a0:=y.size;have q0:Hd (w.heap.size<O.heap.size):=η (by have:=l.o.lt;have:=i.size;omega);clear i y a0;go_wp2_with fail;refine(d0.o b _).mono ?_;rintro e w4 ⟨rfl,i⟩;have b0:=η (h0.o.ext i);have k0:=η (j0.o.trans i);have m0:=η (i0.o.ext i);clear i;go_wp2_with fail;have n0: ∀W,Ext w4 W->(W.cell? ⟨O.heap.size,0,none⟩=some (.string ⟨J.toArray⟩)/\W.cell? ⟨O.heap.size,1,none⟩=some (.string ⟨N.toArray⟩)/\W.cell? ⟨O.heap.size,2,none⟩=some (.float .f64 b)):=fun W h=>by
  have hb:=m0.o.ext h;exact⟨hb.cell 0,hb.cell 1,hb.cell 2⟩
 refine q1K (fun W:World=>(W.cell? ⟨O.heap.size,0,none⟩=some (.string ⟨J.toArray⟩)/\W.cell? ⟨O.heap.size,1,none⟩=some (.string ⟨N.toArray⟩)/\W.cell? ⟨O.heap.size,2,none⟩=some (.float .f64 b))) 3 (by kernel_rfl) (n0 _ (Ext.refl _).drew) (fun j=>?_);refine q3W 0 j (fun j=>?_);refine q0P 1 j (fun j=>?_);refine q0P 2 j (fun j=>?_)
 try simp only[Act.put,π,ψ,ω]
 refine q1Y (by kernel_rfl) ?_
 try simp only[List.drop_succ_cons,List.drop_zero]
 clear j n0;have p0:=η (b0.o.ext (Ext.refl w4).drew);have r0:=η (k0.o.drew);obtain⟨c0,c1,c2,f0,f1,f2,g2,d2⟩:=I.o w4.drew _ _ _ p0.o (.string ⟨J.toArray⟩) (.string ⟨N.toArray⟩);obtain⟨t0,u0,v0,x0,y0,z0,A0,w0⟩:=I.o w4 _ _ _ b0.o (.string ⟨J.toArray⟩) (.string ⟨N.toArray⟩);go_wp2_with fail
 ((try simp only[Exit.inBlock,Exit.then]);refine bodyPost_ret (v:= .tuple #[.agg #[.string ⟨J.toArray⟩,.string ⟨N.toArray⟩,.float .f64 b],.string ⟨(R.drop 8).toArray⟩,.bool true]) (by rw[q0J rfl];go_simp) rfl ?_)
 exact⟨by rw[HE.o];rfl,q1R r0.o _ _ _⟩
theorem DkK.rebase{b wb w:World}{g:Nat}{c s:Int}{C:Cks}{K:Nat->Prop}(h:DkK E wb w g c s C K)(k:Ext b wb):DkK E b w g c s C K:=by
 obtain⟨F,σ,h1,h2⟩:=h;have l:=k.size;exact⟨F,σ,⟨h1.d,fun i j=>by have:=h1.bF i j;omega,k.trans h1.ext,h1.k⟩,h2⟩
theorem DkK.base{wb w:World}{g:Nat}{c s:Int}{C:Cks}{K:Nat->Prop}(h:DkK E wb w g c s C K):Ext wb w:=by
 obtain⟨F,σ,h1,h2⟩:=h;exact h1.ext
theorem Blk.rd{w:World}{b:Nat}{cs:Array Value}(h:Blk w b t cs):Rd w (some ⟨b,0,none⟩) cs.toList:=fun j u d=>⟨b,0,rfl,by rw[Nat.zero_add,h.cell j];simpa using d⟩
theorem Blk.evs{w:World}{b:Nat}{L:List Ev}(h:Blk w b t (q6O L).toArray)(d:k<=L.length)(i:L.length<=1000000):Evs w (some ⟨b,0,none⟩) k L.length (L.take k):=by
 refine⟨by rw[Θ];omega,d,by omega,(fun e=>by cases e),?_⟩;have h1:=h.rd.take (k*3);have e:(q6O L).take (k*3)=q6O (L.take k):=by
  conv=>lhs;rw[<-List.take_append_drop k L,q7A]
  exact List.take_left' (by rw[z1M,Θ];omega)
 rw[<-e]
 simpa using h1
theorem q9a{w:World}{B:Nat}{n b:Nat}{L:List To}(h:w.ownsRow B e 5 (.slice ao n b) L.length (q4g L)):Tos w ao n b L/\n=L.length:=by
 obtain⟨a,c,d,h2⟩:=Tos.of_own (Own.of_row h)
 cases d;exact⟨h2,rfl⟩
theorem z8V{L:List Ev}(h: ∀e∈L,e.ty.length<=300/\e.da.length<=300):q4c L:=fun e he=>by have:=h e he;omega
section
variable {wb w W W1 W2:World}{g gs rate u n:Nat}{sd c s:Int}{bs:List Bt}{K K':Nat->Prop}
end
def strs(NL:List (List UInt8)):List Value:=NL.map fun s=> .string ⟨s.toArray⟩
theorem z9y{b:List (List UInt8)}{j:Nat}(h:j<b.length):(strs b)[j]? =some (.string ⟨(b.getD j []).toArray⟩):=by
 unfold strs;rw[List.getElem?_map,γ h,δ,γ h]
 rfl
theorem z5U{i:Type}(p:i->Bool)(A:List i)(d:i)(h:k<A.length):(A.take (k+1)).filter p=(A.take k).filter p++if p (A.getD k d)=true then [A.getD k d] else []:=by
 rw[List.take_succ_eq_append_getElem h,List.filter_append,δ,γ h];simp only[Option.getD_some];by_cases b:p A[k]=true
 ·rw[ξ b,List.filter_cons_of_pos b,List.filter_nil]
 ·rw[κ b,List.filter_cons_of_neg b,List.filter_nil]
theorem z8R{W W2:World}{w0:World}{l n:Nat}{vq:Value}{q:List Value}{o:TypeId}{b:Obj}(d:Ext w0 W)(hq:W.ownsRow w0.heap.size o l vq n q)
  (i:(W.alloc b).grownBy W2 vq.ownBlock):Ext w0 W2:=
 Below.grown (d.trans (q0B W b)) i (Ω d.size (q0B W b).size) fun k j=>(q0U hq k j).1
theorem q8Q{w:World}{mb n lc:Nat}{la:Option Addr}{v1 v2:Value}{L:List To}(r:Blk w mb 75 #[.slice la n lc,v1,v2])(U:Tos w la n lc L)(s:List UInt8)(hl:n<=100000):
  Calls Tryz.prog 39 #[.pointer (some ⟨mb,0,none⟩),.string ⟨s.toArray⟩] w fun e w'=> ∃v,e= .returned v/\w'.ownsRow w.heap.size 68 5 v (L.filter fun t=>decide (t.s=s)).length (q4g (L.filter fun t=>decide (t.s=s)))/\Ext w w':=by
 have hn:=U.len;have HT:=η U;have b1:=U.fits;have b2:=U.bound;have Y:=η r;have HN:=η hn;clear U r hn;go_enter Tryz.func39,Tryz.ntmps39;go_wp2_with fail
 go_loopw [5,6] (fun ov oi W=> ∃(k:Nat) (v:Value) (M:List To),ov=v/\oi= .int .i64 (k:Int)/\k<=n/\Hd ((L.take k).filter (fun t=>decide (t.s=s))=M)/\W.ownsRow w.heap.size 68 5 v M.length (q4g M)/\Ext w W) (fun _ i _=>n-(intOf i).toNat)
 case atStart=>exact⟨0,_,[],rfl,rfl,υ _,η (by simp),⟨rfl,.inl ⟨rfl,rfl⟩⟩,Ext.refl _⟩
 case round=>
  obtain⟨k,v,M,rfl,rfl,hk,l,b,x⟩:=hrel;obtain⟨oa,oc,rfl⟩:=q0G b;have y:=Y.o.ext x;have k0:=y.cell 0;have O:M.length<=n:=by rw[<-l.o];exact Ω (List.length_filter_le _ _) (by rw[Θ,HN.o];omega)
  by_cases R:k<n
  ·have hd:decide ((k:Int)<(n:Int))=true:=ζ (by omega)
   have e0:(k:Int)<(n:Int):=by omega
   have q1:IntKind.i64.wrap ((k:Int)+1)=(k:Int)+1:=by rw[ν];omega
   obtain⟨bb,off,rfl,c0,c1,c2,c3,c4⟩:=(HT.o.ext x).at R;have HS:=η (z5U (fun t:To=>decide (t.s=s)) L to0 (k:=k) (by rw[HN.o];exact R));generalize L.getD k to0=t at*;obtain⟨ts,F,⟨ty,da,we⟩⟩:=t;simp only at c0 c1 c2 c3 c4;obtain⟨X,D⟩: ∃X,M.length=X:=⟨_,rfl⟩
   have I:=η D;have f0:=q1j;rw[D] at b O⊢;have q:=η b;have V:=η x;have b0:=η x.size;have a0:=η (show Rd (wr.alloc (.cells #[.string ⟨ts.toArray⟩,.int .i64 F,.string ⟨ty.toArray⟩,.string ⟨da.toArray⟩,.float .f64 we] 68)) (some ⟨wr.heap.size,0,none⟩) (toc ⟨ts,F,⟨ty,da,we⟩⟩) from Rd.lit wr #[.string ⟨ts.toArray⟩,.int .i64 F,.string ⟨ty.toArray⟩,.string ⟨da.toArray⟩,.float .f64 we] 68);have J:=η (q0H b (q0B wr (.cells #[.string ⟨ts.toArray⟩,.int .i64 F,.string ⟨ty.toArray⟩,.string ⟨da.toArray⟩,.float .f64 we] 68)));clear b x y D;by_cases hs:ts=s
   ·subst hs
    have e1:(ts==ts)=true:=beq_self_eq_true ts
    go_wp2_with (at_builtin;refine q0M rfl _ _ 22 rfl w.heap.size 68 _ 5 64 Tryz.underlying22 Tryz.infoTo (by decide) (by decide) _ X (q4g M) rfl J.o _ 1 1 (toc ⟨ts,F,⟨ty,da,we⟩⟩) rfl rfl (fun h=>by cases h) a0.o (by unfold toc;simp[Value.oneCell']) (by unfold maxLen;omega) (by omega) (by have:=b0.o;simp;omega) ?_;intro v2 w8 j d d0;obtain⟨a2,k2,rfl⟩:=q0G j;have HO:=η j;have HX:Hd (Ext w w8):=η (z8R (w0:=w) (W:=wr) (vq:= .slice oa X oc) V.o q.o d);clear j d d0)
    go_roundw
    case rel=>
     refine⟨k+1,_,M++[⟨ts,F,⟨ty,da,we⟩⟩],rfl,by go_num,by omega,η (by rw[HS.o,l.o];simp),?_,HX.o⟩;rw[q4T,θ,I.o];exact HO.o
    case measure=>simp[intOf];omega
   ·have e1:(ts==s)=false:=beq_eq_false_iff_ne.2 hs
    go_wp2_with fail
    go_roundw
    case rel=>exact⟨k+1,_,M,rfl,by go_num,by omega,η (by rw[HS.o,l.o];simp[hs]),by rw[I.o];exact q.o,V.o⟩
    case measure=>simp[intOf];omega
  ·obtain rfl:k=n:=by omega
   have hd:decide ((k:Int)<(k:Int))=false:=ε (by omega);have N:M=L.filter fun t=>decide (t.s=s):=by rw[<-l.o,Δ (by rw[HN.o];exact ι _)]
   have q:=η b;have V:=η x;have Z:=η N;clear b x y N O;go_wp2_with fail;go_ret;exact⟨_,rfl,by rw[<-Z.o];exact q.o,V.o⟩
theorem Tos.cut{w:World}{n:Nat}{L:List To}(h:Tos w ao n cap L)(d:k<=n):Tos w ao k cap (L.take k):=by
 refine⟨by have:=h.len;rw[Θ];omega,Ω d h.fits,h.bound,h.nil,fun j u b=>h.rd j u ?_⟩;have e:L=L.take k++L.drop k:=(List.take_append_drop k L).symm;have i:j<(q4g (L.take k)).length:=(List.getElem?_eq_some_iff.1 b).1;rw[e,q7f,List.getElem?_append_left i];exact b
section
variable {P :Program}{Q:Exit->Act->World->Prop}{md:Region.Mode}{S:World->Prop}{n:Nat}
theorem q1v{l:List Oper}(i:Nat){d:Oper}{fuel:Nat}{b:Array Bool}{a:Act}{w:World}(q:S w)
  (h:S w->q2P P md l.toArray Q S n fuel (b.setIfInBounds i true) (a.put d.dst undef) w)
  (x:l[i]? =some d:=by exact rfl)
  (j:(Region.noSelect l.toArray&&decide (i<n)&&q4s md l.toArray b&&Region.free md l.toArray b i&&(Region.ready md l.toArray b).contains i)=true:=by kernel_rfl)
  (o: ∀c a w,Q (.panic c) (a.put d.dst undef) w->Q (.panic c) a w:=by exact fun _ _ _ h=>h)
  (r:Region.wanted d (yielded l.toArray a.tmps)=false:=by rfl):q2P P md l.toArray Q S n (fuel+1) b a w:=
 q0j x j o (Or.inr ⟨r,rfl⟩) q h
end
theorem q8X{n:Nat}{L:List To}(w:World)(d:Tos w ao n cap L)(m0: ∀t∈L,t.s.length<=4611686018427387903/\t.e.ty.length<=4611686018427387903/\t.e.da.length<=4611686018427387903)(hw: ∀t∈L,t.e.we<18446744073709551616):
  Calls Tryz.prog 11 #[.slice ao n cap] w fun e w'=>e= .returned (.tuple #[.string ⟨(q1n L).1.toArray⟩,.int .i64 (q1n L).2])/\Ext w w':=by
 have F:=d.len;have b1:=d.fits;have b2:=d.bound;have v0:=η (Ext.refl w);by_cases y0:1000<n
 ·have HN:Hd (q1n L=([],3)):=η (by unfold q1n;rw[ξ (by omega)])
  have hd:decide ((1000:Int)<(n:Int))=true:=ζ (by omega);clear d m0 hw F y0;go_enter Tryz.func11,Tryz.ntmps11;go_wp2_with fail;go_ret2;exact⟨by rw[HN.o];rfl,v0.o⟩
 have hd:decide ((1000:Int)<(n:Int))=false:=ε (by omega);have HE:Hd (q1n L=if q5C [] L=true then(q0W (q2k L),0) else([],2)):=η (by unfold q1n;rw[κ (by omega)]);have HP:=η (fun W=>z3F (n:Int) 4 W (by omega) (by omega) (by omega) (by omega));rw[Int.toNat_natCast] at HP;have qn:IntKind.u64.wrap (n:Int)=(n:Int):=by rw[IntKind.wrap_u64];omega
 have R0:((⟨#[97,110,110,97,108,105,115,116,10]⟩:ByteArray)++⟨(be 4 n).toArray⟩)=⟨(q5m n).toArray⟩:=q1w markB (be 4 n);have Z0:(be 4 n).length=4:=q0F 4 n;have S0:=q4D n;have D0:Hd (q2k L=q5m n++((L.take n).map toB).flatten):=η (by unfold q2k;rw[<-F,List.take_length]);have q1:¬(9223372036854775807<(9:Nat)+(be 4 n).length):=by omega
 have HT:=η d;have s0:=η F;have H0:=η m0;have K0:=η hw;generalize be 4 n=D at*;generalize O0:q5m n=H at*;clear d m0 hw F O0;go_enter Tryz.func11,Tryz.ntmps11;go_wp2_with fail;refine(HP.o _).mono ?_;rintro e w1 ⟨rfl,d⟩;have L0:=η (v0.o.trans d);clear d HP;go_wp2_with fail
 go_loopw [4,5] (fun s i W=> ∃(k:Nat) (T:List UInt8),k<=n/\i= .int .i64 (k:Int)/\s= .string ⟨T.toArray⟩/\q5C [] (L.take k)=true/\T=H++((L.take k).map toB).flatten/\T.length<=13+400*k/\Ext w W) (fun _ i _=>n-(intOf i).toNat)
 case atStart=>exact⟨0,H,υ _,rfl,rfl,rfl,by simp,by omega,L0.o⟩
 case round=>
  obtain⟨k,T,hk,rfl,rfl,V,hT,T0,d⟩:=hrel;have J0:=η hT;have HX:=η d;have n0:=η V;by_cases l0:k<n
  ·have P0:decide ((k:Int)<(n:Int))=true:=ζ (by omega)
   have X0:(k:Int)<(n:Int):=by omega
   have Y0:(k:Int)<=(n:Int):=by omega
   obtain⟨j,off,rfl,c0,c1,c2,c3,c4⟩:=(HT.o.ext d).at l0;have J:k<L.length:=by rw[s0.o];exact l0
   have X:L.getD k to0∈L:=by rw[δ,γ J];exact List.getElem_mem J
   have E0:=η (q6p J);have g0:=η (fun h=>q9o J h);have F0:=η (z3U J);obtain⟨l1,l2,l3⟩:=H0.o _ X;have C0:=K0.o _ X;have a1:=q1j;have y:=q0B wr (.cells #[.slice (some ⟨j,off,none⟩) k cap,.slice none 0 0,.int .i64 0] 75);have x0:=((HT.o.ext d).ext y).cut (Nat.le_of_lt l0);have w0:=Blk.new wr 75 #[.slice (some ⟨j,off,none⟩) k cap,.slice none 0 0,.int .i64 0];generalize L.getD k to0=t at*;obtain⟨ts,N,⟨ty,da,we⟩⟩:=t;simp only at c0 c1 c2 c3 c4 l1 l2 l3 C0;have Y:=η (fun W=>z1r ts W (by omega));have f0:=η (fun W=>q4O ty da .f64 we W l2 l3);have t0:Hd (∀W,Ext (wr.alloc (.cells #[.slice (some ⟨j,off,none⟩) k cap,.slice none 0 0,.int .i64 0] 75)) W->Calls Tryz.prog 39 #[.pointer (some ⟨wr.heap.size,0,none⟩),.string ⟨ts.toArray⟩] W fun e w'=> ∃va vc,e= .returned (.slice va (q5D (L.take k) ts) vc)/\Ext W w'):=η fun W hE=>by
    refine(q8Q (w0.ext hE) (x0.ext hE) ts (by omega)).mono ?_;rintro e w' ⟨v,rfl,hr,Q0⟩;obtain⟨va,vc,rfl⟩:=q0G hr;exact⟨va,vc,rfl,Q0⟩
   have j0:=η y;have l:Hd (∀W,Ext (wr.alloc (.cells #[.slice (some ⟨j,off,none⟩) k cap,.slice none 0 0,.int .i64 0] 75)) W->(W.cell? ⟨j,off+k*5,none⟩=some (.string ⟨ts.toArray⟩)/\W.cell? ⟨j,off+k*5+1,none⟩=some (.int .i64 N)/\W.cell? ⟨j,off+k*5+2,none⟩=some (.string ⟨ty.toArray⟩)/\W.cell? ⟨j,off+k*5+3,none⟩=some (.string ⟨da.toArray⟩)/\W.cell? ⟨j,off+k*5+4,none⟩=some (.float .f64 we))):=η fun W hE=>
    ⟨q0A (y.trans hE) c0,q0A (y.trans hE) c1,q0A (y.trans hE) c2,q0A (y.trans hE) c3,q0A (y.trans hE) c4⟩
   have q2:IntKind.i64.wrap ((k:Int)+1)=(k:Int)+1:=by rw[ν];omega
   have R:Hd (cOk (L.take k) ⟨ts,N,⟨ty,da,we⟩⟩=(q1J ts&&decide (q0R ty da=0)&&decide (N=(q5D (L.take k) ts:Int)))):=η rfl;obtain⟨z1,b0⟩: ∃z,q1J ts=z:=⟨_,rfl⟩
   obtain⟨ec,a0⟩: ∃z,q0R ty da=z:=⟨_,rfl⟩
   obtain⟨cn,k0⟩: ∃z,q5D (L.take k) ts=z:=⟨_,rfl⟩
   rw[b0,a0,k0] at R;rw[b0] at Y;rw[a0] at f0;rw[k0] at t0;have N0:=η b0;have e0:=η a0;clear d hT V J X y x0 w0 b0 a0 k0 c0 c1 c2 c3 c4
   cases z1 with
   | false=>
    have O:Hd (q1n L=([],2)):=η (by rw[HE.o,g0.o (by rw[R.o];rfl)];rfl);go_wp2_with fail;have U:Hd (Ext (wr.alloc (.cells #[.slice (some ⟨j,off,none⟩) k cap,.slice none 0 0,.int .i64 0] 75)) (wr.alloc (.cells #[.slice (some ⟨j,off,none⟩) k cap,.slice none 0 0,.int .i64 0] 75)).drew):=η (Ext.refl _).drew;refine q1K (fun W:World=>(W.cell? ⟨j,off+k*5,none⟩=some (.string ⟨ts.toArray⟩)/\W.cell? ⟨j,off+k*5+1,none⟩=some (.int .i64 N)/\W.cell? ⟨j,off+k*5+2,none⟩=some (.string ⟨ty.toArray⟩)/\W.cell? ⟨j,off+k*5+3,none⟩=some (.string ⟨da.toArray⟩)/\W.cell? ⟨j,off+k*5+4,none⟩=some (.float .f64 we))) 31 (by kernel_rfl) (l.o _ (Ext.refl _).drew) (fun b=>?_);refine q0P 0 b (fun b=>?_)
    try simp only[Act.put,π,ψ,ω]
    refine q0P 1 b (fun b=>?_)
    try simp only[Act.put,π,ψ,ω]
    refine q0P 2 b (fun b=>?_)
    try simp only[Act.put,π,ψ,ω]
    refine q0P 3 b (fun b=>?_)
    try simp only[Act.put,π,ψ,ω]
    refine q3W 4 b (fun b=>?_)
    try simp only[Act.put,π,ψ,ω]
    refine q0S (i:=5) (by kernel_rfl) rfl (fun K hK=>?_)
    go_simp
    go_at_call 37
    refine(Y.o _).mono ?_;rintro e w3 ⟨rfl,d⟩;have q:=η (U.o.trans d);clear d b;refine hK.out _ _ (l.o _ q.o) (fun b=>?_);clear hK K
    try simp only[Act.put,π,ψ,ω]
    refine q0P 6 b (fun b=>?_)
    try simp only[Act.put,π,ψ,ω]
    refine q0P 7 b (fun b=>?_)
    try simp only[Act.put,π,ψ,ω]
    refine q1v 8 b (fun b=>?_)
    try simp only[Act.put,π,ψ,ω]
    refine q1v 9 b (fun b=>?_)
    try simp only[Act.put,π,ψ,ω]
    refine q1v 10 b (fun b=>?_)
    try simp only[Act.put,π,ψ,ω]
    refine q1v 11 b (fun b=>?_)
    try simp only[Act.put,π,ψ,ω]
    refine q1v 12 b (fun b=>?_)
    try simp only[Act.put,π,ψ,ω]
    refine q1v 13 b (fun b=>?_)
    try simp only[Act.put,π,ψ,ω]
    refine q1v 14 b (fun b=>?_)
    try simp only[Act.put,π,ψ,ω]
    refine q0P 15 b (fun b=>?_)
    try simp only[Act.put,π,ψ,ω]
    refine q0P 16 b (fun b=>?_)
    try simp only[Act.put,π,ψ,ω]
    refine q1v 17 b (fun b=>?_)
    try simp only[Act.put,π,ψ,ω]
    refine q1v 18 b (fun b=>?_)
    try simp only[Act.put,π,ψ,ω]
    refine q1v 19 b (fun b=>?_)
    try simp only[Act.put,π,ψ,ω]
    refine q1v 20 b (fun b=>?_)
    try simp only[Act.put,π,ψ,ω]
    refine q1v 21 b (fun b=>?_)
    try simp only[Act.put,π,ψ,ω]
    refine q1v 22 b (fun b=>?_)
    try simp only[Act.put,π,ψ,ω]
    refine q1v 23 b (fun b=>?_)
    try simp only[Act.put,π,ψ,ω]
    refine q1v 24 b (fun b=>?_)
    try simp only[Act.put,π,ψ,ω]
    refine q1v 25 b (fun b=>?_)
    try simp only[Act.put,π,ψ,ω]
    refine q1v 26 b (fun b=>?_)
    try simp only[Act.put,π,ψ,ω]
    refine q1v 27 b (fun b=>?_)
    try simp only[Act.put,π,ψ,ω]
    refine q1v 28 b (fun b=>?_)
    try simp only[Act.put,π,ψ,ω]
    refine q1v 29 b (fun b=>?_)
    try simp only[Act.put,π,ψ,ω]
    refine q0P 30 b (fun b=>?_)
    try simp only[Act.put,π,ψ,ω]
    refine q1Y (by kernel_rfl) ?_
    try simp only[List.drop_succ_cons,List.drop_zero]
    clear b;have I:=η ((HX.o.trans j0.o).trans q.o);go_wp2_with fail
    (try rw[Exit.noGoto_ret])
    go_ret2;exact⟨by rw[O.o];rfl,I.o⟩
   | true=>
    by_cases h0:ec=0
    case neg=>
     have W0:(ec !=0)=true:=by simpa using h0
     have O:Hd (q1n L=([],2)):=η (by rw[HE.o,g0.o (by rw[R.o,ε h0];rfl)];rfl);go_wp2_with fail;have U:Hd (Ext (wr.alloc (.cells #[.slice (some ⟨j,off,none⟩) k cap,.slice none 0 0,.int .i64 0] 75)) (wr.alloc (.cells #[.slice (some ⟨j,off,none⟩) k cap,.slice none 0 0,.int .i64 0] 75)).drew):=η (Ext.refl _).drew;refine q1K (fun W:World=>(W.cell? ⟨j,off+k*5,none⟩=some (.string ⟨ts.toArray⟩)/\W.cell? ⟨j,off+k*5+1,none⟩=some (.int .i64 N)/\W.cell? ⟨j,off+k*5+2,none⟩=some (.string ⟨ty.toArray⟩)/\W.cell? ⟨j,off+k*5+3,none⟩=some (.string ⟨da.toArray⟩)/\W.cell? ⟨j,off+k*5+4,none⟩=some (.float .f64 we))) 31 (by kernel_rfl) (l.o _ (Ext.refl _).drew) (fun b=>?_);refine q0P 0 b (fun b=>?_)
     try simp only[Act.put,π,ψ,ω]
     refine q0P 1 b (fun b=>?_)
     try simp only[Act.put,π,ψ,ω]
     refine q0P 2 b (fun b=>?_)
     try simp only[Act.put,π,ψ,ω]
     refine q0P 3 b (fun b=>?_)
     try simp only[Act.put,π,ψ,ω]
     refine q3W 4 b (fun b=>?_)
     try simp only[Act.put,π,ψ,ω]
     refine q0S (i:=5) (by kernel_rfl) rfl (fun K hK=>?_)
     go_simp
     go_at_call 37
     refine(Y.o _).mono ?_;rintro e w3 ⟨rfl,d⟩;have q:=η (U.o.trans d);clear d b;refine hK.out _ _ (l.o _ q.o) (fun b=>?_);clear hK K
     try simp only[Act.put,π,ψ,ω]
     refine q0P 6 b (fun b=>?_)
     try simp only[Act.put,π,ψ,ω]
     refine q0P 7 b (fun b=>?_)
     try simp only[Act.put,π,ψ,ω]
     refine q0P 8 b (fun b=>?_)
     try simp only[Act.put,π,ψ,ω]
     refine q0P 9 b (fun b=>?_)
     try simp only[Act.put,π,ψ,ω]
     refine q0P 10 b (fun b=>?_)
     try simp only[Act.put,π,ψ,ω]
     refine q0P 11 b (fun b=>?_)
     try simp only[Act.put,π,ψ,ω]
     refine q3W 12 b (fun b=>?_)
     try simp only[Act.put,π,ψ,ω]
     refine q0S (i:=13) (by kernel_rfl) rfl (fun K hK=>?_)
     go_simp
     go_at_call 38
     refine(f0.o _).mono ?_;rintro e w4 ⟨rfl,d⟩;have x:=η (q.o.trans d);clear d b;refine hK.out _ _ (l.o _ x.o) (fun b=>?_);clear hK K
     try simp only[Act.put,π,ψ,ω]
     refine q0P 14 b (fun b=>?_)
     try simp only[Act.put,π,ψ,ω]
     refine q0P 15 b (fun b=>?_)
     try simp only[Act.put,π,ψ,ω]
     refine q0P 16 b (fun b=>?_)
     try simp only[Act.put,π,ψ,ω]
     refine q1v 17 b (fun b=>?_)
     try simp only[Act.put,π,ψ,ω]
     refine q1v 18 b (fun b=>?_)
     try simp only[Act.put,π,ψ,ω]
     refine q1v 19 b (fun b=>?_)
     try simp only[Act.put,π,ψ,ω]
     refine q1v 20 b (fun b=>?_)
     try simp only[Act.put,π,ψ,ω]
     refine q1v 21 b (fun b=>?_)
     try simp only[Act.put,π,ψ,ω]
     refine q1v 22 b (fun b=>?_)
     try simp only[Act.put,π,ψ,ω]
     refine q1v 23 b (fun b=>?_)
     try simp only[Act.put,π,ψ,ω]
     refine q1v 24 b (fun b=>?_)
     try simp only[Act.put,π,ψ,ω]
     refine q1v 25 b (fun b=>?_)
     try simp only[Act.put,π,ψ,ω]
     refine q1v 26 b (fun b=>?_)
     try simp only[Act.put,π,ψ,ω]
     refine q1v 27 b (fun b=>?_)
     try simp only[Act.put,π,ψ,ω]
     refine q1v 28 b (fun b=>?_)
     try simp only[Act.put,π,ψ,ω]
     refine q1v 29 b (fun b=>?_)
     try simp only[Act.put,π,ψ,ω]
     refine q0P 30 b (fun b=>?_)
     try simp only[Act.put,π,ψ,ω]
     refine q1Y (by kernel_rfl) ?_
     try simp only[List.drop_succ_cons,List.drop_zero]
     clear b;have I:=η ((HX.o.trans j0.o).trans x.o);go_wp2_with fail
     (try rw[Exit.noGoto_ret])
     go_ret2;exact⟨by rw[O.o];rfl,I.o⟩
    subst h0;obtain⟨z4,d0⟩: ∃z,((cn:Int) !=N)=z:=⟨_,rfl⟩
    go_wp2_with fail;have U:Hd (Ext (wr.alloc (.cells #[.slice (some ⟨j,off,none⟩) k cap,.slice none 0 0,.int .i64 0] 75)) (wr.alloc (.cells #[.slice (some ⟨j,off,none⟩) k cap,.slice none 0 0,.int .i64 0] 75)).drew):=η (Ext.refl _).drew;refine q1K (fun W:World=>(W.cell? ⟨j,off+k*5,none⟩=some (.string ⟨ts.toArray⟩)/\W.cell? ⟨j,off+k*5+1,none⟩=some (.int .i64 N)/\W.cell? ⟨j,off+k*5+2,none⟩=some (.string ⟨ty.toArray⟩)/\W.cell? ⟨j,off+k*5+3,none⟩=some (.string ⟨da.toArray⟩)/\W.cell? ⟨j,off+k*5+4,none⟩=some (.float .f64 we))) 31 (by kernel_rfl) (l.o _ (Ext.refl _).drew) (fun b=>?_);refine q0P 0 b (fun b=>?_)
    try simp only[Act.put,π,ψ,ω]
    refine q0P 1 b (fun b=>?_)
    try simp only[Act.put,π,ψ,ω]
    refine q0P 2 b (fun b=>?_)
    try simp only[Act.put,π,ψ,ω]
    refine q0P 3 b (fun b=>?_)
    try simp only[Act.put,π,ψ,ω]
    refine q3W 4 b (fun b=>?_)
    try simp only[Act.put,π,ψ,ω]
    refine q0S (i:=5) (by kernel_rfl) rfl (fun K hK=>?_)
    go_simp
    go_at_call 37
    refine(Y.o _).mono ?_;rintro e w3 ⟨rfl,d⟩;have q:=η (U.o.trans d);clear d b;refine hK.out _ _ (l.o _ q.o) (fun b=>?_);clear hK K
    try simp only[Act.put,π,ψ,ω]
    refine q0P 6 b (fun b=>?_)
    try simp only[Act.put,π,ψ,ω]
    refine q0P 7 b (fun b=>?_)
    try simp only[Act.put,π,ψ,ω]
    refine q0P 8 b (fun b=>?_)
    try simp only[Act.put,π,ψ,ω]
    refine q0P 9 b (fun b=>?_)
    try simp only[Act.put,π,ψ,ω]
    refine q0P 10 b (fun b=>?_)
    try simp only[Act.put,π,ψ,ω]
    refine q0P 11 b (fun b=>?_)
    try simp only[Act.put,π,ψ,ω]
    refine q3W 12 b (fun b=>?_)
    try simp only[Act.put,π,ψ,ω]
    refine q0S (i:=13) (by kernel_rfl) rfl (fun K hK=>?_)
    go_simp
    go_at_call 38
    refine(f0.o _).mono ?_;rintro e w4 ⟨rfl,d⟩;have x:=η (q.o.trans d);clear d b;refine hK.out _ _ (l.o _ x.o) (fun b=>?_);clear hK K
    try simp only[Act.put,π,ψ,ω]
    refine q0P 14 b (fun b=>?_)
    try simp only[Act.put,π,ψ,ω]
    refine q0P 15 b (fun b=>?_)
    try simp only[Act.put,π,ψ,ω]
    refine q0P 16 b (fun b=>?_)
    try simp only[Act.put,π,ψ,ω]
    refine q0P 17 b (fun b=>?_)
    try simp only[Act.put,π,ψ,ω]
    refine q0P 18 b (fun b=>?_)
    try simp only[Act.put,π,ψ,ω]
    refine q0P 19 b (fun b=>?_)
    try simp only[Act.put,π,ψ,ω]
    refine q0P 20 b (fun b=>?_)
    try simp only[Act.put,π,ψ,ω]
    refine q3W 21 b (fun b=>?_)
    try simp only[Act.put,π,ψ,ω]
    refine q0P 24 b (fun b=>?_)
    try simp only[Act.put,π,ψ,ω]
    refine q0P 25 b (fun b=>?_)
    try simp only[Act.put,π,ψ,ω]
    refine q0P 26 b (fun b=>?_)
    try simp only[Act.put,π,ψ,ω]
    refine q0P 27 b (fun b=>?_)
    try simp only[Act.put,π,ψ,ω]
    refine q3W 28 b (fun b=>?_)
    try simp only[Act.put,π,ψ,ω]
    refine q0S (i:=22) (by kernel_rfl) rfl (fun K hK=>?_)
    go_simp
    go_at_call 39
    refine(t0.o _ x.o).mono ?_;rintro e w5 ⟨va,vc,rfl,d⟩;have i0:=η (x.o.trans d);clear d b;refine hK.out _ _ (l.o _ i0.o) (fun b=>?_);clear hK K
    try simp only[Act.put,π,ψ,ω]
    refine q0P 23 b (fun b=>?_)
    try simp only[Act.put,π,ψ,ω]
    refine q0P 29 b (fun b=>?_)
    try simp only[Act.put,π,ψ,ω]
    refine q0P 30 b (fun b=>?_)
    try simp only[Act.put,π,ψ,ω]
    refine q1Y (by kernel_rfl) ?_
    try simp only[List.drop_succ_cons,List.drop_zero]
    clear b;have I:=η ((HX.o.trans j0.o).trans i0.o)
    cases z4 with
    | true=>
     have hv:¬N=(cn:Int):=fun h=>by rw[h] at d0;simp at d0
     have O:Hd (q1n L=([],2)):=η (by rw[HE.o,g0.o (by rw[R.o,ε hv];rfl)];rfl);clear hv;go_wp2_with fail
     (try rw[Exit.noGoto_ret])
     go_ret2;exact⟨by rw[O.o];rfl,I.o⟩
    | false=>
     have hv:N=(cn:Int):=by simpa using(bne_eq_false_iff_eq.1 d0).symm
     have o0:Hd (q5C [] (L.take (k+1))=true):=η (by rw[E0.o,n0.o,R.o,ζ hv];rfl);have z0:z4c ⟨ty,da,we⟩:=⟨e0.o,C0⟩
     have I0:=η (fun W=>q7X ts W l1);have q0:=η (fun W=>z1q ⟨ty,da,we⟩ W z0);have r0:Hd (∀W,Calls Tryz.prog 41 #[.agg #[.string ⟨ty.toArray⟩,.string ⟨da.toArray⟩,.float .f64 we]] W fun r w'=>r= .returned (.string ⟨(evB ⟨ty,da,we⟩).toArray⟩)/\Ext W w'):=q0;have A0:=q7e (t:=⟨ts,N,⟨ty,da,we⟩⟩) N0.o e0.o;have hZ:toB ⟨ts,N,⟨ty,da,we⟩⟩=q1P ts++evB ⟨ty,da,we⟩:=rfl;generalize q1P ts=A at*;generalize evB ⟨ty,da,we⟩=E at*;generalize toB ⟨ts,N,⟨ty,da,we⟩⟩=Z at*;subst hZ;rw[θ] at A0;have U0:((⟨T.toArray⟩:ByteArray)++⟨A.toArray⟩)=⟨(T++A).toArray⟩:=q1w _ _;have V0:((⟨(T++A).toArray⟩:ByteArray)++⟨E.toArray⟩)=⟨(T++(A++E)).toArray⟩:=by rw[q1w,List.append_assoc]
     have q4:¬(9223372036854775807<T.length+A.length):=by omega
     have q5:¬(9223372036854775807<T.length+A.length+E.length):=by omega
     have q6:¬(9223372036854775807<(T++A).length+E.length):=by rw[θ];omega
     obtain⟨c0,c1,c2,c3,c4⟩:=l.o _ i0.o;have u0:=q0C c0;have u2:=q0C c2;have u3:=q0C c3;have u4:=q0C c4;clear z0 q0 hv d0;go_wp2_with fail;refine q0D (by kernel_rfl) (by kernel_rfl) ?_
     repeat (go_big_quiet_step (fail))
     go_big_quiet_step (exact Calls.quiet_ext (I0.o _))
     repeat (go_big_quiet_step (fail))
     go_big_quiet_step (exact Calls.quiet_ext (r0.o _))
     repeat (go_big_quiet_step (fail))
     refine wpQuiet_nil ?_;intro w6 B0;have M0:=η (I.o.trans B0);clear B0 c0 c1 c2 c3 c4 u0 u2 u3 u4;go_wp2_with fail
     go_roundw
     case rel=>exact⟨k+1,T++(A++E),by omega,by go_num,rfl,o0.o,by rw[F0.o,J0.o,List.append_assoc],by rw[θ,θ];omega,M0.o⟩
     case measure=>simp[intOf];omega
  ·obtain rfl:k=n:=by omega
   have P0:decide ((k:Int)<(k:Int))=false:=ε (by omega);have p0:Hd (q5C [] L=true):=η (by have:=n0.o;rwa [<-s0.o,List.take_length] at this);have HR:Hd (q1n L=(q0W T,0)):=η (by rw[HE.o,ξ p0.o,D0.o,hT]);have G0:=η (fun W=>z0e T W (by omega));clear d hT V;go_wp2_with fail;refine(G0.o _).mono ?_;rintro e w4 ⟨rfl,d⟩;have x:=η (HX.o.trans d);clear d;go_wp2_with fail;go_ret2;exact⟨by rw[HR.o];rfl,x.o⟩
end
section
open Go.RowKit Go.Maps
variable {W W1 W2:World}{base gm n:Nat}{L:List To}{G:List UInt8->Value}
end
section
open Go.RowKit Go.Maps
theorem z5j(s p:List UInt8)(w:World)(i:s.length<=9223372036854775807)(j:p.length<=9223372036854775807):
  Calls Tryz.prog 82 #[.string ⟨s.toArray⟩,.string ⟨p.toArray⟩] w fun e w'=>e= .returned (.tuple #[.string ⟨(if q7r s p=true then s.drop p.length else s).toArray⟩,.bool (q7r s p)])/\w=w':=by
 have b:=η (fun W=>q6F s p W i j)
 cases hb:q7r s p with
 | false=>
  rw[hb] at b;go_enter Tryz.func82,Tryz.ntmps82;go_wp2_with fail;refine(b.o _).mono ?_;rintro e w1 ⟨rfl,rfl⟩;go_wp2_with fail;go_ret2;exact⟨rfl,rfl⟩
 | true=>
  rw[hb] at b;have d:p.length<=s.length:=by unfold q7r at hb;rw[Ξ] at hb;exact of_decide_eq_true hb.1
  have l:=q1f s (p.length:Int) p.length rfl d;rw[ξ rfl];go_enter Tryz.func82,Tryz.ntmps82;go_wp2_with fail;refine(b.o _).mono ?_;rintro e w1 ⟨rfl,rfl⟩;go_wp2_with fail;go_ret2;exact⟨rfl,rfl⟩
theorem z1K(s p:List UInt8)(w:World)(d:s.length<=9223372036854775807)(i:p.length<=9223372036854775807):
  Calls Tryz.prog 44 #[.string ⟨s.toArray⟩,.string ⟨p.toArray⟩] w fun e w'=>e= .returned (.tuple #[.string ⟨(if q7r s p=true then s.drop p.length else s).toArray⟩,.bool (q7r s p)])/\w=w':=by
 have b:=η (z5j s p w d i);generalize (if q7r s p=true then s.drop p.length else s)=X at*;generalize q7r s p=z at*;go_enter Tryz.func44,Tryz.ntmps44;go_wp2_with fail;refine b.o.mono ?_;rintro e w1 ⟨rfl,rfl⟩;go_wp2_with fail;go_ret2;exact⟨rfl,rfl⟩
theorem z0X(t:List UInt8):(q7r t markB=true)↔t.take 9=markB:=by
 unfold q7r;rw[Ξ,Φ,beq_iff_eq]
 constructor
 ·exact fun h=>h.2
 ·intro h
  refine⟨?_,h⟩;have:=congrArg List.length h;rw[Θ] at this;show 9<=t.length;have b:markB.length=9:=rfl;omega
theorem z4w(s:List UInt8)(w:World)(hl:s.length<=1000000):
  Calls Tryz.prog 12 #[.string ⟨s.toArray⟩] w fun e w'=> ∃v,e= .returned (.tuple #[v,.int .i64 (q1u s).2])/\w'.ownsRow w.heap.size 68 5 v (q1u s).1.length (q4g (q1u s).1)/\Ext w w':=by
 have j:=η (World.ownsRow_nil w w.heap.size 68 5);have HO:=η (fun W=>z0S s W (by omega));have l1:(q0q s).length<=s.length:=by unfold q0q;split<;>simp
 obtain⟨t,ht⟩: ∃t,q0q s=t:=⟨_,rfl⟩
 rw[ht] at HO l1;have Y:Hd ((∀L,q3C t≠some (L,[]))->q1u s=([],10)):=η (fun h=>z7B (by rw[ht];exact h));have k0:Hd (∀L,q3C t=some (L,[])->q1u s=(L,0)):=η (fun L h=>z4o (by rw[ht];exact h));generalize q1O s=ob at*;clear ht;have HC:=η (fun W=>z1K t markB W (by omega) (by show 9<=_;omega));by_cases hp:q7r t markB=true
 case neg=>
  have M0:q7r t markB=false:=by simpa using hp
  rw[κ hp,M0] at HC
  have HR:Hd (q1u s=([],10)):=η (Y.o fun L h=>by
   unfold q3C at h;rw[κ (fun h=>hp ((z0X t).2 h.1))] at h
   cases h)
  clear hp M0;have V:Hd (∀W,Calls Tryz.prog 44 #[.string ⟨t.toArray⟩,.string ⟨#[97,110,110,97,108,105,115,116,10]⟩] W fun e w'=>e= .returned (.tuple #[.string ⟨t.toArray⟩,.bool false])/\W=w'):=HC;clear HC;go_enter Tryz.func12,Tryz.ntmps12;go_wp2_with fail;refine(HO.o _).mono ?_;rintro e w1 ⟨rfl,d⟩;have F:=η d;clear d;go_wp2_with fail;refine(V.o _).mono ?_;rintro e w2 ⟨rfl,rfl⟩;go_wp2_with fail;go_ret2;exact⟨.slice none 0 0,by rw[HR.o];rfl,by rw[HR.o];exact q0H j.o F.o,F.o⟩
 rw[ξ hp,hp] at HC;have f0:=(z0X t).1 hp;have h9:9<=t.length:=by
  have:=congrArg List.length f0;rw[Θ,show markB.length=9 from rfl] at this;omega
 have V:Hd (∀W,Calls Tryz.prog 44 #[.string ⟨t.toArray⟩,.string ⟨#[97,110,110,97,108,105,115,116,10]⟩] W fun e w'=>e= .returned (.tuple #[.string ⟨(t.drop 9).toArray⟩,.bool true])/\W=w'):=HC;clear HC hp;obtain⟨N,O⟩: ∃r,t.drop 9=r:=⟨_,rfl⟩
 have u1:N.length+9=t.length:=by rw[<-O,List.length_drop];omega
 rw[O] at V;by_cases h4:N.length<4
 ·have HR:Hd (q1u s=([],10)):=η (Y.o fun L h=>by
   unfold q3C at h;rw[κ (fun h=>by omega)] at h
   cases h)
  have hd:decide ((N.length:Int)<4)=true:=ζ (by omega);clear f0 O;go_enter Tryz.func12,Tryz.ntmps12;go_wp2_with fail;refine(HO.o _).mono ?_;rintro e w1 ⟨rfl,d⟩;have F:=η d;clear d;go_wp2_with fail;refine(V.o _).mono ?_;rintro e w2 ⟨rfl,rfl⟩;go_wp2_with fail;go_ret2;exact⟨.slice none 0 0,by rw[HR.o];rfl,by rw[HR.o];exact q0H j.o F.o,F.o⟩
 have hd:decide ((N.length:Int)<4)=false:=ε (by omega);have s1:=q2w N 4 4 rfl (by omega);have s2:=q1f N 4 4 rfl (by omega);have z0:=η (fun W=>q7u (N.take 4) W (by rw[Θ];omega));rw[List.take_take,show min 8 4=4 from rfl] at z0;have x1:q0o (N.take 4)<4294967296:=by
  have:=q1Q (N.take 4);rw[Θ,Nat.min_eq_left (by omega)] at this;exact this
 have m0:q3C t=crd (q0o (N.take 4)) (N.drop 4) []:=by
  unfold q3C;rw[ξ ⟨f0,by omega⟩,O,<-O,List.drop_drop]
 rw[m0] at Y k0;generalize q0o (N.take 4)=many at*;have f1:(N.drop 4).length<=1000000:=by rw[List.length_drop];omega
 generalize N.drop 4=S0 at*;clear f0 O h4 m0;go_enter Tryz.func12,Tryz.ntmps12;go_wp2_with fail;refine(HO.o _).mono ?_;rintro e w1 ⟨rfl,d⟩;have F:=η d;clear d;go_wp2_with fail;refine(V.o _).mono ?_;rintro e w2 ⟨rfl,rfl⟩;go_wp2_with fail;refine(z0.o _).mono ?_;rintro e w2 ⟨rfl,d⟩;have G0:=η (F.o.trans d);clear d;have B0:=η (CntM.made w2);have I0:=η (G0.o.trans (q0B w2 (.map #[] 0)));have n1:=G0.o.size;have A1:=@run_makeMap Tryz.prog;go_wp2_with fail
 go_loopw [6,10,40] (fun r l i W=> ∃(k:Nat) (R:List UInt8) (acc:List To) (v:Value),i= .int .u64 (k:Int)/\r= .string ⟨R.toArray⟩/\l=v/\W.ownsRow w.heap.size 68 5 v k (q4g acc)/\acc.length=k/\k<=1000/\k<=many/\CntM W w2.heap.size k acc/\R.length<=1000000/\Hd (crd many S0 []=crd (many-k) R acc)/\Ext w W) (fun _ _ i _=>many-(intOf i).toNat)
 case atStart=>exact⟨0,S0,[],_,rfl,rfl,rfl,World.ownsRow_nil _ _ _ _,rfl,by omega,υ _,B0.o,f1,η rfl,I0.o⟩
 case round=>
  obtain⟨k,R,acc,v,rfl,rfl,rfl,c0,J,r1,t1,hm,p1,o0,d⟩:=hrel;obtain⟨va,vc,rfl⟩:=q0G c0;have j0:=η c0;have i0:=η J;have HM:=η hm;have HX:=η d;clear c0 hm d I0 B0 F;by_cases v1:k<many
  ·have i1:decide ((k:Int)<(many:Int))=true:=ζ (by omega)
   have E0:=η (fun W=>q9M R W (by omega));have B1:=q3s R;have C1:=q6J R;have y0:=η (fun W=>z5N (rdR R) W (by omega));obtain⟨⟨y1,y2,y3⟩,R',o',hv,hy,hn,E1,F1,o1⟩:=z1m (rdR R);have O0:y0I (rdE (rdR R))= .tuple #[.agg #[.string ⟨y1.toArray⟩,.string ⟨y2.toArray⟩,.float .f64 y3],.string ⟨R'.toArray⟩,.bool o']:=hv;rw[O0] at y0;have F0:=η (fun W=>q9Z (rdT R) W (by omega));obtain⟨m,hm⟩: ∃m,many-k=m+1:=⟨many-k-1,by omega⟩
   have X:Hd (crd many S0 []=if q3d R=true/\q1J (rdT R)=true/\k≠1000 then(rdE (rdR R)).bind fun x=>crd m x.2 (acc++[⟨rdT R,q5D acc (rdT R),x.1⟩]) else none):=η (by rw[o0.o,hm,crd,J]);have L0:many-(k+1)=m:=by omega
   have K0:q5D acc (rdT R)<=k:=by unfold q5D;rw[<-J];exact List.length_filter_le _ _
   have A0:=η (z1U (rdT R) (by omega));generalize rdR R=R1 at*;generalize rdT R=st at*;obtain⟨z1,P0⟩: ∃z,q3d R=z:=⟨_,rfl⟩
   obtain⟨z2,Q0⟩: ∃z,q1J st=z:=⟨_,rfl⟩
   rw[P0] at E0 X;rw[Q0] at F0 X;have HY:=η hy;have HN:=η hn;have D1:=q1j;clear hv O0 hy hn hm P0 Q0 J o0;obtain⟨cn,v0⟩: ∃z,q5D acc st=z:=⟨_,rfl⟩
   have n0:=η v0;rw[v0] at K0 X;clear v0;have y:Hd ((z1=false\/o'=false\/z2=false\/k=1000)->q1u s=([],10)):=η fun h=>Y.o fun L e=>by
    rw[X.o] at e
    split at e
    ·rename_i hc
     rcases h with h|h|h|h
     ·rw[h] at hc;exact absurd hc.1 (by decide)
     ·rw[HN.o h] at e;cases e
     ·rw[h] at hc;exact absurd hc.2.1 (by decide)
     ·exact hc.2.2 h
    ·cases e
   go_wp2_with fail;refine(E0.o _).mono ?_;rintro e w3 ⟨rfl,d⟩;have c1:=η (HX.o.trans d);have X0:=η (q0H j0.o d);have V0:=η (HM.o.ext d);clear d;go_wp2_with fail;refine(y0.o _).mono ?_;rintro e w4 ⟨rfl,d⟩;have h0:=d.trans (q0B w4 (.cells #[.string ⟨y1.toArray⟩,.string ⟨y2.toArray⟩,.float .f64 y3] 66));have Z:=η (c1.o.trans h0);have Y0:=η (q0H X0.o h0);have W0:=η (V0.o.ext h0);have T0:=η (Blk.new w4 66 #[.string ⟨y1.toArray⟩,.string ⟨y2.toArray⟩,.float .f64 y3]);clear d h0
   cases z1 with
   | false=>
    have b:=η (y.o (.inl rfl));go_wp2_with fail
    (try rw[Exit.noGoto_ret])
    go_ret2;exact⟨.slice none 0 0,by rw[b.o];rfl,by rw[b.o];exact q0H j.o Z.o,Z.o⟩
   |true=>
   cases o' with
   | false=>
    have b:=η (y.o (.inr (.inl rfl)));go_wp2_with fail
    (try rw[Exit.noGoto_ret])
    go_ret2;exact⟨.slice none 0 0,by rw[b.o];rfl,by rw[b.o];exact q0H j.o Z.o,Z.o⟩
   |true=>
   go_wp2_with fail;refine(F0.o _).mono ?_;rintro e w5 ⟨rfl,d⟩;have a0:=η (Z.o.trans d);have Z0:=η (q0H Y0.o d);have C0:=η (W0.o.ext d);have U:=η (T0.o.ext d);clear d
   cases z2 with
   | false=>
    have b:=η (y.o (.inr (.inr (.inl rfl))));go_wp2_with fail
    (try rw[Exit.noGoto_ret])
    go_ret2;exact⟨.slice none 0 0,by rw[b.o];rfl,by rw[b.o];exact q0H j.o a0.o,a0.o⟩
   |true=>
   by_cases D:k=1000
   ·have b:=η (y.o (.inr (.inr (.inr D))))
    have j1:((k:Int)==1000)=true:=by rw[D];rfl
    clear D;go_wp2_with fail
    (try rw[Exit.noGoto_ret])
    go_ret2;exact⟨.slice none 0 0,by rw[b.o];rfl,by rw[b.o];exact q0H j.o a0.o,a0.o⟩
   have j1:((k:Int)==1000)=false:=beq_eq_false_iff_ne.2 (by omega);have q1:IntKind.u64.wrap ((k:Int)+1)=(k:Int)+1:=by rw[IntKind.wrap_u64];omega
   obtain⟨D0,u0,J0⟩:=C0.o;have x0:=η J0;have k1:(Instr.lookup 83 (.map (some w2.heap.size)) (.string ⟨st.toArray⟩) false).run Tryz.prog w5= .ok (.int .i64 (cn:Int)) w5:=by
    have:=C0.o.look (s:=st) (by omega)
    rwa [n0.o] at this
   have d0:=U.o.cell 0;have d1:=U.o.cell 1;have d2:=U.o.cell 2;have g0:=q0B w5 (.cells #[.string ⟨st.toArray⟩,.int .i64 (cn:Int),.string ⟨y1.toArray⟩,.string ⟨y2.toArray⟩,.float .f64 y3] 68);have s0:=η (q0H Z0.o g0);have p0:=η (q1k u0 (g0.block _ u0.lt));have t0:=η (a0.o.trans g0);have b1:=η t0.o.size;have a1:=η (show Rd (w5.alloc (.cells #[.string ⟨st.toArray⟩,.int .i64 (cn:Int),.string ⟨y1.toArray⟩,.string ⟨y2.toArray⟩,.float .f64 y3] 68)) (some ⟨w5.heap.size,0,none⟩) (toc ⟨st,cn,⟨y1,y2,y3⟩⟩) from Rd.lit w5 #[.string ⟨st.toArray⟩,.int .i64 (cn:Int),.string ⟨y1.toArray⟩,.string ⟨y2.toArray⟩,.float .f64 y3] 68);have m1:(Lit.int .i64 ((cn:Int)+1)).wf=true:=by
    unfold Lit.wf;rw[Ξ,Φ,Φ];have e1:IntKind.i64.min= -9223372036854775808:=by decide
    have e2:IntKind.i64.max=9223372036854775807:=by decide
    omega
   have q3:IntKind.i64.wrap ((cn:Int)+1)=(cn:Int)+1:=by rw[ν];omega
   have U0:Hd (many-(k+1)=m):=η L0;have N0:st.length<=9223372036854775807:=by omega
   clear u0 J0 g0 L0
   go_wp2_with (first|(at_builtin;refine q0M rfl _ _ 22 rfl w.heap.size 68 _ 5 64 Tryz.underlying22 Tryz.infoTo (by decide) (by decide) _ k (q4g acc) rfl s0.o _ 1 1 (toc ⟨st,cn,⟨y1,y2,y3⟩⟩) rfl rfl (fun h=>by cases h) a1.o (by unfold toc;simp[Value.oneCell']) (by unfold maxLen;omega) (by omega) b1.o ?_;intro v2 w8 b0 I g1;obtain⟨a2,c2,rfl⟩:=q0G b0;have q0:=η b0;have e0:=η (q1k p0.o (I.block w2.heap.size p0.o.lt (fun e=>q7K p0.o (Own.of_row s0.o) e.symm)));have H0:=η (t0.o.grown I t0.o.size (fun q hq=>(q0U s0.o q hq).1));have R0:(Instr.lookup 83 (.map (some w2.heap.size)) (.string ⟨st.toArray⟩) false).run Tryz.prog w8= .ok (.int .i64 (cn:Int)) w8:=(by have:=CntM.look (L:=acc) ⟨D0,e0.o,x0.o⟩ N0;rwa [n0.o] at this);clear b0 I g1)|(at_mapUpdate;refine wpList_mapUpdate_own _ rfl _ _ _ 83 rfl 9 3 z6n Tryz.underlying83 _ w2.heap.size k D0 rfl e0.o (by unfold maxLen;omega) _ _ (.string st) rfl rfl A0.o _ [] (plainElem_int Tryz.underlying3 m1) ?_;intro w9 w0 l0))
   go_roundw
   case measure=>simp[intOf];omega
   case rel=>
    refine⟨k+1,R',acc++[⟨st,cn,⟨y1,y2,y3⟩⟩],.slice a2 (k+1) c2,by go_num,rfl,rfl,?_,by rw[θ,i0.o];rfl,by omega,by omega,?_,by omega,η ?_,?_⟩
    ·rw[q4T]
     exact q1F q0.o fun i hi=>l0.block i (q0U q0.o i hi).2 fun e=>q7K e0.o (Own.of_row q0.o) (hi.trans e)
    ·exact CntM.put (L:=acc) x0.o (World.ownsMap.isMap e0.o) (by rw[n0.o];exact w0) rfl
    ·rw[X.o,ξ ⟨trivial,trivial,D⟩,HY.o trivial,Option.bind_some,U0.o]
    ·exact H0.o.grown l0 H0.o.size (fun q hq=>by cases hq;exact n1)
  ·obtain rfl:k=many:=by omega
   have i1:decide ((k:Int)<(k:Int))=false:=ε (by omega);have hC:crd k S0 []=some (acc,R):=by rw[o0.o,Nat.sub_self,crd]
   cases R with
   | cons r0 R=>
    have b:Hd (q1u s=([],10)):=η (Y.o fun L e=>by rw[hC] at e;cases e);clear hC;go_wp2_with fail;go_ret2;exact⟨.slice none 0 0,by rw[b.o];rfl,by rw[b.o];exact q0H j.o HX.o,HX.o⟩
   | nil=>
    have b:Hd (q1u s=(acc,0)):=η (k0.o acc hC);clear hC;go_wp2_with fail;go_ret2;exact⟨.slice va k vc,by rw[b.o];rfl,by rw[b.o,i0.o];exact j0.o,HX.o⟩
end
section
open Go.RowKit
theorem z8Q{s t:List UInt8}(b:q0q s=t)(h:q4Q t=none):q1u s=([],10):=by
 rw[<-z6S];unfold z6Q;rw[b,h]
theorem z6R{s t:List UInt8}(b:q0q s=t){L:List To}(h:q4Q t=some L):q1u s=if q1n L=(s,0) then(L,0) else([],10):=by
 rw[<-z6S];unfold z6Q;rw[b,h]
theorem z4N(s:List UInt8)(w:World)(hl:s.length<=1000000):
  Calls Tryz.prog 13 #[.string ⟨s.toArray⟩] w fun e w'=> ∃v,e= .returned (.tuple #[v,.int .i64 (q1u s).2])/\w'.ownsRow w.heap.size 68 5 v (q1u s).1.length (q4g (q1u s).1)/\Ext w w':=by
 have y:=η (World.ownsRow_nil w w.heap.size 68 5);have HO:=η (fun W=>z6P s W (by omega));have n1:(q0q s).length<=s.length:=by unfold q0q;split<;>simp
 obtain⟨t,D⟩: ∃t,q0q s=t:=⟨_,rfl⟩
 rw[D] at HO n1;have w0:=η (z8Q D);have r0:Hd (∀L,q4Q t=some L->q1u s=if q1n L=(s,0) then(L,0) else([],10)):=η fun L h=>z6R D h
 generalize q1O s=ob at*;clear D;by_cases e1:t.length<13
 ·have HR:=η (w0.o (by unfold q4Q;rw[κ (by omega)]))
  have hd:decide ((t.length:Int)<13)=true:=ζ (by omega);go_enter Tryz.func13,Tryz.ntmps13;go_wp2_with fail;refine(HO.o _).mono ?_;rintro e w1 ⟨rfl,j⟩;have e0:=η j;clear j;go_wp2_with fail;go_ret2;exact⟨.slice none 0 0,by rw[HR.o];rfl,by rw[HR.o];exact q0H y.o e0.o,e0.o⟩
 have hd:decide ((t.length:Int)<13)=false:=ε (by omega);have s1:=q2h t 9 13 9 13 rfl rfl (by omega) (by omega) (X:=(t.drop 9).take 4) (by rw[List.drop_take]);have s2:=q1f t 13 13 rfl (by omega);have HG:=η (fun W=>z3E ((t.drop 9).take 4) W (by rw[Θ];omega));rw[List.take_take,show min 8 4=4 from rfl] at HG;have B1:q0o ((t.drop 9).take 4)<4294967296:=by
  have:=q1Q ((t.drop 9).take 4);rw[Θ,List.length_drop,Nat.min_eq_left (by omega)] at this;exact this
 have s0:q4Q t=rrd (q0o ((t.drop 9).take 4)) (t.drop 13) []:=by unfold q4Q;rw[ξ (by omega)]
 rw[s0] at w0 r0;generalize q0o ((t.drop 9).take 4)=many at*;have f1:(t.drop 13).length<=1000000:=by rw[List.length_drop];omega
 generalize (t.drop 9).take 4=T4 at*;generalize t.drop 13=S0 at*;have q0:IntKind.i64.wrap (many:Int)=(many:Int):=by rw[ν];omega
 clear e1 s0;go_enter Tryz.func13,Tryz.ntmps13;go_wp2_with fail;refine(HO.o _).mono ?_;rintro e w1 ⟨rfl,j⟩;have e0:=η j;clear j;go_wp2_with fail;refine(HG.o _).mono ?_;rintro e w2 ⟨rfl,j⟩;have I0:=η (e0.o.trans j);have K0:=η ((e0.o.trans j).trans (q0B w2 (.cells #[.slice none 0 0,.slice none 0 0,.int .i64 0] 75)));have t0:=η (Blk.new w2 75 #[.slice none 0 0,.slice none 0 0,.int .i64 0]);obtain⟨O,b0⟩: ∃O,w2.heap.size=O:=⟨_,rfl⟩
 have p1:=η b0;have m1:w.heap.size<=O:=by rw[<-b0];exact I0.o.size
 rw[b0] at t0;clear j;go_wp2_with fail;clear b0
 go_loopw [4,8] (fun r i W=> ∃(k:Nat) (R:List UInt8) (acc:List To) (v:Value),i= .int .i64 (k:Int)/\r= .string ⟨R.toArray⟩/\Blk W O 75 #[v,.slice none 0 0,.int .i64 0]/\W.ownsRow (O+1) 68 5 v k (q4g acc)/\acc.length=k/\k<=1000/\k<=many/\R.length<=1000000/\Hd (rrd many S0 []=rrd (many-k) R acc)/\Hd (∀t∈acc,t.s.length<=4611686018427387903/\t.e.ty.length<=4611686018427387903/\t.e.da.length<=4611686018427387903)/\Hd (∀t∈acc,t.e.we<18446744073709551616)/\Ext w W) (fun _ i _=>many-(intOf i).toNat)
 case atStart=>exact⟨0,S0,[],_,rfl,rfl,t0.o,World.ownsRow_nil _ _ _ _,rfl,by omega,υ _,f1,η rfl,η (fun t D=>by cases D),η (fun t D=>by cases D),K0.o⟩
 case round=>
  obtain⟨k,R,acc,v,rfl,rfl,O0,j0,M0,v1,x1,t1,u0,G0,H0,j⟩:=hrel;obtain⟨va,vc,rfl⟩:=q0G j0;have g0:=η j0;have l:=η M0;have HB:=η O0;have HX:=η j;clear j0 O0 j K0 t0 e0 I0;by_cases A1:k<many
  ·have j1:decide ((k:Int)<(many:Int))=true:=ζ (by omega)
   have z0:=η (fun W=>q7W R W (by omega));have C1:=q3s R;have D1:=q6J R;have v0:=η (fun W=>z4O (rdR R) W (by omega));obtain⟨⟨y1,y2,y3⟩,R',o',hv,hy,hn,F1,G1,r1⟩:=z1m (rdR R);have Q0:y0I (rdE (rdR R))= .tuple #[.agg #[.string ⟨y1.toArray⟩,.string ⟨y2.toArray⟩,.float .f64 y3],.string ⟨R'.toArray⟩,.bool o']:=hv;rw[Q0] at v0;obtain⟨m,hm⟩: ∃m,many-k=m+1:=⟨many-k-1,by omega⟩
   have k0:Hd (rrd many S0 []=if q3d R=true/\k≠1000 then(rdE (rdR R)).bind fun x=>rrd m x.2 (acc++[⟨rdT R,q5D acc (rdT R),x.1⟩]) else none):=η (by rw[u0.o,hm,rrd,l.o]);have l1:many-(k+1)=m:=by omega
   have P0:q5D acc (rdT R)<=k:=by unfold q5D;rw[<-l.o];exact List.length_filter_le _ _
   generalize rdR R=R1 at*;generalize rdT R=st at*;obtain⟨z1,T0⟩: ∃z,q3d R=z:=⟨_,rfl⟩
   rw[T0] at z0 k0;have HY:=η hy;have HN:=η hn;have c1:Hd (o'=true->y3<18446744073709551616):=η fun h=>(z1l (hy h)).1.2
   have E1:=q1j;clear hv Q0 hy hn hm T0 u0;obtain⟨cn,C0⟩: ∃z,q5D acc st=z:=⟨_,rfl⟩
   have X0:=η C0;rw[C0] at P0 k0;clear C0
   have F:Hd ((z1=false\/o'=false\/k=1000)->q1u s=([],10)):=η fun h=>w0.o (by
    rw[k0.o]
    split
    ·rename_i hc
     rcases h with h|h|h
     ·rw[h] at hc;exact absurd hc.1 (by decide)
     ·rw[HN.o h];rfl
     ·exact absurd h hc.2
    ·rfl)
   go_wp2_with fail;refine(z0.o _).mono ?_;rintro e w3 ⟨rfl,j⟩;have Y:=η (HX.o.trans j);have x0:=η (q0H g0.o j);have U0:=η (HB.o.ext j);clear j;go_wp2_with fail;refine(v0.o _).mono ?_;rintro e w4 ⟨rfl,j⟩;have p0:=j.trans (q0B w4 (.cells #[.string ⟨y1.toArray⟩,.string ⟨y2.toArray⟩,.float .f64 y3] 66));have I:=η (Y.o.trans p0);have y0:=η (q0H x0.o p0);have V:=η (U0.o.ext p0);have c0:=η (Blk.new w4 66 #[.string ⟨y1.toArray⟩,.string ⟨y2.toArray⟩,.float .f64 y3]);clear j p0
   cases z1 with
   | false=>
    have d:=η (F.o (.inl rfl));go_wp2_with fail
    (try rw[Exit.noGoto_ret])
    go_ret2;exact⟨.slice none 0 0,by rw[d.o];rfl,by rw[d.o];exact q0H y.o I.o,I.o⟩
   |true=>
   cases o' with
   | false=>
    have d:=η (F.o (.inr (.inl rfl)));go_wp2_with fail
    (try rw[Exit.noGoto_ret])
    go_ret2;exact⟨.slice none 0 0,by rw[d.o];rfl,by rw[d.o];exact q0H y.o I.o,I.o⟩
   |true=>
   by_cases N:k=1000
   ·have d:=η (F.o (.inr (.inr N)))
    have k1:((k:Int)==1000)=true:=by rw[N];rfl
    clear N;go_wp2_with fail
    (try rw[Exit.noGoto_ret])
    go_ret2;exact⟨.slice none 0 0,by rw[d.o];rfl,by rw[d.o];exact q0H y.o I.o,I.o⟩
   have k1:((k:Int)==1000)=false:=beq_eq_false_iff_ne.2 (by omega);have q1:IntKind.i64.wrap ((k:Int)+1)=(k:Int)+1:=by rw[ν];omega
   obtain⟨W4,g1⟩: ∃W4,w4.alloc (.cells #[.string ⟨y1.toArray⟩,.string ⟨y2.toArray⟩,.float .f64 y3] 66)=W4:=⟨_,rfl⟩
   rw[g1] at I y0 V c0;obtain⟨be,h0⟩: ∃be,w4.heap.size=be:=⟨_,rfl⟩
   rw[h0] at c0;have W0:=η h0;have L0: ∀W:World,(∀i,(i=O\/i=be)->W.heap[i]? =W4.heap[i]?)->(W.cell? ⟨O,0,none⟩=some (.slice va k vc)/\W.cell? ⟨w4.heap.size,0,none⟩=some (.string ⟨y1.toArray⟩)/\W.cell? ⟨w4.heap.size,1,none⟩=some (.string ⟨y2.toArray⟩)/\W.cell? ⟨w4.heap.size,2,none⟩=some (.float .f64 y3)):=fun W h=>by
    have hb:=V.o.same (h O (.inl rfl));have hc:=c0.o.same (h be (.inr rfl));rw[W0.o];exact⟨hb.cell 0,hc.cell 0,hc.cell 1,hc.cell 2⟩
   have m0:=η L0;have n0:Hd (∀W:World,Ext W4 W-> ∀i,(i=O\/i=be)->W.heap[i]? =W4.heap[i]?):=η fun W hE i hi=>hE.block i (by rcases hi with rfl|rfl;exact V.o.lt;exact c0.o.lt)
   have Z0:Hd (∀W,Ext W4 W->Calls Tryz.prog 39 #[.pointer (some ⟨O,0,none⟩),.string ⟨st.toArray⟩] W fun e w'=> ∃va vc,e= .returned (.slice va cn vc)/\Ext W w'):=η fun W hE=>by
    refine(q8Q (V.o.ext hE) (n:=k) (L:=acc) (q9a (n:=k) (L:=acc) (by rw[l.o];exact q0H y0.o hE)).1 st (by omega)).mono ?_;rintro e w' ⟨v,rfl,hr,o1⟩;obtain⟨va,vc,rfl⟩:=q0G hr;rw[show(acc.filter fun t=>decide (t.s=st)).length=cn from X0.o];exact⟨va,vc,rfl,o1⟩
   clear L0 h0 v0 z0 HN F;go_wp2_with fail;have A0:Hd (Ext W4 W4.drew):=η (Ext.refl _).drew;refine q1K (fun W:World=>(W.cell? ⟨O,0,none⟩=some (.slice va k vc)/\W.cell? ⟨w4.heap.size,0,none⟩=some (.string ⟨y1.toArray⟩)/\W.cell? ⟨w4.heap.size,1,none⟩=some (.string ⟨y2.toArray⟩)/\W.cell? ⟨w4.heap.size,2,none⟩=some (.float .f64 y3))) 11 (by kernel_rfl) (m0.o _ (n0.o _ A0.o)) (fun b=>?_);refine q0P 0 b (fun b=>?_)
   try simp only[Act.put,π,ψ,ω]
   refine q3W 1 b (fun b=>?_)
   try simp only[Act.put,π,ψ,ω]
   refine q0P 2 b (fun b=>?_)
   try simp only[Act.put,π,ψ,ω]
   refine q0P 3 b (fun b=>?_)
   try simp only[Act.put,π,ψ,ω]
   refine q3W 6 b (fun b=>?_)
   try simp only[Act.put,π,ψ,ω]
   refine q0P 10 b (fun b=>?_)
   try simp only[Act.put,π,ψ,ω]
   refine q0S (i:=4) (by kernel_rfl) rfl (fun K hK=>?_)
   go_simp
   go_at_call 39
   refine(Z0.o _ A0.o).mono ?_;rintro e w6 ⟨pa,pc,rfl,j⟩;have J0:=η (A0.o.trans j);clear j b;refine hK.out _ _ (m0.o _ (n0.o _ J0.o)) (fun b=>?_);clear hK K
   try simp only[Act.put,π,ψ,ω]
   refine q0P 5 b (fun b=>?_)
   try simp only[Act.put,π,ψ,ω]
   refine q0P 7 b (fun b=>?_)
   try simp only[Act.put,π,ψ,ω]
   have R0:=q0B w6 (.cells #[.string ⟨st.toArray⟩,.int .i64 (cn:Int),.string ⟨y1.toArray⟩,.string ⟨y2.toArray⟩,.float .f64 y3] 68);have J:=η (J0.o.trans R0);have l0:=η (q0H y0.o J.o);have Y0:=η (show Rd (w6.alloc (.cells #[.string ⟨st.toArray⟩,.int .i64 (cn:Int),.string ⟨y1.toArray⟩,.string ⟨y2.toArray⟩,.float .f64 y3] 68)) (some ⟨w6.heap.size,0,none⟩) (toc ⟨st,cn,⟨y1,y2,y3⟩⟩) from Rd.lit w6 #[.string ⟨st.toArray⟩,.int .i64 (cn:Int),.string ⟨y1.toArray⟩,.string ⟨y2.toArray⟩,.float .f64 y3] 68);have a1:Hd (O+1<=(w6.alloc (.cells #[.string ⟨st.toArray⟩,.int .i64 (cn:Int),.string ⟨y1.toArray⟩,.string ⟨y2.toArray⟩,.float .f64 y3] 68)).heap.size):=η (by have:=(V.o.ext J.o).lt;omega);clear R0;refine q0S (i:=8) (by kernel_rfl) rfl (fun K hK=>?_)
   go_simp
   refine hK.out _ _ (m0.o _ (n0.o _ J.o)) (fun b=>?_);clear hK K
   try simp only[Act.put,π,ψ,ω]
   refine q0S (i:=9) (by kernel_rfl) rfl (fun K hK=>?_);refine q1W rfl (.tmp 59) (.tmp 66) 22 rfl (O+1) 68 _ 5 64 Tryz.underlying22 Tryz.infoTo (by decide) (by decide) _ k (q4g acc) rfl l0.o _ 1 1 (toc ⟨st,cn,⟨y1,y2,y3⟩⟩) rfl rfl (fun h=>by cases h) Y0.o (by unfold toc;simp[Value.oneCell']) (by unfold maxLen;omega) (by omega) a1.o ?_;intro v2 w8 i0 Z i1;obtain⟨a2,c2,rfl⟩:=q0G i0;have E0:=η i0;have D0:Hd (∀i,(i=O\/i=be)->w8.heap[i]? =W4.heap[i]?):=η fun i hi=>by
    refine(Z.block i ?_ fun e=>?_).trans (n0.o _ J.o i hi)
    ·rcases hi with rfl|rfl
     ·exact(V.o.ext J.o).lt
     ·exact(c0.o.ext J.o).lt
    ·rcases hi with rfl|rfl
     ·have:=(q0U l0.o _ e.symm).1;omega
     ·exact(c0.o.ext J.o).apart l0.o (by decide) e.symm
   have b1:Hd (Ext w w8):=η (Below.grown (I.o.trans J.o) Z (I.o.trans J.o).size (fun q hq=>by have:=(q0U l0.o q hq).1;omega));clear i0 Z i1;refine hK.out _ _ (m0.o _ D0.o) (fun b=>?_);clear hK K
   try simp only[Act.put,π,ψ,ω]
   refine q1Y (by kernel_rfl) ?_
   try simp only[List.drop_succ_cons,List.drop_zero]
   clear b;have o0:=V.o.same (D0.o O (.inl rfl));have d0:=o0.cell 0;have f0:=o0.free 0;have V0:=η o0;clear o0;go_wp2_with fail
   go_roundw
   case measure=>simp[intOf];omega
   case rel=>
    refine⟨k+1,R',acc++[⟨st,cn,⟨y1,y2,y3⟩⟩],.slice a2 (k+1) c2,by go_num,rfl,V0.o.set 0 _,?_,by rw[θ,l.o];rfl,by omega,by omega,by omega,η ?_,η fun t D=>?_,η fun t D=>?_,Below.setCell b1.o (p:=⟨O,0,none⟩) m1 _⟩
    ·rw[q4T]
     exact q0y (a:=⟨O,0,none⟩) E0.o _ (fun e=>by have:=(q0U E0.o O e).1;omega)
    ·rw[k0.o,ξ ⟨trivial,N⟩,HY.o trivial,Option.bind_some,l1]
    ·rcases List.mem_append.1 D with D|D
     ·exact G0.o t D
     ·rw[List.mem_singleton.1 D];exact⟨by simp only;omega,by simp only;omega,by simp only;omega⟩
    ·rcases List.mem_append.1 D with D|D
     ·exact H0.o t D
     ·rw[List.mem_singleton.1 D];exact c1.o trivial
  ·obtain rfl:k=many:=by omega
   have j1:decide ((k:Int)<(k:Int))=false:=ε (by omega);have HC:Hd (rrd k S0 []=some acc):=η (by rw[u0.o,Nat.sub_self,rrd]);have a0:=η (r0.o acc HC.o);have d0:=HB.o.cell 0;have F0:=η (q8X wr (q9a (n:=k) (L:=acc) (by rw[l.o];exact g0.o)).1 G0.o H0.o);obtain⟨U,zU,hU⟩: ∃U z,q1n acc=(U,z):=⟨_,_,rfl⟩
   rw[hU] at F0 a0;clear hU;go_wp2_with fail;refine F0.o.mono ?_;rintro e w3 ⟨rfl,j⟩;have Y:=η (HX.o.trans j);have x0:=η (q0v (q0H g0.o j) (show w.heap.size<=O+1 by omega));have N0:=HB.o.ext j;have d1:=N0.cell 0;clear j d0 N0;by_cases hz:zU=0
   case neg=>
    have u1:(zU !=0)=true:=by simpa using hz
    have d:Hd (q1u s=([],10)):=η (by rw[a0.o,κ];intro h;exact hz (congrArg Prod.snd h));go_wp2_with fail;go_ret2;exact⟨.slice none 0 0,by rw[d.o];rfl,by rw[d.o];exact q0H y.o Y.o,Y.o⟩
   subst hz;by_cases B0:U=s
   ·subst B0
    have d:Hd (q1u U=(acc,0)):=η (by rw[a0.o,ξ rfl]);have h0:(U==U)=true:=beq_self_eq_true U;go_wp2_with fail;go_ret2;exact⟨.slice va k vc,by rw[d.o];rfl,by rw[d.o,l.o];exact x0.o,Y.o⟩
   ·have d:Hd (q1u s=([],10)):=η (by rw[a0.o,κ];intro h;exact B0 (congrArg Prod.fst h))
    have h0:(U==s)=false:=beq_eq_false_iff_ne.2 B0;go_wp2_with fail;go_ret2;exact⟨.slice none 0 0,by rw[d.o];rfl,by rw[d.o];exact q0H y.o Y.o,Y.o⟩
section
variable {wb w W W':World}{g gs gw rate u n:Nat}{sd c s:Int}{bs:List Bt}{K K':Nat->Prop}
end
variable {w :World}{p:Option Addr}
end
section
open Go.RowKit
end
section
open Go.RowKit Go.Maps
theorem z9p{w:World}{B size n b d:Nat}{va:Option Addr}{cs:List Value}(h:w.ownsRow B e size (.slice va b d) n cs):Rd w va cs:=by
 obtain⟨ao,cap,h1,_,_,_,h4⟩:=(Own.of_row h).rd
 cases h1;exact h4
section
variable {W1 W W2:World}{gm n:Nat}{L:List To}{G:List UInt8->Value}{v:Value}{M:List Fi}
end
section
variable {W1 W Wa Wb:World}{gm n:Nat}{L:List To}{G:List UInt8->Value}{v:Value}{M:List Fi}
end
end
end Go.Proofs.YteabhdclmodefaaGreatDoor
