/- The shelf's contract of slices.Reverse at []api.Told at this seat, in plain words. -/
import Derived.Shelf.SlicesQ.Reverse
import Derived.Ground.SlgnProg
import Derived.Test.YteabhdclmodefaaGreatDoorG36CT
import Derived.Deep.RegionHeldLaw
set_option linter.unusedVariables false
set_option linter.unusedSimpArgs false
set_option maxRecDepth 100000
set_option maxHeartbeats 12800000
namespace Go.Proofs
open Go.Shelf
end Go.Proofs
namespace Go.Proofs.YteabhdclmodefaaGreatDoor
variable {n' k cap mb sz:Nat}{ao:Option Addr}{e t:TypeId}{vL vM v2 v3:Value}{ms xs:List Value}{a W8:World}{T:List To}
section
open Go.RowKit Go.Sort Go.Lib
instance : Inhabited To:=⟨to0⟩
section
variable {wb w W W1 W2:World}{g gl gs gx rate:Nat}{m:Man}{ws:List En}{c s sd:Int}{u cnt:Nat}{B:List En}{C:Cks}{P:Pbs}{sure:Int}{K K':Nat->Prop}
end
end
section
open Go.RowKit
theorem z2O : ∀(C:Cks) (b:Nat),(∀ps∈C,ps≠[])->C.length<=(q1J b C).length
 |[],_,_=>ι _
 | ps::t,b,h=>by
  have h1:=z2O t (b+4096) fun q hq=>h q (.tail _ hq)
  have h2:0<ps.length:=List.length_pos_iff.2 (h ps (.head _));rw[q1J,θ,q5K,χ];omega
theorem z1n{bs:List Bt}(h:okBs bs):(tos bs).length<=8*bs.length:=by
 induction bs using q9U with
 |h0=>exact ι _
 | h1 l b ih=>
  obtain⟨h1,h2,_⟩:=okBs_snoc.1 h;have h3:=(q0g h2.1).2.2.2.1;have h4:=ih h1;rw[q2a,q7a,θ,q4j,θ,List.length_singleton];omega
def SK(wb W:World)(g gs rate:Nat)(sd c s:Int)(u n:Nat)(bs:List Bt)(K:Nat->Prop):Prop:=
 ∃gl gx m ws B C sure P,StoP wb W g gs gl gx rate m ws sd c s u (40+3*n) B C sure P K/\q2M P=bs/\m.nx<=n/\bs.length<=n/\0<=sd/\sd<18446744073709551616
def SQ(wb W:World)(g:Nat)(sd c s:Int)(u n:Nat)(bs:List Bt)(K:Nat->Prop):Prop:=
 ∃m B C P,DKQ wb W g m c s u (40+3*n) B C K/\y5T sd m B C P/\B.Nodup/\q2M P=bs/\m.nx<=n/\bs.length<=n/\0<=sd/\sd<18446744073709551616
section
variable {wb w W W':World}{g gs rate u n:Nat}{sd c s:Int}{bs:List Bt}{K K':Nat->Prop}
theorem StoP.bounds{gl gx:Nat}{m:Man}{ws:List En}{cnt:Nat}{B:List En}{C:Cks}{sure:Int}{P:Pbs}(h:StoP wb W g gs gl gx rate m ws sd c s u cnt B C sure P K)(d:q2M P=bs)(j:bs.length<=n):
  (tos bs).length<=8*n/\B.length<=8*n/\C.length<=n/\okBs bs:=by
 have b:okBs bs:=d▸h.stE.ok;have h1:=z1n b;have h2:=h.len;rw[d] at h2;have h3:=z2O C 0 h.i.cOk.full;rw[h.recE,q9O] at h3;have h4:bs.length=P.length:=by rw[<-d];exact List.length_map _
 exact⟨by omega,by omega,by omega,b⟩
theorem SK.ok(h:SK wb W g gs rate sd c s u n bs K):okBs bs:=by
 obtain⟨gl,gx,m,ws,B,C,sure,P,h1,h2,_,h4,_⟩:=h;exact(h1.bounds h2 h4).2.2.2
theorem SK.few(h:SK wb W g gs rate sd c s u n bs K):bs.length<=n/\(tos bs).length<=8*n:=by
 obtain⟨gl,gx,m,ws,B,C,sure,P,h1,h2,_,h4,_⟩:=h;exact⟨h4,(h1.bounds h2 h4).1⟩
theorem SK.base(h:SK wb W g gs rate sd c s u n bs K):Ext wb W:=by
 obtain⟨gl,gx,m,ws,B,C,sure,P,h1,_⟩:=h;exact h1.base
theorem SK.klt(h:SK wb W g gs rate sd c s u n bs K): ∀i,K i->i<W.heap.size:=by
 obtain⟨gl,gx,m,ws,B,C,sure,P,h1,_⟩:=h;exact h1.klt
theorem SK.grow(h:SK wb W g gs rate sd c s u n bs K)(k:Ext W W'):SK wb W' g gs rate sd c s u n bs K:=by
 obtain⟨gl,gx,m,ws,B,C,sure,P,h1,h2⟩:=h;exact⟨gl,gx,m,ws,B,C,sure,P,h1.grow k,h2⟩
theorem SK.kExt(h:SK wb W g gs rate sd c s u n bs K)(k:Ext W W'):Stay K W W':=fun i b=>k.block i (h.klt i b)
theorem SK.more(h:SK wb W g gs rate sd c s u n bs K)(k:Ext W W')(hK: ∀i,K' i->K i\/(W.heap.size<=i/\i<W'.heap.size)):SK wb W' g gs rate sd c s u n bs K':=by
 obtain⟨gl,gx,m,ws,B,C,sure,P,h1,h2⟩:=h;exact⟨gl,gx,m,ws,B,C,sure,P,h1.more k hK,h2⟩
theorem SK.beside(h:SK wb W g gs rate sd c s u n bs K)(k: ∀i,K' i->K i):SK wb W g gs rate sd c s u n bs K':=by
 obtain⟨gl,gx,m,ws,B,C,sure,P,h1,h2⟩:=h;exact⟨gl,gx,m,ws,B,C,sure,P,h1.beside k,h2⟩
theorem SK.sideM(h:SK wb W g gs rate sd c s u n bs K)(b:W.heap.size<=W'.heap.size)(d:Ext wb W')(k: ∀i,i<W.heap.size->¬K i->W'.heap[i]? =W.heap[i]?)(hK: ∀i,K' i->K i\/(W.heap.size<=i/\i<W'.heap.size)):SK wb W' g gs rate sd c s u n bs K':=by
 obtain⟨gl,gx,m,ws,B,C,sure,P,h1,h2⟩:=h;exact⟨gl,gx,m,ws,B,C,sure,P,h1.sideM b d k hK,h2⟩
theorem SK.mono(h:SK wb W g gs rate sd c s u n bs K){u':Nat}(i:u<=u')(d:n<=n'):SK wb W g gs rate sd c s u' n' bs K:=by
 obtain⟨gl,gx,m,ws,B,C,sure,P,h1,h2,h3,h4,b⟩:=h;exact⟨gl,gx,m,ws,B,C,sure,P,h1.mono (by omega) (by omega),h2,by omega,by omega,b⟩
def EvR(wb w:World)(g gs rate:Nat)(sd c s:Int)(u n:Nat)(bs:List Bt)(K:Nat->Prop)(R:List To)(z:Int)(e:Ending)(w':World):Prop:=
 ∃v,e= .returned (.tuple #[v,.int .i64 z])/\SK wb w' g gs rate sd c s u n bs (fun i=>K i\/v.ownBlock=some i)/\Stay K w w'/\w'.ownsRow wb.heap.size 68 5 v R.length (q5Q R)/\ ∀i,K i->v.ownBlock≠some i
theorem SK.all(h:SK wb w g gs rate sd c s u n bs K)(i:n<=1000):Calls Tryz.prog 20 #[.pointer (some ⟨gs,0,none⟩)] w (EvR wb w g gs rate sd c s u n bs K (tos bs) 0):=by
 obtain⟨gl,gx,m,ws,B,C,sure,P,h1,rfl,h3,h4,b⟩:=h;obtain⟨b1,b2,b3,b4⟩:=h1.bounds rfl h4;refine(y4e h1 rfl (by omega)).mono ?_;rintro e w' ⟨v,rfl,k1,d⟩;exact⟨v,rfl,⟨gl,gx,m,ws,B,C,sure,P,k1,rfl,h3,h4,b⟩,d⟩
theorem SK.flush(h:SK wb w g gs rate sd c s u n bs K):Calls Tryz.prog 54 #[.pointer (some ⟨gs,0,none⟩)] w fun e w'=>e= .returned (.int .i64 0)/\SK wb w' g gs rate sd c s u n bs K/\Stay K w w':=by
 obtain⟨gl,gx,m,ws,B,C,sure,P,h1,h2⟩:=h;refine(y1S h1).mono ?_;rintro e w' ⟨rfl,k1,b⟩;exact⟨rfl,⟨gl,gx,m,ws,B,C,_,P,k1,h2⟩,b⟩
theorem SK.index(h:SK wb w g gs rate sd c s u n bs K)(r:n<=86):Calls Tryz.prog 55 #[.pointer (some ⟨gs,0,none⟩)] w fun e w'=> ∃z,e= .returned (.int .i64 z)/\(z=0\/z=60)/\SK wb w' g gs rate sd c s (u+20000) (n+1) bs K/\Stay K w w':=by
 obtain⟨gl,gx,m,ws,B,C,sure,P,h1,rfl,h3,h4,i⟩:=h;obtain⟨b1,b2,b3,b4⟩:=h1.bounds rfl h4;refine(y1T h1 (by omega) (by omega) (by omega)).mono ?_;rintro e w' ⟨z,q,d,b,rfl,l,j,k1,o⟩;exact⟨z,rfl,l,⟨gl,gx,q,d,B,C,b,P,k1.mono (by omega) (by omega),rfl,by omega,by omega,i⟩,o⟩
theorem SK.merge(h:SK wb w g gs rate sd c s u n bs K)(o:n<=86)(lv:Int):Calls Tryz.prog 56 #[.pointer (some ⟨gs,0,none⟩),.int .i64 lv] w fun e w'=>
  ∃z,e= .returned (.int .i64 z)/\(z=0\/z=60\/z=4\/(z=2/\(lv<0\/5<=lv)))/\SK wb w' g gs rate sd c s (u+20000) (n+1) bs K/\Stay K w w':=by
 obtain⟨gl,gx,m,ws,B,C,sure,P,h1,rfl,h3,h4,b⟩:=h;obtain⟨b1,b2,b3,b4⟩:=h1.bounds rfl h4;refine(y1U h1 lv (by omega) (by omega) (by omega)).mono ?_;rintro e w' ⟨z,l,rfl,i,d,k1,j⟩;exact⟨z,rfl,i,⟨gl,gx,l,ws,B,C,sure,P,k1.mono (by omega) (by omega),rfl,by omega,by omega,b⟩,j⟩
theorem SK.append(h:SK wb w g gs rate sd c s u n bs K)(M:n<=86)(b:List UInt8)(D:b.length<=4611686018427387903)(ex:Int){L:List Ev}(E: ∀W,Ext wb W->Stay K w W->Evs W ao k cap L)(v:q2V L)
  (l: ∀e∈L,e.we<18446744073709551616){z:Int}(F:z6K bs b ex L=z):
  Calls Tryz.prog 27 #[.pointer (some ⟨gs,0,none⟩),.string ⟨b.toArray⟩,.int .i64 ex,.slice ao k cap] w fun e w'=>
   ∃ x y d,e= .returned (.tuple #[.int .i64 x,.int .i64 y])/\SK wb w' g gs rate sd c s (u+2024) (n+1) d K/\Stay K w w'/\
    ((z≠0/\x=0/\y=z/\d=bs)\/(z=0/\x=0/\y=60/\d=bs/\c-(u:Int)-2024<6000)\/(z=0/\x=((q0y bs b).length:Int)/\y=0/\d=bs++[⟨b,(q0y bs b).length,L⟩])):=by
 obtain⟨gl,gx,m,ws,B,C,sure,P,h1,rfl,h3,h4,j⟩:=h;obtain⟨b1,b2,b3,b4⟩:=h1.bounds rfl h4;have J:=z1E (q2M P) b;refine(z9W h1 b D ex E v l (by omega) (by omega) (by omega)).mono ?_;rw[F];rintro e w' ⟨⟨k0,rfl,k1⟩|⟨rfl,rfl,k1,I⟩|⟨rfl,I,pos,q,B',r,i,rfl,k1⟩,o⟩
 ·exact⟨_,_,_,rfl,⟨gl,gx,m,ws,B,C,sure,P,k1.mono (by omega) (by omega),rfl,by omega,by omega,j⟩,o,.inl ⟨k0,rfl,rfl,rfl⟩⟩
 ·exact⟨_,_,_,rfl,⟨gl,gx,m,ws,B,C,sure,P,k1.mono (by omega) (by omega),rfl,by omega,by omega,j⟩,o,.inr (.inl ⟨rfl,rfl,rfl,rfl,by omega⟩)⟩
 ·exact⟨_,_,_,rfl,⟨gl,gx,m,q,B',r,i,_,k1.mono (by omega) (by omega),rfl,by omega,by rw[q4y,θ,List.length_singleton];omega,j⟩,o,.inr (.inr ⟨rfl,rfl,rfl,q4y _ _ _⟩)⟩
theorem SK.disk(h:SK wb W g gs rate sd c s u n bs K):SQ wb W g sd c s u n bs K:=by
 obtain⟨gl,gx,m,ws,B,C,sure,P,h1,h2,h3,h4,D⟩:=h;obtain⟨r,k1,v⟩:=h1.i.forget;have q:r.Nodup:=by
  obtain⟨st,σ,y,Q,F,rfl,_,_,⟨E,_⟩,_⟩:=k1;exact E.okB.sort.imp fun {a b} l e=>by rw[e,q0h] at l;cases l
 obtain⟨st,σ,y,F,J,M,o,N,O⟩:=k1.dkq;refine⟨m,r,C,P,⟨st,σ,y,F,J,M,⟨o.d,o.bF,o.ext,fun i I=>o.k i (.inl I)⟩,N,O⟩,⟨h1.sdE,h1.recE,h1.stE.ok,fun x j=>(h1.stE.ents x).1 ((v x).2 (.inr j)),fun x j=>?_,h1.ckE⟩,q,h2,h3,h4,D⟩;rcases(v x).1 ((h1.stE.ents x).2 j) with j|j
 ·exact .inr (h1.wsE x j)
 ·exact .inl j
theorem SQ.open(h:SQ wb w g sd c s u n bs K)(q:n<=200)(rate:Nat):Calls Tryz.prog 26 #[.pointer (some ⟨g,0,none⟩),.int .u64 sd,.float .f64 rate] w fun e w'=>
  ∃gs,e= .returned (.tuple #[.pointer (some ⟨gs,0,none⟩),.int .i64 0])/\SK wb w' g gs rate sd c s u n bs K/\Stay K w w':=by
 obtain⟨m,B,C,P,h1,h2,h3,rfl,h4,i,b,d⟩:=h;have o:=z1n h2.ok;refine(y3I h1 h2 b d (by omega) (by omega) h3 rate).mono ?_;rintro e w' ⟨gs,gl,gx,l,ws,B',sure,rfl,k1,r,j⟩;exact⟨gs,rfl,⟨gl,gx,l,ws,B',C,sure,P,k1,rfl,by omega,i,b,d⟩,j⟩
theorem DkK.sq(h:DkK noO wb w g c s [] K)(sd:Int)(d:0<=sd)(i:sd<18446744073709551616):SQ wb w g sd c s 0 0 [] K:=by
 obtain⟨F,σ,h1,h2⟩:=h;have l:Pl σ c s []:=by have:=h2.pl;simpa [q2s,noO,q1u,q5r,q3y,q4p] using this
 have o:q0c 0 0 []=true:=by decide
 refine⟨⟨0,0,sd,[]⟩,[],[],[],⟨⟨⟨0,0,sd,[]⟩,0,[],fun _=>none,0⟩,σ,fun _=>none,F,rfl,rfl,h1,⟨⟨⟨[],l,List.Pairwise.nil,fun _=>rfl,υ _,υ _⟩,⟨o,d,i⟩,(fun n j=>by cases j),(fun n e he=>by cases he),(fun nm j=>absurd rfl j),okM.nil,okM.nil,fun x=>?_⟩,.inr ⟨rfl,rfl,rfl,rfl⟩,fun k _=>by simp⟩,okC.nil⟩,
  ⟨rfl,rfl,okBs.nil,(fun x b=>by cases b),(fun x b=>by cases b),by show(0:Int)<=q4O [];rw[z5H];decide⟩,List.nodup_nil,rfl,Int.le_refl _,ι _,d,i⟩
 constructor
 ·intro b;cases b
 ·rintro(b|⟨n,e,he,_⟩)
  ·cases b
  ·cases he
end
def wrB(bs:List Bt)(str:List UInt8)(a:Int)(L:List Ev):List Bt:=
 if z6K bs str a L=0 then bs++[⟨str,(q0y bs str).length,L⟩] else bs
theorem q7q(t d:List UInt8)(k:FloatKind)(b:Nat)(w:World)(r:t.length<=4611686018427387903)(q:d.length<=4611686018427387903):
  Calls Tryz.prog 38 #[.agg #[.string ⟨t.toArray⟩,.string ⟨d.toArray⟩,.float k b]] w fun e w'=>e= .returned (.int .i64 (q0Y t d))/\Ext w w':=by
 have i:=Blk.new w 66 #[.string ⟨t.toArray⟩,.string ⟨d.toArray⟩,.float k b];have l:=η (q0B w (.cells #[.string ⟨t.toArray⟩,.string ⟨d.toArray⟩,.float k b] 66));have v:(w.alloc (.cells #[.string ⟨t.toArray⟩,.string ⟨d.toArray⟩,.float k b] 66)).cell? ⟨w.heap.size,0,none⟩=some (.string ⟨t.toArray⟩):=i.cell 0;have x:(w.alloc (.cells #[.string ⟨t.toArray⟩,.string ⟨d.toArray⟩,.float k b] 66)).cell? ⟨w.heap.size,1,none⟩=some (.string ⟨d.toArray⟩):=i.cell 1;have h3:(((t.length:Int)==0)=true/\q0Y t d=2)\/(((t.length:Int)==0)=false/\((decide ((16:Int)<(t.length:Int))=true/\q0Y t d=3)\/(decide ((16:Int)<(t.length:Int))=false/\((decide ((200:Int)<(d.length:Int))=true/\q0Y t d=3)\/(decide ((200:Int)<(d.length:Int))=false/\q0Y t d=0))))):=by
  unfold q0Y;by_cases j:t=[]
  ·exact .inl ⟨by rw[j];rfl,by rw[ξ j]⟩
  ·have y:0<t.length:=List.length_pos_iff.2 j
   refine .inr ⟨by simp;omega,?_⟩;rw[κ j];by_cases h1:16<t.length
   ·exact .inl ⟨ζ (by omega),by rw[ξ h1]⟩
   ·rw[κ h1]
    refine .inr ⟨ε (by omega),?_⟩;by_cases h2:200<d.length
    ·exact .inl ⟨ζ (by omega),by rw[ξ h2]⟩
    ·exact .inr ⟨ε (by omega),by rw[κ h2]⟩
 clear i;rcases h3 with⟨j,he⟩|⟨j,⟨h1,he⟩|⟨h1,⟨h2,he⟩|⟨h2,he⟩⟩⟩
 all_goals
  rw[he];clear he;go_enter Tryz.func38,Tryz.ntmps38;go_wp2_with fail;go_ret;exact⟨rfl,l.o⟩
theorem z4W(e:Ev)(w:World)(he:z6q e):Calls Tryz.prog 41 #[evV e] w fun r w'=>r= .returned (.string ⟨(evB e).toArray⟩)/\Ext w w':=by
 obtain⟨t,d,b⟩:=e;obtain⟨h1,h2⟩:=he;obtain⟨_,h3,h4⟩:=q1i h1;simp only at h1 h2 h3 h4;show Calls _ _ #[.agg #[.string ⟨t.toArray⟩,.string ⟨d.toArray⟩,.float .f64 b]] _ fun r w'=>r= .returned (.string ⟨(q1f t++(q1f d++be 8 b)).toArray⟩)/\Ext w w'
 have M:=η (fun W=>q7q t d .f64 b W (by omega) (by omega));rw[h1] at M;have x:=η (fun W=>q9Q t W (by omega));have y:=η (fun W=>q9Q d W (by omega));have N:=η (fun W=>z5t (b:Int) 8 8 W rfl (by omega) (by omega) (by omega) (by omega));have l1:(q1f t).length<=1000:=by unfold q1f;split<;>simp[q0F];omega
 have l2:(q1f d).length<=1000:=by unfold q1f;split<;>simp[q0F];omega
 have Q:=q0F 8 ((b:Int)).toNat;obtain⟨R,l⟩: ∃R,be 8 ((b:Int)).toNat=R:=⟨_,rfl⟩
 rw[l] at N Q;rw[Int.toNat_natCast] at l;rw[l];have a0:R.length<=8:=by omega
 have S:=η (q0B w (.cells #[.string ⟨t.toArray⟩,.string ⟨d.toArray⟩,.float .f64 b] 66));have i:=Blk.new w 66 #[.string ⟨t.toArray⟩,.string ⟨d.toArray⟩,.float .f64 b];have k0:(w.alloc (.cells #[.string ⟨t.toArray⟩,.string ⟨d.toArray⟩,.float .f64 b] 66)).cell? ⟨w.heap.size,0,none⟩=some (.string ⟨t.toArray⟩):=i.cell 0;have k1:(w.alloc (.cells #[.string ⟨t.toArray⟩,.string ⟨d.toArray⟩,.float .f64 b] 66)).cell? ⟨w.heap.size,1,none⟩=some (.string ⟨d.toArray⟩):=i.cell 1;have Z:(w.alloc (.cells #[.string ⟨t.toArray⟩,.string ⟨d.toArray⟩,.float .f64 b] 66)).cell? ⟨w.heap.size,2,none⟩=some (.float .f64 b):=i.cell 2;have v:=η i;generalize q1f t=A at*;generalize q1f d=D at*;clear i h1 h3 h4 l Q;go_enter Tryz.func41,Tryz.ntmps41;go_wp2_with fail;generalize w.alloc (.cells #[.string ⟨t.toArray⟩,.string ⟨d.toArray⟩,.float .f64 b] 66)=w1 at*;generalize w.heap.size=q at*;refine(M.o _).mono ?_;rintro e J ⟨rfl,I⟩;have E:=η (S.o.trans I);have j:=v.o.ext I;have U:J.cell? ⟨q,0,none⟩=some (.string ⟨t.toArray⟩):=j.cell 0;have V:J.cell? ⟨q,1,none⟩=some (.string ⟨d.toArray⟩):=j.cell 1;have X:J.cell? ⟨q,2,none⟩=some (.float .f64 b):=j.cell 2;have u0:=q0D U;have u1:=q0D V;have u2:=q0D X;have q1:¬(9223372036854775807<A.length+D.length):=by omega
 have q2:¬(9223372036854775807<(A++D).length+R.length):=by rw[θ];omega
 have q3:¬(9223372036854775807<A.length+D.length+R.length):=by omega
 have Y:=z2X b;clear I j k0 k1 Z;go_wp2_with fail;refine q0E (by kernel_rfl) (by kernel_rfl) ?_
 repeat (go_big_quiet_step (fail))
 go_big_quiet_step (exact Calls.quiet_ext (x.o _))
 repeat (go_big_quiet_step (fail))
 go_big_quiet_step (exact Calls.quiet_ext (y.o _))
 repeat (go_big_quiet_step (fail))
 go_big_quiet_step (exact Calls.quiet_ext (N.o _))
 repeat (go_big_quiet_step (fail))
 refine wpQuiet_nil ?_;intro w3 O;have F:=η (E.o.trans O);clear O;go_wp2_with fail;go_ret;exact⟨by rw[q2B,q2B];simp,F.o⟩
theorem q9P{n:Nat}{L:List Ev}(st:List UInt8)(fi:Int)(w:World)(I:Evs w ao n cap L)(n0:st.length<=4611686018427387903)(hL:q2V L):
  Calls Tryz.prog 88 #[.agg #[.string ⟨st.toArray⟩,.int .i64 fi,.slice ao n cap]] w fun e w'=>e= .returned (.int .i64 (q0Q st fi L))/\Ext w w':=by
 have b1:=I.fits;have b2:=I.bound;have d:=I.len;have E:=η (q0B w (.cells #[.string ⟨st.toArray⟩,.int .i64 fi,.slice ao n cap] 119));have x:=η (Blk.new w 119 #[.string ⟨st.toArray⟩,.int .i64 fi,.slice ao n cap]);have c0:=x.o.cell 0;have c1:=x.o.cell 1;have c2:=x.o.cell 2;have HE:=η I;have HL:=η hL;clear I hL;by_cases h1:st=[]
 ·have r:Hd (q0Q st fi L=2):=η (by unfold q0Q;rw[ξ (.inl h1)])
  have hd:((st.length:Int)==0)=true:=by rw[h1];rfl
  clear h1;go_enter Tryz.func88,Tryz.ntmps88;go_wp2_with fail;go_ret;exact⟨by rw[r.o];rfl,E.o⟩
 have g0:((st.length:Int)==0)=false:=by have:=List.length_pos_iff.2 h1;simp;omega
 by_cases h2:n=0
 ·have r:Hd (q0Q st fi L=2):=η (by unfold q0Q;rw[ξ (.inr (List.eq_nil_of_length_eq_zero (by omega)))])
  have hd:((n:Int)==0)=true:=by rw[h2];rfl
  clear h1 h2 d;go_enter Tryz.func88,Tryz.ntmps88;go_wp2_with fail;go_ret;exact⟨by rw[r.o];rfl,E.o⟩
 have i0:((n:Int)==0)=false:=by simpa using h2
 have v:L≠[]:=fun e=>h2 (by rw[<-d,e];rfl)
 have j:¬(st=[]\/L=[]):=fun h=>h.elim h1 v
 by_cases h3:32<st.length
 ·have r:Hd (q0Q st fi L=3):=η (by unfold q0Q;rw[κ j,ξ (.inl h3)])
  have hd:decide ((32:Int)<(st.length:Int))=true:=ζ (by omega);clear h1 h2 v j d h3;go_enter Tryz.func88,Tryz.ntmps88;go_wp2_with fail;go_ret;exact⟨by rw[r.o];rfl,E.o⟩
 have k0:decide ((32:Int)<(st.length:Int))=false:=ε (by omega);by_cases h4:8<n
 ·have r:Hd (q0Q st fi L=3):=η (by unfold q0Q;rw[κ j,ξ (.inr (by omega))])
  have hd:decide ((8:Int)<(n:Int))=true:=ζ (by omega);clear h1 h2 v j d h4;go_enter Tryz.func88,Tryz.ntmps88;go_wp2_with fail;go_ret;exact⟨by rw[r.o];rfl,E.o⟩
 have l:¬(32<st.length\/8<L.length):=by omega
 have l0:decide ((8:Int)<(n:Int))=false:=ε (by omega);have q0:IntKind.i64.wrap (1073741824-(n:Int))=1073741824-(n:Int):=by rw[ν];omega
 by_cases V:fi<0\/1073741824-(n:Int)<fi
 ·have r:Hd (q0Q st fi L=2):=η (by unfold q0Q;rw[κ j,κ l,ξ (by rw[d];exact V)])
  have D:decide (fi<0)=true\/(decide (fi<0)=false/\decide (1073741824-(n:Int)<fi)=true):=by
   by_cases h:fi<0
   ·exact .inl (ζ h)
   ·exact .inr ⟨ε h,ζ (by omega)⟩
  clear h1 h2 v j l d V h3 h4;rcases D with D|⟨D,d0⟩
  all_goals
   go_enter Tryz.func88,Tryz.ntmps88;go_wp2_with fail;go_ret;exact⟨by rw[r.o];rfl,E.o⟩
 have D:decide (fi<0)=false:=ε (by omega);have d0:decide (1073741824-(n:Int)<fi)=false:=ε (by omega);have r:Hd (q0Q st fi L=q7J L):=η (by unfold q0Q;rw[κ j,κ l,κ (by rw[d];exact V)]);have Q:=η d;clear h1 h2 v j l d V h3;go_enter Tryz.func88,Tryz.ntmps88;go_wp2_with fail
 go_loopw [3] (fun i W=> ∃k:Nat,k<=n/\i= .int .i64 (k:Int)/\q7J (L.take k)=0/\Ext (w.alloc (.cells #[.string ⟨st.toArray⟩,.int .i64 fi,.slice ao n cap] 119)) W) (fun i _=>n-(intOf i).toNat)
 case atStart=>exact⟨0,υ _,rfl,rfl,Ext.refl _⟩
 case round=>
  obtain⟨k,hk,rfl,N,S⟩:=hrel;have O:=η S;have M:=x.o.ext S;have d2:=M.cell 2;by_cases U:k<n
  ·have f0:decide ((k:Int)<(n:Int))=true:=ζ (by omega)
   have m0:(k:Int)<(n:Int):=by omega
   obtain⟨b,off,rfl,e0,e1,e2⟩:=(HE.o.ext (E.o.trans S)).at U;have q:k<L.length:=by rw[Q.o];exact U
   have hT:L.take (k+1)=L.take k++[L.getD k ev0]:=by
    rw[List.take_succ_eq_append_getElem q];simp[List.getD,γ q]
   have hS:=q8r (L.take k) (L.getD k ev0) N;rw[<-hT] at hS;have HS:=η hS;have b0:=η (q8q L k q N);have F:L.getD k ev0∈L:=by rw[δ,γ q];exact List.getElem_mem q
   obtain⟨m1,m2⟩:=HL.o _ F;have q1:IntKind.i64.wrap ((k:Int)+1)=(k:Int)+1:=by rw[ν];omega
   generalize L.getD k ev0=y at*;obtain⟨X,Y,y3⟩:=y;have Z:=η (fun W=>q7q X Y .f64 y3 W m1 m2);simp only at e0 e1 e2;clear hT q N hS F m1 m2 S M;go_wp2_with fail;refine(Z.o _).mono ?_;rintro e w1 ⟨rfl,I⟩;have R:=η (O.o.trans I);clear I;by_cases hc:q0Y X Y=0
   ·have a0:Hd (q7J (L.take (k+1))=0):=η (by rw[HS.o];exact hc)
    rw[hc];go_wp2_with fail
    go_roundw
    case rel=>exact⟨k+1,by omega,by go_num,a0.o,R.o⟩
    case measure=>simp[intOf];omega
   ·have J:Hd (q7J L=q0Y X Y):=η (by rw[b0.o,κ hc])
    have j0:(q0Y X Y !=0)=true:=by simpa using hc
    clear hc;go_wp2_with fail
    (try rw[Exit.noGoto_ret])
    go_ret;exact⟨by rw[r.o,J.o];rfl,E.o.trans R.o⟩
  ·obtain rfl:k=n:=by omega
   have f0:decide ((k:Int)<(k:Int))=false:=ε (by omega);have J:Hd (q7J L=0):=η (by rw[<-Q.o,List.take_length] at N;exact N);clear N S M;go_wp2_with fail;go_ret;exact⟨by rw[r.o,J.o];rfl,E.o.trans O.o⟩
theorem z8I{e:Ev}(h:z6q e):(evB e).length<=300:=by
 obtain⟨_,h3,h4⟩:=q1i h.1;unfold evB;rw[q1O (by omega),q1O (by omega)];simp[q0F];omega
theorem DkK.rebase{E:Oth}{b wb w:World}{g:Nat}{c s:Int}{C:Cks}{K:Nat->Prop}(h:DkK E wb w g c s C K)(k:Ext b wb):DkK E b w g c s C K:=by
 obtain⟨F,σ,h1,h2⟩:=h;have l:=k.size;exact⟨F,σ,⟨h1.d,fun i j=>by have:=h1.bF i j;omega,k.trans h1.ext,h1.k⟩,h2⟩
theorem DkK.base{E:Oth}{wb w:World}{g:Nat}{c s:Int}{C:Cks}{K:Nat->Prop}(h:DkK E wb w g c s C K):Ext wb w:=by
 obtain⟨F,σ,h1,h2⟩:=h;exact h1.ext
theorem Blk.rd{w:World}{b:Nat}{cs:Array Value}(h:Blk w b t cs):Rd w (some ⟨b,0,none⟩) cs.toList:=fun j u d=>⟨b,0,rfl,by rw[Nat.zero_add,h.cell j];simpa using d⟩
theorem Blk.evs{w:World}{b:Nat}{L:List Ev}(h:Blk w b t (q7f L).toArray)(d:k<=L.length)(i:L.length<=1000000):Evs w (some ⟨b,0,none⟩) k L.length (L.take k):=by
 refine⟨by rw[Θ];omega,d,by omega,(fun e=>by cases e),?_⟩;have h1:=h.rd.take (k*3);have e:(q7f L).take (k*3)=q7f (L.take k):=by
  conv=>lhs;rw[<-List.take_append_drop k L,q8o]
  exact List.take_left' (by rw[q5z,Θ];omega)
 rw[<-e]
 simpa using h1
theorem z9g{w:World}{B:Nat}{n b:Nat}{L:List To}(h:w.ownsRow B e 5 (.slice ao n b) L.length (q5Q L)):Tos w ao n b L/\n=L.length:=by
 obtain⟨a,c,d,h2⟩:=Tos.of_own (Own.of_row h)
 cases d;exact⟨h2,rfl⟩
theorem z6A{L:List Ev}(h: ∀e∈L,e.ty.length<=300/\e.da.length<=300):q2V L:=fun e he=>by have:=h e he;omega
section
variable {wb w W W1 W2:World}{g gs rate u n:Nat}{sd c s:Int}{bs:List Bt}{K K':Nat->Prop}
end
theorem z8P{i:Type}(p:i->Bool)(A:List i)(d:i)(h:k<A.length):(A.take (k+1)).filter p=(A.take k).filter p++if p (A.getD k d)=true then [A.getD k d] else []:=by
 rw[List.take_succ_eq_append_getElem h,List.filter_append,δ,γ h];simp only[Option.getD_some];by_cases b:p A[k]=true
 ·rw[ξ b,List.filter_cons_of_pos b,List.filter_nil]
 ·rw[κ b,List.filter_cons_of_neg b,List.filter_nil]
structure MoI(W:World)(mb base:Nat)(vL vM:Value)(L:List To)(ms:List Value):Prop where
 blk: ∃su:Int,Blk W mb 75 #[vL,vM,.int .i64 su]
 rowL:W.ownsRow base 68 5 vL L.length (q5Q L)
 rowM:W.ownsRow base 3 1 vM ms.length ms
def MoB(mb:Nat)(vL vM:Value)(i:Nat):Prop:=i=mb\/vL.ownBlock=some i\/vM.ownBlock=some i
theorem MoI.same{W W':World}{base:Nat}{L:List To}(h:MoI W mb base vL vM L ms)(k: ∀i,MoB mb vL vM i->W'.heap[i]? =W.heap[i]?):MoI W' mb base vL vM L ms:=by
 obtain⟨j,d⟩:=h.blk;exact⟨⟨j,d.same (k _ (.inl rfl))⟩,q0t h.rowL fun i b=>k i (.inr (.inl b)),q0t h.rowM fun i b=>k i (.inr (.inr b))⟩
theorem MoI.lt{W:World}{base:Nat}{L:List To}(h:MoI W mb base vL vM L ms){i:Nat}(b:MoB mb vL vM i):i<W.heap.size:=by
 obtain⟨j,d⟩:=h.blk;rcases b with rfl|b|b
 ·exact d.lt
 ·exact(q0a h.rowL i b).2
 ·exact(q0a h.rowM i b).2
theorem MoI.ext{W W':World}{base:Nat}{L:List To}(h:MoI W mb base vL vM L ms)(k:Ext W W'):MoI W' mb base vL vM L ms:=h.same fun i b=>k.block i (h.lt b)
theorem y1Q{W W2:World}{w0:World}{n:Nat}{vq:Value}{l:TypeId}{b:Obj}(d:Ext w0 W)(hq:W.ownsRow w0.heap.size l sz vq n xs)
  (i:(W.alloc b).grownBy W2 vq.ownBlock):Ext w0 W2:=
 Below.grown (d.trans (q0B W b)) i (Ω d.size (q0B W b).size) fun k j=>(q0a hq k j).1
theorem z8r{w:World}{base:Nat}{L:List To}(h:MoI w mb base vL vM L ms)(s:List UInt8)(hl:L.length<=100000):
  Calls Tryz.prog 39 #[.pointer (some ⟨mb,0,none⟩),.string ⟨s.toArray⟩] w fun e w'=> ∃v,e= .returned v/\w'.ownsRow w.heap.size 68 5 v (L.filter fun t=>decide (t.s=s)).length (q5Q (L.filter fun t=>decide (t.s=s)))/\Ext w w':=by
 obtain⟨la,lc,rfl⟩:=q0G h.rowL;have HM:=η h;obtain⟨n,S⟩: ∃n,L.length=n:=⟨_,rfl⟩
 have Q:=(z9g h.rowL).1;rw[S] at Q hl HM;have HT:=η Q;have b1:=Q.fits;have b2:=Q.bound;obtain⟨su,d⟩:=h.blk;rw[S] at d;have V:=η d;have Y:=η S;clear h Q d S;go_enter Tryz.func39,Tryz.ntmps39;go_wp2_with fail
 go_loopw [5,6] (fun ov oi W=> ∃(k:Nat) (v:Value) (M:List To),ov=v/\oi= .int .i64 (k:Int)/\k<=n/\Hd ((L.take k).filter (fun t=>decide (t.s=s))=M)/\W.ownsRow w.heap.size 68 5 v M.length (q5Q M)/\Ext w W) (fun _ i _=>n-(intOf i).toNat)
 case atStart=>exact⟨0,_,[],rfl,rfl,υ _,η (by simp),⟨rfl,.inl ⟨rfl,rfl⟩⟩,Ext.refl _⟩
 case round=>
  obtain⟨k,v,M,rfl,rfl,hk,q,b,x⟩:=hrel;obtain⟨oa,oc,rfl⟩:=q0G b;have y:=V.o.ext x;have k0:=y.cell 0;have N:M.length<=n:=by rw[<-q.o];exact Ω (List.length_filter_le _ _) (by rw[Θ,Y.o];omega)
  by_cases O:k<n
  ·have hd:decide ((k:Int)<(n:Int))=true:=ζ (by omega)
   have d0:(k:Int)<(n:Int):=by omega
   have q1:IntKind.i64.wrap ((k:Int)+1)=(k:Int)+1:=by rw[ν];omega
   obtain⟨bb,off,rfl,c0,c1,c2,c3,c4⟩:=(HT.o.ext x).at O;have HS:=η (z8P (fun t:To=>decide (t.s=s)) L to0 (k:=k) (by rw[Y.o];exact O));generalize L.getD k to0=t at*;obtain⟨ts,E,⟨ty,da,we⟩⟩:=t;simp only at c0 c1 c2 c3 c4;obtain⟨U,D⟩: ∃U,M.length=U:=⟨_,rfl⟩
   have F:=η D;have e0:=q2U;rw[D] at b N⊢;have r:=η b;have R:=η x;have a0:=η x.size;have Z:=η (show Rd (wr.alloc (.cells #[.string ⟨ts.toArray⟩,.int .i64 E,.string ⟨ty.toArray⟩,.string ⟨da.toArray⟩,.float .f64 we] 68)) (some ⟨wr.heap.size,0,none⟩) (toc ⟨ts,E,⟨ty,da,we⟩⟩) from Rd.lit wr #[.string ⟨ts.toArray⟩,.int .i64 E,.string ⟨ty.toArray⟩,.string ⟨da.toArray⟩,.float .f64 we] 68);have I:=η (q0I b (q0B wr (.cells #[.string ⟨ts.toArray⟩,.int .i64 E,.string ⟨ty.toArray⟩,.string ⟨da.toArray⟩,.float .f64 we] 68)));clear b x y D;by_cases hs:ts=s
   ·subst hs
    have e1:(ts==ts)=true:=beq_self_eq_true ts
    go_wp2_with (at_builtin;refine q0J rfl _ _ 22 rfl w.heap.size 68 _ 5 64 Tryz.underlying22 Tryz.infoTo (by decide) (by decide) _ U (q5Q M) rfl I.o _ 1 1 (toc ⟨ts,E,⟨ty,da,we⟩⟩) rfl rfl (fun h=>by cases h) Z.o (by unfold toc;simp[Value.oneCell']) (by unfold maxLen;omega) (by omega) (by have:=a0.o;simp;omega) ?_;intro v2 w8 l j b0;obtain⟨a2,k2,rfl⟩:=q0G l;have HO:=η l;have HX:Hd (Ext w w8):=η (y1Q (w0:=w) (W:=wr) (vq:= .slice oa U oc) R.o r.o j);clear l j b0)
    go_roundw
    case rel=>
     refine⟨k+1,_,M++[⟨ts,E,⟨ty,da,we⟩⟩],rfl,by go_num,by omega,η (by rw[HS.o,q.o];simp),?_,HX.o⟩;rw[q6y,θ,F.o];exact HO.o
    case measure=>simp[intOf];omega
   ·have e1:(ts==s)=false:=beq_eq_false_iff_ne.2 hs
    go_wp2_with fail
    go_roundw
    case rel=>exact⟨k+1,_,M,rfl,by go_num,by omega,η (by rw[HS.o,q.o];simp[hs]),by rw[F.o];exact r.o,R.o⟩
    case measure=>simp[intOf];omega
  ·obtain rfl:k=n:=by omega
   have hd:decide ((k:Int)<(k:Int))=false:=ε (by omega);have J:M=L.filter fun t=>decide (t.s=s):=by rw[<-q.o,Δ (by rw[Y.o];exact ι _)]
   have r:=η b;have R:=η x;have X:=η J;clear b x y J N;go_wp2_with fail;go_ret;exact⟨_,rfl,by rw[<-X.o];exact r.o,R.o⟩
end
section
open Go.RowKit Go.Maps
variable {W W1 W2:World}{base gm n:Nat}{L:List To}{G:List UInt8->Value}
end
section
open Go.RowKit Go.Maps
theorem z8h(s p:List UInt8)(w:World)(i:s.length<=9223372036854775807)(j:p.length<=9223372036854775807):
  Calls Tryz.prog 82 #[.string ⟨s.toArray⟩,.string ⟨p.toArray⟩] w fun e w'=>e= .returned (.tuple #[.string ⟨(if q9t s p=true then s.drop p.length else s).toArray⟩,.bool (q9t s p)])/\w=w':=by
 have b:=η (fun W=>q7k s p W i j)
 cases hb:q9t s p with
 | false=>
  rw[hb] at b;go_enter Tryz.func82,Tryz.ntmps82;go_wp2_with fail;refine(b.o _).mono ?_;rintro e w1 ⟨rfl,rfl⟩;go_wp2_with fail;go_ret2;exact⟨rfl,rfl⟩
 | true=>
  rw[hb] at b;have d:p.length<=s.length:=by unfold q9t at hb;rw[Ξ] at hb;exact of_decide_eq_true hb.1
  have l:=q2Z s (p.length:Int) p.length rfl d;rw[ξ rfl];go_enter Tryz.func82,Tryz.ntmps82;go_wp2_with fail;refine(b.o _).mono ?_;rintro e w1 ⟨rfl,rfl⟩;go_wp2_with fail;go_ret2;exact⟨rfl,rfl⟩
theorem z3u(s p:List UInt8)(w:World)(d:s.length<=9223372036854775807)(i:p.length<=9223372036854775807):
  Calls Tryz.prog 44 #[.string ⟨s.toArray⟩,.string ⟨p.toArray⟩] w fun e w'=>e= .returned (.tuple #[.string ⟨(if q9t s p=true then s.drop p.length else s).toArray⟩,.bool (q9t s p)])/\w=w':=by
 have b:=η (z8h s p w d i);generalize (if q9t s p=true then s.drop p.length else s)=X at*;generalize q9t s p=z at*;go_enter Tryz.func44,Tryz.ntmps44;go_wp2_with fail;refine b.o.mono ?_;rintro e w1 ⟨rfl,rfl⟩;go_wp2_with fail;go_ret2;exact⟨rfl,rfl⟩
theorem z2w(t:List UInt8):(q9t t markB=true)↔t.take 9=markB:=by
 unfold q9t;rw[Ξ,Φ,beq_iff_eq]
 constructor
 ·exact fun h=>h.2
 ·intro h
  refine⟨?_,h⟩;have:=congrArg List.length h;rw[Θ] at this;show 9<=t.length;have b:markB.length=9:=rfl;omega
theorem z7l(s:List UInt8)(w:World)(hl:s.length<=1000000):
  Calls Tryz.prog 12 #[.string ⟨s.toArray⟩] w fun e w'=> ∃v,e= .returned (.tuple #[v,.int .i64 (q2N s).2])/\w'.ownsRow w.heap.size 68 5 v (q2N s).1.length (q5Q (q2N s).1)/\Ext w w':=by
 have j:=η (World.ownsRow_nil w w.heap.size 68 5);have HO:=η (fun W=>z2r s W (by omega));have i1:(q1V s).length<=s.length:=by unfold q1V;split<;>simp
 obtain⟨t,ht⟩: ∃t,q1V s=t:=⟨_,rfl⟩
 rw[ht] at HO i1;have S:Hd ((∀L,q3j t≠some (L,[]))->q2N s=([],10)):=η (fun h=>z4v (by rw[ht];exact h));have h0:Hd (∀L,q3j t=some (L,[])->q2N s=(L,0)):=η (fun L h=>z7b (by rw[ht];exact h));generalize q1l s=ob at*;clear ht;have HC:=η (fun W=>z3u t markB W (by omega) (by show 9<=_;omega));by_cases hp:q9t t markB=true
 case neg=>
  have J0:q9t t markB=false:=by simpa using hp
  rw[κ hp,J0] at HC
  have HR:Hd (q2N s=([],10)):=η (S.o fun L h=>by
   unfold q3j at h;rw[κ (fun h=>hp ((z2w t).2 h.1))] at h
   cases h)
  clear hp J0;have O:Hd (∀W,Calls Tryz.prog 44 #[.string ⟨t.toArray⟩,.string ⟨#[97,110,110,97,108,105,115,116,10]⟩] W fun e w'=>e= .returned (.tuple #[.string ⟨t.toArray⟩,.bool false])/\W=w'):=HC;clear HC;go_enter Tryz.func12,Tryz.ntmps12;go_wp2_with fail;refine(HO.o _).mono ?_;rintro e w1 ⟨rfl,d⟩;have E:=η d;clear d;go_wp2_with fail;refine(O.o _).mono ?_;rintro e w2 ⟨rfl,rfl⟩;go_wp2_with fail;go_ret2;exact⟨.slice none 0 0,by rw[HR.o];rfl,by rw[HR.o];exact q0I j.o E.o,E.o⟩
 rw[ξ hp,hp] at HC;have b0:=(z2w t).1 hp;have h9:9<=t.length:=by
  have:=congrArg List.length b0;rw[Θ,show markB.length=9 from rfl] at this;omega
 have O:Hd (∀W,Calls Tryz.prog 44 #[.string ⟨t.toArray⟩,.string ⟨#[97,110,110,97,108,105,115,116,10]⟩] W fun e w'=>e= .returned (.tuple #[.string ⟨(t.drop 9).toArray⟩,.bool true])/\W=w'):=HC;clear HC hp;obtain⟨J,M⟩: ∃r,t.drop 9=r:=⟨_,rfl⟩
 have p1:J.length+9=t.length:=by rw[<-M,List.length_drop];omega
 rw[M] at O;by_cases h4:J.length<4
 ·have HR:Hd (q2N s=([],10)):=η (S.o fun L h=>by
   unfold q3j at h;rw[κ (fun h=>by omega)] at h
   cases h)
  have hd:decide ((J.length:Int)<4)=true:=ζ (by omega);clear b0 M;go_enter Tryz.func12,Tryz.ntmps12;go_wp2_with fail;refine(HO.o _).mono ?_;rintro e w1 ⟨rfl,d⟩;have E:=η d;clear d;go_wp2_with fail;refine(O.o _).mono ?_;rintro e w2 ⟨rfl,rfl⟩;go_wp2_with fail;go_ret2;exact⟨.slice none 0 0,by rw[HR.o];rfl,by rw[HR.o];exact q0I j.o E.o,E.o⟩
 have hd:decide ((J.length:Int)<4)=false:=ε (by omega);have s1:=q3d J 4 4 rfl (by omega);have s2:=q2Z J 4 4 rfl (by omega);have w0:=η (fun W=>q9z (J.take 4) W (by rw[Θ];omega));rw[List.take_take,show min 8 4=4 from rfl] at w0;have t1:q1N (J.take 4)<4294967296:=by
  have:=q1t (J.take 4);rw[Θ,Nat.min_eq_left (by omega)] at this;exact this
 have j0:q3j t=crd (q1N (J.take 4)) (J.drop 4) []:=by
  unfold q3j;rw[ξ ⟨b0,by omega⟩,M,<-M,List.drop_drop]
 rw[j0] at S h0;generalize q1N (J.take 4)=many at*;have a1:(J.drop 4).length<=1000000:=by rw[List.length_drop];omega
 generalize J.drop 4=S0 at*;clear b0 M h4 j0;go_enter Tryz.func12,Tryz.ntmps12;go_wp2_with fail;refine(HO.o _).mono ?_;rintro e w1 ⟨rfl,d⟩;have E:=η d;clear d;go_wp2_with fail;refine(O.o _).mono ?_;rintro e w2 ⟨rfl,rfl⟩;go_wp2_with fail;refine(w0.o _).mono ?_;rintro e w2 ⟨rfl,d⟩;have C0:=η (E.o.trans d);clear d;have y0:=η (CntM.made w2);have F0:=η (C0.o.trans (q0B w2 (.map #[] 0)));have k1:=C0.o.size;have u1:=@run_makeMap Tryz.prog;go_wp2_with fail
 go_loopw [6,10,40] (fun r l i W=> ∃(k:Nat) (R:List UInt8) (acc:List To) (v:Value),i= .int .u64 (k:Int)/\r= .string ⟨R.toArray⟩/\l=v/\W.ownsRow w.heap.size 68 5 v k (q5Q acc)/\acc.length=k/\k<=1000/\k<=many/\CntM W w2.heap.size k acc/\R.length<=1000000/\Hd (crd many S0 []=crd (many-k) R acc)/\Ext w W) (fun _ _ i _=>many-(intOf i).toNat)
 case atStart=>exact⟨0,S0,[],_,rfl,rfl,rfl,World.ownsRow_nil _ _ _ _,rfl,by omega,υ _,y0.o,a1,η rfl,F0.o⟩
 case round=>
  obtain⟨k,R,acc,v,rfl,rfl,rfl,Z,I,n1,o1,hm,m1,l0,d⟩:=hrel;obtain⟨va,vc,rfl⟩:=q0G Z;have g0:=η Z;have f0:=η I;have HM:=η hm;have HX:=η d;clear Z hm d F0 y0 E;by_cases r1:k<many
  ·have c1:decide ((k:Int)<(many:Int))=true:=ζ (by omega)
   have A0:=η (fun W=>z1W R W (by omega));have v1:=q7p R;have x1:=z3A R;have v0:=η (fun W=>z8H (rdR R) W (by omega));obtain⟨⟨y1,y2,y3⟩,R',o',hv,hy,hn,B1,C1,l1⟩:=z9N (rdR R);have L0:y5A (rdE (rdR R))= .tuple #[.agg #[.string ⟨y1.toArray⟩,.string ⟨y2.toArray⟩,.float .f64 y3],.string ⟨R'.toArray⟩,.bool o']:=hv;rw[L0] at v0;have B0:=η (fun W=>z1l (rdT R) W (by omega));obtain⟨m,hm⟩: ∃m,many-k=m+1:=⟨many-k-1,by omega⟩
   have Q:Hd (crd many S0 []=if q7S R=true/\q1k (rdT R)=true/\k≠1000 then(rdE (rdR R)).bind fun x=>crd m x.2 (acc++[⟨rdT R,q8G acc (rdT R),x.1⟩]) else none):=η (by rw[l0.o,hm,crd,I]);have I0:many-(k+1)=m:=by omega
   have H0:q8G acc (rdT R)<=k:=by unfold q8G;rw[<-I];exact List.length_filter_le _ _
   have x0:=η (z1N (rdT R) (by omega));generalize rdR R=R1 at*;generalize rdT R=st at*;obtain⟨z1,M0⟩: ∃z,q7S R=z:=⟨_,rfl⟩
   obtain⟨z2,N0⟩: ∃z,q1k st=z:=⟨_,rfl⟩
   rw[M0] at A0 Q;rw[N0] at B0 Q;have HY:=η hy;have HN:=η hn;have A1:=q2U;clear hv L0 hy hn hm M0 N0 I l0;obtain⟨X,s0⟩: ∃z,q8G acc st=z:=⟨_,rfl⟩
   have k0:=η s0;rw[s0] at H0 Q;clear s0;have y:Hd ((z1=false\/o'=false\/z2=false\/k=1000)->q2N s=([],10)):=η fun h=>S.o fun L e=>by
    rw[Q.o] at e
    split at e
    ·rename_i hc
     rcases h with h|h|h|h
     ·rw[h] at hc;exact absurd hc.1 (by decide)
     ·rw[HN.o h] at e;cases e
     ·rw[h] at hc;exact absurd hc.2.1 (by decide)
     ·exact hc.2.2 h
    ·cases e
   go_wp2_with fail;refine(A0.o _).mono ?_;rintro e w3 ⟨rfl,d⟩;have Z0:=η (HX.o.trans d);have U0:=η (q0I g0.o d);have R0:=η (HM.o.ext d);clear d;go_wp2_with fail;refine(v0.o _).mono ?_;rintro e w4 ⟨rfl,d⟩;have e0:=d.trans (q0B w4 (.cells #[.string ⟨y1.toArray⟩,.string ⟨y2.toArray⟩,.float .f64 y3] 66));have U:=η (Z0.o.trans e0);have V0:=η (q0I U0.o e0);have T0:=η (R0.o.ext e0);have P0:=η (Blk.new w4 66 #[.string ⟨y1.toArray⟩,.string ⟨y2.toArray⟩,.float .f64 y3]);clear d e0
   cases z1 with
   | false=>
    have b:=η (y.o (.inl rfl));go_wp2_with fail
    (try rw[Exit.noGoto_ret])
    go_ret2;exact⟨.slice none 0 0,by rw[b.o];rfl,by rw[b.o];exact q0I j.o U.o,U.o⟩
   |true=>
   cases o' with
   | false=>
    have b:=η (y.o (.inr (.inl rfl)));go_wp2_with fail
    (try rw[Exit.noGoto_ret])
    go_ret2;exact⟨.slice none 0 0,by rw[b.o];rfl,by rw[b.o];exact q0I j.o U.o,U.o⟩
   |true=>
   go_wp2_with fail;refine(B0.o _).mono ?_;rintro e w5 ⟨rfl,d⟩;have V:=η (U.o.trans d);have W0:=η (q0I V0.o d);have z0:=η (T0.o.ext d);have N:=η (P0.o.ext d);clear d
   cases z2 with
   | false=>
    have b:=η (y.o (.inr (.inr (.inl rfl))));go_wp2_with fail
    (try rw[Exit.noGoto_ret])
    go_ret2;exact⟨.slice none 0 0,by rw[b.o];rfl,by rw[b.o];exact q0I j.o V.o,V.o⟩
   |true=>
   by_cases D:k=1000
   ·have b:=η (y.o (.inr (.inr (.inr D))))
    have f1:((k:Int)==1000)=true:=by rw[D];rfl
    clear D;go_wp2_with fail
    (try rw[Exit.noGoto_ret])
    go_ret2;exact⟨.slice none 0 0,by rw[b.o];rfl,by rw[b.o];exact q0I j.o V.o,V.o⟩
   have f1:((k:Int)==1000)=false:=beq_eq_false_iff_ne.2 (by omega);have q1:IntKind.u64.wrap ((k:Int)+1)=(k:Int)+1:=by rw[IntKind.wrap_u64];omega
   obtain⟨D0,q0,G0⟩:=z0.o;have u0:=η G0;have g1:(Instr.lookup 83 (.map (some w2.heap.size)) (.string ⟨st.toArray⟩) false).run Tryz.prog w5= .ok (.int .i64 (X:Int)) w5:=by
    have:=z0.o.look (s:=st) (by omega)
    rwa [k0.o] at this
   have d0:=N.o.cell 0;have d1:=N.o.cell 1;have d2:=N.o.cell 2;have c0:=q0B w5 (.cells #[.string ⟨st.toArray⟩,.int .i64 (X:Int),.string ⟨y1.toArray⟩,.string ⟨y2.toArray⟩,.float .f64 y3] 68);have o0:=η (q0I W0.o c0);have m0:=η (q1g q0 (c0.block _ q0.lt));have p0:=η (V.o.trans c0);have Y0:=η p0.o.size;have X0:=η (show Rd (w5.alloc (.cells #[.string ⟨st.toArray⟩,.int .i64 (X:Int),.string ⟨y1.toArray⟩,.string ⟨y2.toArray⟩,.float .f64 y3] 68)) (some ⟨w5.heap.size,0,none⟩) (toc ⟨st,X,⟨y1,y2,y3⟩⟩) from Rd.lit w5 #[.string ⟨st.toArray⟩,.int .i64 (X:Int),.string ⟨y1.toArray⟩,.string ⟨y2.toArray⟩,.float .f64 y3] 68);have j1:(Lit.int .i64 ((X:Int)+1)).wf=true:=by
    unfold Lit.wf;rw[Ξ,Φ,Φ];have e1:IntKind.i64.min= -9223372036854775808:=by decide
    have e2:IntKind.i64.max=9223372036854775807:=by decide
    omega
   have q3:IntKind.i64.wrap ((X:Int)+1)=(X:Int)+1:=by rw[ν];omega
   have Q0:Hd (many-(k+1)=m):=η I0;have K0:st.length<=9223372036854775807:=by omega
   clear q0 G0 c0 I0
   go_wp2_with (first|(at_builtin;refine q0J rfl _ _ 22 rfl w.heap.size 68 _ 5 64 Tryz.underlying22 Tryz.infoTo (by decide) (by decide) _ k (q5Q acc) rfl o0.o _ 1 1 (toc ⟨st,X,⟨y1,y2,y3⟩⟩) rfl rfl (fun h=>by cases h) X0.o (by unfold toc;simp[Value.oneCell']) (by unfold maxLen;omega) (by omega) Y0.o ?_;intro v2 w8 Y F b1;obtain⟨a2,c2,rfl⟩:=q0G Y;have n0:=η Y;have a0:=η (q1g m0.o (F.block w2.heap.size m0.o.lt (fun e=>q7M m0.o (Own.of_row o0.o) e.symm)));have E0:=η (p0.o.grown F p0.o.size (fun q hq=>(q0a o0.o q hq).1));have O0:(Instr.lookup 83 (.map (some w2.heap.size)) (.string ⟨st.toArray⟩) false).run Tryz.prog w8= .ok (.int .i64 (X:Int)) w8:=(by have:=CntM.look (L:=acc) ⟨D0,a0.o,u0.o⟩ K0;rwa [k0.o] at this);clear Y F b1)|(at_mapUpdate;refine wpList_mapUpdate_own _ rfl _ _ _ 83 rfl 9 3 z7L Tryz.underlying83 _ w2.heap.size k D0 rfl a0.o (by unfold maxLen;omega) _ _ (.string st) rfl rfl x0.o _ [] (plainElem_int Tryz.underlying3 j1) ?_;intro w9 t0 i0))
   go_roundw
   case measure=>simp[intOf];omega
   case rel=>
    refine⟨k+1,R',acc++[⟨st,X,⟨y1,y2,y3⟩⟩],.slice a2 (k+1) c2,by go_num,rfl,rfl,?_,by rw[θ,f0.o];rfl,by omega,by omega,?_,by omega,η ?_,?_⟩
    ·rw[q6y]
     exact q0t n0.o fun i hi=>i0.block i (q0a n0.o i hi).2 fun e=>q7M a0.o (Own.of_row n0.o) (hi.trans e)
    ·exact CntM.put (L:=acc) u0.o (World.ownsMap.isMap a0.o) (by rw[k0.o];exact t0) rfl
    ·rw[Q.o,ξ ⟨trivial,trivial,D⟩,HY.o trivial,Option.bind_some,Q0.o]
    ·exact E0.o.grown i0 E0.o.size (fun q hq=>by cases hq;exact k1)
  ·obtain rfl:k=many:=by omega
   have c1:decide ((k:Int)<(k:Int))=false:=ε (by omega);have hC:crd k S0 []=some (acc,R):=by rw[l0.o,Nat.sub_self,crd]
   cases R with
   | cons r0 R=>
    have b:Hd (q2N s=([],10)):=η (S.o fun L e=>by rw[hC] at e;cases e);clear hC;go_wp2_with fail;go_ret2;exact⟨.slice none 0 0,by rw[b.o];rfl,by rw[b.o];exact q0I j.o HX.o,HX.o⟩
   | nil=>
    have b:Hd (q2N s=(acc,0)):=η (h0.o acc hC);clear hC;go_wp2_with fail;go_ret2;exact⟨.slice va k vc,by rw[b.o];rfl,by rw[b.o,f0.o];exact g0.o,HX.o⟩
end
section
open Go.RowKit
section
variable {wb w W W':World}{g gs gw rate u n:Nat}{sd c s:Int}{bs:List Bt}{K K':Nat->Prop}
def WrI(W:World)(gw gs:Nat)(str:List UInt8)(a:Int):Prop:=Blk W gw 0 #[.pointer (some ⟨gs,0,none⟩),.string ⟨str.toArray⟩,.int .i64 a]
end
variable {w :World}{p:Option Addr}
end
section
open Go.RowKit
theorem z9T{b:Bt}{n:Nat}(w:World)(x:Evs w ao n cap b.ev)(M:z4K b):
  Calls Tryz.prog 89 #[.agg #[.string ⟨b.st.toArray⟩,.int .i64 (b.fi:Int),.slice ao n cap]] w fun e w'=> ∃S:List UInt8,e= .returned (.tuple #[.string ⟨S.toArray⟩,.int .i64 0])/\Ext w w':=by
 obtain⟨p1,p2,p3,p4,p5,p6,p7⟩:=q0g M.1;have J: ∀e∈b.ev,z6q e:=fun e he=>⟨q4b p7 e he,M.2 e he⟩
 have a0:q2V b.ev:=fun e he=>by
  obtain⟨_,h1,h2⟩:=q1i (J e he).1;exact⟨by omega,by omega⟩
 have F:=x.len;obtain⟨st,fi,L⟩:=b;simp only at p1 p2 p3 p4 p5 p6 p7 J a0 F x;have b1:=x.fits;have b2:=x.bound;have l0:q0Q st (fi:Int) L=0:=M.1;have HC:=η (fun W (h:Evs W ao n cap L)=>q9P st (fi:Int) W h (by omega) a0);rw[l0] at HC;have HT:=η (fun W=>q9Q st W (by omega));have i0:=η (fun W=>z5t (fi:Int) 8 8 W rfl (by omega) (by omega) (by omega) (by omega));rw[Int.toNat_natCast] at i0;have l1:(q1f st).length<=50:=by rw[q1O (by omega)];simp[q0F];omega
 have l8:(be 8 fi).length<=8:=by rw[q0F];omega
 have o0:=η J;have n0:=η F;have h0:=η x;have qf:IntKind.u64.wrap (fi:Int)=(fi:Int):=by rw[IntKind.wrap_u64];omega
 have qn:IntKind.u8.wrap (n:Int)=(n:Int):=by unfold IntKind.wrap;simp[IntKind.bits];omega
 have x0:n<=8:=by omega
 have HX:=η (q0B w (.cells #[.string ⟨st.toArray⟩,.int .i64 (fi:Int),.slice ao n cap] 119));have b0:=η (Blk.new w 119 #[.string ⟨st.toArray⟩,.int .i64 (fi:Int),.slice ao n cap]);have v:=b0.o;have k0:=v.cell 0;have k1:=v.cell 1;have k2:=v.cell 2;generalize q1f st=A at*;generalize be 8 fi=D at*;clear v M p1 p2 p3 p4 p5 p6 p7 J a0 F x l0;go_enter Tryz.func89,Tryz.ntmps89;go_wp2_with fail;refine(HC.o _ (h0.o.ext HX.o)).mono ?_;rintro e w1 ⟨rfl,x⟩;have j0:=η (HX.o.trans x);have E:=b0.o.ext x;generalize w.heap.size=q at*;have c0:w1.cell? ⟨q,0,none⟩=some (.string ⟨st.toArray⟩):=E.cell 0;have c1:w1.cell? ⟨q,1,none⟩=some (.int .i64 (fi:Int)):=E.cell 1;have c2:w1.cell? ⟨q,2,none⟩=some (.slice ao n cap):=E.cell 2;have u0:=q0D c0;have u1:=q0D c1;have u2:=q0D c2;have e0:=η E;have q1:¬(9223372036854775807<A.length+D.length):=by omega
 clear x E k0 k1 k2
 go_upto_region 4 with fail
 have d0:=q0A (Ext.refl _).drew c0;have d1:=q0A (Ext.refl _).drew c1;have d2:=q0A (Ext.refl _).drew c2;have I:=η (fun W (k:Ext w1 W)=>(show W.cell? ⟨q,0,none⟩=some (.string ⟨st.toArray⟩)/\W.cell? ⟨q,1,none⟩=some (.int .i64 (fi:Int))/\W.cell? ⟨q,2,none⟩=some (.slice ao n cap) from⟨q0A k c0,q0A k c1,q0A k c2⟩));have U:(n:Int)=((UInt8.ofNat n).toNat:Int):=by rw[UInt8.toNat_ofNat'];omega
 have hcv:=fun W=>z0f (P:=Tryz.prog) W 31 9 5 (n:Int) _ Tryz.underlying31 Tryz.underlying5 Tryz.underlying9 U
 have O:Hd (∀R W,Ext (World.alloc R (.cells #[.int .u8 (n:Int)] 5)) W->(convert 31 9 (.slice (some ⟨R.heap.size,0,none⟩) 1 1)).run Tryz.prog W= .ok (.string ⟨#[UInt8.ofNat n]⟩) W):=η fun R W k=>by
  rw[U] at k;exact q2m (l:=[UInt8.ofNat n]) W 31 9 5 Tryz.underlying31 Tryz.underlying5 Tryz.underlying9 rfl ((Rd.lit R #[.int .u8 ((UInt8.ofNat n).toNat:Int)] 5).ext k)
 have r0:=fun R:World=>O.o R _ ((Ext.refl (World.alloc R (.cells #[.int .u8 (n:Int)] 5))).drew)
 have q2:¬(9223372036854775807<A.length+D.length+1):=by omega
 have q3:¬(9223372036854775807<(A++D).length+1):=by rw[θ];omega
 clear U
 go_cut [5] from 12 to 26 (fun s W=> ∃S:List UInt8,s= .string ⟨S.toArray⟩/\S.length<=100/\Ext w1 W)
 case first=>
  go_region_held_law (fun W=>(W.cell? ⟨q,0,none⟩=some (.string ⟨st.toArray⟩)/\W.cell? ⟨q,1,none⟩=some (.int .i64 (fi:Int))/\W.cell? ⟨q,2,none⟩=some (.slice ao n cap))/\Hd (Ext w1 W))
   (first|assumption|exact⟨I.o _ Q.o,Q⟩|exact(fun h=>⟨I.o _ h,η h⟩) (Ext.trans (Hd.o (And.right (by assumption))) (q0B _ _))|exact(fun h=>⟨I.o _ h,η h⟩) ((Ext.refl w1).drew.trans (q0B _ _))|exact⟨⟨d0,d1,d2⟩,η (Ext.refl _).drew⟩)
   (first|(go_at_call 40;refine(HT.o _).mono ?_;rintro e wa ⟨rfl,j⟩;have Q:=η (Ext.trans (Hd.o (And.right (a:=_) (by assumption))) j);(try have d:=η (show Ext (World.alloc _ (.cells #[.int .u8 (n:Int)] 5)) _ from j));(try have d:=η (Ext.trans ((Ext.refl (World.alloc _ (.cells #[.int .u8 (n:Int)] 5))).drew) j));(try have d:=η (Ext.trans d.o j));(try have V:=O.o _ _ d.o);(try rw[show(World.drew w1).heap.size=w1.heap.size from rfl] at V);clear j)|(go_at_call 36;refine(i0.o _).mono ?_;rintro e wa ⟨rfl,j⟩;have Q:=η (Ext.trans (Hd.o (And.right (a:=_) (by assumption))) j);(try have d:=η (show Ext (World.alloc _ (.cells #[.int .u8 (n:Int)] 5)) _ from j));(try have d:=η (Ext.trans ((Ext.refl (World.alloc _ (.cells #[.int .u8 (n:Int)] 5))).drew) j));(try have d:=η (Ext.trans d.o j));(try have V:=O.o _ _ d.o);(try rw[show(World.drew w1).heap.size=w1.heap.size from rfl] at V);clear j))
  all_goals
   go_wp2_with fail
   go_meet
   case rel=>exact⟨(A++D)++[UInt8.ofNat n],by first|rfl|(rw[q2B,q2B];simp),by simp;omega,Hd.o (And.right (by assumption))⟩
 case rest=>
 obtain⟨S,rfl,s0,X⟩:=hcut;have d:=η X;have v0:=e0.o.ext X;clear X d0 d1 d2 c0 c1 c2 u0 u1 u2 I;go_wp2_with fail
 go_loopw [5,6] (fun sv iv W=> ∃(k:Nat) (T:List UInt8),k<=n/\iv= .int .i64 (k:Int)/\sv= .string ⟨T.toArray⟩/\T.length<=100+300*k/\Ext w1 W) (fun _ i _=>n-(intOf i).toNat)
 case atStart=>exact⟨0,S,υ _,rfl,rfl,by omega,d.o⟩
 case round=>
  obtain⟨k,T,hk,rfl,rfl,t0,hb⟩:=hrel;have f0:=η hb;have v:=e0.o.ext hb;have d0:=v.cell 0;have d1:=v.cell 1;have d2:=v.cell 2;by_cases m0:k<n
  ·have q0:decide ((k:Int)<(n:Int))=true:=ζ (by omega)
   have w0:(k:Int)<(n:Int):=by omega
   obtain⟨b,off,rfl,c0,c1,c2⟩:=(h0.o.ext (j0.o.trans hb)).at m0;have Z:k<L.length:=by rw[n0.o];exact m0
   have N:L.getD k ev0∈L:=by rw[δ,γ Z];exact List.getElem_mem Z
   have he:=o0.o _ N;have q4:IntKind.i64.wrap ((k:Int)+1)=(k:Int)+1:=by rw[ν];omega
   generalize L.getD k ev0=y at*;obtain⟨y1,y2,y3⟩:=y;have hs:=z8I he;have g0:Hd (∀W,Calls Tryz.prog 41 #[.agg #[.string ⟨y1.toArray⟩,.string ⟨y2.toArray⟩,.float .f64 y3]] W fun r w'=>r= .returned (.string ⟨(evB ⟨y1,y2,y3⟩).toArray⟩)/\Ext W w'):=η fun W=>z4W ⟨y1,y2,y3⟩ W he
   obtain⟨Y,hY⟩: ∃Y,evB ⟨y1,y2,y3⟩=Y:=⟨_,rfl⟩
   rw[hY] at g0 hs;simp only at c0 c1 c2;have q5:¬(9223372036854775807<T.length+Y.length):=by omega
   clear Z N hb he hY v;go_wp2_with fail;refine(g0.o _).mono ?_;rintro e w3 ⟨rfl,x⟩;have p0:=η (f0.o.trans x);clear x;go_wp2_with fail
   go_roundw
   case rel=>exact⟨k+1,T++Y,by omega,by go_num,(by first|rfl|(rw[q2B])),by rw[θ];omega,p0.o⟩
   case measure=>simp[intOf];omega
  ·obtain rfl:k=n:=by omega
   have q0:decide ((k:Int)<(k:Int))=false:=ε (by omega);clear hb v;go_wp2_with fail;go_ret2;exact⟨T,rfl,j0.o.trans f0.o⟩
def Ios(w W:World):Prop:=W.os=w.os/\W.tape=w.tape/\W.output=w.output
theorem Ios.trans{b c:World}(h:Ios a b)(k:Ios b c):Ios a c:=⟨k.1.trans h.1,k.2.1.trans h.2.1,k.2.2.trans h.2.2⟩
theorem Ios.of_ext{b:World}(h:Ext a b):Ios a b:=⟨h.os,h.tape,h.output⟩
def MoAppR(w:World)(mb base:Nat)(vL vM:Value)(bs:List Bt)(m:Nat)(str:List UInt8)(L:List Ev)(z:Int)(e:Ending)(w':World):Prop:=
 ∃ vL' vM' ms' bs' x y,e= .returned (.tuple #[.int .i64 x,.int .i64 y])/\MoI w' mb base vL' vM' (tos bs') ms'/\ms'.length<=m+1/\w.heap.size<=w'.heap.size/\(∀i,i<w.heap.size->¬MoB mb vL vM i->w'.heap[i]? =w.heap[i]?)/\(∀i,MoB mb vL' vM' i->MoB mb vL vM i\/w.heap.size<=i)/\
  ((z≠0/\x=0/\y=z/\bs'=bs)\/(z=0/\x=((q0y bs str).length:Int)/\y=0/\bs'=bs++[⟨str,(q0y bs str).length,L⟩]))/\Ios w w'
theorem MoAppR.no{w w':World}{base:Nat}{bs:List Bt}{d:List UInt8}{L:List Ev}{z:Int}(h:MoI w mb base vL vM (tos bs) ms)(j:z≠0)(k:Ext w w'):MoAppR w mb base vL vM bs ms.length d L z (.returned (.tuple #[.int .i64 0,.int .i64 z])) w':=
 ⟨vL,vM,ms,bs,0,z,rfl,h.ext k,Nat.le_succ _,k.size,fun i b _=>k.block i b,fun i b=> .inl b,.inl ⟨j,rfl,rfl,rfl⟩,Ios.of_ext k⟩
structure MoMid(w:World)(mb base:Nat)(vL vM:Value)(T:List To)(ms:List Value)(v2:Value)(W:World):Prop where
 mo:MoI W mb base v2 vM T ms
 size:w.heap.size<=W.heap.size
 off: ∀i,i<w.heap.size->¬MoB mb vL vM i->W.heap[i]? =w.heap[i]?
 grew: ∀i,v2.ownBlock=some i->vL.ownBlock=some i\/w.heap.size<=i
 ios:Ios w W
theorem MoMid.start{w j:World}{base:Nat}{d:List To}(h:MoI w mb base vL vM T ms)(k:Ext w j)(e:d=T):MoMid w mb base vL vM d ms vL j:=by
 subst e;exact⟨h.ext k,k.size,fun i b _=>k.block i b,fun i b=> .inl b,Ios.of_ext k⟩
theorem z6z{W:World}{B B':Nat}{e':TypeId}{l:Nat}{v r:Value}{n:Nat}{o:List Value}(h:W.ownsRow B e sz v n xs)(y:W.ownsRow B' e' l r n' o)(j:e≠e'): ∀i,v.ownBlock=some i->r.ownBlock≠some i:=fun i D d=>by
 obtain⟨x,hc⟩:=q3u h D;obtain⟨q,b⟩:=q3u y d;rw[hc] at b
 cases b;exact j rfl
theorem MoI.apart{W:World}{base:Nat}{L:List To}(h:MoI W mb base vL vM L ms):vL.ownBlock≠some mb/\vM.ownBlock≠some mb/\ ∀i,vL.ownBlock=some i->vM.ownBlock≠some i:=by
 obtain⟨d,b⟩:=h.blk;exact⟨b.apart h.rowL (by decide),b.apart h.rowM (by decide),z6z h.rowL h.rowM (by decide)⟩
theorem MoMid.told{w W Wd:World}{base:Nat}{t:To}{lit:Obj}(hm:MoMid w mb base vL vM T ms v2 W)(I:mb<w.heap.size)(j:Wd.heap=W.heap)(x:Ios W Wd)
  (v:W8.ownsRow base 68 5 v3 (T.length+1) (q5Q T++toc t))(q:(Wd.alloc lit).grownBy W8 v2.ownBlock)(o:v3.ownBlock=v2.ownBlock\/v3.ownBlock=some (Wd.alloc lit).heap.size):
  MoMid w mb base vL vM (T++[t]) ms v3 (W8.setCell ⟨mb,0,none⟩ v3)/\(∀i,i<W.heap.size->v2.ownBlock≠some i->W8.heap[i]? =W.heap[i]?):=by
 obtain⟨J,D⟩:=hm.mo.blk;obtain⟨a1,E,F⟩:=hm.mo.apart;have l:(Wd.alloc lit).heap.size=W.heap.size+1:=by rw[ρ,j]
 have b: ∀i,i<W.heap.size->v2.ownBlock≠some i->W8.heap[i]? =W.heap[i]? :=fun i d r=>by
  rw[q.block i (by omega) (fun e=>r e.symm),(q0B Wd lit).block i (by rw[j];exact d),j]
 have y:mb<W.heap.size:=D.lt;have h3:v3.ownBlock≠some mb:=fun e=>by
  rcases o with h|h
  ·exact a1 (h.symm.trans e)
  ·rw[h,l] at e;cases e;omega
 have M:W.heap.size+1<=W8.heap.size:=by rw[<-l];exact q.size
 refine⟨⟨⟨⟨J,(D.same (b mb y a1)).set 0 v3⟩,?_,?_⟩,?_,fun i d r=>?_,fun i d=>?_,hm.ios.trans (x.trans ⟨q.os,q.tape,q.output⟩)⟩,b⟩
 ·have:=q0i v (a:=⟨mb,0,none⟩) v3 h3
  rw[q9b,θ,List.length_singleton]
  simpa [q5Q] using this
 ·exact q0i (q0t hm.mo.rowM fun i d=>b i (q0a hm.mo.rowM i d).2 fun e=>F i e d) v3 E
 ·rw[World.size_setCell];have:=hm.size;omega
 ·rw[heap_setCell_other W8 ⟨mb,0,none⟩ i v3 (fun e=>r (.inl e)),b i (by have:=hm.size;omega) (fun e=>?_),hm.off i d r]
  rcases hm.grew i e with h|h
  ·exact r (.inr (.inl h))
  ·omega
 ·rcases o with h|h
  ·exact hm.grew i (h.symm.trans d)
  ·rw[h,l] at d;cases d;have:=hm.size;exact .inr (by omega)
theorem MoMid.many{w W:World}{base:Nat}{c:Value}{lit:Obj}(hm:MoMid w mb base vL vM T ms v2 W)(E:mb<w.heap.size)
  (r:W8.ownsRow base 3 1 v3 (ms.length+1) (ms++[c]))(o:(W.alloc lit).grownBy W8 vM.ownBlock)(l:v3.ownBlock=vM.ownBlock\/v3.ownBlock=some (W.alloc lit).heap.size):
  MoI (W8.setCell ⟨mb,1,none⟩ v3) mb base v2 v3 T (ms++[c])/\w.heap.size<=(W8.setCell ⟨mb,1,none⟩ v3).heap.size/\(∀i,i<w.heap.size->¬MoB mb vL vM i->(W8.setCell ⟨mb,1,none⟩ v3).heap[i]? =w.heap[i]?)/\
   (∀i,MoB mb v2 v3 i->MoB mb vL vM i\/w.heap.size<=i)/\(∀i,i<W.heap.size->vM.ownBlock≠some i->W8.heap[i]? =W.heap[i]?)/\Ios w (W8.setCell ⟨mb,1,none⟩ v3):=by
 obtain⟨F,y⟩:=hm.mo.blk;obtain⟨a1,x,D⟩:=hm.mo.apart;have j:(W.alloc lit).heap.size=W.heap.size+1:=by rw[ρ]
 have d: ∀i,i<W.heap.size->vM.ownBlock≠some i->W8.heap[i]? =W.heap[i]? :=fun i b q=>by
  rw[o.block i (by omega) (fun e=>q e.symm),(q0B W lit).block i b]
 have v:mb<W.heap.size:=y.lt;have h3:v3.ownBlock≠some mb:=fun e=>by
  rcases l with h|h
  ·exact x (h.symm.trans e)
  ·rw[h,j] at e;cases e;omega
 have I:W.heap.size+1<=W8.heap.size:=by rw[<-j];exact o.size
 refine⟨⟨⟨F,(y.same (d mb v x)).set 1 v3⟩,?_,?_⟩,?_,fun i b q=>?_,fun i b=>?_,d,hm.ios.trans ⟨o.os,o.tape,o.output⟩⟩
 ·exact q0i (q0t hm.mo.rowL fun i b=>d i (q0a hm.mo.rowL i b).2 (D i b)) v3 a1
 ·have:=q0i r (a:=⟨mb,1,none⟩) v3 h3
  rwa [θ,List.length_singleton]
 ·rw[World.size_setCell];have:=hm.size;omega
 ·rw[heap_setCell_other W8 ⟨mb,1,none⟩ i v3 (fun e=>q (.inl e)),d i (by have:=hm.size;omega) (fun e=>q (.inr (.inr e))),hm.off i b q]
 ·rcases b with b|b|b
  ·exact .inl (.inl b)
  ·rcases hm.grew i b with h|h
   ·exact .inl (.inr (.inl h))
   ·exact .inr h
  ·rcases l with h|h
   ·exact .inl (.inr (.inr (h.symm.trans b)))
   ·rw[h,j] at b;cases b;have:=hm.size;exact .inr (by omega)
theorem z6m{w:World}{base:Nat}{bs:List Bt}(h:MoI w mb base vL vM (tos bs) ms)(B0:okBs bs)(V0:base<=mb)(l:List UInt8)(hs:l.length<=4611686018427387903)(ex:Int){L:List Ev}(I:Evs w ao k cap L)(hd: ∀a,ao=some a->0<k->¬MoB mb vL vM a.block)
  (hL:q2V L)(C0: ∀e∈L,e.we<18446744073709551616)(hl:(tos bs).length<=100000)(c1:ms.length<=100000){z:Int}(hz:z6K bs l ex L=z):
  Calls Tryz.prog 57 #[.pointer (some ⟨mb,0,none⟩),.string ⟨l.toArray⟩,.int .i64 ex,.slice ao k cap] w (MoAppR w mb base vL vM bs ms.length l L z):=by
 have HM:=η h;have HC:=η (q9P l 0 w I hs hL);have l0:=η (fun W (kk:Ext w W)=>z8r (h.ext kk) l hl);have hN:((tos bs).filter fun t=>decide (t.s=l)).length=(q0y bs l).length:=by rw[q6G B0,q9W]
 have P0:=List.length_filter_le (fun t:To=>decide (t.s=l)) (tos bs);generalize ((tos bs).filter fun t=>decide (t.s=l))=R at*;obtain⟨n,hn⟩: ∃n,R.length=n:=⟨_,rfl⟩
 rw[hn] at hN P0 l0;obtain⟨c,hc⟩: ∃c,q0Q l 0 L=c:=⟨_,rfl⟩
 rw[hc] at HC;have HZ:Hd ((if c≠0 then c else if ex< -2 then 2 else if ex≠ -2/\ex≠(n:Int)-1 then 80 else 0)=z):=η (by rw[<-hz];unfold z6K;rw[hc,<-hN]);have E0:=η hc;have t0:=η hN;have T0:=I.len;have Y0:=I.fits;have Z0:=I.bound;have HX:=η I;have HD:=η hd;have I0:=η C0;have q1:IntKind.i64.wrap ((n:Int)-1)=(n:Int)-1:=by rw[ν];omega
 have q2:IntKind.i64.wrap ((n:Int)-1+1)=(n:Int):=by rw[ν];omega
 clear h I hd hz hc hN B0 hn hL C0;go_enter Tryz.func57,Tryz.ntmps57;go_wp2_with fail;refine HC.o.mono ?_;rintro e w1 ⟨rfl,I⟩;have X:=η I;clear I HC;by_cases E:c=0
 case neg=>
  have M0:(c !=(0:Int))=true:=by simpa using E
  have F:Hd (z=c):=η (by rw[<-HZ.o,ξ E]);have O:=η E;clear E;go_wp2_with fail;go_ret2;rw[F.o];exact MoAppR.no HM.o O.o X.o
 have M0:(c !=(0:Int))=false:=by rw[E];rfl
 by_cases hex:ex< -2
 ·have N0:decide (ex<(-2:Int))=true:=ζ hex
  have F:Hd (z=2):=η (by rw[<-HZ.o,κ (by omega),ξ hex]);clear E hex;go_wp2_with fail;go_ret2;rw[F.o];exact MoAppR.no HM.o (by decide) X.o
 have N0:decide (ex<(-2:Int))=false:=ε hex;have O:=η E;clear E;go_wp2_with fail;refine(l0.o _ X.o).mono ?_;rintro e w2 ⟨v,rfl,x,I⟩;obtain⟨va,vc,rfl⟩:=q0G x;have n0:=η (X.o.trans I);clear I x l0;by_cases hv:ex≠ -2/\ex≠(n:Int)-1
 ·have z0:(ex !=(-2:Int))=true:=by simpa using hv.1
  have O0:(ex !=(n:Int)-1)=true:=by simpa using hv.2
  have F:Hd (z=80):=η (by rw[<-HZ.o,κ (by have:=O.o;omega),κ (by omega),ξ hv]);clear hex hv;go_wp2_with fail;go_ret2;rw[F.o];exact MoAppR.no HM.o (by decide) n0.o
 have S0:(ex !=(-2:Int))=false\/((ex !=(-2:Int))=true/\(ex !=(n:Int)-1)=false):=by
  by_cases h:ex= -2
  ·exact .inl (by rw[h];rfl)
  ·exact .inr ⟨by simpa using h,by have:ex=(n:Int)-1:=Decidable.not_not.1 fun hh=>hv ⟨h,hh⟩;rw[this];simp⟩
 have F:Hd (z=0):=η (by rw[<-HZ.o,κ (by have:=O.o;omega),κ (by omega),κ hv]);have s0:q0Q l 0 L=0:=by rw[E0.o,O.o]
 have R0:n<=1000000:=by omega
 have b0:z4K ⟨l,n,L⟩:=⟨q4x (n:=n) s0 R0,fun e he=>I0.o e he⟩
 have u0:=η (z9T (b:=⟨l,n,L⟩) w2 (HX.o.ext n0.o) b0);have hp:=q0g s0;have b1:k<=8:=by have:=hp.2.2.2.1;omega
 simp only at u0;clear s0 b0 hv hex hp;rcases S0 with z0|⟨z0,O0⟩
 all_goals
  go_wp2_with fail;refine u0.o.mono ?_;rintro e w3 ⟨S,rfl,I⟩;have J0:=η (n0.o.trans I);clear I;go_wp2_with fail
  go_loopw [12] (fun iv W=> ∃(j:Nat) (v2:Value),iv= .int .i64 (j:Int)/\j<=k/\MoMid w mb base vL vM (tos bs++q5W l n (L.take j)) ms v2 W) (fun i _=>k-(intOf i).toNat)
  case atStart=>exact⟨0,vL,rfl,υ _,MoMid.start HM.o J0.o (by simp[q5W])⟩
  case round=>
   obtain⟨j,v2,rfl,hj,hm⟩:=hrel;by_cases Q0:j<k
   ·have W0:decide ((j:Int)<(k:Int))=true:=ζ (by omega)
    have a1:(j:Int)<(k:Int):=by omega
    have q3:IntKind.i64.wrap ((n:Int)+(j:Int))=(n:Int)+(j:Int):=by rw[ν];omega
    have q5:IntKind.i64.wrap (n:Int)=(n:Int):=by rw[ν];omega
    have q4:IntKind.i64.wrap ((j:Int)+1)=(j:Int)+1:=by rw[ν];omega
    have p0: ∀a,ao=some a->a.block<w.heap.size:=fun a e=>by
     obtain⟨b,off,e2,c0,_⟩:=HX.o.at (i:=0) (by omega);rw[e] at e2;cases e2;exact World.block_lt_of_cell? _ _ c0
    have A0:Evs wr ao k cap L:=HX.o.keep fun a e=>hm.off _ (p0 a e) (HD.o a e (by omega))
    have q0:tos bs++q5W l n (L.take (j+1))=(tos bs++q5W l n (L.take j))++[⟨l,((n+j:Nat):Int),L.getD j ev0⟩]:=by
     rw[List.take_succ_eq_append_getElem (by omega),q4f,Θ,Nat.min_eq_left (by omega),List.append_assoc,δ,γ (by omega)];rfl
    obtain⟨D,off,rfl,e0,e1,e2⟩:=A0.at Q0;have o0:=HD.o _ rfl (by omega);have x0:=p0 _ rfl;generalize L.getD j ev0=y at*;obtain⟨Y,Z,y3⟩:=y;simp only at e0 e1 e2 o0 x0;rw[show((n+j:Nat):Int)=(n:Int)+(j:Int) by omega] at q0;have H0:=η q0;have L0:(tos bs++q5W l n (L.take j)).length<=100010:=by rw[θ,q3s,Θ];omega
    generalize tos bs++q5W l n (L.take j)=T at*;obtain⟨la,lc,rfl⟩:=q0G hm.mo.rowL;obtain⟨N,hN⟩: ∃N,T.length=N:=⟨_,rfl⟩
    obtain⟨su,M⟩:=hm.mo.blk;have r0:=hm.mo.apart;have x:=hm.mo.rowL;have J:=η hm;rw[hN] at M x r0 J L0;have HN:=η hN;have k0:=M.cell 0;have f0:=M.free 0;have i0:Hd (mb<w.heap.size):=η (by obtain⟨_,h⟩:=HM.o.blk;exact h.lt);have g0:Hd (base<=wr.heap.size):=η (by have:=M.lt;omega);have V:=η M.lt;have G0:Hd (∀W',Ext wr W'->W'.ownsRow base 68 5 (.slice la N lc) N (q5Q T)):=η fun W' kk=>q0I x kk
    have m0:Hd (∀W',(∀i,(i=mb\/i=D)->W'.heap[i]? =wr.heap[i]?)->(fun W:World=>W.cell? ⟨mb,0,none⟩=some (.slice la N lc)/\W.cell? ⟨D,off+j*3,none⟩=some (.string ⟨Y.toArray⟩)/\W.cell? ⟨D,off+j*3+1,none⟩=some (.string ⟨Z.toArray⟩)/\W.cell? ⟨D,off+j*3+2,none⟩=some (.float .f64 y3)) W'):=η fun W' kk=>
     ⟨(World.cell?_of_block (a:=⟨mb,0,none⟩) (kk mb (.inl rfl))).trans k0,(World.cell?_of_block (a:=⟨D,off+j*3,none⟩) (kk D (.inr rfl))).trans e0,(World.cell?_of_block (a:=⟨D,off+j*3+1,none⟩) (kk D (.inr rfl))).trans e1,(World.cell?_of_block (a:=⟨D,off+j*3+2,none⟩) (kk D (.inr rfl))).trans e2⟩
    have h0:Hd (D<wr.heap.size/\(Value.slice la N lc).ownBlock≠some D):=η ⟨World.block_lt_of_cell? _ _ e0,fun e=>by
     rcases J.o.grew D e with h|h
     ·exact o0 (.inr (.inl h))
     ·omega⟩
    have D0:=η r0.1;have d1:=q2U;clear hm M x r0 A0 p0 q0 o0 x0 hN;go_wp2_with fail;have j0:=η (show Rd (wr.alloc (.cells #[.string ⟨l.toArray⟩,.int .i64 ((n:Int)+(j:Int)),.string ⟨Y.toArray⟩,.string ⟨Z.toArray⟩,.float .f64 y3] 68)).drew (some ⟨wr.heap.size,0,none⟩) (toc ⟨l,(n:Int)+(j:Int),⟨Y,Z,y3⟩⟩) from(Rd.lit wr #[.string ⟨l.toArray⟩,.int .i64 ((n:Int)+(j:Int)),.string ⟨Y.toArray⟩,.string ⟨Z.toArray⟩,.float .f64 y3] 68).ext (Ext.refl _).drew);refine q1q (fun W:World=>W.cell? ⟨mb,0,none⟩=some (.slice la N lc)/\W.cell? ⟨D,off+j*3,none⟩=some (.string ⟨Y.toArray⟩)/\W.cell? ⟨D,off+j*3+1,none⟩=some (.string ⟨Z.toArray⟩)/\W.cell? ⟨D,off+j*3+2,none⟩=some (.float .f64 y3)) 17 (by kernel_rfl) (m0.o _ fun i _=>rfl) (fun d=>?_);refine q0j 0 d (fun d=>?_);refine q0j 1 d (fun d=>?_);refine q0j 2 d (fun d=>?_);refine q0j 3 d (fun d=>?_);refine q5P 4 d (fun d=>?_);refine q0j 5 d (fun d=>?_);refine q0j 6 d (fun d=>?_);refine q0j 7 d (fun d=>?_);refine q0j 8 d (fun d=>?_);refine q0j 9 d (fun d=>?_);refine q0j 10 d (fun d=>?_);refine q0j 11 d (fun d=>?_);refine q0j 12 d (fun d=>?_);refine q5P 13 d (fun d=>?_);refine q0j 14 d (fun d=>?_);simp only[Act.put,π,ψ,ω];refine q0n (i:=15) (by kernel_rfl) rfl (fun K hK=>?_)
    go_simp
    have a0:Hd (Ext wr (wr.alloc (.cells #[.string ⟨l.toArray⟩,.int .i64 ((n:Int)+(j:Int)),.string ⟨Y.toArray⟩,.string ⟨Z.toArray⟩,.float .f64 y3] 68)).drew):=η ((q0B wr _).drew);refine hK.out _ _ (m0.o _ fun i U=>a0.o.block i (by rcases U with U|U;rw[U];exact V.o;rw[U];exact h0.o.1)) (fun d=>?_);clear hK K
    try simp only[Act.put,π,ψ,ω]
    refine q0n (i:=16) (by kernel_rfl) rfl (fun K hK=>?_);refine q1U rfl (.tmp 56) (.tmp 67) 22 rfl base 68 _ 5 64 Tryz.underlying22 Tryz.infoTo (by decide) (by decide) (.slice la N lc) N (q5Q T) rfl (G0.o _ a0.o) _ 1 1 (toc ⟨l,(n:Int)+(j:Int),⟨Y,Z,y3⟩⟩) rfl rfl (fun h=>by cases h) j0.o (by unfold toc;simp[Value.oneCell']) (by unfold maxLen;omega) (by omega) (by have:=g0.o;simp;omega) ?_;intro v3 x2 r q Q;obtain⟨a3,k3,rfl⟩:=q0G r;obtain⟨t1,t2⟩:=J.o.told (t:=⟨l,(n:Int)+(j:Int),⟨Y,Z,y3⟩⟩) (Wd:=wr.drew) (lit:=(.cells #[.string ⟨l.toArray⟩,.int .i64 ((n:Int)+(j:Int)),.string ⟨Y.toArray⟩,.string ⟨Z.toArray⟩,.float .f64 y3] 68)) i0.o rfl ⟨rfl,rfl,rfl⟩ (by rw[HN.o];exact r) q Q;have HF:=η t1;have w0:=t2 mb V.o D0.o;have K0:=t2 D h0.o.1 h0.o.2;have v0:=η (m0.o x2 fun i U=>by rcases U with U|U<;>rw[U]<;>assumption);have f8:=(World.frozen?_of_block (a:=⟨mb,0,none⟩) w0).trans f0;clear r q Q t1 t2 w0 K0;refine hK.out _ _ v0.o (fun d=>?_);clear hK K
    try simp only[Act.put,π,ψ,ω]
    refine q2K (by kernel_rfl) ?_
    try simp only[List.drop_succ_cons,List.drop_zero]
    clear d;obtain⟨d0,_,_,_⟩:=v0.o;go_wp2_with fail
    go_roundw
    case rel=>
     refine⟨j+1,.slice a3 (N+1) k3,by go_num,by omega,?_⟩;rw[H0.o];exact HF.o
    case measure=>simp[intOf];omega
   ·obtain rfl:j=k:=by omega
    have X0:decide ((j:Int)<(j:Int))=false:=ε (by omega);have y0:tos bs++q5W l n (L.take j)=tos (bs++[⟨l,n,L⟩]):=by
     rw[Δ (by omega),q2a,q7a];rfl
    rw[y0] at hm;obtain⟨ma,mc,rfl⟩:=q0G hm.mo.rowM;obtain⟨su,M⟩:=hm.mo.blk;have k1:=M.cell 1;have f1:=M.free 1;have J:=η hm;have F0:=η hm.mo.rowM;have i0:Hd (mb<w.heap.size):=η (by obtain⟨_,h⟩:=HM.o.blk;exact h.lt);have g0:Hd (base<=wr.heap.size):=η (by have:=M.lt;omega);have j0:=η (Rd.lit wr #[.int .i64 (j:Int)] 3);have V:=η M.lt;clear hm M y0
    go_wp2_with (at_builtin;refine q0J rfl _ _ 73 rfl base 3 _ 1 8 Tryz.underlying73 Tryz.infoI (by decide) (by decide) _ ms.length ms rfl (q0I F0.o (q0B _ _)) _ 1 1 [.int .i64 (j:Int)] rfl rfl (fun h=>by cases h) j0.o (by simp[Value.oneCell']) (by unfold maxLen;omega) (by omega) (by have:=g0.o;simp;omega) ?_;intro v3 w8 r q Q;obtain⟨a3,k3,rfl⟩:=q0G r;have HF:=η (J.o.many i0.o r q Q);have h8:=HF.o.2.2.2.2.1 mb V.o J.o.mo.apart.2.1;have i1:=(World.cell?_of_block (a:=⟨mb,1,none⟩) h8).trans k1;have U0:=(World.frozen?_of_block (a:=⟨mb,1,none⟩) h8).trans f1;clear r q Q h8)
    go_ret2;obtain⟨g1,g2,g3,g4,_,g6⟩:=HF.o;exact⟨_,_,_,_,(n:Int),0,rfl,g1,by simp,g2,g3,g4,.inr ⟨F.o,by rw[t0.o],rfl,by rw[t0.o]⟩,g6⟩
def RwI(W:World)(gw mb:Nat)(str:List UInt8)(a:Int):Prop:=Blk W gw 0 #[.pointer (some ⟨mb,0,none⟩),.string ⟨str.toArray⟩,.int .i64 a]
theorem z8w{A:List Acm}{m:Int}(h:q7h A m=false):(A.length:Int)<=m/\ ∀x∈A,x.st.length<=300/\x.n<=20/\ ∀e∈x.L,e.ty.length<=300/\e.da.length<=300:=by
 unfold q7h at h;rw[Bool.or_eq_false_iff] at h;refine⟨by have:=of_decide_eq_false h.2;omega,fun x b=>?_⟩;have h1:=List.any_eq_false.1 h.1 x b;unfold q4H at h1;simp only[Bool.or_eq_true,not_or,Φ] at h1;refine⟨by omega,by omega,fun e he=>?_⟩;have h2:=List.any_eq_false.1 (by simpa using h1.2) e he;unfold q6m at h2;simp only[Bool.or_eq_true,not_or,Φ] at h2;omega
end
end Go.Proofs.YteabhdclmodefaaGreatDoor
