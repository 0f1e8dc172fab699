/- Walks. -/
import Derived.Test.YteabhdclmodefaaGreatDoorG23CX
import Derived.WalkMore
import Derived.Deep.LoopGhost
set_option linter.unusedVariables false
set_option linter.unusedSimpArgs false
set_option maxRecDepth 100000
set_option maxHeartbeats 6400000
namespace Go.Proofs.YteabhdclmodefaaGreatDoor
variable {k n:Nat}{ps:List (List UInt8)}{p:List UInt8}{r:Int}
section
open Go.RowKit
theorem q6K{fn:Func}{t u v x:Tmp}(h:fn.results=#[.tmp t,.tmp u,.tmp v,.tmp x])(tmps:Array Value)(P:Program)(w:World):
  (results fn tmps).run P w= .ok (.tuple #[tmps.getD t undef,tmps.getD u undef,tmps.getD v undef,tmps.getD x undef]) w:=by
 simp[results,h]
def q9L(r:Option (Nat×List UInt8)):Value:=match r with
 |none=> .tuple #[.string ⟨#[]⟩,.int .i64 0,.int .i64 0,.int .i64 4]
 |some (a,p)=> .tuple #[.string ⟨p.toArray⟩,.int .i64 (a:Int),.int .i64 ((a:Int)+(p.length:Int)+12),.int .i64 0]
theorem z5r(C:Cks)(pos:Int):q3U C (max pos 0)=q3U C pos:=by
 unfold q3U
 congr 1
 funext r
 rw[decide_eq_decide];omega
theorem q8W(n:Nat)(ps:List (List UInt8)):q7r (q0T n ps) (q2a n)=true:=by
 unfold q7r q0T;rw[ζ (by simp),Bool.true_and,List.take_left];simp
theorem z3u{pos:Int}{b:Nat}(B:List (Nat×List UInt8))(h:ps[k]? =some p):((q2f (b+12) ps).drop k++B).find? (fun r=>decide (pos<=(r.1:Int)))=if pos<=((b+q0K (ps.take k):Nat):Int) then some (b+q0K (ps.take k),p) else((q2f (b+12) ps).drop (k+1)++B).find? fun r=>decide (pos<=(r.1:Int)):=by
 have h1:=z3B ps (b+12) k p h;obtain⟨i,he⟩:=List.getElem?_eq_some_iff.1 h1;rw[<-List.getElem_cons_drop i,he,List.cons_append,List.find?_cons];have e:b+12+((ps.take k).map fun p=>p.length+12).sum=b+q0K (ps.take k):=by unfold q0K;omega
 simp only[e];by_cases d:pos<=((b+q0K (ps.take k):Nat):Int)
 ·rw[ξ d,ζ d]
 ·rw[κ d,ε d]
theorem z7V{C:Cks}(h:C[n]? =some ps):q1B (4096*n) (C.drop n)=q2f (4096*n+12) ps++q1B (4096*(n+1)) (C.drop (n+1)):=by
 obtain⟨b,he⟩:=List.getElem?_eq_some_iff.1 h;rw[<-List.getElem_cons_drop b,he,q1B]
 congr 2
theorem z1j{W:World}{B:Nat}{l:Option Addr}{m:Nat}(h:W.ownsRow B 3 1 (.slice l ps.length m) ps.length ((q1b 12 ps).map fun x=>Value.int .i64 (x.1:Int)))(i:ps[k]? =some p):
  ∃b3,l=some ⟨b3,0,none⟩/\W.cell? ⟨b3,k,none⟩=some (.int .i64 (q0K (ps.take k):Int)):=by
 have d:k<ps.length:=(List.getElem?_eq_some_iff.1 i).1;obtain⟨b3,cap,h1,h2,_⟩:=(Own.of_row h).cell (j:=k) (by rw[List.length_map,q2Z];exact d);have b:((q1b 12 ps).map fun x=>Value.int .i64 (x.1:Int))[k]'(by rw[List.length_map,q2Z];exact d)= .int .i64 (q0K (ps.take k):Int):=by
  rw[List.getElem_map];have h3:=q8V ps 12 k p i;obtain⟨_,h4⟩:=List.getElem?_eq_some_iff.1 h3;rw[h4]
  rfl
 rw[b] at h2
 cases h1;exact⟨b3,rfl,h2⟩
theorem q8a(ps:List (List UInt8))(k:Nat):q0K (ps.take k)<=q0K ps:=by
 unfold q0K
 conv=>rhs;rw[<-List.take_append_drop k ps,List.map_append,List.sum_append]
 omega
section
variable {E :Oth}{w0 w:World}{g gl:Nat}{F K:Nat->Prop}{v:Value}{σ:DM}{c s sure:Int}{C:Cks}{xs:List Int}
def y0L(E:Oth)(w0 w:World)(g gl:Nat)(c s:Int)(C:Cks)(sure:Int)(K:Nat->Prop)(pos:Int)(e:Ending)(w':World):Prop:=
 e= .returned (q9L (q3U C pos))/\LgK E w0 w' g gl c s C sure K/\Stay K w w'
theorem y0y(h :LgK E w0 w g gl c s C sure K)(pos:Int)(p0: -9223372036854775808<=pos)(p1:pos<=9223372036854775807):
  Calls Tryz.prog 60 #[.pointer (some ⟨gl,0,none⟩),.int .i64 pos] w (y0L E w0 w g gl c s C sure K pos):=by
 have HK:=η h;obtain⟨F,v,σ,h1,h2⟩:=h;have K0:=η (z1p h1 h2.pl.up h2.pl.st);have i0:=η h2.ok;obtain⟨P,hP⟩: ∃P:Int,max pos 0=P:=⟨_,rfl⟩
 have h0:Hd (q3U C pos=q3U C P):=η (by rw[<-hP,z5r]);have q0:0<=P:=by omega
 have q1:P<=9223372036854775807:=by omega
 obtain⟨m,hm⟩: ∃m:Nat,P/4096=(m:Int):=⟨(P/4096).toNat,by omega⟩
 have hq:P.tdiv 4096=(m:Int):=by rw[Int.tdiv_eq_ediv_of_nonneg q0];exact hm
 have s0:(m:Int)<=2251799813685248:=by omega
 have N0:Hd (q3U C P=(q1B (4096*m) (C.drop m)).find? fun r=>decide (P<=(r.1:Int))):=η (z1d C P i0.o.size m (by omega));have t0:(if pos<(0:Int) then(0:Int) else pos)=P:=by rw[<-hP];split<;>omega
 have HM:=η hm;clear h1 h2 t0 hq;go_enter Tryz.func60,Tryz.ntmps60;go_wp2_with fail
 go_step3
 go_wp2_with fail;refine K0.o.mono ?_;rintro e w1 ⟨rfl,q⟩;have HB:=η q;clear q;go_wp2_with fail
 go_step3
 go_wp2_with fail
 go_loopw [9] (fun i W=> ∃n:Nat,i= .int .i64 (n:Int)/\(n:Int)<=2251799813685248/\q3U C P=((q1B (4096*n) (C.drop n)).find? fun r=>decide (P<=(r.1:Int)))/\LgK E w0 W g gl c s C sure K/\Stay K w W) (fun i _=>C.length-(intOf i).toNat)
 case atStart=>exact⟨m,by rw[HM.o],s0,N0.o,HK.o.grow HB.o,HK.o.kExt HB.o⟩
 case round =>
  obtain⟨n,rfl,a1,B,hk,B0⟩:=hrel;have g0:=η B;have n0:=η B0;have f0:=η hk;obtain⟨F',v',σ',h1,h2⟩:=hk;have A0:=q0c C;obtain⟨sa,sk,D0⟩:=q0G h1.l.row;rw[A0] at D0;subst D0;have c3:=h1.l.c3;have c0:=h1.l.c0;clear B B0 A0 s0 hP hm;by_cases u0:C.length<=n
  ·have HE:Hd (q9L (q3U C pos)= .tuple #[.string ⟨#[]⟩,.int .i64 0,.int .i64 0,.int .i64 4]):=η (by
    rw[h0.o,g0.o,List.drop_of_length_le u0];rfl)
   have hd:decide ((n:Int)<(C.length:Int))=false:=by simp;omega
   clear h1 h2;go_wp2_with fail
   try rw[Exit.noGoto_ret]
   refine bodyPost_ret (q6K rfl _ _ _) rfl ?_;exact⟨by rw[HE.o];rfl,f0.o,n0.o⟩
  have hd:decide ((n:Int)<(C.length:Int))=true:=by simp;omega
  have v0:n<C.length:=by omega
  obtain⟨ps,j⟩: ∃ps,C[n]? =some ps:=⟨C[n],γ v0⟩
  have Z:n<200:=by have:=h2.ok.few;omega
  obtain⟨b,b1,hv,o0,_⟩:=h1.cellAt j
  cases hv;have J:q0K ps<=4096:=h2.ok.size ps (List.mem_of_getElem? j);have d:=q1L n ps;have U0:ps.length<=341:=by have:=z8m ps;unfold q0K at J;omega
  have x:=q3Y h2.oth h2.ok.few j;have u:=h2.ok.pay ps (List.mem_of_getElem? j);have J0:Hd (q3U C P=((q2f (4096*n+12) ps).drop 0++q1B (4096*(n+1)) (C.drop (n+1))).find? fun r=>decide (P<=(r.1:Int))):=η (by rw[g0.o,z7V j,List.drop_zero]);obtain⟨z,hz⟩: ∃z:Int,(q0K ps:Int)=z:=⟨_,rfl⟩
  rw[hz] at o0;have z0:0<=z:=by omega
  have z1:z<=4096:=by omega
  have x0:=q2s (n:Int);have G0:=η (fun W=>q4E (n:Int) W);have l0:=η (fun (W:World) (k:Ext wr W)=>q5Q (h1.grow k) h2.pl x x0 0 z (by decide) z0 (by rw[d];omega) (by rw[d];omega));have F0:z.toNat=q0K ps:=by omega
  have C0:((q0T n ps).drop 0).take (q0K ps)=q0T n ps:=by rw[List.drop_zero,Δ (by rw[d];omega)]
  have e0:(0:Int).toNat=0:=rfl;simp only[F0,e0,C0] at l0;have R:=η (fun W=>z8l (q0T n ps) n W Z (by rw[d];omega) (q8W n ps));rw[q7n n ps u] at R;generalize R0:(q8s 12 (q1b 12 ps):Int)=ee at R
  have H0:=η (fun (k:Nat) (p:List UInt8) (h:ps[k]? =some p) (W:World)=>(show Calls Tryz.prog 95 #[.string ⟨(q0T n ps).toArray⟩,.int .i64 (q0K (ps.take k):Int)] W fun e w'=>e= .returned (.tuple #[.string ⟨p.toArray⟩,.int .i64 ((q0K (ps.take k)+p.length+12:Nat):Int),.bool true])/\Ext W w' by
   have h1:=q8z (q0T n ps) (q0K (ps.take k)) W (by rw[d];omega) (by
    have h3:(q0K (ps.take k):Nat)<=4096:=Ω (q8a ps k) J
    omega)
   have h2:z0H (q0T n ps) (q0K (ps.take k))= .tuple #[.string ⟨p.toArray⟩,.int .i64 ((q0K (ps.take k)+p.length+12:Nat):Int),.bool true]:=by
    unfold z0H;rw[z8g n ps k p h (u p (List.mem_of_getElem? h))]
   rw[h2] at h1
   exact h1))
  have M:Hd (∀(W:World) (F':Nat->Prop) (τ:DM),LgF w0 W g gl F' (.slice (some ⟨b,0,none⟩) C.length sk) τ s (q0N C) sure K->W.cell? ⟨gl,0,none⟩=some (.pointer (some ⟨g,0,none⟩))/\W.cell? ⟨gl,3,none⟩=some (.slice (some ⟨b,0,none⟩) C.length sk)/\W.cell? ⟨b,n,none⟩=some (.int .i64 z)):=η fun W F' τ hW=>by
   obtain⟨b2,k2,e1,e2,_⟩:=hW.cellAt j
   cases e1;rw[hz] at e2;exact⟨hW.l.c0,hW.l.c3,e2⟩
  have hw:Ext wr wr.drew:=(Ext.refl wr).drew;have HW:=η hw;obtain⟨d0,d3,dz⟩:=M.o _ _ _ (h1.grow hw);have W0:=η h2;have j0:=η h2.oth;generalize q0T n ps=S at*;generalize q0E 99 (n:Int)=nm at*;have HZ:=η hz;have X0:=η j;have I0:=η J;have k0:=η u;clear h1 h2 d x u x0 F0 C0 R0 hw hz j J o0 u0;go_wp2_with fail
  go_region_held3 (fun W=>W.cell? ⟨gl,0,none⟩=some (.pointer (some ⟨g,0,none⟩))/\W.cell? ⟨gl,3,none⟩=some (.slice (some ⟨b,0,none⟩) C.length sk)/\W.cell? ⟨b,n,none⟩=some (.int .i64 z))
   (first|exact M0.o|exact L0.o|exact⟨d0,d3,dz⟩)
   (first
    |(go_at_call 92;refine(G0.o _).mono ?_;rintro e wa ⟨rfl,h1⟩;have H1:=η (HW.o.trans h1);have L0:=η (And.intro (q0A h1 d0) (And.intro (q0A h1 d3) (q0A h1 dz)));clear h1)
    |(go_at_call 91;refine(l0.o _ H1.o).mono ?_;rintro e wb ⟨rfl,⟨F2,T0,h2,h3⟩,h4⟩;have H2:=η h2;have H3:=η h3;have H4:=η h4;have M0:=η (M.o _ _ _ h2);clear h2 h3 h4))
  all_goals
   go_wp2_with fail;refine(R.o _).mono ?_;rintro e wc ⟨pv,rfl,hr,q⟩;have V0:=η q;obtain⟨pa,pc,rfl⟩:=q0G hr;have m0:=η hr;have I:(q1b 12 ps).length=ps.length:=q2Z ps 12;rw[I] at m0;rw[I];have G:=η (show LgK E w0 wc g gl c s C sure K from⟨F2,_,T0,H2.o.grow q,⟨H3.o,i0.o,j0.o⟩⟩);have N:=η (n0.o.trans ((f0.o.kExt H1.o).trans (H4.o.trans (H2.o.kExt q))));clear hr q I;go_wp2_with fail
   go_loopw [72] (fun i W=> ∃k:Nat,k<=ps.length/\i= .int .i64 (k:Int)/\q3U C P=(((q2f (4096*n+12) ps).drop k++q1B (4096*(n+1)) (C.drop (n+1))).find? fun r=>decide (P<=(r.1:Int)))/\Ext wc W) (fun i _=>ps.length-(intOf i).toNat)
   case atStart=>exact⟨0,υ _,rfl,J0.o,Ext.refl _⟩
   case round=>
    obtain⟨k,hk,rfl,B,q⟩:=hrel;have Q:=η B;have D:=η q;clear B;by_cases S0:k<ps.length
    ·obtain⟨p,hp⟩: ∃p,ps[k]? =some p:=⟨ps[k],γ S0⟩
     have P0:decide ((k:Int)<(ps.length:Int))=true:=by simp;omega
     obtain⟨b3,rfl,O0⟩:=z1j (q0H m0.o q) hp;have HG:=η (H0.o k p hp wr);have b0:=η (z3u (pos:=P) (b:=4096*n) (q1B (4096*(n+1)) (C.drop (n+1))) hp);have E0:q0K (ps.take k)<=4096:=Ω (q8a ps k) I0.o;have I:p.length<=2000:=k0.o p (List.mem_of_getElem? hp);obtain⟨U,V⟩: ∃U:Int,((q0K (ps.take k)+p.length+12:Nat):Int)=U:=⟨_,rfl⟩
     rw[V] at HG;obtain⟨y,hy⟩: ∃y:Int,(q0K (ps.take k):Int)=y:=⟨_,rfl⟩
     rw[hy] at O0 HG;have X:U=y+(p.length:Int)+12:=by omega
     have y0:0<=y:=by omega
     have y1:y<=4096:=by omega
     have Y0:0<=U:=by omega
     have Y1:U<=6108:=by omega
     have Y:(n:Int)<=199:=by omega
     have Z0:=η X;have HY:=η hy;by_cases r0:(n:Int)*4096+y<P
     ·have Q0:decide ((n:Int)*4096+y<P)=true:=by simpa using r0
      have O:Hd (q3U C P=(((q2f (4096*n+12) ps).drop (k+1)++q1B (4096*(n+1)) (C.drop (n+1))).find? fun r=>decide (P<=(r.1:Int)))):=η (by
       rw[Q.o,b0.o,κ (by omega)])
      clear hy X V hp q E0;go_wp2_with fail
      go_roundw
      case rel=>exact⟨k+1,by omega,by go_num,O.o,D.o⟩
      case measure=>simp[intOf];omega
     ·have Q0:decide ((n:Int)*4096+y<P)=false:=by simpa using r0
      have HE:Hd (q9L (q3U C pos)= .tuple #[.string ⟨p.toArray⟩,.int .i64 ((n:Int)*4096+y),.int .i64 ((n:Int)*4096+U),.int .i64 0]):=η (by
       have e1:q3U C pos=some (4096*n+q0K (ps.take k),p):=by rw[h0.o,Q.o,b0.o,ξ (by omega)]
       rw[e1];show Value.tuple #[.string ⟨p.toArray⟩,.int .i64 ((4096*n+q0K (ps.take k):Nat):Int),.int .i64 (((4096*n+q0K (ps.take k):Nat):Int)+(p.length:Int)+12),.int .i64 0]=_;have e2:((4096*n+q0K (ps.take k):Nat):Int)=(n:Int)*4096+y:=by omega
       have e3:((4096*n+q0K (ps.take k):Nat):Int)+(p.length:Int)+12=(n:Int)*4096+U:=by omega
       rw[e3,e2])
      clear hy X V hp q E0;go_wp2_with fail;refine HG.o.mono ?_;rintro e wd ⟨rfl,q⟩;have a0:=η (D.o.trans q);clear q;go_wp2_with fail
      try rw[Exit.noGoto_ret]
      refine bodyPost_ret (q6K rfl _ _ _) rfl ?_;exact⟨by rw[HE.o];rfl,G.o.grow a0.o,N.o.trans (G.o.kExt a0.o)⟩
    ·have P0:decide ((k:Int)<(ps.length:Int))=false:=by simp;omega
     have O:Hd (q3U C P=((q1B (4096*(n+1)) (C.drop (n+1))).find? fun r=>decide (P<=(r.1:Int)))):=η (by
      rw[Q.o,List.drop_of_length_le (by rw[q4N];omega),List.nil_append])
     have Y:(n:Int)<=199:=by omega
     clear q;go_wp2_with fail
     go_roundw
     case rel=>exact⟨n+1,by go_num,by omega,O.o,G.o.grow D.o,N.o.trans (G.o.kExt D.o)⟩
     case measure=>simp[intOf];omega
end
end
section
open Go.RowKit Go.Maps Go.Sort
theorem Dk.names{w:World}{g:Nat}{F:Nat->Prop}{σ:DM}(h:Dk w g F σ):Calls Tryz.prog 66 #[.pointer (some ⟨g,0,none⟩)] w (RetN w (q1l σ)):=by
 obtain⟨i,m,l,L,b,_⟩:=h;have:=i.many;have j:L.length=σ.L.length:=by rw[<-b.files,List.length_map]
 have d:=z1b w g m L b.c0 b.c3 b.fs (by omega);have e:L.map FE.nm=q1l σ:=by unfold q1l;rw[<-b.files,List.map_map];rfl
 rwa [e] at d
section
variable {E :Oth}{w0 w:World}{g gl:Nat}{F K:Nat->Prop}{v:Value}{σ:DM}{c s sure:Int}{C:Cks}{xs:List Int}
theorem z9A(h:Dk w g F σ)(M:Lgd E σ c s C):Calls Tryz.prog 108 #[.pointer (some ⟨g,0,none⟩)] w fun e w'=>e= .returned (.tuple #[.int .i64 (C.length:Int),.bool true])/\Ext w w':=by
 have HN:=η h.names;have Q:q1l σ=(E.X.map Prod.fst++((List.range C.length).map fun k:Nat=>q0E 99 (k:Int))++E.Z.map Prod.fst):=by rw[M.pl.names,z3h,List.append_assoc]
 have d0:=M.ok.few;have O:=M.oth.few;rw[Q] at HN
 have Y:Hd (∀k (hk:k<(E.X.map Prod.fst++((List.range C.length).map fun k:Nat=>q0E 99 (k:Int))++E.Z.map Prod.fst).length) (W:World),
   ∃ R v o,Calls Tryz.prog 157 #[.string ⟨((E.X.map Prod.fst++((List.range C.length).map fun k:Nat=>q0E 99 (k:Int))++E.Z.map Prod.fst)[k]).toArray⟩] W (fun e w'=>e= .returned (.tuple #[.int .u8 R,.int .i64 v,.bool o])/\Ext W w')/\
    ((E.X.length<=k/\k<E.X.length+C.length/\R=99/\v=((k-E.X.length:Nat):Int)/\o=true)\/((k<E.X.length\/E.X.length+C.length<=k)/\(o=true->(R==99)=false)))):=η fun k hk W=>by
  have g0:k<E.X.length+C.length+E.Z.length:=by simp at hk;omega
  have x: ∀nm:List UInt8,(∃y,(y∈E.X\/y∈E.Z)/\y.1=nm)->Calls Tryz.prog 157 #[.string ⟨nm.toArray⟩] W (fun e w'=>e= .returned (.tuple #[.int .u8 (q1C nm).1.toNat,.int .i64 (q1C nm).2.1,.bool (q1C nm).2.2])/\Ext W w')/\((q1C nm).2.2=true->(((q1C nm).1.toNat:Int)==99)=false):=fun nm ⟨y,hy,e⟩=>by
   subst e;refine⟨z1g y.1 W (by have:=M.oth.len y hy;omega),fun ho=>?_⟩;have h1:=M.oth.kind y hy ho;rw[beq_eq_false_iff_ne];intro e;exact h1 (UInt8.toNat_inj.1 (by have:((q1C y.1).1.toNat:Int)=99:=e;show(q1C y.1).1.toNat=99;omega))
  rcases Nat.lt_or_ge k E.X.length with h1|h1
  ·have e:(E.X.map Prod.fst++((List.range C.length).map fun k:Nat=>q0E 99 (k:Int))++E.Z.map Prod.fst)[k]=E.X[k].1:=by
    rw[List.getElem_append_left (by simp;omega),List.getElem_append_left (by simpa using h1),List.getElem_map]
   rw[e];obtain⟨S,q2⟩:=x E.X[k].1 ⟨_,.inl (List.getElem_mem h1),rfl⟩;exact⟨_,_,_,S,.inr ⟨.inl h1,q2⟩⟩
  rcases Nat.lt_or_ge k (E.X.length+C.length) with h2|h2
  ·have e:(E.X.map Prod.fst++((List.range C.length).map fun k:Nat=>q0E 99 (k:Int))++E.Z.map Prod.fst)[k]=q0E 99 ((k-E.X.length:Nat):Int):=by
    rw[List.getElem_append_left (by simpa using h2),List.getElem_append_right (by simpa using h1),List.getElem_map,List.getElem_range];simp
   rw[e];have h3:=z1g (q0E 99 ((k-E.X.length:Nat):Int)) W (q2s _);rw[q2G (by decide) (by omega)] at h3;exact⟨99,_,true,h3,.inl ⟨h1,h2,rfl,rfl,rfl⟩⟩
  ·have hz:k-(E.X.length+C.length)<E.Z.length:=by omega
   have e:(E.X.map Prod.fst++((List.range C.length).map fun k:Nat=>q0E 99 (k:Int))++E.Z.map Prod.fst)[k]=(E.Z[k-(E.X.length+C.length)]).1:=by
    rw[List.getElem_append_right (by simpa using h2),List.getElem_map];simp
   rw[e];obtain⟨S,q2⟩:=x _ ⟨_,.inr (List.getElem_mem hz),rfl⟩;exact⟨_,_,_,S,.inr ⟨.inr h2,q2⟩⟩
 have J:(E.X.map Prod.fst++((List.range C.length).map fun k:Nat=>q0E 99 (k:Int))++E.Z.map Prod.fst).length=E.X.length+C.length+E.Z.length:=by simp;omega
 clear h M Q;generalize E.X.map Prod.fst++((List.range C.length).map fun k:Nat=>q0E 99 (k:Int))++E.Z.map Prod.fst=NL at*;generalize E.X.length=a at*;generalize C.length=n at*;obtain⟨t,ht⟩: ∃t,a+n+E.Z.length=t:=⟨_,rfl⟩
 rw[ht] at J;have N:=η J;have e0:a+n<=t/\t<=400:=by omega
 clear ht J O;go_enter Tryz.func108,Tryz.ntmps108;go_wp2_with fail;refine HN.o.mono ?_;intro e w1 hr;obtain⟨ad,cap,rfl,u,d⟩:=hr.o;rw[N.o] at u⊢;have U:=η u;have HB:=η d;clear hr u d;go_wp2_with fail
 go_loopw [2,3,12] (fun m o i W=> ∃k:Nat,k<=t/\i= .int .i64 (k:Int)/\m= .int .i64 ((min (k-a) n:Nat):Int)/\o= .bool true/\Ext w1 W) (fun _ _ i _=>t-(intOf i).toNat)
 case atStart=>exact⟨0,υ _,rfl,by simp,rfl,Ext.refl _⟩
 case round=>
  obtain⟨k,hk,rfl,rfl,rfl,d⟩:=hrel;have G:=η d;by_cases a0:k<t
  ·have hd:decide ((k:Int)<(t:Int))=true:=by simp;omega
   have l:k<NL.length:=by rw[N.o];exact a0
   obtain⟨b,c0,hv,hc,_⟩:=(U.o.ext d).cell (j:=k) (by simpa using l)
   cases hv;have B:((NL.map encStr)[k]'(by simpa using l))= .string ⟨NL[k].toArray⟩:=by simp[encStr]
   rw[B] at hc;obtain⟨R,v,o,hP,I⟩:=Y.o k l wr;have V:=η hP;have q0:IntKind.i64.wrap ((k:Int)+1)=(k:Int)+1:=by rw[ν];omega
   obtain⟨m,hm⟩: ∃m,min (k-a) n=m:=⟨_,rfl⟩
   have S:IntKind.i64.wrap ((m:Int)+1)=(m:Int)+1:=by rw[ν];omega
   generalize NL[k]=nm at*;clear B d hP;rcases I with⟨p1,p2,rfl,rfl,rfl⟩|⟨p1,p2⟩
   ·have b0:m=k-a:=by omega
    have q:min (k+1-a) n=m+1:=by omega
    rw[<-b0] at V;rw[hm];clear l;go_wp2_with fail;refine V.o.mono ?_;rintro e w2 ⟨rfl,d⟩;have D:=η (G.o.trans d);clear d;go_wp2_with fail
    go_roundw
    case rel=>exact⟨k+1,by omega,by go_num,by rw[q];go_num,rfl,D.o⟩
    case measure=>simp[intOf];omega
   ·have q:min (k+1-a) n=m:=by omega
    rw[hm];have ho:o=false\/(o=true/\(R==99)=false):=by
     cases o with
     |false=>exact .inl rfl
     |true=>exact .inr ⟨rfl,p2 rfl⟩
    clear l p2;rcases ho with rfl|⟨rfl,h0⟩
    all_goals
     go_wp2_with fail;refine V.o.mono ?_;rintro e w2 ⟨rfl,d⟩;have D:=η (G.o.trans d);clear d;go_wp2_with fail
     go_roundw
     case rel=>exact⟨k+1,by omega,by go_num,by rw[q],rfl,D.o⟩
     case measure=>simp[intOf];omega
  ·have hd:decide ((k:Int)<(t:Int))=false:=by simp;omega
   have q:min (k-a) n=n:=by omega
   have f0:decide ((n:Int)<=200)=true:=by simp;omega
   rw[q];clear d;go_wp2_with fail;go_ret2;exact⟨rfl,HB.o.trans G.o⟩
theorem y0h(h:LgP E w0 w g gl c s (q3K E C) xs sure K)(j:okC C)(l:C[n]? =some ps):
  Calls Tryz.prog 158 #[.pointer (some ⟨g,0,none⟩),.int .i64 (n:Int)] w fun e w'=>e= .returned (.tuple #[.string ⟨(q0T n ps).toArray⟩,.int .i64 (q0K ps:Int),.int .i64 0])/\LgP E w0 w' g gl c s (q3K E C) xs sure K/\Stay K w w':=by
 obtain⟨F,v,σ,h1,O,h2⟩:=h;have HE:=η O;have y:n<200:=by have:=j.few;have:=(List.getElem?_eq_some_iff.1 l).1;omega
 have Q:q0K ps<=4096:=j.size ps (List.mem_of_getElem? l);have u:=j.pay ps (List.mem_of_getElem? l);have b:=q1L n ps;have i:=q3Y O j.few l;have B:=q2s (n:Int);have I:=η (fun W=>q4E (n:Int) W)
 have N:=η (fun (W:World) (k:Ext w W)=>(show Calls Tryz.prog 106 #[.pointer (some ⟨g,0,none⟩),.string ⟨(q0E 99 (n:Int)).toArray⟩] W fun e w'=>e= .returned (.tuple #[.int .i64 (q0K ps:Int),.int .i64 0])/\W=w' by
  have h3:=q7Z (h1.d.ext k) (q0E 99 (n:Int)) B;rw[h2.size i] at h3;have h4:(((q0E 99 (n:Int),q0T n ps):List UInt8×List UInt8).2.length:Int)=(q0K ps:Int):=by simp[b]
  rw[h4] at h3
  exact h3))
 have J:=η (fun (W:World) (k:Ext w W)=>q5Q (h1.grow k) h2 i B 0 (q0K ps:Int) (by decide) (by omega) (by rw[b];omega) (by rw[b];omega));have M:((q0T n ps).drop 0).take (q0K ps)=q0T n ps:=by rw[List.drop_zero,Δ (by rw[b];omega)]
 have e0:(0:Int).toNat=0:=rfl;simp only[Int.toNat_natCast,e0,M] at J;have x:=η (fun W=>z8l (q0T n ps) n W y (by rw[b];omega) (q8W n ps));rw[q7n n ps u] at x;have q:(q8s 12 (q1b 12 ps):Int)=(q0K ps:Int):=by rw[z1i];rfl
 rw[q] at x;have HH:=η h1;generalize q0T n ps=S at*;generalize q0E 99 (n:Int)=nm at*;generalize (q0K ps:Int)=z at*;clear h1 h2 O b i u B M q Q l j;go_enter Tryz.func158,Tryz.ntmps158;go_wp2_with fail;refine(I.o _).mono ?_;rintro e w1 ⟨rfl,m⟩;have V:=η m;clear m;go_wp2_with fail;refine(N.o _ V.o).mono ?_;rintro e w2 ⟨rfl,rfl⟩;go_wp2_with fail;refine(I.o _).mono ?_;rintro e w3 ⟨rfl,m⟩;have D:=η (V.o.trans m);clear m;go_wp2_with fail;refine(J.o _ D.o).mono ?_;rintro e w4 ⟨rfl,⟨F2,R,h2,h3⟩,h4⟩;have U:=η h2;have Y:=η h3;have Z:=η ((HH.o.kExt D.o).trans h4);clear h2 h3 h4;go_wp2_with fail;refine(x.o _).mono ?_;rintro e w5 ⟨pv,rfl,X,m⟩;have G:=η m;obtain⟨pa,pc,rfl⟩:=q0G X;clear X m;go_wp2_with fail;go_ret3;exact⟨rfl,⟨_,_,R,U.o.grow G.o,HE.o,Y.o⟩,Z.o.trans (U.o.kExt G.o)⟩
end
end
section
open Go.RowKit
section
variable {E :Oth}{w0 w:World}{g gl:Nat}{F K:Nat->Prop}{v:Value}{σ:DM}{c s sure:Int}{C:Cks}{xs:List Int}
theorem y0m{D:Cks}(h:LgP E w0 w g gl c s (q3K E (D++[ps])) (q0N D) sure K)(q:okC (D++[ps])):
  Calls Tryz.prog 159 #[.pointer (some ⟨gl,0,none⟩),.int .i64 (D.length:Int),.string ⟨(q0T D.length ps).toArray⟩,.int .i64 (q0K ps:Int)] w fun e w'=>
   e= .returned (.int .i64 0)/\LgP E w0 w' g gl c s (q3K E (D++[ps])) (q0N (D++[ps])) sure K/\Stay K w w':=by
 obtain⟨F,v,σ,h1,X,h2⟩:=h;have HE:=η X;have O:D.length+1<=200:=by have:=q.few;simpa using this
 have f0:q0K ps<=4096:=q.size ps (by simp);have V:12<=q0K ps:=by unfold q0K;omega
 have x:=q1L D.length ps;have m:=q3Y X q.few (q8o D ps);have Q:=q2s (D.length:Int);have Z:=η (fun W=>q4E (D.length:Int) W);obtain⟨σ',hm,R⟩:=h2.sync m
 have b0:=η (fun (W:World) (F':Nat->Prop) (hW:Dk W g F' σ)=>(show Calls Tryz.prog 184 #[.pointer (some ⟨g,0,none⟩),.string ⟨(q0E 99 (D.length:Int)).toArray⟩] W fun e w'=>e= .returned (.int .i64 0)/\DkS W g F' σ' w' by
  have:=z8n hW (q0E 99 (D.length:Int)) Q;rw[hm] at this
  exact this))
 have u:=q0c D;obtain⟨sa,sk,U⟩:=q0G h1.l.row;rw[u] at U;subst U;have b:=h1.l.row;rw[u] at b;have M:=η b;have Y:=η h1.l.c3;have HH:=η h1;have HP:=η (And.intro X R);have e0:((q0T D.length ps).length:Int)=(q0K ps:Int):=by rw[x]
 have N:Hd (q0N D++[(q0K ps:Int)]=q0N (D++[ps])):=η (q2W D ps).symm;have l0:(q0T D.length ps).length<=4096:=by omega
 obtain⟨z,hz⟩: ∃z:Int,(q0K ps:Int)=z:=⟨_,rfl⟩
 have m0:12<=z:=by omega
 have z4:z<=4096:=by omega
 have g0:(z==0)=false:=by simp;omega
 rw[hz] at e0 N⊢;have d0:=η u;generalize q0T D.length ps=S at*;generalize q0E 99 (D.length:Int)=nm at*;have k0:D.length<=199:=by omega
 generalize hn:D.length=n at*;clear h1 h2 X R hm m Q x u b hz f0 V q hn O;go_enter Tryz.func159,Tryz.ntmps159;go_wp2_with fail;refine(Z.o _).mono ?_;rintro e w1 ⟨rfl,I⟩;have HB:=η I;have c3:=q0A I Y.o;have J:=η (HH.o.grow I);have b:=q0H M.o I;have a0:=η b;have z3:=(HH.o.grow I).l.blk.free 3;clear I b
 go_wp2_with (at_builtin;refine q0M rfl _ _ 73 rfl 0 3 _ 1 8 Tryz.underlying73 Tryz.infoI (by decide) (by decide) _ n _ rfl (q0H a0.o (q0B _ _)) _ 1 1 [.int .i64 z] rfl rfl (fun h=>by cases h) (Rd.lit _ _ _) (by simp[Value.oneCell']) (by unfold maxLen;omega) (by omega) (υ _) ?_;intro v' w2 j i B;have j0:=η j;have i0:=η i;have h0:=η B;obtain⟨_,q2,q3⟩:=J.o.pushed (q0B _ _) i;obtain⟨a',k',rfl⟩:=q0G j;have G:=J.o.push (q0B _ _) (by rw[d0.o];exact j) i B;have y:=η G;have u0:=G.1.l.c0;clear j i B G)
 refine(b0.o _ _ y.o.1.d).mono ?_;rintro e w3 ⟨rfl,h3⟩;have h4:=y.o.1.disk h3;have H4:=η h4;clear h3 h4;go_wp2_with fail;go_ret;exact⟨rfl,⟨_,_,σ',by rw[<-N.o];exact H4.o.1,HP.o⟩,(HH.o.kExt HB.o).trans (y.o.2.trans H4.o.2)⟩
theorem z8Z(h:C[k]? =some ps):C.take (k+1)=C.take k++[ps]:=by
 obtain⟨b,he⟩:=List.getElem?_eq_some_iff.1 h;rw[List.take_succ_eq_append_getElem b,he]
theorem z6J(h:LgP E w0 w g gl c s (q3K E C) [] sure K)(Q:okC C):
  Calls Tryz.prog 110 #[.pointer (some ⟨gl,0,none⟩),.int .i64 (C.length:Int)] w fun e w'=>e= .returned (.int .i64 0)/\LgP E w0 w' g gl c s (q3K E C) (q0N C) sure K/\Stay K w w':=by
 have HK:=η h;have J:=η Q;have k0:=Q.few;clear h Q;go_enter Tryz.func110,Tryz.ntmps110;go_wp2_with fail
 go_loopw [10] (fun i W=> ∃k:Nat,k<=C.length/\i= .int .i64 (k:Int)/\LgP E w0 W g gl c s (q3K E C) (q0N (C.take k)) sure K/\Stay K w W) (fun i _=>C.length-(intOf i).toNat)
 case atStart=>exact⟨0,υ _,rfl,HK.o,Stay.refl _ _⟩
 case round=>
  obtain⟨k,hk,rfl,R,B⟩:=hrel;have M:=η B;by_cases h0:k<C.length
  ·have hd:decide ((k:Int)<(C.length:Int))=true:=by simp;omega
   obtain⟨ps,m⟩: ∃ps,C[k]? =some ps:=⟨C[k],γ h0⟩
   have I:=η (y0h R J.o m);have c0:=(by obtain⟨_,_,_,h1,_,_⟩:=R;exact h1.l.c0:wr.cell? ⟨gl,0,none⟩=some (.pointer (some ⟨g,0,none⟩)))
   have a0:q0K ps<=4096:=J.o.size ps (List.mem_of_getElem? m);have G:12<=q0K ps:=by unfold q0K;omega
   have j:=q1L k ps;have hT:=z8Z m;have y:(C.take k).length=k:=by rw[Θ];omega
   have i0:((q0T k ps).length:Int)=(q0K ps:Int):=by rw[j]
   have X:Hd (q0N (C.take k)++[(q0K ps:Int)]=q0N (C.take (k+1))):=η (by rw[hT,q2W]);by_cases O:k+1=C.length
   ·have x:C=C.take k++[ps]:=by rw[<-hT,O,List.take_length]
    have g0:((k:Int)==(C.length:Int)-1)=true:=by simp;omega
    have d0:=η (fun (W:World) (hW:LgP E w0 W g gl c s (q3K E C) (q0N (C.take k)) sure K)=>(show Calls Tryz.prog 159 #[.pointer (some ⟨gl,0,none⟩),.int .i64 (k:Int),.string ⟨(q0T k ps).toArray⟩,.int .i64 (q0K ps:Int)] W fun e w'=>e= .returned (.int .i64 0)/\LgP E w0 w' g gl c s (q3K E C) (q0N C) sure K/\Stay K W w' by
     have h2:=y0m (D:=C.take k) (ps:=ps) (by rw[<-x];exact hW) (by rw[<-x];exact J.o);rw[y,<-x] at h2
     exact h2))
    generalize q0T k ps=S at*;generalize (q0K ps:Int)=z at*;clear R B m j hT y x a0 G;go_wp2_with fail;refine I.o.mono ?_;rintro e w2 ⟨rfl,h2,h3⟩;have H2:=η h2;have H3:=η (M.o.trans h3);clear h2 h3;go_wp2_with fail;refine(d0.o _ H2.o).mono ?_;rintro e w3 ⟨rfl,h2,h3⟩;have H4:=η h2;have H5:=η (H3.o.trans h3);clear h2 h3;go_wp2_with fail;go_ret;exact⟨rfl,H4.o,H5.o⟩
   ·have g0:((k:Int)==(C.length:Int)-1)=false:=by simp;omega
    obtain⟨z,hz⟩: ∃z:Int,(q0K ps:Int)=z:=⟨_,rfl⟩
    have q0:12<=z:=by omega
    have z4:z<=4096:=by omega
    have l0:(z==0)=false:=by simp;omega
    have p0:(q0T k ps).length<=4096:=by omega
    rw[hz] at i0 X I;have b0:=η y;generalize q0T k ps=S at*;clear R B m j hT y hz a0 G;go_wp2_with fail;refine I.o.mono ?_;rintro e w2 ⟨rfl,h2,h3⟩;have H3:=η (M.o.trans h3);obtain⟨F2,v2,j0,h4,hE,h5⟩:=h2;have u:=q0c (C.take k);rw[b0.o] at u;obtain⟨sa,sk,Z⟩:=q0G h4.l.row;rw[u] at Z;subst Z;have q:=h4.l.row;rw[u] at q;have e0:=η q;have c3:=h4.l.c3;have z3:=h4.l.blk.free 3;have U:=η h4;have H5:=η (And.intro hE h5);have f0:=η u;clear hE h3 h4 h5 u q c0
    go_wp2_with (at_builtin;refine q0M rfl _ _ 73 rfl 0 3 _ 1 8 Tryz.underlying73 Tryz.infoI (by decide) (by decide) _ k _ rfl (q0H e0.o (q0B _ _)) _ 1 1 [.int .i64 z] rfl rfl (fun h=>by cases h) (Rd.lit _ _ _) (by simp[Value.oneCell']) (by unfold maxLen;omega) (by omega) (υ _) ?_;intro v' w3 d b N;have o0:=η d;have n0:=η b;have m0:=η N;obtain⟨_,q2,q3⟩:=U.o.pushed (q0B _ _) b;obtain⟨a',k',rfl⟩:=q0G d;have Y:=U.o.push (q0B _ _) (by rw[f0.o];exact d) b N;have V:=η Y;clear d b N Y)
    go_roundw
    case rel=>exact⟨k+1,by omega,by go_num,⟨_,_,j0,by rw[<-X.o];exact V.o.1,H5.o⟩,H3.o.trans V.o.2⟩
    case measure=>simp[intOf];omega
  ·have hd:decide ((k:Int)<(C.length:Int))=false:=by simp;omega
   have HL:=η (show LgP E w0 wr g gl c s (q3K E C) (q0N C) sure K by
    have e:C.take k=C:=Δ (by omega)
    rwa [e] at R)
   clear R B;go_wp2_with fail;go_ret;exact⟨rfl,HL.o,M.o⟩
end
section
variable {E :Oth}{w0 w:World}{g gl:Nat}{F K:Nat->Prop}{v:Value}{σ:DM}{c s sure:Int}{C:Cks}{xs:List Int}
theorem y1C(h:DkK E w0 w g c s C K):Calls Tryz.prog 69 #[.pointer (some ⟨g,0,none⟩)] w fun e w'=> ∃gl,e= .returned (.tuple #[.pointer (some ⟨gl,0,none⟩),.int .i64 0])/\w.heap.size<=gl/\LgK E w0 w' g gl c s C (q4t C) K/\Stay K w w':=by
 obtain⟨F,σ,h1,h2⟩:=h;have B: ∀i,F i->i<w.heap.size:=by obtain⟨_,_,_,_,_,_,h⟩:=h1.d;exact h
 have S:=η (y2D h1.d);rw[h2.pl.up] at S;have Q:=q7Z h1.d [110,101,119] (by decide);rw[h2.pl.sizeN (z7E h2.oth h2.ok.few)] at Q;have HS:=η Q;have HC:=η (z9A h1.d h2);have u:=η (fun (W:World) (k:Ext w W)=>z3N (h1.d.ext k));rw[h2.pl.st] at u
 have q:=η (fun (W:World) (k:Ext w W)=>show LgP E w0 (W.alloc (.cells #[.pointer (some ⟨g,0,none⟩),.int .i64 s,.bool false,.slice none 0 0,.int .i64 0] 156)) g W.heap.size c s (q3K E C) [] 0 K/\Stay K w (W.alloc (.cells #[.pointer (some ⟨g,0,none⟩),.int .i64 s,.bool false,.slice none 0 0,.int .i64 0] 156)) from by
  have hk:=k.size;have D:=k.trans (q0B W (.cells #[.pointer (some ⟨g,0,none⟩),.int .i64 s,.bool false,.slice none 0 0,.int .i64 0] 156));have m: ∀i,q7z W.heap.size (.slice none 0 0) i->i=W.heap.size:=fun i b=>by rcases b with h|h;exact h;cases h
  refine⟨⟨F,.slice none 0 0,σ,⟨h1.d.ext D,⟨Blk.new _ _ _,World.ownsRow_nil _ _ _ _⟩,fun i b O=>?_,h1.bF,fun i b=>?_,h1.ext.trans D,fun i b=>⟨?_,(h1.k i b).2,fun O=>?_⟩⟩,h2.oth,h2.pl⟩,fun i b=>D.block i (h1.k i b).1⟩
  ·have:=m i O;have:=B i b;omega
  ·have:=m i b;have:=h1.ext.size;omega
  ·have:=(h1.k i b).1;have:=D.size;omega
  ·have:=m i O;have:=(h1.k i b).1;omega)
 have j:=η h2.ok;clear h1 h2 Q B;go_enter Tryz.func69,Tryz.ntmps69;go_wp2_with fail;refine S.o.mono ?_;rintro e w1 ⟨rfl,rfl⟩;go_wp2_with fail;refine HS.o.mono ?_;rintro e w1 ⟨rfl,rfl⟩;go_wp2_with fail;refine HC.o.mono ?_;rintro e w1 ⟨rfl,X⟩;have G:=η X;clear X;go_wp2_with fail;refine(u.o _ G.o).mono ?_;rintro e w2 ⟨rfl,rfl⟩;go_wp2_with fail;obtain⟨h3,h4⟩:=q.o _ G.o;have Z:=η h4;have J:=η (z6J h3 j.o);have M:=η G.o.size;clear h3 h4;refine J.o.mono ?_;rintro e w3 ⟨rfl,⟨Y,v3,R,x,y,U⟩,V⟩;have HE:=η (z9K x.l j.o);have z4:=x.l.blk.free 4;have c4:=x.l.c4;have N:=x.setSure (q4t C);have H8:=η N;have H6:=η U;have I:=η y;have H7:=η (Z.o.trans (V.trans N.2));clear x U V N y;go_wp2_with fail;refine HE.o.mono ?_;rintro e w4 ⟨rfl,rfl⟩;go_wp2_with fail;go_ret2;exact⟨_,rfl,M.o,⟨Y,v3,R,H8.o.1,⟨H6.o,j.o,I.o⟩⟩,H7.o⟩
end
theorem z6t{E:Oth}{w0 w:World}{g gl:Nat}{c s sure x z:Int}{C d:Cks}{K:Nat->Prop}(h:LgK E w0 w g gl c s C sure K)(p:List UInt8)(b:p.length<=9223372036854775807)(he:q1D (c-(q0p C:Int)) C p=(x,r,d))(i:q4B (c-(q0p C:Int)) sure C p=z):
  Calls Tryz.prog 74 #[.pointer (some ⟨gl,0,none⟩),.string ⟨p.toArray⟩] w fun e w'=>e= .returned (.tuple #[.int .i64 x,.int .i64 r])/\LgK E w0 w' g gl c s d z K/\Stay K w w':=by
 have h1:=z6u h p b;unfold AppR at h1;rw[he,i] at h1;exact h1
theorem y1J{E:Oth}{w0 w:World}{g gl:Nat}{c s sure:Int}{C:Cks}{K:Nat->Prop}(h:LgK E w0 w g gl c s C sure K)(pos:Int)(b: -9223372036854775808<=pos)(d:pos<=9223372036854775807)(he:q5c C pos=(p,r)):
  Calls Tryz.prog 226 #[.pointer (some ⟨gl,0,none⟩),.int .i64 pos] w fun e w'=>e= .returned (.tuple #[.string ⟨p.toArray⟩,.int .i64 r])/\LgK E w0 w' g gl c s C sure K/\Stay K w w':=by
 have h1:=y1K h pos b d;unfold ReadR at h1;rw[he] at h1;exact h1
theorem y0x{E:Oth}{w0 w:World}{g gl:Nat}{c s sure:Int}{C:Cks}{K:Nat->Prop}(h:LgK E w0 w g gl c s C sure K)(pos:Int)(b: -9223372036854775808<=pos)(d:pos<=9223372036854775807){r:Option (Nat×List UInt8)}(he:q3U C pos=r):
  Calls Tryz.prog 60 #[.pointer (some ⟨gl,0,none⟩),.int .i64 pos] w fun e w'=>e= .returned (q9L r)/\LgK E w0 w' g gl c s C sure K/\Stay K w w':=by
 have h1:=y0y h pos b d;unfold y0L at h1;rw[he] at h1;exact h1
section
variable {E :Oth}{P:List UInt8}
end
end
end Go.Proofs.YteabhdclmodefaaGreatDoor
