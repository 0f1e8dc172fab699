/- Walks. -/
import Derived.Test.YtfiibpgoplcgkaaGreatDoorG15SA
import Derived.WalkMore
import Derived.Deep.LoopGhost
set_option linter.unusedVariables false
set_option linter.unusedSimpArgs false
set_option maxRecDepth 100000
set_option maxHeartbeats 6400000
namespace Go.Proofs.YtfiibpgoplcgkaaGreatDoor
variable {k n:Nat}{ps:List (List UInt8)}{p:List UInt8}{Q:List FM->Prop}{r:Int}
section
open Go.RowKit
theorem q6o{fn:Func}{t u v x:Tmp}(h:fn.results=#[.tmp t,.tmp u,.tmp v,.tmp x])(tmps:Array Value)(P:Program)(w:World):
  (results fn tmps).run P w= .ok (.tuple #[tmps.getD t undef,tmps.getD u undef,tmps.getD v undef,tmps.getD x undef]) w:=by
 simp[results,h]
def z2Z(r:Option (Nat×List UInt8)):Value:=match r with
 |none=> .tuple #[.string ⟨#[]⟩,.int .i64 0,.int .i64 0,.int .i64 4]
 |some (a,p)=> .tuple #[.string ⟨p.toArray⟩,.int .i64 (a:Int),.int .i64 ((a:Int)+(p.length:Int)+12),.int .i64 0]
theorem z7B(C:Cks)(pos:Int):q3m C (max pos 0)=q3m C pos:=by
 unfold q3m
 congr 1
 funext r
 rw[decide_eq_decide];omega
theorem q6Z(n:Nat)(ps:List (List UInt8)):z0Y (q0L n ps) (q1Y n)=true:=by
 unfold z0Y q0L;rw[ζ (by simp),Bool.true_and,List.take_left];simp
theorem z4u{pos:Int}{b:Nat}(B:List (Nat×List UInt8))(h:ps[k]? =some p):((q1u (b+12) ps).drop k++B).find? (fun r=>decide (pos<=(r.1:Int)))=if pos<=((b+q0I (ps.take k):Nat):Int) then some (b+q0I (ps.take k),p) else((q1u (b+12) ps).drop (k+1)++B).find? fun r=>decide (pos<=(r.1:Int)):=by
 have i:=z4A ps (b+12) k p h;obtain⟨j,he⟩:=List.getElem?_eq_some_iff.1 i;rw[<-List.getElem_cons_drop j,he,List.cons_append,List.find?_cons];have e:b+12+((ps.take k).map fun p=>p.length+12).sum=b+q0I (ps.take k):=by unfold q0I;omega
 simp only[e];by_cases d:pos<=((b+q0I (ps.take k):Nat):Int)
 ·rw[ξ d,ζ d]
 ·rw[κ d,ε d]
theorem z8g{C:Cks}(h:C[n]? =some ps):q0f (4096*n) (C.drop n)=q1u (4096*n+12) ps++q0f (4096*(n+1)) (C.drop (n+1)):=by
 obtain⟨b,he⟩:=List.getElem?_eq_some_iff.1 h;rw[<-List.getElem_cons_drop b,he,q0f]
 congr 2
theorem z2h{W:World}{B:Nat}{m:Option Addr}{y:Nat}(h:W.ownsRow B 3 1 (.slice m ps.length y) ps.length ((q1W 12 ps).map fun x=>Value.int .i64 (x.1:Int)))(l:ps[k]? =some p):
  ∃b3,m=some ⟨b3,0,none⟩/\W.cell? ⟨b3,k,none⟩=some (.int .i64 (q0I (ps.take k):Int)):=by
 have i:k<ps.length:=(List.getElem?_eq_some_iff.1 l).1;obtain⟨b3,cap,o,d,_⟩:=(Own.of_row h).cell (j:=k) (by rw[List.length_map,q2m];exact i);have b:((q1W 12 ps).map fun x=>Value.int .i64 (x.1:Int))[k]'(by rw[List.length_map,q2m];exact i)= .int .i64 (q0I (ps.take k):Int):=by
  rw[List.getElem_map];have q:=q9D ps 12 k p l;obtain⟨_,u⟩:=List.getElem?_eq_some_iff.1 q;rw[u]
  rfl
 rw[b] at d
 cases o;exact⟨b3,rfl,d⟩
theorem q9F(ps:List (List UInt8))(k:Nat):q0I (ps.take k)<=q0I ps:=by
 unfold q0I
 conv=>rhs;rw[<-List.take_append_drop k ps,List.map_append,List.sum_append]
 omega
section
variable {E :Oth}{w0 w:World}{g gl:Nat}{F K:Nat->Prop}{v:Value}{σ:DM}{c s sure:Int}{C:Cks}{xs:List Int}
def y1m(E:Oth)(w0 w:World)(g gl:Nat)(c s:Int)(C:Cks)(sure:Int)(K:Nat->Prop)(pos:Int)(e:Ending)(w':World):Prop:=
 e= .returned (z2Z (q3m C pos))/\LgK E w0 w' g gl c s C sure K/\Stay K w w'
theorem y2Z(h :LgK E w0 w g gl c s C sure K)(pos:Int)(p0: -9223372036854775808<=pos)(p1:pos<=9223372036854775807):
  Calls Tryz.prog 102 #[.pointer (some ⟨gl,0,none⟩),.int .i64 pos] w (y1m E w0 w g gl c s C sure K pos):=by
 have HK:=η h;obtain⟨F,v,σ,d,j⟩:=h;have M0:=η (z0D d j.pl.up j.pl.st);have L0:=η j.ok;obtain⟨P,hP⟩: ∃P:Int,max pos 0=P:=⟨_,rfl⟩
 have k0:Hd (q3m C pos=q3m C P):=η (by rw[<-hP,z7B]);have q0:0<=P:=by omega
 have q1:P<=9223372036854775807:=by omega
 obtain⟨m,hm⟩: ∃m:Nat,P/4096=(m:Int):=⟨(P/4096).toNat,by omega⟩
 have hq:P.tdiv 4096=(m:Int):=by rw[Int.tdiv_eq_ediv_of_nonneg q0];exact hm
 have t0:(m:Int)<=2251799813685248:=by omega
 have P0:Hd (q3m C P=(q0f (4096*m) (C.drop m)).find? fun r=>decide (P<=(r.1:Int))):=η (z2Y C P L0.o.size m (by omega));have u0:(if pos<(0:Int) then(0:Int) else pos)=P:=by rw[<-hP];split<;>omega
 have HM:=η hm;clear d j u0 hq;go_enter Tryz.func102,Tryz.ntmps102;go_wp2_with fail
 go_step3
 go_wp2_with fail;refine M0.o.mono ?_;rintro e w1 ⟨rfl,x⟩;have HB:=η x;clear x;go_wp2_with fail
 go_step3
 go_wp2_with fail
 go_loopw [9] (fun i W=> ∃n:Nat,i= .int .i64 (n:Int)/\(n:Int)<=2251799813685248/\q3m C P=((q0f (4096*n) (C.drop n)).find? fun r=>decide (P<=(r.1:Int)))/\LgK E w0 W g gl c s C sure K/\Stay K w W) (fun i _=>C.length-(intOf i).toNat)
 case atStart=>exact⟨m,by rw[HM.o],t0,P0.o,HK.o.grow HB.o,HK.o.kExt HB.o⟩
 case round =>
  obtain⟨n,rfl,c1,G,hk,C0⟩:=hrel;have j0:=η G;have o0:=η C0;have i0:=η hk;obtain⟨F',v',σ',d,j⟩:=hk;have B0:=q0a C;obtain⟨sa,sk,E0⟩:=q0G d.l.row;rw[B0] at E0;subst E0;have c3:=d.l.c3;have c0:=d.l.c0;clear G C0 B0 t0 hP hm;by_cases v0:C.length<=n
  ·have HE:Hd (z2Z (q3m C pos)= .tuple #[.string ⟨#[]⟩,.int .i64 0,.int .i64 0,.int .i64 4]):=η (by
    rw[k0.o,j0.o,List.drop_of_length_le v0];rfl)
   have hd:decide ((n:Int)<(C.length:Int))=false:=by simp;omega
   clear d j;go_wp2_with fail
   try rw[Exit.noGoto_ret]
   refine bodyPost_ret (q6o rfl _ _ _) rfl ?_;exact⟨by rw[HE.o];rfl,i0.o,o0.o⟩
  have hd:decide ((n:Int)<(C.length:Int))=true:=by simp;omega
  have x0:n<C.length:=by omega
  obtain⟨ps,u⟩: ∃ps,C[n]? =some ps:=⟨C[n],γ x0⟩
  have f0:n<200:=by have:=j.ok.few;omega
  obtain⟨b,d1,hv,r0,_⟩:=d.cellAt u
  cases hv;have N:q0I ps<=4096:=j.ok.size ps (List.mem_of_getElem? u);have q:=q0V n ps;have W0:ps.length<=341:=by have:=z7l ps;unfold q0I at N;omega
  have D:=q3O j.oth j.ok.few u;have B:=j.ok.pay ps (List.mem_of_getElem? u);have K0:Hd (q3m C P=((q1u (4096*n+12) ps).drop 0++q0f (4096*(n+1)) (C.drop (n+1))).find? fun r=>decide (P<=(r.1:Int))):=η (by rw[j0.o,z8g u,List.drop_zero]);obtain⟨z,hz⟩: ∃z:Int,(q0I ps:Int)=z:=⟨_,rfl⟩
  rw[hz] at r0;have z0:0<=z:=by omega
  have z1:z<=4096:=by omega
  have A0:=q2l (n:Int);have H0:=η (fun W=>q3j (n:Int) W);have m0:=η (fun (W:World) (k:Ext wr W)=>q6O (d.grow k) j D A0 0 z (by decide) z0 (by rw[q];omega) (by rw[q];omega));have G0:z.toNat=q0I ps:=by omega
  have D0:((q0L n ps).drop 0).take (q0I ps)=q0L n ps:=by rw[List.drop_zero,Δ (by rw[q];omega)]
  have e0:(0:Int).toNat=0:=rfl;simp only[G0,e0,D0] at m0;have X:=η (fun W=>z4I (q0L n ps) n W f0 (by rw[q];omega) (q6Z n ps));rw[q5c n ps B] at X;generalize T0:(q9e 12 (q1W 12 ps):Int)=ee at X
  have I0:=η (fun (k:Nat) (p:List UInt8) (h:ps[k]? =some p) (W:World)=>(show Calls Tryz.prog 164 #[.string ⟨(q0L n ps).toArray⟩,.int .i64 (q0I (ps.take k):Int)] W fun e w'=>e= .returned (.tuple #[.string ⟨p.toArray⟩,.int .i64 ((q0I (ps.take k)+p.length+12:Nat):Int),.bool true])/\Ext W w' by
   have d:=q9n (q0L n ps) (q0I (ps.take k)) W (by rw[q];omega) (by
    have h3:(q0I (ps.take k):Nat)<=4096:=Ω (q9F ps k) N
    omega)
   have j:z1C (q0L n ps) (q0I (ps.take k))= .tuple #[.string ⟨p.toArray⟩,.int .i64 ((q0I (ps.take k)+p.length+12:Nat):Int),.bool true]:=by
    unfold z1C;rw[y0B n ps k p h (B p (List.mem_of_getElem? h))]
   rw[j] at d
   exact d))
  have O:Hd (∀(W:World) (F':Nat->Prop) (τ:DM),LgF w0 W g gl F' (.slice (some ⟨b,0,none⟩) C.length sk) τ s (q0M C) sure K->W.cell? ⟨gl,0,none⟩=some (.pointer (some ⟨g,0,none⟩))/\W.cell? ⟨gl,3,none⟩=some (.slice (some ⟨b,0,none⟩) C.length sk)/\W.cell? ⟨b,n,none⟩=some (.int .i64 z)):=η fun W F' τ hW=>by
   obtain⟨b2,k2,e1,e2,_⟩:=hW.cellAt u
   cases e1;rw[hz] at e2;exact⟨hW.l.c0,hW.l.c3,e2⟩
  have hw:Ext wr wr.drew:=(Ext.refl wr).drew;have HW:=η hw;obtain⟨d0,d3,dz⟩:=O.o _ _ _ (d.grow hw);have Z0:=η j;generalize q0L n ps=S at*;generalize q0C 99 (n:Int)=nm at*;have HZ:=η hz;have a1:=η u;have J0:=η N;have l0:=η B;clear d j q D B A0 G0 D0 T0 hw hz u N r0 v0;go_wp2_with fail
  go_region_held3 (fun W=>W.cell? ⟨gl,0,none⟩=some (.pointer (some ⟨g,0,none⟩))/\W.cell? ⟨gl,3,none⟩=some (.slice (some ⟨b,0,none⟩) C.length sk)/\W.cell? ⟨b,n,none⟩=some (.int .i64 z))
   (first|exact O0.o|exact N0.o|exact⟨d0,d3,dz⟩)
   (first
    |(go_at_call 161;refine(H0.o _).mono ?_;rintro e wa ⟨rfl,d⟩;have H1:=η (HW.o.trans d);have N0:=η (And.intro (q0A d d0) (And.intro (q0A d d3) (q0A d dz)));clear d)
    |(go_at_call 160;refine(m0.o _ H1.o).mono ?_;rintro e wb ⟨rfl,⟨F2,V0,j,h3⟩,h4⟩;have H2:=η j;have H3:=η h3;have H4:=η h4;have O0:=η (O.o _ _ _ j);clear j h3 h4))
  all_goals
   go_wp2_with fail;refine(X.o _).mono ?_;rintro e wc ⟨pv,rfl,hr,x⟩;have X0:=η x;obtain⟨pa,pc,rfl⟩:=q0G hr;have n0:=η hr;have M:(q1W 12 ps).length=ps.length:=q2m ps 12;rw[M] at n0;rw[M];have J:=η (show LgK E w0 wc g gl c s C sure K from⟨F2,_,V0,H2.o.grow x,H3.o⟩);have R:=η (o0.o.trans ((i0.o.kExt H1.o).trans (H4.o.trans (H2.o.kExt x))));clear hr x M;go_wp2_with fail
   go_loopw [72] (fun i W=> ∃k:Nat,k<=ps.length/\i= .int .i64 (k:Int)/\q3m C P=(((q1u (4096*n+12) ps).drop k++q0f (4096*(n+1)) (C.drop (n+1))).find? fun r=>decide (P<=(r.1:Int)))/\Ext wc W) (fun i _=>ps.length-(intOf i).toNat)
   case atStart=>exact⟨0,υ _,rfl,K0.o,Ext.refl _⟩
   case round=>
    obtain⟨k,hk,rfl,G,x⟩:=hrel;have V:=η G;have I:=η x;clear G;by_cases U0:k<ps.length
    ·obtain⟨p,hp⟩: ∃p,ps[k]? =some p:=⟨ps[k],γ U0⟩
     have R0:decide ((k:Int)<(ps.length:Int))=true:=by simp;omega
     obtain⟨b3,rfl,Q0⟩:=z2h (q0O n0.o x) hp;have HG:=η (I0.o k p hp wr);have h0:=η (z4u (pos:=P) (b:=4096*n) (q0f (4096*(n+1)) (C.drop (n+1))) hp);have F0:q0I (ps.take k)<=4096:=Ω (q9F ps k) J0.o;have M:p.length<=2000:=l0.o p (List.mem_of_getElem? hp);obtain⟨Y,Z⟩: ∃Y:Int,((q0I (ps.take k)+p.length+12:Nat):Int)=Y:=⟨_,rfl⟩
     rw[Z] at HG;obtain⟨y,hy⟩: ∃y:Int,(q0I (ps.take k):Int)=y:=⟨_,rfl⟩
     rw[hy] at Q0 HG;have a0:Y=y+(p.length:Int)+12:=by omega
     have y0:0<=y:=by omega
     have y1:y<=4096:=by omega
     have Y0:0<=Y:=by omega
     have Y1:Y<=6108:=by omega
     have b0:(n:Int)<=199:=by omega
     have b1:=η a0;have HY:=η hy;by_cases s0:(n:Int)*4096+y<P
     ·have S0:decide ((n:Int)*4096+y<P)=true:=by simpa using s0
      have U:Hd (q3m C P=(((q1u (4096*n+12) ps).drop (k+1)++q0f (4096*(n+1)) (C.drop (n+1))).find? fun r=>decide (P<=(r.1:Int)))):=η (by
       rw[V.o,h0.o,κ (by omega)])
      clear hy a0 Z hp x F0;go_wp2_with fail
      go_roundw
      case rel=>exact⟨k+1,by omega,by go_num,U.o,I.o⟩
      case measure=>simp[intOf];omega
     ·have S0:decide ((n:Int)*4096+y<P)=false:=by simpa using s0
      have HE:Hd (z2Z (q3m C pos)= .tuple #[.string ⟨p.toArray⟩,.int .i64 ((n:Int)*4096+y),.int .i64 ((n:Int)*4096+Y),.int .i64 0]):=η (by
       have e1:q3m C pos=some (4096*n+q0I (ps.take k),p):=by rw[k0.o,V.o,h0.o,ξ (by omega)]
       rw[e1];show Value.tuple #[.string ⟨p.toArray⟩,.int .i64 ((4096*n+q0I (ps.take k):Nat):Int),.int .i64 (((4096*n+q0I (ps.take k):Nat):Int)+(p.length:Int)+12),.int .i64 0]=_;have e2:((4096*n+q0I (ps.take k):Nat):Int)=(n:Int)*4096+y:=by omega
       have e3:((4096*n+q0I (ps.take k):Nat):Int)+(p.length:Int)+12=(n:Int)*4096+Y:=by omega
       rw[e3,e2])
      clear hy a0 Z hp x F0;go_wp2_with fail;refine HG.o.mono ?_;rintro e wd ⟨rfl,x⟩;have g0:=η (I.o.trans x);clear x;go_wp2_with fail
      try rw[Exit.noGoto_ret]
      refine bodyPost_ret (q6o rfl _ _ _) rfl ?_;exact⟨by rw[HE.o];rfl,J.o.grow g0.o,R.o.trans (J.o.kExt g0.o)⟩
    ·have R0:decide ((k:Int)<(ps.length:Int))=false:=by simp;omega
     have U:Hd (q3m C P=((q0f (4096*(n+1)) (C.drop (n+1))).find? fun r=>decide (P<=(r.1:Int)))):=η (by
      rw[V.o,List.drop_of_length_le (by rw[q4k];omega),List.nil_append])
     have b0:(n:Int)<=199:=by omega
     clear x;go_wp2_with fail
     go_roundw
     case rel=>exact⟨n+1,by go_num,by omega,U.o,J.o.grow I.o,R.o.trans (J.o.kExt I.o)⟩
     case measure=>simp[intOf];omega
end
end
section
open Go.RowKit Go.Maps Go.Sort
theorem Dk.names{w:World}{g:Nat}{F:Nat->Prop}{σ:DM}(h:Dk w g F σ):Calls Tryz.prog 81 #[.pointer (some ⟨g,0,none⟩)] w (RetN w (q1q σ)):=by
 obtain⟨i,m,l,L,b,_⟩:=h;have:=i.many;have j:L.length=σ.L.length:=by rw[<-b.files,List.length_map]
 have d:=z2V w g m L b.c0 b.c3 b.fs (by omega);have e:L.map FE.nm=q1q σ:=by unfold q1q;rw[<-b.files,List.map_map];rfl
 rwa [e] at d
section
variable {E :Oth}{w0 w:World}{g gl:Nat}{F K:Nat->Prop}{v:Value}{σ:DM}{c s sure:Int}{C:Cks}{xs:List Int}
theorem z6F{m0:Nat}(h:Dk w g F σ)(U:okOth E)(e0:m0<=200)(S:q1q σ=(E.X.map Prod.fst++((List.range m0).map fun k:Nat=>q0C 99 (k:Int))++E.Z.map Prod.fst)):Calls Tryz.prog 137 #[.pointer (some ⟨g,0,none⟩)] w fun e w'=>e= .returned (.tuple #[.int .i64 (m0:Int),.bool true])/\Ext w w':=by
 have HN:=η h.names;have R:=U.few;rw[S] at HN
 have a0:Hd (∀k (hk:k<(E.X.map Prod.fst++((List.range m0).map fun k:Nat=>q0C 99 (k:Int))++E.Z.map Prod.fst).length) (W:World),
   ∃ kd v o,Calls Tryz.prog 196 #[.string ⟨((E.X.map Prod.fst++((List.range m0).map fun k:Nat=>q0C 99 (k:Int))++E.Z.map Prod.fst)[k]).toArray⟩] W (fun e w'=>e= .returned (.tuple #[.int .u8 kd,.int .i64 v,.bool o])/\Ext W w')/\
    ((E.X.length<=k/\k<E.X.length+m0/\kd=99/\v=((k-E.X.length:Nat):Int)/\o=true)\/((k<E.X.length\/E.X.length+m0<=k)/\(o=true->(kd==99)=false)))):=η fun k hk W=>by
  have h0:k<E.X.length+m0+E.Z.length:=by simp at hk;omega
  have B: ∀nm:List UInt8,(∃y,(y∈E.X\/y∈E.Z)/\y.1=nm)->Calls Tryz.prog 196 #[.string ⟨nm.toArray⟩] W (fun e w'=>e= .returned (.tuple #[.int .u8 (q1F nm).1.toNat,.int .i64 (q1F nm).2.1,.bool (q1F nm).2.2])/\Ext W w')/\((q1F nm).2.2=true->(((q1F nm).1.toNat:Int)==99)=false):=fun nm ⟨y,hy,e⟩=>by
   subst e;refine⟨z2e y.1 W (by have:=U.len y hy;omega),fun ho=>?_⟩;have x:=U.kind y hy ho;rw[beq_eq_false_iff_ne];intro e;exact x (UInt8.toNat_inj.1 (by have:((q1F y.1).1.toNat:Int)=99:=e;show(q1F y.1).1.toNat=99;omega))
  rcases Nat.lt_or_ge k E.X.length with x|x
  ·have e:(E.X.map Prod.fst++((List.range m0).map fun k:Nat=>q0C 99 (k:Int))++E.Z.map Prod.fst)[k]=E.X[k].1:=by
    rw[List.getElem_append_left (by simp;omega),List.getElem_append_left (by simpa using x),List.getElem_map]
   rw[e];obtain⟨V,q2⟩:=B E.X[k].1 ⟨_,.inl (List.getElem_mem x),rfl⟩;exact⟨_,_,_,V,.inr ⟨.inl x,q2⟩⟩
  rcases Nat.lt_or_ge k (E.X.length+m0) with O|O
  ·have e:(E.X.map Prod.fst++((List.range m0).map fun k:Nat=>q0C 99 (k:Int))++E.Z.map Prod.fst)[k]=q0C 99 ((k-E.X.length:Nat):Int):=by
    rw[List.getElem_append_left (by simpa using O),List.getElem_append_right (by simpa using x),List.getElem_map,List.getElem_range];simp
   rw[e];have h3:=z2e (q0C 99 ((k-E.X.length:Nat):Int)) W (q2l _);rw[q1h (by decide) (by omega)] at h3;exact⟨99,_,true,h3,.inl ⟨x,O,rfl,rfl,rfl⟩⟩
  ·have hz:k-(E.X.length+m0)<E.Z.length:=by omega
   have e:(E.X.map Prod.fst++((List.range m0).map fun k:Nat=>q0C 99 (k:Int))++E.Z.map Prod.fst)[k]=(E.Z[k-(E.X.length+m0)]).1:=by
    rw[List.getElem_append_right (by simpa using O),List.getElem_map];simp
   rw[e];obtain⟨V,q2⟩:=B _ ⟨_,.inr (List.getElem_mem hz),rfl⟩;exact⟨_,_,_,V,.inr ⟨.inr O,q2⟩⟩
 have M:(E.X.map Prod.fst++((List.range m0).map fun k:Nat=>q0C 99 (k:Int))++E.Z.map Prod.fst).length=E.X.length+m0+E.Z.length:=by simp;omega
 clear h U S;generalize E.X.map Prod.fst++((List.range m0).map fun k:Nat=>q0C 99 (k:Int))++E.Z.map Prod.fst=NL at*;generalize E.X.length=a at*;obtain⟨t,ht⟩: ∃t,a+m0+E.Z.length=t:=⟨_,rfl⟩
 rw[ht] at M;have N:=η M;have f0:a+m0<=t/\t<=400:=by omega
 clear ht M R;go_enter Tryz.func137,Tryz.ntmps137;go_wp2_with fail;refine HN.o.mono ?_;intro e w1 hr;obtain⟨ad,cap,rfl,u,d⟩:=hr.o;rw[N.o] at u⊢;have Y:=η u;have HB:=η d;clear hr u d;go_wp2_with fail
 go_loopw [2,3,12] (fun m o i W=> ∃k:Nat,k<=t/\i= .int .i64 (k:Int)/\m= .int .i64 ((min (k-a) m0:Nat):Int)/\o= .bool true/\Ext w1 W) (fun _ _ i _=>t-(intOf i).toNat)
 case atStart=>exact⟨0,υ _,rfl,by simp,rfl,Ext.refl _⟩
 case round=>
  obtain⟨k,hk,rfl,rfl,rfl,d⟩:=hrel;have I:=η d;by_cases b0:k<t
  ·have hd:decide ((k:Int)<(t:Int))=true:=by simp;omega
   have l:k<NL.length:=by rw[N.o];exact b0
   obtain⟨b,d0,hv,hc,_⟩:=(Y.o.ext d).cell (j:=k) (by simpa using l)
   cases hv;have D:((NL.map encStr)[k]'(by simpa using l))= .string ⟨NL[k].toArray⟩:=by simp[encStr]
   rw[D] at hc;obtain⟨kd,v,o,hP,J⟩:=a0.o k l wr;have HP:=η hP;have q0:IntKind.i64.wrap ((k:Int)+1)=(k:Int)+1:=by rw[ν];omega
   obtain⟨m,hm⟩: ∃m,min (k-a) m0=m:=⟨_,rfl⟩
   have V:IntKind.i64.wrap ((m:Int)+1)=(m:Int)+1:=by rw[ν];omega
   generalize NL[k]=nm at*;clear D d hP;rcases J with⟨p1,p2,rfl,rfl,rfl⟩|⟨p1,p2⟩
   ·have c0:m=k-a:=by omega
    have q:min (k+1-a) m0=m+1:=by omega
    rw[<-c0] at HP;rw[hm];clear l;go_wp2_with fail;refine HP.o.mono ?_;rintro e w2 ⟨rfl,d⟩;have G:=η (I.o.trans d);clear d;go_wp2_with fail
    go_roundw
    case rel=>exact⟨k+1,by omega,by go_num,by rw[q];go_num,rfl,G.o⟩
    case measure=>simp[intOf];omega
   ·have q:min (k+1-a) m0=m:=by omega
    rw[hm];have ho:o=false\/(o=true/\(kd==99)=false):=by
     cases o with
     |false=>exact .inl rfl
     |true=>exact .inr ⟨rfl,p2 rfl⟩
    clear l p2;rcases ho with rfl|⟨rfl,i0⟩
    all_goals
     go_wp2_with fail;refine HP.o.mono ?_;rintro e w2 ⟨rfl,d⟩;have G:=η (I.o.trans d);clear d;go_wp2_with fail
     go_roundw
     case rel=>exact⟨k+1,by omega,by go_num,by rw[q],rfl,G.o⟩
     case measure=>simp[intOf];omega
  ·have hd:decide ((k:Int)<(t:Int))=false:=by simp;omega
   have q:min (k-a) m0=m0:=by omega
   have g0:decide ((m0:Int)<=200)=true:=by simp;omega
   rw[q];clear d;go_wp2_with fail;go_ret2;exact⟨rfl,HB.o.trans I.o⟩
theorem y0Y{k0:Int}(h:Dk w g F σ)(b:Lgd E σ c s C k0):Calls Tryz.prog 137 #[.pointer (some ⟨g,0,none⟩)] w fun e w'=>e= .returned (.tuple #[.int .i64 (C.length:Int),.bool true])/\Ext w w':=
 z6F h b.oth b.ok.few (by rw[b.pl.names,z4g,List.append_assoc])
theorem z6s{l:List (List UInt8×List UInt8)}{S:List UInt8}{en:Int}(h:LgP E w0 w g gl c s l xs sure Q K)(N:n<200)(b:q0F Prod.fst (q0C 99 (n:Int)) l=some (q0C 99 (n:Int),S))(O:S.length<=4096)
  (G: ∀W,Calls Tryz.prog 163 #[.string ⟨S.toArray⟩,.int .i64 (n:Int)] W fun e w'=> ∃v,e= .returned (.tuple #[v,.int .i64 en,.bool true])/\(∃ao k c,v= .slice ao k c)/\Ext W w'):
  Calls Tryz.prog 197 #[.pointer (some ⟨g,0,none⟩),.int .i64 (n:Int)] w fun e w'=>e= .returned (.tuple #[.string ⟨S.toArray⟩,.int .i64 en,.int .i64 0])/\LgP E w0 w' g gl c s l xs sure Q K/\Stay K w w':=by
 obtain⟨F,v,σ,J,Z,q,hQ⟩:=h;have HE:=η Z;have HQ:=η hQ;clear hQ;have m:=q2l (n:Int);have y:=η (fun W=>q3j (n:Int) W)
 have B:=η (fun (W:World) (k:Ext w W)=>(show Calls Tryz.prog 135 #[.pointer (some ⟨g,0,none⟩),.string ⟨(q0C 99 (n:Int)).toArray⟩] W fun e w'=>e= .returned (.tuple #[.int .i64 (S.length:Int),.int .i64 0])/\W=w' by
  have D:=q6p (J.d.ext k) (q0C 99 (n:Int)) m;rw[q.size b] at D
  exact D))
 have j:=η (fun (W:World) (k:Ext w W)=>z0o (J.grow k) q b m 0 (S.length:Int) (by decide) (by omega) (by simp only;omega) (by simp only;omega));have I:(S.drop 0).take S.length=S:=by rw[List.drop_zero,List.take_length]
 have e0:(0:Int).toNat=0:=rfl;simp only[Int.toNat_natCast,e0,I] at j;have M:=η G;have HH:=η J;generalize q0C 99 (n:Int)=nm at*;obtain⟨z,hz⟩: ∃z:Int,(S.length:Int)=z:=⟨_,rfl⟩
 rw[hz] at B j;clear J q Z b m I O G hz;go_enter Tryz.func197,Tryz.ntmps197;go_wp2_with fail;refine(y.o _).mono ?_;rintro e w1 ⟨rfl,i⟩;have X:=η i;clear i;go_wp2_with fail;refine(B.o _ X.o).mono ?_;rintro e w2 ⟨rfl,rfl⟩;go_wp2_with fail;refine(y.o _).mono ?_;rintro e w3 ⟨rfl,i⟩;have u:=η (X.o.trans i);clear i;go_wp2_with fail;refine(j.o _ u.o).mono ?_;rintro e w4 ⟨rfl,⟨F2,R,q,D⟩,Y⟩;have U:=η q;have V:=η D;have H4:=η ((HH.o.kExt u.o).trans Y);clear q D Y;go_wp2_with fail;refine(M.o _).mono ?_;rintro e w5 ⟨pv,rfl,⟨pa,pk,pc,rfl⟩,i⟩;have x:=η i;clear i;go_wp2_with fail;go_ret3;exact⟨rfl,⟨_,_,R,U.o.grow x.o,HE.o,V.o.1,by rw[V.o.2];exact HQ.o⟩,H4.o.trans (U.o.kExt x.o)⟩
theorem y2K(h:LgP E w0 w g gl c s (q2a E C) xs sure Q K)(d:okC C)(i:C[n]? =some ps):
  Calls Tryz.prog 197 #[.pointer (some ⟨g,0,none⟩),.int .i64 (n:Int)] w fun e w'=>e= .returned (.tuple #[.string ⟨(q0L n ps).toArray⟩,.int .i64 (q0I ps:Int),.int .i64 0])/\LgP E w0 w' g gl c s (q2a E C) xs sure Q K/\Stay K w w':=by
 have b:n<200:=by have:=d.few;have:=(List.getElem?_eq_some_iff.1 i).1;omega
 have m:q0I ps<=4096:=d.size ps (List.mem_of_getElem? i);have l:okOth E:=by obtain⟨_,_,_,_,l,_⟩:=h;exact l
 refine z6s h b (q3O l d.few i) (by rw[q0V];exact m) fun W=>?_
 have j:=z4I (q0L n ps) n W b (by rw[q0V];omega) (q6Z n ps);rw[q5c n ps (d.pay ps (List.mem_of_getElem? i)),q5W] at j;refine j.mono ?_;rintro e w' ⟨v,rfl,o,q⟩;obtain⟨a,u,rfl⟩:=q0G o;exact⟨_,rfl,⟨_,_,_,rfl⟩,q⟩
end
end
section
open Go.RowKit
section
variable {E :Oth}{w0 w:World}{g gl:Nat}{F K:Nat->Prop}{v:Value}{σ:DM}{c s sure:Int}{C:Cks}{xs:List Int}
theorem y2O{D:Cks}(h:LgP E w0 w g gl c s (q2a E (D++[ps])) (q0M D) sure (fun L=>Sur L (D.length+1) 0) K)(u:okC (D++[ps])):
  Calls Tryz.prog 198 #[.pointer (some ⟨gl,0,none⟩),.int .i64 (D.length:Int),.string ⟨(q0L D.length ps).toArray⟩,.int .i64 (q0I ps:Int)] w fun e w'=>
   e= .returned (.int .i64 0)/\LgP E w0 w' g gl c s (q2a E (D++[ps])) (q0M (D++[ps])) sure AllS K/\Stay K w w':=by
 obtain⟨F,v,σ,R,hE,h2,hQ⟩:=h;have HE:=η hE;have U:D.length+1<=200:=by have:=u.few;simpa using this
 have i0:q0I ps<=4096:=u.size ps (by simp);have a0:12<=q0I ps:=by unfold q0I;omega
 have y:=q0V D.length ps;have q:=q3O hE u.few (q9W D ps);have X:=q2l (D.length:Int);have d0:=η (fun W=>q3j (D.length:Int) W);obtain⟨σ',hm,Y⟩:=h2.sync q;have V:AllS σ'.L:=z4M hm hQ fun j hj=>by rw[show j=D.length by omega]
 have f0:=η (fun (W:World) (F':Nat->Prop) (hW:Dk W g F' σ)=>(show Calls Tryz.prog 228 #[.pointer (some ⟨g,0,none⟩),.string ⟨(q0C 99 (D.length:Int)).toArray⟩] W fun e w'=>e= .returned (.int .i64 0)/\DkS W g F' σ' w' by
  have:=z7m hW (q0C 99 (D.length:Int)) X;rw[hm] at this
  exact this))
 have x:=q0a D;obtain⟨sa,sk,Z⟩:=q0G R.l.row;rw[x] at Z;subst Z;have b:=R.l.row;rw[x] at b;have N:=η b;have b0:=η R.l.c3;have HH:=η R;have HP:=η (And.intro hE (And.intro Y V));have h0:((q0L D.length ps).length:Int)=(q0I ps:Int):=by rw[y]
 have O:Hd (q0M D++[(q0I ps:Int)]=q0M (D++[ps])):=η (q1v D ps).symm;have o0:(q0L D.length ps).length<=4096:=by omega
 obtain⟨z,hz⟩: ∃z:Int,(q0I ps:Int)=z:=⟨_,rfl⟩
 have p0:12<=z:=by omega
 have z4:z<=4096:=by omega
 have j0:(z==0)=false:=by simp;omega
 rw[hz] at h0 O⊢;have g0:=η x;generalize q0L D.length ps=S at*;generalize q0C 99 (D.length:Int)=nm at*;have n0:D.length<=199:=by omega
 generalize hn:D.length=n at*;clear R h2 hE Y hQ V hm q X y x b hz i0 a0 u hn U;go_enter Tryz.func198,Tryz.ntmps198;go_wp2_with fail;refine(d0.o _).mono ?_;rintro e w1 ⟨rfl,J⟩;have HB:=η J;have c3:=q0A J b0.o;have M:=η (HH.o.grow J);have b:=q0O N.o J;have e0:=η b;have z3:=(HH.o.grow J).l.blk.free 3;clear J b
 go_wp2_with (at_builtin;refine q0R rfl _ _ 37 rfl 0 3 _ 1 8 Tryz.underlying37 Tryz.infoI (by decide) (by decide) _ n _ rfl (q0O e0.o (q0B _ _)) _ 1 1 [.int .i64 z] rfl rfl (fun h=>by cases h) (Rd.lit _ _ _) (by simp[Value.oneCell']) (by unfold maxLen;omega) (by omega) (υ _) ?_;intro v' w2 m i G;have m0:=η m;have l0:=η i;have k0:=η G;obtain⟨_,q2,q3⟩:=M.o.pushed (q0B _ _) i;obtain⟨a',k',rfl⟩:=q0G m;have I:=M.o.push (q0B _ _) (by rw[g0.o];exact m) i G;have B:=η I;have u0:=I.1.l.c0;clear m i G I)
 refine(f0.o _ _ B.o.1.d).mono ?_;rintro e w3 ⟨rfl,h3⟩;have h4:=B.o.1.disk h3;have H4:=η h4;clear h3 h4;go_wp2_with fail;go_ret;exact⟨rfl,⟨_,_,σ',by rw[<-O.o];exact H4.o.1,HP.o⟩,(HH.o.kExt HB.o).trans (B.o.2.trans H4.o.2)⟩
theorem z4O(h:C[k]? =some ps):C.take (k+1)=C.take k++[ps]:=by
 obtain⟨b,he⟩:=List.getElem?_eq_some_iff.1 h;rw[List.take_succ_eq_append_getElem b,he]
theorem z7V(h:LgP E w0 w g gl c s (q2a E C) [] sure (fun L=>Sur L C.length 0) K)(a0:okC C):
  Calls Tryz.prog 139 #[.pointer (some ⟨gl,0,none⟩),.int .i64 (C.length:Int)] w fun e w'=>e= .returned (.int .i64 0)/\LgP E w0 w' g gl c s (q2a E C) (q0M C) sure AllS K/\Stay K w w':=by
 have HK:=η h;have V:=η a0;have q0:=a0.few;clear h a0;go_enter Tryz.func139,Tryz.ntmps139;go_wp2_with fail
 go_loopw [10] (fun i W=> ∃k:Nat,k<=C.length/\i= .int .i64 (k:Int)/\LgP E w0 W g gl c s (q2a E C) (q0M (C.take k)) sure (fun L=>Sur L C.length 0) K/\Stay K w W/\(k<C.length\/C=[])) (fun i _=>C.length-(intOf i).toNat)
 case atStart=>exact⟨0,υ _,rfl,HK.o,Stay.refl _ _,by cases C with|nil=>exact .inr rfl|cons=>exact .inl (by simp)⟩
 case round=>
  obtain⟨k,hk,rfl,Z,M,J⟩:=hrel;have X:=η M;by_cases o0:k<C.length
  ·have hd:decide ((k:Int)<(C.length:Int))=true:=by simp;omega
   obtain⟨ps,u⟩: ∃ps,C[k]? =some ps:=⟨C[k],γ o0⟩
   have U:=η (y2K Z V.o u);have c0:=(by obtain⟨_,_,_,h1,_,_⟩:=Z;exact h1.l.c0:wr.cell? ⟨gl,0,none⟩=some (.pointer (some ⟨g,0,none⟩)))
   have i0:q0I ps<=4096:=V.o.size ps (List.mem_of_getElem? u);have R:12<=q0I ps:=by unfold q0I;omega
   have q:=q0V k ps;have hT:=z4O u;have j:(C.take k).length=k:=by rw[Θ];omega
   have p0:((q0L k ps).length:Int)=(q0I ps:Int):=by rw[q]
   have f0:Hd (q0M (C.take k)++[(q0I ps:Int)]=q0M (C.take (k+1))):=η (by rw[hT,q1v]);by_cases m:k+1=C.length
   ·have G:C=C.take k++[ps]:=by rw[<-hT,m,List.take_length]
    have n0:((k:Int)==(C.length:Int)-1)=true:=by simp;omega
    have k0:=η (fun (W:World) (hW:LgP E w0 W g gl c s (q2a E C) (q0M (C.take k)) sure (fun L=>Sur L C.length 0) K)=>(show Calls Tryz.prog 198 #[.pointer (some ⟨gl,0,none⟩),.int .i64 (k:Int),.string ⟨(q0L k ps).toArray⟩,.int .i64 (q0I ps:Int)] W fun e w'=>e= .returned (.int .i64 0)/\LgP E w0 w' g gl c s (q2a E C) (q0M C) sure AllS K/\Stay K W w' by
     have B:=y2O (D:=C.take k) (ps:=ps) (by rw[<-G,j,m];exact hW) (by rw[<-G];exact V.o);rw[j,<-G] at B
     exact B))
    generalize q0L k ps=S at*;generalize (q0I ps:Int)=z at*;clear Z M J u q hT j G i0 R;go_wp2_with fail;refine U.o.mono ?_;rintro e w2 ⟨rfl,B,N⟩;have H2:=η B;have H3:=η (X.o.trans N);clear B N;go_wp2_with fail;refine(k0.o _ H2.o).mono ?_;rintro e w3 ⟨rfl,B,N⟩;have H4:=η B;have H5:=η (H3.o.trans N);clear B N;go_wp2_with fail;go_ret;exact⟨rfl,H4.o,H5.o⟩
   ·have n0:((k:Int)==(C.length:Int)-1)=false:=by simp;omega
    obtain⟨z,hz⟩: ∃z:Int,(q0I ps:Int)=z:=⟨_,rfl⟩
    have x0:12<=z:=by omega
    have z4:z<=4096:=by omega
    have r0:(z==0)=false:=by simp;omega
    have v0:(q0L k ps).length<=4096:=by omega
    rw[hz] at p0 f0 U;have j0:=η j;generalize q0L k ps=S at*;clear Z M J u q hT j hz i0 R;go_wp2_with fail;refine U.o.mono ?_;rintro e w2 ⟨rfl,B,N⟩;have H3:=η (X.o.trans N);obtain⟨F2,v2,b0,O,hE,h5,I⟩:=B;have y:=q0a (C.take k);rw[j0.o] at y;obtain⟨sa,sk,h0⟩:=q0G O.l.row;rw[y] at h0;subst h0;have x:=O.l.row;rw[y] at x;have l0:=η x;have c3:=O.l.c3;have z3:=O.l.blk.free 3;have d0:=η O;have H5:=η (And.intro hE (And.intro h5 I));have m0:=η y;clear hE N O h5 I y x c0
    go_wp2_with (at_builtin;refine q0R rfl _ _ 37 rfl 0 3 _ 1 8 Tryz.underlying37 Tryz.infoI (by decide) (by decide) _ k _ rfl (q0O l0.o (q0B _ _)) _ 1 1 [.int .i64 z] rfl rfl (fun h=>by cases h) (Rd.lit _ _ _) (by simp[Value.oneCell']) (by unfold maxLen;omega) (by omega) (υ _) ?_;intro v' w3 d b Y;have u0:=η d;have t0:=η b;have s0:=η Y;obtain⟨_,q2,q3⟩:=d0.o.pushed (q0B _ _) b;obtain⟨a',k',rfl⟩:=q0G d;have g0:=d0.o.push (q0B _ _) (by rw[m0.o];exact d) b Y;have e0:=η g0;clear d b Y g0)
    go_roundw
    case rel=>exact⟨k+1,by omega,by go_num,⟨_,_,b0,by rw[<-f0.o];exact e0.o.1,H5.o⟩,H3.o.trans e0.o.2,.inl (by omega)⟩
    case measure=>simp[intOf];omega
  ·have hd:decide ((k:Int)<(C.length:Int))=false:=by simp;omega
   have HL:=η (show LgP E w0 wr g gl c s (q2a E C) (q0M C) sure AllS K by
    have e:C.take k=C:=Δ (by omega);rw[e] at Z;obtain⟨F2,v2,b0,O,hE,h5,I⟩:=Z
    exact⟨F2,v2,b0,O,hE,h5,Sur.all0 (k:=0) (by
     rcases J with h|h
     ·omega
     ·subst h;exact I)⟩)
   clear Z M J;go_wp2_with fail;go_ret;exact⟨rfl,HL.o,X.o⟩
end
section
variable {E :Oth}{w0 w:World}{g gl:Nat}{F K:Nat->Prop}{v:Value}{σ:DM}{c s sure:Int}{C:Cks}{xs:List Int}
theorem y2d(h:DkK E w0 w g c s C K):Calls Tryz.prog 83 #[.pointer (some ⟨g,0,none⟩)] w fun e w'=> ∃gl,e= .returned (.tuple #[.pointer (some ⟨gl,0,none⟩),.int .i64 0])/\w.heap.size<=gl/\LgK E w0 w' g gl c s C (q2d C) K/\Stay K w w':=by
 obtain⟨F,σ,b,j⟩:=h;have I: ∀i,F i->i<w.heap.size:=by obtain⟨_,_,_,_,_,_,h⟩:=b.d;exact h
 have Z:=η (y3Z b.d);rw[j.pl.up] at Z;have X:=q6p b.d [110,101,119] (by decide);rw[j.pl.sizeN (z3P j.oth j.ok.few)] at X;have HS:=η X;have HC:=η (y0Y b.d j);have y:=η (fun (W:World) (k:Ext w W)=>z0M (b.d.ext k));rw[j.pl.st] at y
 have x:=η (fun (W:World) (k:Ext w W)=>show LgP E w0 (W.alloc (.cells #[.pointer (some ⟨g,0,none⟩),.int .i64 s,.bool false,.slice none 0 0,.int .i64 0] 226)) g W.heap.size c s (q2a E C) [] 0 (fun L=>Sur L C.length 0) K/\Stay K w (W.alloc (.cells #[.pointer (some ⟨g,0,none⟩),.int .i64 s,.bool false,.slice none 0 0,.int .i64 0] 226)) from by
  have hk:=k.size;have J:=k.trans (q0B W (.cells #[.pointer (some ⟨g,0,none⟩),.int .i64 s,.bool false,.slice none 0 0,.int .i64 0] 226));have u: ∀i,q8V W.heap.size (.slice none 0 0) i->i=W.heap.size:=fun i m=>by rcases m with h|h;exact h;cases h
  refine⟨⟨F,.slice none 0 0,σ,⟨b.d.ext J,⟨Blk.new _ _ _,World.ownsRow_nil _ _ _ _⟩,fun i m V=>?_,b.bF,fun i m=>?_,b.ext.trans J,fun i m=>⟨?_,(b.k i m).2,fun V=>?_⟩⟩,j.oth,j.pl,j.sr⟩,fun i m=>J.block i (b.k i m).1⟩
  ·have:=u i V;have:=I i m;omega
  ·have:=u i m;have:=b.ext.size;omega
  ·have:=(b.k i m).1;have:=J.size;omega
  ·have:=u i V;have:=(b.k i m).1;omega)
 have q:=η j.ok;clear b j X I;go_enter Tryz.func83,Tryz.ntmps83;go_wp2_with fail;refine Z.o.mono ?_;rintro e w1 ⟨rfl,rfl⟩;go_wp2_with fail;refine HS.o.mono ?_;rintro e w1 ⟨rfl,rfl⟩;go_wp2_with fail;refine HC.o.mono ?_;rintro e w1 ⟨rfl,hb⟩;have N:=η hb;clear hb;go_wp2_with fail;refine(y.o _ N.o).mono ?_;rintro e w2 ⟨rfl,rfl⟩;go_wp2_with fail;obtain⟨h3,h4⟩:=x.o _ N.o;have H4:=η h4;have R:=η (z7V h3 q.o);have S:=η N.o.size;clear h3 h4;refine R.o.mono ?_;rintro e w3 ⟨rfl,⟨F3,v3,Y,B,G,h6,D⟩,h7⟩;have HE:=η (z8m B.l q.o);have z4:=B.l.blk.free 4;have c4:=B.l.c4;have U:=B.setSure (q2d C);have H8:=η U;have H6:=η h6;have M:=η D;have O:=η G;have H7:=η (H4.o.trans (h7.trans U.2));clear B h6 D h7 U G;go_wp2_with fail;refine HE.o.mono ?_;rintro e w4 ⟨rfl,rfl⟩;go_wp2_with fail;go_ret2;exact⟨_,rfl,S.o,⟨F3,v3,Y,H8.o.1,⟨H6.o,q.o,O.o,M.o.sur _ _,Int.le_refl _⟩⟩,H7.o⟩
end
theorem z8K{E:Oth}{w0 w:World}{g gl:Nat}{c s sure x z:Int}{C i:Cks}{K:Nat->Prop}(h:LgK E w0 w g gl c s C sure K)(p:List UInt8)(d:p.length<=9223372036854775807)(he:q1H (c-(q0j C:Int)) C p=(x,r,i))(j:q3z (c-(q0j C:Int)) sure C p=z):
  Calls Tryz.prog 88 #[.pointer (some ⟨gl,0,none⟩),.string ⟨p.toArray⟩] w fun e w'=>e= .returned (.tuple #[.int .i64 x,.int .i64 r])/\LgK E w0 w' g gl c s i z K/\Stay K w w':=by
 have b:=z8L h p d;unfold AppR at b;rw[he,j] at b;exact b
theorem y2j{E:Oth}{w0 w:World}{g gl:Nat}{c s sure:Int}{C:Cks}{K:Nat->Prop}(h:LgK E w0 w g gl c s C sure K)(pos:Int)(d: -9223372036854775808<=pos)(i:pos<=9223372036854775807)(he:q5y C pos=(p,r)):
  Calls Tryz.prog 181 #[.pointer (some ⟨gl,0,none⟩),.int .i64 pos] w fun e w'=>e= .returned (.tuple #[.string ⟨p.toArray⟩,.int .i64 r])/\LgK E w0 w' g gl c s C sure K/\Stay K w w':=by
 have b:=y2k h pos d i;unfold ReadR at b;rw[he] at b;exact b
theorem y2Y{E:Oth}{w0 w:World}{g gl:Nat}{c s sure:Int}{C:Cks}{K:Nat->Prop}(h:LgK E w0 w g gl c s C sure K)(pos:Int)(d: -9223372036854775808<=pos)(i:pos<=9223372036854775807){r:Option (Nat×List UInt8)}(he:q3m C pos=r):
  Calls Tryz.prog 102 #[.pointer (some ⟨gl,0,none⟩),.int .i64 pos] w fun e w'=>e= .returned (z2Z r)/\LgK E w0 w' g gl c s C sure K/\Stay K w w':=by
 have b:=y2Z h pos d i;unfold y1m at b;rw[he] at b;exact b
section
variable {E :Oth}{P:List UInt8}
end
end
end Go.Proofs.YtfiibpgoplcgkaaGreatDoor
