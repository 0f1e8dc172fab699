/- Walks. -/
import Derived.Test.YtfiibpgoplcgkaaGreatDoorG12WS
import Derived.WalkMore
import Derived.Deep.LoopGhost
set_option linter.unusedVariables false
set_option linter.unusedSimpArgs false
set_option maxRecDepth 100000
set_option maxHeartbeats 6400000
namespace Go.Proofs.YtfiibpgoplcgkaaGreatDoor
variable {k n:Nat}{ps:List (List UInt8)}{p:List UInt8}{Q:List FM->Prop}{r:Int}
section
open Go.RowKit
theorem q7Q{fn:Func}{t u v x:Tmp}(h:fn.results=#[.tmp t,.tmp u,.tmp v,.tmp x])(tmps:Array Value)(P:Program)(w:World):
  (results fn tmps).run P w= .ok (.tuple #[tmps.getD t undef,tmps.getD u undef,tmps.getD v undef,tmps.getD x undef]) w:=by
 simp[results,h]
def z0g(r:Option (Nat×List UInt8)):Value:=match r with
 |none=> .tuple #[.string ⟨#[]⟩,.int .i64 0,.int .i64 0,.int .i64 4]
 |some (a,p)=> .tuple #[.string ⟨p.toArray⟩,.int .i64 (a:Int),.int .i64 ((a:Int)+(p.length:Int)+12),.int .i64 0]
theorem z7w(C:Cks)(pos:Int):q4E C (max pos 0)=q4E C pos:=by
 unfold q4E
 congr 1
 funext r
 rw[decide_eq_decide];omega
theorem q6x(n:Nat)(ps:List (List UInt8)):z1E (q0N n ps) (q1e n)=true:=by
 unfold z1E q0N;rw[ζ (by simp),Bool.true_and,List.take_left];simp
theorem z5k{pos:Int}{b:Nat}(B:List (Nat×List UInt8))(h:ps[k]? =some p):((q2D (b+12) ps).drop k++B).find? (fun r=>decide (pos<=(r.1:Int)))=if pos<=((b+q0I (ps.take k):Nat):Int) then some (b+q0I (ps.take k),p) else((q2D (b+12) ps).drop (k+1)++B).find? fun r=>decide (pos<=(r.1:Int)):=by
 have h1:=z4q ps (b+12) k p h;obtain⟨i,he⟩:=List.getElem?_eq_some_iff.1 h1;rw[<-List.getElem_cons_drop i,he,List.cons_append,List.find?_cons];have e:b+12+((ps.take k).map fun p=>p.length+12).sum=b+q0I (ps.take k):=by unfold q0I;omega
 simp only[e];by_cases d:pos<=((b+q0I (ps.take k):Nat):Int)
 ·rw[ξ d,ζ d]
 ·rw[κ d,ε d]
theorem z9e{C:Cks}(h:C[n]? =some ps):q0k (4096*n) (C.drop n)=q2D (4096*n+12) ps++q0k (4096*(n+1)) (C.drop (n+1)):=by
 obtain⟨b,he⟩:=List.getElem?_eq_some_iff.1 h;rw[<-List.getElem_cons_drop b,he,q0k]
 congr 2
theorem z3Y{W:World}{B:Nat}{l:Option Addr}{m:Nat}(h:W.ownsRow B 3 1 (.slice l ps.length m) ps.length ((q1d 12 ps).map fun x=>Value.int .i64 (x.1:Int)))(i:ps[k]? =some p):
  ∃b3,l=some ⟨b3,0,none⟩/\W.cell? ⟨b3,k,none⟩=some (.int .i64 (q0I (ps.take k):Int)):=by
 have d:k<ps.length:=(List.getElem?_eq_some_iff.1 i).1;obtain⟨b3,cap,h1,h2,_⟩:=(Own.of_row h).cell (j:=k) (by rw[List.length_map,q2w];exact d);have b:((q1d 12 ps).map fun x=>Value.int .i64 (x.1:Int))[k]'(by rw[List.length_map,q2w];exact d)= .int .i64 (q0I (ps.take k):Int):=by
  rw[List.getElem_map];have h3:=q9j ps 12 k p i;obtain⟨_,h4⟩:=List.getElem?_eq_some_iff.1 h3;rw[h4]
  rfl
 rw[b] at h2
 cases h1;exact⟨b3,rfl,h2⟩
theorem q9m(ps:List (List UInt8))(k:Nat):q0I (ps.take k)<=q0I ps:=by
 unfold q0I
 conv=>rhs;rw[<-List.take_append_drop k ps,List.map_append,List.sum_append]
 omega
section
variable {E :Oth}{w0 w:World}{g gl:Nat}{F K:Nat->Prop}{v:Value}{σ:DM}{c s sure:Int}{C:Cks}{xs:List Int}
def y2p(E:Oth)(w0 w:World)(g gl:Nat)(c s:Int)(C:Cks)(sure:Int)(K:Nat->Prop)(pos:Int)(e:Ending)(w':World):Prop:=
 e= .returned (z0g (q4E C pos))/\LgK E w0 w' g gl c s C sure K/\Stay K w w'
theorem y3g(h :LgK E w0 w g gl c s C sure K)(pos:Int)(p0: -9223372036854775808<=pos)(p1:pos<=9223372036854775807):
  Calls Tryz.prog 102 #[.pointer (some ⟨gl,0,none⟩),.int .i64 pos] w (y2p E w0 w g gl c s C sure K pos):=by
 have HK:=η h;obtain⟨F,v,σ,h1,h2⟩:=h;have K0:=η (z0n h1 h2.pl.up h2.pl.st);have J0:=η h2.ok;obtain⟨P,hP⟩: ∃P:Int,max pos 0=P:=⟨_,rfl⟩
 have i0:Hd (q4E C pos=q4E C P):=η (by rw[<-hP,z7w]);have q0:0<=P:=by omega
 have q1:P<=9223372036854775807:=by omega
 obtain⟨m,hm⟩: ∃m:Nat,P/4096=(m:Int):=⟨(P/4096).toNat,by omega⟩
 have hq:P.tdiv 4096=(m:Int):=by rw[Int.tdiv_eq_ediv_of_nonneg q0];exact hm
 have r0:(m:Int)<=2251799813685248:=by omega
 have N0:Hd (q4E C P=(q0k (4096*m) (C.drop m)).find? fun r=>decide (P<=(r.1:Int))):=η (z3R C P J0.o.size m (by omega));have s0:(if pos<(0:Int) then(0:Int) else pos)=P:=by rw[<-hP];split<;>omega
 have HM:=η hm;clear h1 h2 s0 hq;go_enter Tryz.func102,Tryz.ntmps102;go_wp2_with fail
 go_step3
 go_wp2_with fail;refine K0.o.mono ?_;rintro e w1 ⟨rfl,q⟩;have HB:=η q;clear q;go_wp2_with fail
 go_step3
 go_wp2_with fail
 go_loopw [9] (fun i W=> ∃n:Nat,i= .int .i64 (n:Int)/\(n:Int)<=2251799813685248/\q4E C P=((q0k (4096*n) (C.drop n)).find? fun r=>decide (P<=(r.1:Int)))/\LgK E w0 W g gl c s C sure K/\Stay K w W) (fun i _=>C.length-(intOf i).toNat)
 case atStart=>exact⟨m,by rw[HM.o],r0,N0.o,HK.o.grow HB.o,HK.o.kExt HB.o⟩
 case round =>
  obtain⟨n,rfl,a1,B,hk,A0⟩:=hrel;have h0:=η B;have m0:=η A0;have g0:=η hk;obtain⟨F',v',σ',h1,h2⟩:=hk;have x0:=q0f C;obtain⟨sa,sk,C0⟩:=q0H h1.l.row;rw[x0] at C0;subst C0;have c3:=h1.l.c3;have c0:=h1.l.c0;clear B A0 x0 r0 hP hm;by_cases t0:C.length<=n
  ·have HE:Hd (z0g (q4E C pos)= .tuple #[.string ⟨#[]⟩,.int .i64 0,.int .i64 0,.int .i64 4]):=η (by
    rw[i0.o,h0.o,List.drop_of_length_le t0];rfl)
   have hd:decide ((n:Int)<(C.length:Int))=false:=by simp;omega
   clear h1 h2;go_wp2_with fail
   try rw[Exit.noGoto_ret]
   refine bodyPost_ret (q7Q rfl _ _ _) rfl ?_;exact⟨by rw[HE.o];rfl,g0.o,m0.o⟩
  have hd:decide ((n:Int)<(C.length:Int))=true:=by simp;omega
  have u0:n<C.length:=by omega
  obtain⟨ps,j⟩: ∃ps,C[n]? =some ps:=⟨C[n],γ u0⟩
  have a0:n<200:=by have:=h2.ok.few;omega
  obtain⟨b,b1,hv,n0,_⟩:=h1.cellAt j
  cases hv;have J:q0I ps<=4096:=h2.ok.size ps (List.mem_of_getElem? j);have d:=q0a n ps;have U0:ps.length<=341:=by have:=z8f ps;unfold q0I at J;omega
  have x:=q3d h2.oth h2.ok.few j;have u:=h2.ok.pay ps (List.mem_of_getElem? j);have I0:Hd (q4E C P=((q2D (4096*n+12) ps).drop 0++q0k (4096*(n+1)) (C.drop (n+1))).find? fun r=>decide (P<=(r.1:Int))):=η (by rw[h0.o,z9e j,List.drop_zero]);obtain⟨z,hz⟩: ∃z:Int,(q0I ps:Int)=z:=⟨_,rfl⟩
  rw[hz] at n0;have z0:0<=z:=by omega
  have z1:z<=4096:=by omega
  have v0:=q2u (n:Int);have F0:=η (fun W=>q4B (n:Int) W);have k0:=η (fun (W:World) (k:Ext wr W)=>q6k (h1.grow k) h2 x v0 0 z (by decide) z0 (by rw[d];omega) (by rw[d];omega));have E0:z.toNat=q0I ps:=by omega
  have B0:((q0N n ps).drop 0).take (q0I ps)=q0N n ps:=by rw[List.drop_zero,Δ (by rw[d];omega)]
  have e0:(0:Int).toNat=0:=rfl;simp only[E0,e0,B0] at k0;have U:=η (fun W=>z5A (q0N n ps) n W a0 (by rw[d];omega) (q6x n ps));rw[q5z n ps u] at U;generalize R0:(z0K 12 (q1d 12 ps):Int)=ee at U
  have G0:=η (fun (k:Nat) (p:List UInt8) (h:ps[k]? =some p) (W:World)=>(show Calls Tryz.prog 164 #[.string ⟨(q0N n ps).toArray⟩,.int .i64 (q0I (ps.take k):Int)] W fun e w'=>e= .returned (.tuple #[.string ⟨p.toArray⟩,.int .i64 ((q0I (ps.take k)+p.length+12:Nat):Int),.bool true])/\Ext W w' by
   have h1:=z0U (q0N n ps) (q0I (ps.take k)) W (by rw[d];omega) (by
    have h3:(q0I (ps.take k):Nat)<=4096:=Ω (q9m ps k) J
    omega)
   have h2:z1n (q0N n ps) (q0I (ps.take k))= .tuple #[.string ⟨p.toArray⟩,.int .i64 ((q0I (ps.take k)+p.length+12:Nat):Int),.bool true]:=by
    unfold z1n;rw[y0t n ps k p h (u p (List.mem_of_getElem? h))]
   rw[h2] at h1
   exact h1))
  have M:Hd (∀(W:World) (F':Nat->Prop) (τ:DM),LgF w0 W g gl F' (.slice (some ⟨b,0,none⟩) C.length sk) τ s (q0O C) sure K->W.cell? ⟨gl,0,none⟩=some (.pointer (some ⟨g,0,none⟩))/\W.cell? ⟨gl,3,none⟩=some (.slice (some ⟨b,0,none⟩) C.length sk)/\W.cell? ⟨b,n,none⟩=some (.int .i64 z)):=η fun W F' τ hW=>by
   obtain⟨b2,k2,e1,e2,_⟩:=hW.cellAt j
   cases e1;rw[hz] at e2;exact⟨hW.l.c0,hW.l.c3,e2⟩
  have hw:Ext wr wr.drew:=(Ext.refl wr).drew;have HW:=η hw;obtain⟨d0,d3,dz⟩:=M.o _ _ _ (h1.grow hw);have W0:=η h2;generalize q0N n ps=S at*;generalize q0B 99 (n:Int)=nm at*;have HZ:=η hz;have X0:=η j;have H0:=η J;have j0:=η u;clear h1 h2 d x u v0 E0 B0 R0 hw hz j J n0 t0;go_wp2_with fail
  go_region_held3 (fun W=>W.cell? ⟨gl,0,none⟩=some (.pointer (some ⟨g,0,none⟩))/\W.cell? ⟨gl,3,none⟩=some (.slice (some ⟨b,0,none⟩) C.length sk)/\W.cell? ⟨b,n,none⟩=some (.int .i64 z))
   (first|exact M0.o|exact L0.o|exact⟨d0,d3,dz⟩)
   (first
    |(go_at_call 161;refine(F0.o _).mono ?_;rintro e wa ⟨rfl,h1⟩;have H1:=η (HW.o.trans h1);have L0:=η (And.intro (q0A h1 d0) (And.intro (q0A h1 d3) (q0A h1 dz)));clear h1)
    |(go_at_call 160;refine(k0.o _ H1.o).mono ?_;rintro e wb ⟨rfl,⟨F2,T0,h2,h3⟩,h4⟩;have H2:=η h2;have H3:=η h3;have H4:=η h4;have M0:=η (M.o _ _ _ h2);clear h2 h3 h4))
  all_goals
   go_wp2_with fail;refine(U.o _).mono ?_;rintro e wc ⟨pv,rfl,hr,q⟩;have V0:=η q;obtain⟨pa,pc,rfl⟩:=q0H hr;have l0:=η hr;have I:(q1d 12 ps).length=ps.length:=q2w ps 12;rw[I] at l0;rw[I];have G:=η (show LgK E w0 wc g gl c s C sure K from⟨F2,_,T0,H2.o.grow q,H3.o⟩);have N:=η (m0.o.trans ((g0.o.kExt H1.o).trans (H4.o.trans (H2.o.kExt q))));clear hr q I;go_wp2_with fail
   go_loopw [72] (fun i W=> ∃k:Nat,k<=ps.length/\i= .int .i64 (k:Int)/\q4E C P=(((q2D (4096*n+12) ps).drop k++q0k (4096*(n+1)) (C.drop (n+1))).find? fun r=>decide (P<=(r.1:Int)))/\Ext wc W) (fun i _=>ps.length-(intOf i).toNat)
   case atStart=>exact⟨0,υ _,rfl,I0.o,Ext.refl _⟩
   case round=>
    obtain⟨k,hk,rfl,B,q⟩:=hrel;have R:=η B;have D:=η q;clear B;by_cases S0:k<ps.length
    ·obtain⟨p,hp⟩: ∃p,ps[k]? =some p:=⟨ps[k],γ S0⟩
     have P0:decide ((k:Int)<(ps.length:Int))=true:=by simp;omega
     obtain⟨b3,rfl,O0⟩:=z3Y (q0J l0.o q) hp;have HG:=η (G0.o k p hp wr);have f0:=η (z5k (pos:=P) (b:=4096*n) (q0k (4096*(n+1)) (C.drop (n+1))) hp);have D0:q0I (ps.take k)<=4096:=Ω (q9m ps k) H0.o;have I:p.length<=2000:=j0.o p (List.mem_of_getElem? hp);obtain⟨V,X⟩: ∃V:Int,((q0I (ps.take k)+p.length+12:Nat):Int)=V:=⟨_,rfl⟩
     rw[X] at HG;obtain⟨y,hy⟩: ∃y:Int,(q0I (ps.take k):Int)=y:=⟨_,rfl⟩
     rw[hy] at O0 HG;have Y:V=y+(p.length:Int)+12:=by omega
     have y0:0<=y:=by omega
     have y1:y<=4096:=by omega
     have Y0:0<=V:=by omega
     have Y1:V<=6108:=by omega
     have Z:(n:Int)<=199:=by omega
     have Z0:=η Y;have HY:=η hy;by_cases o0:(n:Int)*4096+y<P
     ·have Q0:decide ((n:Int)*4096+y<P)=true:=by simpa using o0
      have O:Hd (q4E C P=(((q2D (4096*n+12) ps).drop (k+1)++q0k (4096*(n+1)) (C.drop (n+1))).find? fun r=>decide (P<=(r.1:Int)))):=η (by
       rw[R.o,f0.o,κ (by omega)])
      clear hy Y X hp q D0;go_wp2_with fail
      go_roundw
      case rel=>exact⟨k+1,by omega,by go_num,O.o,D.o⟩
      case measure=>simp[intOf];omega
     ·have Q0:decide ((n:Int)*4096+y<P)=false:=by simpa using o0
      have HE:Hd (z0g (q4E C pos)= .tuple #[.string ⟨p.toArray⟩,.int .i64 ((n:Int)*4096+y),.int .i64 ((n:Int)*4096+V),.int .i64 0]):=η (by
       have e1:q4E C pos=some (4096*n+q0I (ps.take k),p):=by rw[i0.o,R.o,f0.o,ξ (by omega)]
       rw[e1];show Value.tuple #[.string ⟨p.toArray⟩,.int .i64 ((4096*n+q0I (ps.take k):Nat):Int),.int .i64 (((4096*n+q0I (ps.take k):Nat):Int)+(p.length:Int)+12),.int .i64 0]=_;have e2:((4096*n+q0I (ps.take k):Nat):Int)=(n:Int)*4096+y:=by omega
       have e3:((4096*n+q0I (ps.take k):Nat):Int)+(p.length:Int)+12=(n:Int)*4096+V:=by omega
       rw[e3,e2])
      clear hy Y X hp q D0;go_wp2_with fail;refine HG.o.mono ?_;rintro e wd ⟨rfl,q⟩;have b0:=η (D.o.trans q);clear q;go_wp2_with fail
      try rw[Exit.noGoto_ret]
      refine bodyPost_ret (q7Q rfl _ _ _) rfl ?_;exact⟨by rw[HE.o];rfl,G.o.grow b0.o,N.o.trans (G.o.kExt b0.o)⟩
    ·have P0:decide ((k:Int)<(ps.length:Int))=false:=by simp;omega
     have O:Hd (q4E C P=((q0k (4096*(n+1)) (C.drop (n+1))).find? fun r=>decide (P<=(r.1:Int)))):=η (by
      rw[R.o,List.drop_of_length_le (by rw[q5D];omega),List.nil_append])
     have Z:(n:Int)<=199:=by omega
     clear q;go_wp2_with fail
     go_roundw
     case rel=>exact⟨n+1,by go_num,by omega,O.o,G.o.grow D.o,N.o.trans (G.o.kExt D.o)⟩
     case measure=>simp[intOf];omega
end
end
section
open Go.RowKit Go.Maps Go.Sort
theorem Dk.names{w:World}{g:Nat}{F:Nat->Prop}{σ:DM}(h:Dk w g F σ):Calls Tryz.prog 81 #[.pointer (some ⟨g,0,none⟩)] w (RetN w (q1s σ)):=by
 obtain⟨i,m,l,L,b,_⟩:=h;have:=i.many;have j:L.length=σ.L.length:=by rw[<-b.files,List.length_map]
 have d:=z3P w g m L b.c0 b.c3 b.fs (by omega);have e:L.map FE.nm=q1s σ:=by unfold q1s;rw[<-b.files,List.map_map];rfl
 rwa [e] at d
section
variable {E :Oth}{w0 w:World}{g gl:Nat}{F K:Nat->Prop}{v:Value}{σ:DM}{c s sure:Int}{C:Cks}{xs:List Int}
theorem z6t{m0:Nat}(h:Dk w g F σ)(S:okOth E)(e0:m0<=200)(O:q1s σ=(E.X.map Prod.fst++((List.range m0).map fun k:Nat=>q0B 99 (k:Int))++E.Z.map Prod.fst)):Calls Tryz.prog 137 #[.pointer (some ⟨g,0,none⟩)] w fun e w'=>e= .returned (.tuple #[.int .i64 (m0:Int),.bool true])/\Ext w w':=by
 have HN:=η h.names;have N:=S.few;rw[O] at HN
 have a0:Hd (∀k (hk:k<(E.X.map Prod.fst++((List.range m0).map fun k:Nat=>q0B 99 (k:Int))++E.Z.map Prod.fst).length) (W:World),
   ∃ R v o,Calls Tryz.prog 196 #[.string ⟨((E.X.map Prod.fst++((List.range m0).map fun k:Nat=>q0B 99 (k:Int))++E.Z.map Prod.fst)[k]).toArray⟩] W (fun e w'=>e= .returned (.tuple #[.int .u8 R,.int .i64 v,.bool o])/\Ext W w')/\
    ((E.X.length<=k/\k<E.X.length+m0/\R=99/\v=((k-E.X.length:Nat):Int)/\o=true)\/((k<E.X.length\/E.X.length+m0<=k)/\(o=true->(R==99)=false)))):=η fun k hk W=>by
  have h0:k<E.X.length+m0+E.Z.length:=by simp at hk;omega
  have x: ∀nm:List UInt8,(∃y,(y∈E.X\/y∈E.Z)/\y.1=nm)->Calls Tryz.prog 196 #[.string ⟨nm.toArray⟩] W (fun e w'=>e= .returned (.tuple #[.int .u8 (q1L nm).1.toNat,.int .i64 (q1L nm).2.1,.bool (q1L nm).2.2])/\Ext W w')/\((q1L nm).2.2=true->(((q1L nm).1.toNat:Int)==99)=false):=fun nm ⟨y,hy,e⟩=>by
   subst e;refine⟨z3V y.1 W (by have:=S.len y hy;omega),fun ho=>?_⟩;have h1:=S.kind y hy ho;rw[beq_eq_false_iff_ne];intro e;exact h1 (UInt8.toNat_inj.1 (by have:((q1L y.1).1.toNat:Int)=99:=e;show(q1L y.1).1.toNat=99;omega))
  rcases Nat.lt_or_ge k E.X.length with h1|h1
  ·have e:(E.X.map Prod.fst++((List.range m0).map fun k:Nat=>q0B 99 (k:Int))++E.Z.map Prod.fst)[k]=E.X[k].1:=by
    rw[List.getElem_append_left (by simp;omega),List.getElem_append_left (by simpa using h1),List.getElem_map]
   rw[e];obtain⟨U,q2⟩:=x E.X[k].1 ⟨_,.inl (List.getElem_mem h1),rfl⟩;exact⟨_,_,_,U,.inr ⟨.inl h1,q2⟩⟩
  rcases Nat.lt_or_ge k (E.X.length+m0) with h2|h2
  ·have e:(E.X.map Prod.fst++((List.range m0).map fun k:Nat=>q0B 99 (k:Int))++E.Z.map Prod.fst)[k]=q0B 99 ((k-E.X.length:Nat):Int):=by
    rw[List.getElem_append_left (by simpa using h2),List.getElem_append_right (by simpa using h1),List.getElem_map,List.getElem_range];simp
   rw[e];have h3:=z3V (q0B 99 ((k-E.X.length:Nat):Int)) W (q2u _);rw[q1m (by decide) (by omega)] at h3;exact⟨99,_,true,h3,.inl ⟨h1,h2,rfl,rfl,rfl⟩⟩
  ·have hz:k-(E.X.length+m0)<E.Z.length:=by omega
   have e:(E.X.map Prod.fst++((List.range m0).map fun k:Nat=>q0B 99 (k:Int))++E.Z.map Prod.fst)[k]=(E.Z[k-(E.X.length+m0)]).1:=by
    rw[List.getElem_append_right (by simpa using h2),List.getElem_map];simp
   rw[e];obtain⟨U,q2⟩:=x _ ⟨_,.inr (List.getElem_mem hz),rfl⟩;exact⟨_,_,_,U,.inr ⟨.inr h2,q2⟩⟩
 have J:(E.X.map Prod.fst++((List.range m0).map fun k:Nat=>q0B 99 (k:Int))++E.Z.map Prod.fst).length=E.X.length+m0+E.Z.length:=by simp;omega
 clear h S O;generalize E.X.map Prod.fst++((List.range m0).map fun k:Nat=>q0B 99 (k:Int))++E.Z.map Prod.fst=NL at*;generalize E.X.length=a at*;obtain⟨t,ht⟩: ∃t,a+m0+E.Z.length=t:=⟨_,rfl⟩
 rw[ht] at J;have M:=η J;have f0:a+m0<=t/\t<=400:=by omega
 clear ht J N;go_enter Tryz.func137,Tryz.ntmps137;go_wp2_with fail;refine HN.o.mono ?_;intro e w1 hr;obtain⟨ad,cap,rfl,u,d⟩:=hr.o;rw[M.o] at u⊢;have V:=η u;have HB:=η d;clear hr u d;go_wp2_with fail
 go_loopw [2,3,12] (fun m o i W=> ∃k:Nat,k<=t/\i= .int .i64 (k:Int)/\m= .int .i64 ((min (k-a) m0:Nat):Int)/\o= .bool true/\Ext w1 W) (fun _ _ i _=>t-(intOf i).toNat)
 case atStart=>exact⟨0,υ _,rfl,by simp,rfl,Ext.refl _⟩
 case round=>
  obtain⟨k,hk,rfl,rfl,rfl,d⟩:=hrel;have G:=η d;by_cases b0:k<t
  ·have hd:decide ((k:Int)<(t:Int))=true:=by simp;omega
   have l:k<NL.length:=by rw[M.o];exact b0
   obtain⟨b,d0,hv,hc,_⟩:=(V.o.ext d).cell (j:=k) (by simpa using l)
   cases hv;have B:((NL.map encStr)[k]'(by simpa using l))= .string ⟨NL[k].toArray⟩:=by simp[encStr]
   rw[B] at hc;obtain⟨R,v,o,hP,I⟩:=a0.o k l wr;have Y:=η hP;have q0:IntKind.i64.wrap ((k:Int)+1)=(k:Int)+1:=by rw[ν];omega
   obtain⟨m,hm⟩: ∃m,min (k-a) m0=m:=⟨_,rfl⟩
   have U:IntKind.i64.wrap ((m:Int)+1)=(m:Int)+1:=by rw[ν];omega
   generalize NL[k]=nm at*;clear B d hP;rcases I with⟨p1,p2,rfl,rfl,rfl⟩|⟨p1,p2⟩
   ·have c0:m=k-a:=by omega
    have q:min (k+1-a) m0=m+1:=by omega
    rw[<-c0] at Y;rw[hm];clear l;go_wp2_with fail;refine Y.o.mono ?_;rintro e w2 ⟨rfl,d⟩;have D:=η (G.o.trans d);clear d;go_wp2_with fail
    go_roundw
    case rel=>exact⟨k+1,by omega,by go_num,by rw[q];go_num,rfl,D.o⟩
    case measure=>simp[intOf];omega
   ·have q:min (k+1-a) m0=m:=by omega
    rw[hm];have ho:o=false\/(o=true/\(R==99)=false):=by
     cases o with
     |false=>exact .inl rfl
     |true=>exact .inr ⟨rfl,p2 rfl⟩
    clear l p2;rcases ho with rfl|⟨rfl,i0⟩
    all_goals
     go_wp2_with fail;refine Y.o.mono ?_;rintro e w2 ⟨rfl,d⟩;have D:=η (G.o.trans d);clear d;go_wp2_with fail
     go_roundw
     case rel=>exact⟨k+1,by omega,by go_num,by rw[q],rfl,D.o⟩
     case measure=>simp[intOf];omega
  ·have hd:decide ((k:Int)<(t:Int))=false:=by simp;omega
   have q:min (k-a) m0=m0:=by omega
   have g0:decide ((m0:Int)<=200)=true:=by simp;omega
   rw[q];clear d;go_wp2_with fail;go_ret2;exact⟨rfl,HB.o.trans G.o⟩
theorem y1U{d:Int}(h:Dk w g F σ)(b:Lgd E σ c s C d):Calls Tryz.prog 137 #[.pointer (some ⟨g,0,none⟩)] w fun e w'=>e= .returned (.tuple #[.int .i64 (C.length:Int),.bool true])/\Ext w w':=
 z6t h b.oth b.ok.few (by rw[b.pl.names,z5W,List.append_assoc])
theorem z7o{l:List (List UInt8×List UInt8)}{S:List UInt8}{en:Int}(h:LgP E w0 w g gl c s l xs sure Q K)(I:n<200)(b:q0F Prod.fst (q0B 99 (n:Int)) l=some (q0B 99 (n:Int),S))(J:S.length<=4096)
  (B: ∀W,Calls Tryz.prog 163 #[.string ⟨S.toArray⟩,.int .i64 (n:Int)] W fun e w'=> ∃v,e= .returned (.tuple #[v,.int .i64 en,.bool true])/\(∃ao k c,v= .slice ao k c)/\Ext W w'):
  Calls Tryz.prog 197 #[.pointer (some ⟨g,0,none⟩),.int .i64 (n:Int)] w fun e w'=>e= .returned (.tuple #[.string ⟨S.toArray⟩,.int .i64 en,.int .i64 0])/\LgP E w0 w' g gl c s l xs sure Q K/\Stay K w w':=by
 obtain⟨F,v,σ,h1,U,h2,V⟩:=h;have Z:=η U;have HQ:=η V;clear V;have m:=q2u (n:Int);have x:=η (fun W=>q4B (n:Int) W)
 have y:=η (fun (W:World) (k:Ext w W)=>(show Calls Tryz.prog 135 #[.pointer (some ⟨g,0,none⟩),.string ⟨(q0B 99 (n:Int)).toArray⟩] W fun e w'=>e= .returned (.tuple #[.int .i64 (S.length:Int),.int .i64 0])/\W=w' by
  have h3:=q6b (h1.d.ext k) (q0B 99 (n:Int)) m;rw[h2.size b] at h3
  exact h3))
 have j:=η (fun (W:World) (k:Ext w W)=>z1Z (h1.grow k) h2 b m 0 (S.length:Int) (by decide) (by omega) (by simp only;omega) (by simp only;omega));have D:(S.drop 0).take S.length=S:=by rw[List.drop_zero,List.take_length]
 have e0:(0:Int).toNat=0:=rfl;simp only[Int.toNat_natCast,e0,D] at j;have G:=η B;have HH:=η h1;generalize q0B 99 (n:Int)=nm at*;obtain⟨z,X⟩: ∃z:Int,(S.length:Int)=z:=⟨_,rfl⟩
 rw[X] at y j;clear h1 h2 U b m D J B X;go_enter Tryz.func197,Tryz.ntmps197;go_wp2_with fail;refine(x.o _).mono ?_;rintro e w1 ⟨rfl,i⟩;have R:=η i;clear i;go_wp2_with fail;refine(y.o _ R.o).mono ?_;rintro e w2 ⟨rfl,rfl⟩;go_wp2_with fail;refine(x.o _).mono ?_;rintro e w3 ⟨rfl,i⟩;have q:=η (R.o.trans i);clear i;go_wp2_with fail;refine(j.o _ q.o).mono ?_;rintro e w4 ⟨rfl,⟨F2,M,h2,h3⟩,h4⟩;have N:=η h2;have O:=η h3;have Y:=η ((HH.o.kExt q.o).trans h4);clear h2 h3 h4;go_wp2_with fail;refine(G.o _).mono ?_;rintro e w5 ⟨pv,rfl,⟨pa,pk,pc,rfl⟩,i⟩;have u:=η i;clear i;go_wp2_with fail;go_ret3;exact⟨rfl,⟨_,_,M,N.o.grow u.o,Z.o,O.o.1,by rw[O.o.2];exact HQ.o⟩,Y.o.trans (N.o.kExt u.o)⟩
theorem y3P(h:LgP E w0 w g gl c s (q2i E C) xs sure Q K)(d:okC C)(i:C[n]? =some ps):
  Calls Tryz.prog 197 #[.pointer (some ⟨g,0,none⟩),.int .i64 (n:Int)] w fun e w'=>e= .returned (.tuple #[.string ⟨(q0N n ps).toArray⟩,.int .i64 (q0I ps:Int),.int .i64 0])/\LgP E w0 w' g gl c s (q2i E C) xs sure Q K/\Stay K w w':=by
 have b:n<200:=by have:=d.few;have:=(List.getElem?_eq_some_iff.1 i).1;omega
 have m:q0I ps<=4096:=d.size ps (List.mem_of_getElem? i);have l:okOth E:=by obtain⟨_,_,_,_,l,_⟩:=h;exact l
 refine z7o h b (q3d l d.few i) (by rw[q0a];exact m) fun W=>?_
 have j:=z5A (q0N n ps) n W b (by rw[q0a];omega) (q6x n ps);rw[q5z n ps (d.pay ps (List.mem_of_getElem? i)),q5r] at j;refine j.mono ?_;rintro e w' ⟨v,rfl,o,q⟩;obtain⟨a,u,rfl⟩:=q0H o;exact⟨_,rfl,⟨_,_,_,rfl⟩,q⟩
end
end
section
open Go.RowKit
section
variable {E :Oth}{w0 w:World}{g gl:Nat}{F K:Nat->Prop}{v:Value}{σ:DM}{c s sure:Int}{C:Cks}{xs:List Int}
theorem y3V{D:Cks}(h:LgP E w0 w g gl c s (q2i E (D++[ps])) (q0O D) sure (fun L=>Sur L (D.length+1) 0) K)(u:okC (D++[ps])):
  Calls Tryz.prog 198 #[.pointer (some ⟨gl,0,none⟩),.int .i64 (D.length:Int),.string ⟨(q0N D.length ps).toArray⟩,.int .i64 (q0I ps:Int)] w fun e w'=>
   e= .returned (.int .i64 0)/\LgP E w0 w' g gl c s (q2i E (D++[ps])) (q0O (D++[ps])) sure AllS K/\Stay K w w':=by
 obtain⟨F,v,σ,h1,hE,h2,hQ⟩:=h;have HE:=η hE;have R:D.length+1<=200:=by have:=u.few;simpa using this
 have h0:q0I ps<=4096:=u.size ps (by simp);have Z:12<=q0I ps:=by unfold q0I;omega
 have y:=q0a D.length ps;have q:=q3d hE u.few (z0D D ps);have V:=q2u (D.length:Int);have b0:=η (fun W=>q4B (D.length:Int) W);obtain⟨σ',hm,X⟩:=h2.sync q;have U:AllS σ'.L:=z5C hm hQ fun j hj=>by rw[show j=D.length by omega]
 have e0:=η (fun (W:World) (F':Nat->Prop) (hW:Dk W g F' σ)=>(show Calls Tryz.prog 228 #[.pointer (some ⟨g,0,none⟩),.string ⟨(q0B 99 (D.length:Int)).toArray⟩] W fun e w'=>e= .returned (.int .i64 0)/\DkS W g F' σ' w' by
  have:=z2O hW (q0B 99 (D.length:Int)) V;rw[hm] at this
  exact this))
 have x:=q0f D;obtain⟨sa,sk,Y⟩:=q0H h1.l.row;rw[x] at Y;subst Y;have b:=h1.l.row;rw[x] at b;have N:=η b;have a0:=η h1.l.c3;have HH:=η h1;have HP:=η (And.intro hE (And.intro X U));have g0:((q0N D.length ps).length:Int)=(q0I ps:Int):=by rw[y]
 have O:Hd (q0O D++[(q0I ps:Int)]=q0O (D++[ps])):=η (q2E D ps).symm;have n0:(q0N D.length ps).length<=4096:=by omega
 obtain⟨z,hz⟩: ∃z:Int,(q0I ps:Int)=z:=⟨_,rfl⟩
 have o0:12<=z:=by omega
 have z4:z<=4096:=by omega
 have i0:(z==0)=false:=by simp;omega
 rw[hz] at g0 O⊢;have f0:=η x;generalize q0N D.length ps=S at*;generalize q0B 99 (D.length:Int)=nm at*;have m0:D.length<=199:=by omega
 generalize hn:D.length=n at*;clear h1 h2 hE X hQ U hm q V y x b hz h0 Z u hn R;go_enter Tryz.func198,Tryz.ntmps198;go_wp2_with fail;refine(b0.o _).mono ?_;rintro e w1 ⟨rfl,J⟩;have HB:=η J;have c3:=q0A J a0.o;have M:=η (HH.o.grow J);have b:=q0J N.o J;have d0:=η b;have z3:=(HH.o.grow J).l.blk.free 3;clear J b
 go_wp2_with (at_builtin;refine q0P rfl _ _ 37 rfl 0 3 _ 1 8 Tryz.underlying37 Tryz.infoI (by decide) (by decide) _ n _ rfl (q0J d0.o (q0C _ _)) _ 1 1 [.int .i64 z] rfl rfl (fun h=>by cases h) (Rd.lit _ _ _) (by simp[Value.oneCell']) (by unfold maxLen;omega) (by omega) (υ _) ?_;intro v' w2 m i G;have l0:=η m;have k0:=η i;have j0:=η G;obtain⟨_,q2,q3⟩:=M.o.pushed (q0C _ _) i;obtain⟨a',k',rfl⟩:=q0H m;have I:=M.o.push (q0C _ _) (by rw[f0.o];exact m) i G;have B:=η I;have u0:=I.1.l.c0;clear m i G I)
 refine(e0.o _ _ B.o.1.d).mono ?_;rintro e w3 ⟨rfl,h3⟩;have h4:=B.o.1.disk h3;have H4:=η h4;clear h3 h4;go_wp2_with fail;go_ret;exact⟨rfl,⟨_,_,σ',by rw[<-O.o];exact H4.o.1,HP.o⟩,(HH.o.kExt HB.o).trans (B.o.2.trans H4.o.2)⟩
theorem z5D(h:C[k]? =some ps):C.take (k+1)=C.take k++[ps]:=by
 obtain⟨b,he⟩:=List.getElem?_eq_some_iff.1 h;rw[List.take_succ_eq_append_getElem b,he]
theorem z8R(h:LgP E w0 w g gl c s (q2i E C) [] sure (fun L=>Sur L C.length 0) K)(X:okC C):
  Calls Tryz.prog 139 #[.pointer (some ⟨gl,0,none⟩),.int .i64 (C.length:Int)] w fun e w'=>e= .returned (.int .i64 0)/\LgP E w0 w' g gl c s (q2i E C) (q0O C) sure AllS K/\Stay K w w':=by
 have HK:=η h;have O:=η X;have n0:=X.few;clear h X;go_enter Tryz.func139,Tryz.ntmps139;go_wp2_with fail
 go_loopw [10] (fun i W=> ∃k:Nat,k<=C.length/\i= .int .i64 (k:Int)/\LgP E w0 W g gl c s (q2i E C) (q0O (C.take k)) sure (fun L=>Sur L C.length 0) K/\Stay K w W/\(k<C.length\/C=[])) (fun i _=>C.length-(intOf i).toNat)
 case atStart=>exact⟨0,υ _,rfl,HK.o,Stay.refl _ _,by cases C with|nil=>exact .inr rfl|cons=>exact .inl (by simp)⟩
 case round=>
  obtain⟨k,hk,rfl,V,J,I⟩:=hrel;have R:=η J;by_cases l0:k<C.length
  ·have hd:decide ((k:Int)<(C.length:Int))=true:=by simp;omega
   obtain⟨ps,u⟩: ∃ps,C[k]? =some ps:=⟨C[k],γ l0⟩
   have N:=η (y3P V O.o u);have c0:=(by obtain⟨_,_,_,h1,_,_⟩:=V;exact h1.l.c0:wr.cell? ⟨gl,0,none⟩=some (.pointer (some ⟨g,0,none⟩)))
   have f0:q0I ps<=4096:=O.o.size ps (List.mem_of_getElem? u);have M:12<=q0I ps:=by unfold q0I;omega
   have q:=q0a k ps;have hT:=z5D u;have j:(C.take k).length=k:=by rw[Θ];omega
   have m0:((q0N k ps).length:Int)=(q0I ps:Int):=by rw[q]
   have b0:Hd (q0O (C.take k)++[(q0I ps:Int)]=q0O (C.take (k+1))):=η (by rw[hT,q2E]);by_cases m:k+1=C.length
   ·have B:C=C.take k++[ps]:=by rw[<-hT,m,List.take_length]
    have k0:((k:Int)==(C.length:Int)-1)=true:=by simp;omega
    have h0:=η (fun (W:World) (hW:LgP E w0 W g gl c s (q2i E C) (q0O (C.take k)) sure (fun L=>Sur L C.length 0) K)=>(show Calls Tryz.prog 198 #[.pointer (some ⟨gl,0,none⟩),.int .i64 (k:Int),.string ⟨(q0N k ps).toArray⟩,.int .i64 (q0I ps:Int)] W fun e w'=>e= .returned (.int .i64 0)/\LgP E w0 w' g gl c s (q2i E C) (q0O C) sure AllS K/\Stay K W w' by
     have h2:=y3V (D:=C.take k) (ps:=ps) (by rw[<-B,j,m];exact hW) (by rw[<-B];exact O.o);rw[j,<-B] at h2
     exact h2))
    generalize q0N k ps=S at*;generalize (q0I ps:Int)=z at*;clear V J I u q hT j B f0 M;go_wp2_with fail;refine N.o.mono ?_;rintro e w2 ⟨rfl,h2,h3⟩;have H2:=η h2;have H3:=η (R.o.trans h3);clear h2 h3;go_wp2_with fail;refine(h0.o _ H2.o).mono ?_;rintro e w3 ⟨rfl,h2,h3⟩;have H4:=η h2;have H5:=η (H3.o.trans h3);clear h2 h3;go_wp2_with fail;go_ret;exact⟨rfl,H4.o,H5.o⟩
   ·have k0:((k:Int)==(C.length:Int)-1)=false:=by simp;omega
    obtain⟨z,hz⟩: ∃z:Int,(q0I ps:Int)=z:=⟨_,rfl⟩
    have t0:12<=z:=by omega
    have z4:z<=4096:=by omega
    have o0:(z==0)=false:=by simp;omega
    have s0:(q0N k ps).length<=4096:=by omega
    rw[hz] at m0 b0 N;have g0:=η j;generalize q0N k ps=S at*;clear V J I u q hT j hz f0 M;go_wp2_with fail;refine N.o.mono ?_;rintro e w2 ⟨rfl,h2,h3⟩;have H3:=η (R.o.trans h3);obtain⟨F2,v2,Y,h4,hE,h5,G⟩:=h2;have y:=q0f (C.take k);rw[g0.o] at y;obtain⟨sa,sk,e0⟩:=q0H h4.l.row;rw[y] at e0;subst e0;have x:=h4.l.row;rw[y] at x;have i0:=η x;have c3:=h4.l.c3;have z3:=h4.l.blk.free 3;have Z:=η h4;have H5:=η (And.intro hE (And.intro h5 G));have j0:=η y;clear hE h3 h4 h5 G y x c0
    go_wp2_with (at_builtin;refine q0P rfl _ _ 37 rfl 0 3 _ 1 8 Tryz.underlying37 Tryz.infoI (by decide) (by decide) _ k _ rfl (q0J i0.o (q0C _ _)) _ 1 1 [.int .i64 z] rfl rfl (fun h=>by cases h) (Rd.lit _ _ _) (by simp[Value.oneCell']) (by unfold maxLen;omega) (by omega) (υ _) ?_;intro v' w3 d b U;have r0:=η d;have q0:=η b;have p0:=η U;obtain⟨_,q2,q3⟩:=Z.o.pushed (q0C _ _) b;obtain⟨a',k',rfl⟩:=q0H d;have d0:=Z.o.push (q0C _ _) (by rw[j0.o];exact d) b U;have a0:=η d0;clear d b U d0)
    go_roundw
    case rel=>exact⟨k+1,by omega,by go_num,⟨_,_,Y,by rw[<-b0.o];exact a0.o.1,H5.o⟩,H3.o.trans a0.o.2,.inl (by omega)⟩
    case measure=>simp[intOf];omega
  ·have hd:decide ((k:Int)<(C.length:Int))=false:=by simp;omega
   have HL:=η (show LgP E w0 wr g gl c s (q2i E C) (q0O C) sure AllS K by
    have e:C.take k=C:=Δ (by omega);rw[e] at V;obtain⟨F2,v2,Y,h4,hE,h5,G⟩:=V
    exact⟨F2,v2,Y,h4,hE,h5,Sur.all0 (k:=0) (by
     rcases I with h|h
     ·omega
     ·subst h;exact G)⟩)
   clear V J I;go_wp2_with fail;go_ret;exact⟨rfl,HL.o,R.o⟩
end
section
variable {E :Oth}{w0 w:World}{g gl:Nat}{F K:Nat->Prop}{v:Value}{σ:DM}{c s sure:Int}{C:Cks}{xs:List Int}
theorem y3j(h:DkK E w0 w g c s C K):Calls Tryz.prog 83 #[.pointer (some ⟨g,0,none⟩)] w fun e w'=> ∃gl,e= .returned (.tuple #[.pointer (some ⟨gl,0,none⟩),.int .i64 0])/\w.heap.size<=gl/\LgK E w0 w' g gl c s C (q1u C) K/\Stay K w w':=by
 obtain⟨F,σ,h1,h2⟩:=h;have D: ∀i,F i->i<w.heap.size:=by obtain⟨_,_,_,_,_,_,h⟩:=h1.d;exact h
 have X:=η (y2l h1.d);rw[h2.pl.up] at X;have U:=q6b h1.d [110,101,119] (by decide);rw[h2.pl.sizeN (z4D h2.oth h2.ok.few)] at U;have HS:=η U;have HC:=η (y1U h1.d h2);have u:=η (fun (W:World) (k:Ext w W)=>z0u (h1.d.ext k));rw[h2.pl.st] at u
 have q:=η (fun (W:World) (k:Ext w W)=>show LgP E w0 (W.alloc (.cells #[.pointer (some ⟨g,0,none⟩),.int .i64 s,.bool false,.slice none 0 0,.int .i64 0] 226)) g W.heap.size c s (q2i E C) [] 0 (fun L=>Sur L C.length 0) K/\Stay K w (W.alloc (.cells #[.pointer (some ⟨g,0,none⟩),.int .i64 s,.bool false,.slice none 0 0,.int .i64 0] 226)) from by
  have hk:=k.size;have G:=k.trans (q0C W (.cells #[.pointer (some ⟨g,0,none⟩),.int .i64 s,.bool false,.slice none 0 0,.int .i64 0] 226));have m: ∀i,q7r W.heap.size (.slice none 0 0) i->i=W.heap.size:=fun i b=>by rcases b with h|h;exact h;cases h
  refine⟨⟨F,.slice none 0 0,σ,⟨h1.d.ext G,⟨Blk.new _ _ _,World.ownsRow_nil _ _ _ _⟩,fun i b S=>?_,h1.bF,fun i b=>?_,h1.ext.trans G,fun i b=>⟨?_,(h1.k i b).2,fun S=>?_⟩⟩,h2.oth,h2.pl,h2.sr⟩,fun i b=>G.block i (h1.k i b).1⟩
  ·have:=m i S;have:=D i b;omega
  ·have:=m i b;have:=h1.ext.size;omega
  ·have:=(h1.k i b).1;have:=G.size;omega
  ·have:=m i S;have:=(h1.k i b).1;omega)
 have j:=η h2.ok;clear h1 h2 U D;go_enter Tryz.func83,Tryz.ntmps83;go_wp2_with fail;refine X.o.mono ?_;rintro e w1 ⟨rfl,rfl⟩;go_wp2_with fail;refine HS.o.mono ?_;rintro e w1 ⟨rfl,rfl⟩;go_wp2_with fail;refine HC.o.mono ?_;rintro e w1 ⟨rfl,hb⟩;have J:=η hb;clear hb;go_wp2_with fail;refine(u.o _ J.o).mono ?_;rintro e w2 ⟨rfl,rfl⟩;go_wp2_with fail;obtain⟨h3,h4⟩:=q.o _ J.o;have H4:=η h4;have N:=η (z8R h3 j.o);have O:=η J.o.size;clear h3 h4;refine N.o.mono ?_;rintro e w3 ⟨rfl,⟨F3,v3,V,x,B,Y,y⟩,Z⟩;have HE:=η (z7O x.l j.o);have z4:=x.l.blk.free 4;have c4:=x.l.c4;have R:=x.setSure (q1u C);have H8:=η R;have H6:=η Y;have I:=η y;have M:=η B;have H7:=η (H4.o.trans (Z.trans R.2));clear x Y y Z R B;go_wp2_with fail;refine HE.o.mono ?_;rintro e w4 ⟨rfl,rfl⟩;go_wp2_with fail;go_ret2;exact⟨_,rfl,O.o,⟨F3,v3,V,H8.o.1,⟨H6.o,j.o,M.o,I.o.sur _ _,Int.le_refl _⟩⟩,H7.o⟩
end
def noK :Nat->Prop:=fun _=>False
theorem DkK.new(w:World)(c:Int)(b:0<=c)(h1:c<=1048576):Calls Tryz.prog 55 #[.int .i64 c] w fun e w'=> ∃g,e= .returned (.tuple #[.pointer (some ⟨g,0,none⟩),.int .i64 0])/\DkK noO w w' g c 0 [] noK:=by
 refine(y4a w c b h1).mono ?_;rintro e w' ⟨g,F,rfl,h1,h2,h3⟩;exact⟨g,rfl,F,z9C c,⟨h1,h2,h3,fun i d=>d.elim⟩,y1p c⟩
theorem z9H{E:Oth}{w0 w:World}{g gl:Nat}{c s sure x z:Int}{C d:Cks}{K:Nat->Prop}(h:LgK E w0 w g gl c s C sure K)(p:List UInt8)(b:p.length<=9223372036854775807)(he:q1O (c-(q0q C:Int)) C p=(x,r,d))(i:q4T (c-(q0q C:Int)) sure C p=z):
  Calls Tryz.prog 88 #[.pointer (some ⟨gl,0,none⟩),.string ⟨p.toArray⟩] w fun e w'=>e= .returned (.tuple #[.int .i64 x,.int .i64 r])/\LgK E w0 w' g gl c s d z K/\Stay K w w':=by
 have h1:=z9I h p b;unfold AppR at h1;rw[he,i] at h1;exact h1
theorem y3p{E:Oth}{w0 w:World}{g gl:Nat}{c s sure:Int}{C:Cks}{K:Nat->Prop}(h:LgK E w0 w g gl c s C sure K)(pos:Int)(b: -9223372036854775808<=pos)(d:pos<=9223372036854775807)(he:q6X C pos=(p,r)):
  Calls Tryz.prog 181 #[.pointer (some ⟨gl,0,none⟩),.int .i64 pos] w fun e w'=>e= .returned (.tuple #[.string ⟨p.toArray⟩,.int .i64 r])/\LgK E w0 w' g gl c s C sure K/\Stay K w w':=by
 have h1:=y3q h pos b d;unfold ReadR at h1;rw[he] at h1;exact h1
theorem y3f{E:Oth}{w0 w:World}{g gl:Nat}{c s sure:Int}{C:Cks}{K:Nat->Prop}(h:LgK E w0 w g gl c s C sure K)(pos:Int)(b: -9223372036854775808<=pos)(d:pos<=9223372036854775807){r:Option (Nat×List UInt8)}(he:q4E C pos=r):
  Calls Tryz.prog 102 #[.pointer (some ⟨gl,0,none⟩),.int .i64 pos] w fun e w'=>e= .returned (z0g r)/\LgK E w0 w' g gl c s C sure K/\Stay K w w':=by
 have h1:=y3g h pos b d;unfold y2p at h1;rw[he] at h1;exact h1
section
variable {E :Oth}{P:List UInt8}
end
end
end Go.Proofs.YtfiibpgoplcgkaaGreatDoor
