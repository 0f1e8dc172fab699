/- Walks. -/
import Derived.Test.YtjlcdfpbllobaaaGreatDoorG25CL
import Derived.WalkMore
import Derived.Deep.LoopGhost
set_option linter.unusedVariables false
set_option linter.unusedSimpArgs false
set_option maxRecDepth 100000
set_option maxHeartbeats 6400000
namespace Go.Proofs.YtjlcdfpbllobaaaGreatDoor
variable {k n:Nat}{ps:List (List UInt8)}{p:List UInt8}{r:Int}
section
open Go.RowKit
theorem q5Q{fn:Func}{t u v x:Tmp}(h:fn.results=#[.tmp t,.tmp u,.tmp v,.tmp x])(tmps:Array Value)(P:Program)(w:World):
  (results fn tmps).run P w= .ok (.tuple #[tmps.getD t undef,tmps.getD u undef,tmps.getD v undef,tmps.getD x undef]) w:=by
 simp[results,h]
def z4I(r:Option (Nat×List UInt8)):Value:=match r with
 |none=> .tuple #[.string ⟨#[]⟩,.int .i64 0,.int .i64 0,.int .i64 4]
 |some (a,p)=> .tuple #[.string ⟨p.toArray⟩,.int .i64 (a:Int),.int .i64 ((a:Int)+(p.length:Int)+12),.int .i64 0]
theorem z8z(C:Cks)(pos:Int):q4J C (max pos 0)=q4J C pos:=by
 unfold q4J
 congr 1
 funext r
 rw[decide_eq_decide];omega
theorem z0d(n:Nat)(ps:List (List UInt8)):y0E (q0Y n ps) (q3H n)=true:=by
 unfold y0E q0Y;rw[ζ (by simp),Bool.true_and,List.take_left];simp
theorem z6e{pos:Int}{b:Nat}(B:List (Nat×List UInt8))(h:ps[k]? =some p):((q3M (b+12) ps).drop k++B).find? (fun r=>decide (pos<=(r.1:Int)))=if pos<=((b+q0M (ps.take k):Nat):Int) then some (b+q0M (ps.take k),p) else((q3M (b+12) ps).drop (k+1)++B).find? fun r=>decide (pos<=(r.1:Int)):=by
 have i:=z5u ps (b+12) k p h;obtain⟨j,he⟩:=List.getElem?_eq_some_iff.1 i;rw[<-List.getElem_cons_drop j,he,List.cons_append,List.find?_cons];have e:b+12+((ps.take k).map fun p=>p.length+12).sum=b+q0M (ps.take k):=by unfold q0M;omega
 simp only[e];by_cases d:pos<=((b+q0M (ps.take k):Nat):Int)
 ·rw[ξ d,ζ d]
 ·rw[κ d,ε d]
theorem y0g{C:Cks}(h:C[n]? =some ps):q1M (4096*n) (C.drop n)=q3M (4096*n+12) ps++q1M (4096*(n+1)) (C.drop (n+1)):=by
 obtain⟨b,he⟩:=List.getElem?_eq_some_iff.1 h;rw[<-List.getElem_cons_drop b,he,q1M]
 congr 2
theorem z4Q{W:World}{B:Nat}{m:Option Addr}{y:Nat}(h:W.ownsRow B 3 1 (.slice m ps.length y) ps.length ((q1j 12 ps).map fun x=>Value.int .i64 (x.1:Int)))(l:ps[k]? =some p):
  ∃b3,m=some ⟨b3,0,none⟩/\W.cell? ⟨b3,k,none⟩=some (.int .i64 (q0M (ps.take k):Int)):=by
 have i:k<ps.length:=(List.getElem?_eq_some_iff.1 l).1;obtain⟨b3,cap,o,d,_⟩:=(Own.of_row h).cell (j:=k) (by rw[List.length_map,q3F];exact i);have b:((q1j 12 ps).map fun x=>Value.int .i64 (x.1:Int))[k]'(by rw[List.length_map,q3F];exact i)= .int .i64 (q0M (ps.take k):Int):=by
  rw[List.getElem_map];have q:=z0c ps 12 k p l;obtain⟨_,u⟩:=List.getElem?_eq_some_iff.1 q;rw[u]
  rfl
 rw[b] at d
 cases o;exact⟨b3,rfl,d⟩
theorem z0h(ps:List (List UInt8))(k:Nat):q0M (ps.take k)<=q0M ps:=by
 unfold q0M
 conv=>rhs;rw[<-List.take_append_drop k ps,List.map_append,List.sum_append]
 omega
section
variable {E :Oth}{w0 w:World}{g gl:Nat}{F K:Nat->Prop}{v:Value}{σ:DM}{c s sure:Int}{C:Cks}{xs:List Int}
def y4J(E:Oth)(w0 w:World)(g gl:Nat)(c s:Int)(C:Cks)(sure:Int)(K:Nat->Prop)(pos:Int)(e:Ending)(w':World):Prop:=
 e= .returned (z4I (q4J C pos))/\LgK E w0 w' g gl c s C sure K/\Stay K w w'
theorem y5C(h :LgK E w0 w g gl c s C sure K)(pos:Int)(p0: -9223372036854775808<=pos)(p1:pos<=9223372036854775807):
  Calls Tryz.prog 59 #[.pointer (some ⟨gl,0,none⟩),.int .i64 pos] w (y4J E w0 w g gl c s C sure K pos):=by
 have HK:=η h;obtain⟨F,v,σ,j,d⟩:=h;have M0:=η (z1e j d.pl.up d.pl.st);have k0:=η d.ok;obtain⟨P,hP⟩: ∃P:Int,max pos 0=P:=⟨_,rfl⟩
 have j0:Hd (q4J C pos=q4J C P):=η (by rw[<-hP,z8z]);have q0:0<=P:=by omega
 have q1:P<=9223372036854775807:=by omega
 obtain⟨m,hm⟩: ∃m:Nat,P/4096=(m:Int):=⟨(P/4096).toNat,by omega⟩
 have hq:P.tdiv 4096=(m:Int):=by rw[Int.tdiv_eq_ediv_of_nonneg q0];exact hm
 have u0:(m:Int)<=2251799813685248:=by omega
 have P0:Hd (q4J C P=(q1M (4096*m) (C.drop m)).find? fun r=>decide (P<=(r.1:Int))):=η (z4H C P k0.o.size m (by omega));have v0:(if pos<(0:Int) then(0:Int) else pos)=P:=by rw[<-hP];split<;>omega
 have HM:=η hm;clear j d v0 hq;go_enter Tryz.func59,Tryz.ntmps59;go_wp2_with fail
 go_step3
 go_wp2_with fail;refine M0.o.mono ?_;rintro e w1 ⟨rfl,x⟩;have HB:=η x;clear x;go_wp2_with fail
 go_step3
 go_wp2_with fail
 go_loopw [9] (fun i W=> ∃n:Nat,i= .int .i64 (n:Int)/\(n:Int)<=2251799813685248/\q4J C P=((q1M (4096*n) (C.drop n)).find? fun r=>decide (P<=(r.1:Int)))/\LgK E w0 W g gl c s C sure K/\Stay K w W) (fun i _=>C.length-(intOf i).toNat)
 case atStart=>exact⟨m,by rw[HM.o],u0,P0.o,HK.o.grow HB.o,HK.o.kExt HB.o⟩
 case round =>
  obtain⟨n,rfl,c1,G,hk,D0⟩:=hrel;have i0:=η G;have r0:=η D0;have h0:=η hk;obtain⟨F',v',σ',j,d⟩:=hk;have C0:=q0u C;obtain⟨sa,sk,F0⟩:=q0F j.l.row;rw[C0] at F0;subst F0;have c3:=j.l.c3;have c0:=j.l.c0;clear G D0 C0 u0 hP hm;by_cases x0:C.length<=n
  ·have HE:Hd (z4I (q4J C pos)= .tuple #[.string ⟨#[]⟩,.int .i64 0,.int .i64 0,.int .i64 4]):=η (by
    rw[j0.o,i0.o,List.drop_of_length_le x0];rfl)
   have hd:decide ((n:Int)<(C.length:Int))=false:=by simp;omega
   clear j d;go_wp2_with fail
   try rw[Exit.noGoto_ret]
   refine bodyPost_ret (q5Q rfl _ _ _) rfl ?_;exact⟨by rw[HE.o];rfl,h0.o,r0.o⟩
  have hd:decide ((n:Int)<(C.length:Int))=true:=by simp;omega
  have A0:n<C.length:=by omega
  obtain⟨ps,u⟩: ∃ps,C[n]? =some ps:=⟨C[n],γ A0⟩
  have b0:n<200:=by have:=d.ok.few;omega
  obtain⟨b,d1,hv,s0,_⟩:=j.cellAt u
  cases hv;have N:q0M ps<=4096:=d.ok.size ps (List.mem_of_getElem? u);have q:=q1a n ps;have W0:ps.length<=341:=by have:=y2V ps;unfold q0M at N;omega
  have D:=q4M d.oth d.ok.few u;have B:=d.ok.pay ps (List.mem_of_getElem? u);have L0:Hd (q4J C P=((q3M (4096*n+12) ps).drop 0++q1M (4096*(n+1)) (C.drop (n+1))).find? fun r=>decide (P<=(r.1:Int))):=η (by rw[i0.o,y0g u,List.drop_zero]);obtain⟨z,hz⟩: ∃z:Int,(q0M ps:Int)=z:=⟨_,rfl⟩
  rw[hz] at s0;have z0:0<=z:=by omega
  have z1:z<=4096:=by omega
  have B0:=q3b (n:Int);have I0:=η (fun W=>q5D (n:Int) W);have n0:=η (fun (W:World) (k:Ext wr W)=>q6f (j.grow k) d.pl D B0 0 z (by decide) z0 (by rw[q];omega) (by rw[q];omega));have H0:z.toNat=q0M ps:=by omega
  have E0:((q0Y n ps).drop 0).take (q0M ps)=q0Y n ps:=by rw[List.drop_zero,Δ (by rw[q];omega)]
  have e0:(0:Int).toNat=0:=rfl;simp only[H0,e0,E0] at n0;have V:=η (fun W=>y2T (q0Y n ps) n W b0 (by rw[q];omega) (z0d n ps));rw[q9n n ps B] at V;generalize T0:(z1D 12 (q1j 12 ps):Int)=ee at V
  have J0:=η (fun (k:Nat) (p:List UInt8) (h:ps[k]? =some p) (W:World)=>(show Calls Tryz.prog 109 #[.string ⟨(q0Y n ps).toArray⟩,.int .i64 (q0M (ps.take k):Int)] W fun e w'=>e= .returned (.tuple #[.string ⟨p.toArray⟩,.int .i64 ((q0M (ps.take k)+p.length+12:Nat):Int),.bool true])/\Ext W w' by
   have j:=z1L (q0Y n ps) (q0M (ps.take k)) W (by rw[q];omega) (by
    have h3:(q0M (ps.take k):Nat)<=4096:=Ω (z0h ps k) N
    omega)
   have d:z2f (q0Y n ps) (q0M (ps.take k))= .tuple #[.string ⟨p.toArray⟩,.int .i64 ((q0M (ps.take k)+p.length+12:Nat):Int),.bool true]:=by
    unfold z2f;rw[y2L n ps k p h (B p (List.mem_of_getElem? h))]
   rw[d] at j
   exact j))
  have O:Hd (∀(W:World) (F':Nat->Prop) (τ:DM),LgF w0 W g gl F' (.slice (some ⟨b,0,none⟩) C.length sk) τ s (q0P C) sure K->W.cell? ⟨gl,0,none⟩=some (.pointer (some ⟨g,0,none⟩))/\W.cell? ⟨gl,3,none⟩=some (.slice (some ⟨b,0,none⟩) C.length sk)/\W.cell? ⟨b,n,none⟩=some (.int .i64 z)):=η fun W F' τ hW=>by
   obtain⟨b2,k2,e1,e2,_⟩:=hW.cellAt u
   cases e1;rw[hz] at e2;exact⟨hW.l.c0,hW.l.c3,e2⟩
  have hw:Ext wr wr.drew:=(Ext.refl wr).drew;have HW:=η hw;obtain⟨d0,d3,dz⟩:=O.o _ _ _ (j.grow hw);have Z0:=η d;have l0:=η d.oth;generalize q0Y n ps=S at*;generalize q0C 99 (n:Int)=nm at*;have HZ:=η hz;have a1:=η u;have K0:=η N;have m0:=η B;clear j d q D B B0 H0 E0 T0 hw hz u N s0 x0;go_wp2_with fail
  go_region_held3 (fun W=>W.cell? ⟨gl,0,none⟩=some (.pointer (some ⟨g,0,none⟩))/\W.cell? ⟨gl,3,none⟩=some (.slice (some ⟨b,0,none⟩) C.length sk)/\W.cell? ⟨b,n,none⟩=some (.int .i64 z))
   (first|exact O0.o|exact N0.o|exact⟨d0,d3,dz⟩)
   (first
    |(go_at_call 106;refine(I0.o _).mono ?_;rintro e wa ⟨rfl,j⟩;have H1:=η (HW.o.trans j);have N0:=η (And.intro (q0A j d0) (And.intro (q0A j d3) (q0A j dz)));clear j)
    |(go_at_call 105;refine(n0.o _ H1.o).mono ?_;rintro e wb ⟨rfl,⟨F2,V0,d,h3⟩,h4⟩;have H2:=η d;have H3:=η h3;have H4:=η h4;have O0:=η (O.o _ _ _ d);clear d h3 h4))
  all_goals
   go_wp2_with fail;refine(V.o _).mono ?_;rintro e wc ⟨pv,rfl,hr,x⟩;have X0:=η x;obtain⟨pa,pc,rfl⟩:=q0F hr;have o0:=η hr;have M:(q1j 12 ps).length=ps.length:=q3F ps 12;rw[M] at o0;rw[M];have J:=η (show LgK E w0 wc g gl c s C sure K from⟨F2,_,V0,H2.o.grow x,⟨H3.o,k0.o,l0.o⟩⟩);have Q:=η (r0.o.trans ((h0.o.kExt H1.o).trans (H4.o.trans (H2.o.kExt x))));clear hr x M;go_wp2_with fail
   go_loopw [72] (fun i W=> ∃k:Nat,k<=ps.length/\i= .int .i64 (k:Int)/\q4J C P=(((q3M (4096*n+12) ps).drop k++q1M (4096*(n+1)) (C.drop (n+1))).find? fun r=>decide (P<=(r.1:Int)))/\Ext wc W) (fun i _=>ps.length-(intOf i).toNat)
   case atStart=>exact⟨0,υ _,rfl,L0.o,Ext.refl _⟩
   case round=>
    obtain⟨k,hk,rfl,G,x⟩:=hrel;have U:=η G;have I:=η x;clear G;by_cases U0:k<ps.length
    ·obtain⟨p,hp⟩: ∃p,ps[k]? =some p:=⟨ps[k],γ U0⟩
     have R0:decide ((k:Int)<(ps.length:Int))=true:=by simp;omega
     obtain⟨b3,rfl,Q0⟩:=z4Q (q0I o0.o x) hp;have HG:=η (J0.o k p hp wr);have g0:=η (z6e (pos:=P) (b:=4096*n) (q1M (4096*(n+1)) (C.drop (n+1))) hp);have G0:q0M (ps.take k)<=4096:=Ω (z0h ps k) K0.o;have M:p.length<=2000:=m0.o p (List.mem_of_getElem? hp);obtain⟨X,Y⟩: ∃X:Int,((q0M (ps.take k)+p.length+12:Nat):Int)=X:=⟨_,rfl⟩
     rw[Y] at HG;obtain⟨y,hy⟩: ∃y:Int,(q0M (ps.take k):Int)=y:=⟨_,rfl⟩
     rw[hy] at Q0 HG;have Z:X=y+(p.length:Int)+12:=by omega
     have y0:0<=y:=by omega
     have y1:y<=4096:=by omega
     have Y0:0<=X:=by omega
     have Y1:X<=6108:=by omega
     have a0:(n:Int)<=199:=by omega
     have b1:=η Z;have HY:=η hy;by_cases t0:(n:Int)*4096+y<P
     ·have S0:decide ((n:Int)*4096+y<P)=true:=by simpa using t0
      have R:Hd (q4J C P=(((q3M (4096*n+12) ps).drop (k+1)++q1M (4096*(n+1)) (C.drop (n+1))).find? fun r=>decide (P<=(r.1:Int)))):=η (by
       rw[U.o,g0.o,κ (by omega)])
      clear hy Z Y hp x G0;go_wp2_with fail
      go_roundw
      case rel=>exact⟨k+1,by omega,by go_num,R.o,I.o⟩
      case measure=>simp[intOf];omega
     ·have S0:decide ((n:Int)*4096+y<P)=false:=by simpa using t0
      have HE:Hd (z4I (q4J C pos)= .tuple #[.string ⟨p.toArray⟩,.int .i64 ((n:Int)*4096+y),.int .i64 ((n:Int)*4096+X),.int .i64 0]):=η (by
       have e1:q4J C pos=some (4096*n+q0M (ps.take k),p):=by rw[j0.o,U.o,g0.o,ξ (by omega)]
       rw[e1];show Value.tuple #[.string ⟨p.toArray⟩,.int .i64 ((4096*n+q0M (ps.take k):Nat):Int),.int .i64 (((4096*n+q0M (ps.take k):Nat):Int)+(p.length:Int)+12),.int .i64 0]=_;have e2:((4096*n+q0M (ps.take k):Nat):Int)=(n:Int)*4096+y:=by omega
       have e3:((4096*n+q0M (ps.take k):Nat):Int)+(p.length:Int)+12=(n:Int)*4096+X:=by omega
       rw[e3,e2])
      clear hy Z Y hp x G0;go_wp2_with fail;refine HG.o.mono ?_;rintro e wd ⟨rfl,x⟩;have f0:=η (I.o.trans x);clear x;go_wp2_with fail
      try rw[Exit.noGoto_ret]
      refine bodyPost_ret (q5Q rfl _ _ _) rfl ?_;exact⟨by rw[HE.o];rfl,J.o.grow f0.o,Q.o.trans (J.o.kExt f0.o)⟩
    ·have R0:decide ((k:Int)<(ps.length:Int))=false:=by simp;omega
     have R:Hd (q4J C P=((q1M (4096*(n+1)) (C.drop (n+1))).find? fun r=>decide (P<=(r.1:Int)))):=η (by
      rw[U.o,List.drop_of_length_le (by rw[q5P];omega),List.nil_append])
     have a0:(n:Int)<=199:=by omega
     clear x;go_wp2_with fail
     go_roundw
     case rel=>exact⟨n+1,by go_num,by omega,R.o,J.o.grow I.o,Q.o.trans (J.o.kExt I.o)⟩
     case measure=>simp[intOf];omega
end
end
section
open Go.RowKit Go.Maps Go.Sort
theorem Dk.names{w:World}{g:Nat}{F:Nat->Prop}{σ:DM}(h:Dk w g F σ):Calls Tryz.prog 186 #[.pointer (some ⟨g,0,none⟩)] w (RetN w (q1v σ)):=by
 obtain⟨i,m,l,L,b,_⟩:=h;have:=i.many;have j:L.length=σ.L.length:=by rw[<-b.files,List.length_map]
 have d:=z4F w g m L b.c0 b.c3 b.fs (by omega);have e:L.map FE.nm=q1v σ:=by unfold q1v;rw[<-b.files,List.map_map];rfl
 rwa [e] at d
section
variable {E :Oth}{w0 w:World}{g gl:Nat}{F K:Nat->Prop}{v:Value}{σ:DM}{c s sure:Int}{C:Cks}{xs:List Int}
theorem y2n(h:Dk w g F σ)(N:Lgd E σ c s C):Calls Tryz.prog 126 #[.pointer (some ⟨g,0,none⟩)] w fun e w'=>e= .returned (.tuple #[.int .i64 (C.length:Int),.bool true])/\Ext w w':=by
 have HN:=η h.names;have S:q1v σ=(E.X.map Prod.fst++((List.range C.length).map fun k:Nat=>q0C 99 (k:Int))++E.Z.map Prod.fst):=by rw[N.pl.names,z6U,List.append_assoc]
 have e0:=N.ok.few;have R:=N.oth.few;rw[S] at HN
 have a0:Hd (∀k (hk:k<(E.X.map Prod.fst++((List.range C.length).map fun k:Nat=>q0C 99 (k:Int))++E.Z.map Prod.fst).length) (W:World),
   ∃ kd v o,Calls Tryz.prog 187 #[.string ⟨((E.X.map Prod.fst++((List.range C.length).map fun k:Nat=>q0C 99 (k:Int))++E.Z.map Prod.fst)[k]).toArray⟩] W (fun e w'=>e= .returned (.tuple #[.int .u8 kd,.int .i64 v,.bool o])/\Ext W w')/\
    ((E.X.length<=k/\k<E.X.length+C.length/\kd=99/\v=((k-E.X.length:Nat):Int)/\o=true)\/((k<E.X.length\/E.X.length+C.length<=k)/\(o=true->(kd==99)=false)))):=η fun k hk W=>by
  have h0:k<E.X.length+C.length+E.Z.length:=by simp at hk;omega
  have B: ∀nm:List UInt8,(∃y,(y∈E.X\/y∈E.Z)/\y.1=nm)->Calls Tryz.prog 187 #[.string ⟨nm.toArray⟩] W (fun e w'=>e= .returned (.tuple #[.int .u8 (q1K nm).1.toNat,.int .i64 (q1K nm).2.1,.bool (q1K nm).2.2])/\Ext W w')/\((q1K nm).2.2=true->(((q1K nm).1.toNat:Int)==99)=false):=fun nm ⟨y,hy,e⟩=>by
   subst e;refine⟨z4M y.1 W (by have:=N.oth.len y hy;omega),fun ho=>?_⟩;have x:=N.oth.kind y hy ho;rw[beq_eq_false_iff_ne];intro e;exact x (UInt8.toNat_inj.1 (by have:((q1K y.1).1.toNat:Int)=99:=e;show(q1K y.1).1.toNat=99;omega))
  rcases Nat.lt_or_ge k E.X.length with x|x
  ·have e:(E.X.map Prod.fst++((List.range C.length).map fun k:Nat=>q0C 99 (k:Int))++E.Z.map Prod.fst)[k]=E.X[k].1:=by
    rw[List.getElem_append_left (by simp;omega),List.getElem_append_left (by simpa using x),List.getElem_map]
   rw[e];obtain⟨U,q2⟩:=B E.X[k].1 ⟨_,.inl (List.getElem_mem x),rfl⟩;exact⟨_,_,_,U,.inr ⟨.inl x,q2⟩⟩
  rcases Nat.lt_or_ge k (E.X.length+C.length) with Q|Q
  ·have e:(E.X.map Prod.fst++((List.range C.length).map fun k:Nat=>q0C 99 (k:Int))++E.Z.map Prod.fst)[k]=q0C 99 ((k-E.X.length:Nat):Int):=by
    rw[List.getElem_append_left (by simpa using Q),List.getElem_append_right (by simpa using x),List.getElem_map,List.getElem_range];simp
   rw[e];have h3:=z4M (q0C 99 ((k-E.X.length:Nat):Int)) W (q3b _);rw[q2Y (by decide) (by omega)] at h3;exact⟨99,_,true,h3,.inl ⟨x,Q,rfl,rfl,rfl⟩⟩
  ·have hz:k-(E.X.length+C.length)<E.Z.length:=by omega
   have e:(E.X.map Prod.fst++((List.range C.length).map fun k:Nat=>q0C 99 (k:Int))++E.Z.map Prod.fst)[k]=(E.Z[k-(E.X.length+C.length)]).1:=by
    rw[List.getElem_append_right (by simpa using Q),List.getElem_map];simp
   rw[e];obtain⟨U,q2⟩:=B _ ⟨_,.inr (List.getElem_mem hz),rfl⟩;exact⟨_,_,_,U,.inr ⟨.inr Q,q2⟩⟩
 have M:(E.X.map Prod.fst++((List.range C.length).map fun k:Nat=>q0C 99 (k:Int))++E.Z.map Prod.fst).length=E.X.length+C.length+E.Z.length:=by simp;omega
 clear h N S;generalize E.X.map Prod.fst++((List.range C.length).map fun k:Nat=>q0C 99 (k:Int))++E.Z.map Prod.fst=NL at*;generalize E.X.length=a at*;generalize C.length=n at*;obtain⟨t,ht⟩: ∃t,a+n+E.Z.length=t:=⟨_,rfl⟩
 rw[ht] at M;have O:=η M;have f0:a+n<=t/\t<=400:=by omega
 clear ht M R;go_enter Tryz.func126,Tryz.ntmps126;go_wp2_with fail;refine HN.o.mono ?_;intro e w1 hr;obtain⟨ad,cap,rfl,u,d⟩:=hr.o;rw[O.o] at u⊢;have V:=η u;have HB:=η d;clear hr u d;go_wp2_with fail
 go_loopw [2,3,12] (fun m o i W=> ∃k:Nat,k<=t/\i= .int .i64 (k:Int)/\m= .int .i64 ((min (k-a) n:Nat):Int)/\o= .bool true/\Ext w1 W) (fun _ _ i _=>t-(intOf i).toNat)
 case atStart=>exact⟨0,υ _,rfl,by simp,rfl,Ext.refl _⟩
 case round=>
  obtain⟨k,hk,rfl,rfl,rfl,d⟩:=hrel;have I:=η d;by_cases b0:k<t
  ·have hd:decide ((k:Int)<(t:Int))=true:=by simp;omega
   have l:k<NL.length:=by rw[O.o];exact b0
   obtain⟨b,d0,hv,hc,_⟩:=(V.o.ext d).cell (j:=k) (by simpa using l)
   cases hv;have D:((NL.map encStr)[k]'(by simpa using l))= .string ⟨NL[k].toArray⟩:=by simp[encStr]
   rw[D] at hc;obtain⟨kd,v,o,hP,J⟩:=a0.o k l wr;have Y:=η hP;have q0:IntKind.i64.wrap ((k:Int)+1)=(k:Int)+1:=by rw[ν];omega
   obtain⟨m,hm⟩: ∃m,min (k-a) n=m:=⟨_,rfl⟩
   have U:IntKind.i64.wrap ((m:Int)+1)=(m:Int)+1:=by rw[ν];omega
   generalize NL[k]=nm at*;clear D d hP;rcases J with⟨p1,p2,rfl,rfl,rfl⟩|⟨p1,p2⟩
   ·have c0:m=k-a:=by omega
    have q:min (k+1-a) n=m+1:=by omega
    rw[<-c0] at Y;rw[hm];clear l;go_wp2_with fail;refine Y.o.mono ?_;rintro e w2 ⟨rfl,d⟩;have G:=η (I.o.trans d);clear d;go_wp2_with fail
    go_roundw
    case rel=>exact⟨k+1,by omega,by go_num,by rw[q];go_num,rfl,G.o⟩
    case measure=>simp[intOf];omega
   ·have q:min (k+1-a) n=m:=by omega
    rw[hm];have ho:o=false\/(o=true/\(kd==99)=false):=by
     cases o with
     |false=>exact .inl rfl
     |true=>exact .inr ⟨rfl,p2 rfl⟩
    clear l p2;rcases ho with rfl|⟨rfl,i0⟩
    all_goals
     go_wp2_with fail;refine Y.o.mono ?_;rintro e w2 ⟨rfl,d⟩;have G:=η (I.o.trans d);clear d;go_wp2_with fail
     go_roundw
     case rel=>exact⟨k+1,by omega,by go_num,by rw[q],rfl,G.o⟩
     case measure=>simp[intOf];omega
  ·have hd:decide ((k:Int)<(t:Int))=false:=by simp;omega
   have q:min (k-a) n=n:=by omega
   have g0:decide ((n:Int)<=200)=true:=by simp;omega
   rw[q];clear d;go_wp2_with fail;go_ret2;exact⟨rfl,HB.o.trans I.o⟩
theorem y4i(h:LgP E w0 w g gl c s (q3y E C) xs sure K)(j:okC C)(l:C[n]? =some ps):
  Calls Tryz.prog 189 #[.pointer (some ⟨g,0,none⟩),.int .i64 (n:Int)] w fun e w'=>e= .returned (.tuple #[.string ⟨(q0Y n ps).toArray⟩,.int .i64 (q0M ps:Int),.int .i64 0])/\LgP E w0 w' g gl c s (q3y E C) xs sure K/\Stay K w w':=by
 obtain⟨F,v,σ,Q,V,D⟩:=h;have HE:=η V;have y:n<200:=by have:=j.few;have:=(List.getElem?_eq_some_iff.1 l).1;omega
 have X:q0M ps<=4096:=j.size ps (List.mem_of_getElem? l);have u:=j.pay ps (List.mem_of_getElem? l);have b:=q1a n ps;have i:=q4M V j.few l;have B:=q3b (n:Int);have M:=η (fun W=>q5D (n:Int) W)
 have U:=η (fun (W:World) (k:Ext w W)=>(show Calls Tryz.prog 124 #[.pointer (some ⟨g,0,none⟩),.string ⟨(q0C 99 (n:Int)).toArray⟩] W fun e w'=>e= .returned (.tuple #[.int .i64 (q0M ps:Int),.int .i64 0])/\W=w' by
  have G:=q7o (Q.d.ext k) (q0C 99 (n:Int)) B;rw[D.size i] at G;have R:(((q0C 99 (n:Int),q0Y n ps):List UInt8×List UInt8).2.length:Int)=(q0M ps:Int):=by simp[b]
  rw[R] at G
  exact G))
 have N:=η (fun (W:World) (k:Ext w W)=>q6f (Q.grow k) D i B 0 (q0M ps:Int) (by decide) (by omega) (by rw[b];omega) (by rw[b];omega));have O:((q0Y n ps).drop 0).take (q0M ps)=q0Y n ps:=by rw[List.drop_zero,Δ (by rw[b];omega)]
 have e0:(0:Int).toNat=0:=rfl;simp only[Int.toNat_natCast,e0,O] at N;have x:=η (fun W=>y2T (q0Y n ps) n W y (by rw[b];omega) (z0d n ps));rw[q9n n ps u] at x;have q:(z1D 12 (q1j 12 ps):Int)=(q0M ps:Int):=by rw[z4P];rfl
 rw[q] at x;have HH:=η Q;generalize q0Y n ps=S at*;generalize q0C 99 (n:Int)=nm at*;generalize (q0M ps:Int)=z at*;clear Q D V b i u B O q X l j;go_enter Tryz.func189,Tryz.ntmps189;go_wp2_with fail;refine(M.o _).mono ?_;rintro e w1 ⟨rfl,m⟩;have HB:=η m;clear m;go_wp2_with fail;refine(U.o _ HB.o).mono ?_;rintro e w2 ⟨rfl,rfl⟩;go_wp2_with fail;refine(M.o _).mono ?_;rintro e w3 ⟨rfl,m⟩;have I:=η (HB.o.trans m);clear m;go_wp2_with fail;refine(N.o _ I.o).mono ?_;rintro e w4 ⟨rfl,⟨F2,Y,D,G⟩,R⟩;have Z:=η D;have H3:=η G;have H4:=η ((HH.o.kExt I.o).trans R);clear D G R;go_wp2_with fail;refine(x.o _).mono ?_;rintro e w5 ⟨pv,rfl,hr,m⟩;have J:=η m;obtain⟨pa,pc,rfl⟩:=q0F hr;clear hr m;go_wp2_with fail;go_ret3;exact⟨rfl,⟨_,_,Y,Z.o.grow J.o,HE.o,H3.o⟩,H4.o.trans (Z.o.kExt J.o)⟩
end
end
section
open Go.RowKit
section
variable {E :Oth}{w0 w:World}{g gl:Nat}{F K:Nat->Prop}{v:Value}{σ:DM}{c s sure:Int}{C:Cks}{xs:List Int}
theorem y4o{D:Cks}(h:LgP E w0 w g gl c s (q3y E (D++[ps])) (q0P D) sure K)(q:okC (D++[ps])):
  Calls Tryz.prog 190 #[.pointer (some ⟨gl,0,none⟩),.int .i64 (D.length:Int),.string ⟨(q0Y D.length ps).toArray⟩,.int .i64 (q0M ps:Int)] w fun e w'=>
   e= .returned (.int .i64 0)/\LgP E w0 w' g gl c s (q3y E (D++[ps])) (q0P (D++[ps])) sure K/\Stay K w w':=by
 obtain⟨F,v,σ,O,Y,h2⟩:=h;have HE:=η Y;have Q:D.length+1<=200:=by have:=q.few;simpa using this
 have g0:q0M ps<=4096:=q.size ps (by simp);have X:12<=q0M ps:=by unfold q0M;omega
 have x:=q1a D.length ps;have m:=q4M Y q.few (z0y D ps);have R:=q3b (D.length:Int);have a0:=η (fun W=>q5D (D.length:Int) W);obtain⟨σ',hm,U⟩:=h2.sync m
 have d0:=η (fun (W:World) (F':Nat->Prop) (hW:Dk W g F' σ)=>(show Calls Tryz.prog 200 #[.pointer (some ⟨g,0,none⟩),.string ⟨(q0C 99 (D.length:Int)).toArray⟩] W fun e w'=>e= .returned (.int .i64 0)/\DkS W g F' σ' w' by
  have:=z6F hW (q0C 99 (D.length:Int)) R;rw[hm] at this
  exact this))
 have u:=q0u D;obtain⟨sa,sk,V⟩:=q0F O.l.row;rw[u] at V;subst V;have b:=O.l.row;rw[u] at b;have M:=η b;have Z:=η O.l.c3;have HH:=η O;have HP:=η (And.intro Y U);have f0:((q0Y D.length ps).length:Int)=(q0M ps:Int):=by rw[x]
 have N:Hd (q0P D++[(q0M ps:Int)]=q0P (D++[ps])):=η (q3A D ps).symm;have m0:(q0Y D.length ps).length<=4096:=by omega
 obtain⟨z,hz⟩: ∃z:Int,(q0M ps:Int)=z:=⟨_,rfl⟩
 have n0:12<=z:=by omega
 have z4:z<=4096:=by omega
 have h0:(z==0)=false:=by simp;omega
 rw[hz] at f0 N⊢;have e0:=η u;generalize q0Y D.length ps=S at*;generalize q0C 99 (D.length:Int)=nm at*;have l0:D.length<=199:=by omega
 generalize hn:D.length=n at*;clear O h2 Y U hm m R x u b hz g0 X q hn Q;go_enter Tryz.func190,Tryz.ntmps190;go_wp2_with fail;refine(a0.o _).mono ?_;rintro e w1 ⟨rfl,I⟩;have HB:=η I;have c3:=q0A I Z.o;have J:=η (HH.o.grow I);have b:=q0I M.o I;have b0:=η b;have z3:=(HH.o.grow I).l.blk.free 3;clear I b
 go_wp2_with (at_builtin;refine q0K rfl _ _ 57 rfl 0 3 _ 1 8 Tryz.underlying57 Tryz.infoI (by decide) (by decide) _ n _ rfl (q0I b0.o (q0B _ _)) _ 1 1 [.int .i64 z] rfl rfl (fun h=>by cases h) (Rd.lit _ _ _) (by simp[Value.oneCell']) (by unfold maxLen;omega) (by omega) (υ _) ?_;intro v' w2 j i B;have k0:=η j;have j0:=η i;have i0:=η B;obtain⟨_,q2,q3⟩:=J.o.pushed (q0B _ _) i;obtain⟨a',k',rfl⟩:=q0F j;have G:=J.o.push (q0B _ _) (by rw[e0.o];exact j) i B;have y:=η G;have u0:=G.1.l.c0;clear j i B G)
 refine(d0.o _ _ y.o.1.d).mono ?_;rintro e w3 ⟨rfl,h3⟩;have h4:=y.o.1.disk h3;have H4:=η h4;clear h3 h4;go_wp2_with fail;go_ret;exact⟨rfl,⟨_,_,σ',by rw[<-N.o];exact H4.o.1,HP.o⟩,(HH.o.kExt HB.o).trans (y.o.2.trans H4.o.2)⟩
theorem y1x(h:C[k]? =some ps):C.take (k+1)=C.take k++[ps]:=by
 obtain⟨b,he⟩:=List.getElem?_eq_some_iff.1 h;rw[List.take_succ_eq_append_getElem b,he]
theorem z9X(h:LgP E w0 w g gl c s (q3y E C) [] sure K)(U:okC C):
  Calls Tryz.prog 128 #[.pointer (some ⟨gl,0,none⟩),.int .i64 (C.length:Int)] w fun e w'=>e= .returned (.int .i64 0)/\LgP E w0 w' g gl c s (q3y E C) (q0P C) sure K/\Stay K w w':=by
 have HK:=η h;have N:=η U;have n0:=U.few;clear h U;go_enter Tryz.func128,Tryz.ntmps128;go_wp2_with fail
 go_loopw [10] (fun i W=> ∃k:Nat,k<=C.length/\i= .int .i64 (k:Int)/\LgP E w0 W g gl c s (q3y E C) (q0P (C.take k)) sure K/\Stay K w W) (fun i _=>C.length-(intOf i).toNat)
 case atStart=>exact⟨0,υ _,rfl,HK.o,Stay.refl _ _⟩
 case round=>
  obtain⟨k,hk,rfl,X,G⟩:=hrel;have O:=η G;by_cases k0:k<C.length
  ·have hd:decide ((k:Int)<(C.length:Int))=true:=by simp;omega
   obtain⟨ps,m⟩: ∃ps,C[k]? =some ps:=⟨C[k],γ k0⟩
   have M:=η (y4i X N.o m);have c0:=(by obtain⟨_,_,_,h1,_,_⟩:=X;exact h1.l.c0:wr.cell? ⟨gl,0,none⟩=some (.pointer (some ⟨g,0,none⟩)))
   have e0:q0M ps<=4096:=N.o.size ps (List.mem_of_getElem? m);have J:12<=q0M ps:=by unfold q0M;omega
   have j:=q1a k ps;have hT:=y1x m;have B:(C.take k).length=k:=by rw[Θ];omega
   have l0:((q0Y k ps).length:Int)=(q0M ps:Int):=by rw[j]
   have a0:Hd (q0P (C.take k)++[(q0M ps:Int)]=q0P (C.take (k+1))):=η (by rw[hT,q3A]);by_cases R:k+1=C.length
   ·have y:C=C.take k++[ps]:=by rw[<-hT,R,List.take_length]
    have j0:((k:Int)==(C.length:Int)-1)=true:=by simp;omega
    have g0:=η (fun (W:World) (hW:LgP E w0 W g gl c s (q3y E C) (q0P (C.take k)) sure K)=>(show Calls Tryz.prog 190 #[.pointer (some ⟨gl,0,none⟩),.int .i64 (k:Int),.string ⟨(q0Y k ps).toArray⟩,.int .i64 (q0M ps:Int)] W fun e w'=>e= .returned (.int .i64 0)/\LgP E w0 w' g gl c s (q3y E C) (q0P C) sure K/\Stay K W w' by
     have x:=y4o (D:=C.take k) (ps:=ps) (by rw[<-y];exact hW) (by rw[<-y];exact N.o);rw[B,<-y] at x
     exact x))
    generalize q0Y k ps=S at*;generalize (q0M ps:Int)=z at*;clear X G m j hT B y e0 J;go_wp2_with fail;refine M.o.mono ?_;rintro e w2 ⟨rfl,x,I⟩;have H2:=η x;have H3:=η (O.o.trans I);clear x I;go_wp2_with fail;refine(g0.o _ H2.o).mono ?_;rintro e w3 ⟨rfl,x,I⟩;have H4:=η x;have H5:=η (H3.o.trans I);clear x I;go_wp2_with fail;go_ret;exact⟨rfl,H4.o,H5.o⟩
   ·have j0:((k:Int)==(C.length:Int)-1)=false:=by simp;omega
    obtain⟨z,hz⟩: ∃z:Int,(q0M ps:Int)=z:=⟨_,rfl⟩
    have t0:12<=z:=by omega
    have z4:z<=4096:=by omega
    have o0:(z==0)=false:=by simp;omega
    have s0:(q0Y k ps).length<=4096:=by omega
    rw[hz] at l0 a0 M;have f0:=η B;generalize q0Y k ps=S at*;clear X G m j hT B hz e0 J;go_wp2_with fail;refine M.o.mono ?_;rintro e w2 ⟨rfl,x,I⟩;have H3:=η (O.o.trans I);obtain⟨F2,v2,m0,V,hE,h5⟩:=x;have u:=q0u (C.take k);rw[f0.o] at u;obtain⟨sa,sk,d0⟩:=q0F V.l.row;rw[u] at d0;subst d0;have q:=V.l.row;rw[u] at q;have h0:=η q;have c3:=V.l.c3;have z3:=V.l.blk.free 3;have Y:=η V;have H5:=η (And.intro hE h5);have i0:=η u;clear hE I V h5 u q c0
    go_wp2_with (at_builtin;refine q0K rfl _ _ 57 rfl 0 3 _ 1 8 Tryz.underlying57 Tryz.infoI (by decide) (by decide) _ k _ rfl (q0I h0.o (q0B _ _)) _ 1 1 [.int .i64 z] rfl rfl (fun h=>by cases h) (Rd.lit _ _ _) (by simp[Value.oneCell']) (by unfold maxLen;omega) (by omega) (υ _) ?_;intro v' w3 d b Q;have r0:=η d;have q0:=η b;have p0:=η Q;obtain⟨_,q2,q3⟩:=Y.o.pushed (q0B _ _) b;obtain⟨a',k',rfl⟩:=q0F d;have b0:=Y.o.push (q0B _ _) (by rw[i0.o];exact d) b Q;have Z:=η b0;clear d b Q b0)
    go_roundw
    case rel=>exact⟨k+1,by omega,by go_num,⟨_,_,m0,by rw[<-a0.o];exact Z.o.1,H5.o⟩,H3.o.trans Z.o.2⟩
    case measure=>simp[intOf];omega
  ·have hd:decide ((k:Int)<(C.length:Int))=false:=by simp;omega
   have HL:=η (show LgP E w0 wr g gl c s (q3y E C) (q0P C) sure K by
    have e:C.take k=C:=Δ (by omega)
    rwa [e] at X)
   clear X G;go_wp2_with fail;go_ret;exact⟨rfl,HL.o,O.o⟩
end
section
variable {E :Oth}{w0 w:World}{g gl:Nat}{F K:Nat->Prop}{v:Value}{σ:DM}{c s sure:Int}{C:Cks}{xs:List Int}
theorem y5G(h:DkK E w0 w g c s C K):Calls Tryz.prog 80 #[.pointer (some ⟨g,0,none⟩)] w fun e w'=> ∃gl,e= .returned (.tuple #[.pointer (some ⟨gl,0,none⟩),.int .i64 0])/\w.heap.size<=gl/\LgK E w0 w' g gl c s C (q4O C) K/\Stay K w w':=by
 obtain⟨F,σ,b,m⟩:=h;have G: ∀i,F i->i<w.heap.size:=by obtain⟨_,_,_,_,_,_,h⟩:=b.d;exact h
 have V:=η (y6M b.d);rw[m.pl.up] at V;have S:=q7o b.d [110,101,119] (by decide);rw[m.pl.sizeN (y0R m.oth m.ok.few)] at S;have HS:=η S;have HC:=η (y2n b.d m);have y:=η (fun (W:World) (k:Ext w W)=>z6E (b.d.ext k));rw[m.pl.st] at y
 have x:=η (fun (W:World) (k:Ext w W)=>show LgP E w0 (W.alloc (.cells #[.pointer (some ⟨g,0,none⟩),.int .i64 s,.bool false,.slice none 0 0,.int .i64 0] 164)) g W.heap.size c s (q3y E C) [] 0 K/\Stay K w (W.alloc (.cells #[.pointer (some ⟨g,0,none⟩),.int .i64 s,.bool false,.slice none 0 0,.int .i64 0] 164)) from by
  have hk:=k.size;have I:=k.trans (q0B W (.cells #[.pointer (some ⟨g,0,none⟩),.int .i64 s,.bool false,.slice none 0 0,.int .i64 0] 164));have u: ∀i,q8R W.heap.size (.slice none 0 0) i->i=W.heap.size:=fun i j=>by rcases j with h|h;exact h;cases h
  refine⟨⟨F,.slice none 0 0,σ,⟨b.d.ext I,⟨Blk.new _ _ _,World.ownsRow_nil _ _ _ _⟩,fun i j R=>?_,b.bF,fun i j=>?_,b.ext.trans I,fun i j=>⟨?_,(b.k i j).2,fun R=>?_⟩⟩,m.oth,m.pl⟩,fun i j=>I.block i (b.k i j).1⟩
  ·have:=u i R;have:=G i j;omega
  ·have:=u i j;have:=b.ext.size;omega
  ·have:=(b.k i j).1;have:=I.size;omega
  ·have:=u i R;have:=(b.k i j).1;omega)
 have q:=η m.ok;clear b m S G;go_enter Tryz.func80,Tryz.ntmps80;go_wp2_with fail;refine V.o.mono ?_;rintro e w1 ⟨rfl,rfl⟩;go_wp2_with fail;refine HS.o.mono ?_;rintro e w1 ⟨rfl,rfl⟩;go_wp2_with fail;refine HC.o.mono ?_;rintro e w1 ⟨rfl,hb⟩;have J:=η hb;clear hb;go_wp2_with fail;refine(y.o _ J.o).mono ?_;rintro e w2 ⟨rfl,rfl⟩;go_wp2_with fail;obtain⟨X,Y⟩:=x.o _ J.o;have H4:=η Y;have N:=η (z9X X q.o);have O:=η J.o.size;clear X Y;refine N.o.mono ?_;rintro e w3 ⟨rfl,⟨F3,v3,U,B,D,Z⟩,h7⟩;have HE:=η (y0n B.l q.o);have z4:=B.l.blk.free 4;have c4:=B.l.c4;have Q:=B.setSure (q4O C);have H8:=η Q;have H6:=η Z;have M:=η D;have H7:=η (H4.o.trans (h7.trans Q.2));clear B Z h7 Q D;go_wp2_with fail;refine HE.o.mono ?_;rintro e w4 ⟨rfl,rfl⟩;go_wp2_with fail;go_ret2;exact⟨_,rfl,O.o,⟨F3,v3,U,H8.o.1,⟨H6.o,q.o,M.o⟩⟩,H7.o⟩
end
theorem y0H{E:Oth}{w0 w:World}{g gl:Nat}{c s sure x z:Int}{C i:Cks}{K:Nat->Prop}(h:LgK E w0 w g gl c s C sure K)(p:List UInt8)(d:p.length<=9223372036854775807)(he:q1P (c-(q1C C:Int)) C p=(x,r,i))(j:q5B (c-(q1C C:Int)) sure C p=z):
  Calls Tryz.prog 48 #[.pointer (some ⟨gl,0,none⟩),.string ⟨p.toArray⟩] w fun e w'=>e= .returned (.tuple #[.int .i64 x,.int .i64 r])/\LgK E w0 w' g gl c s i z K/\Stay K w w':=by
 have b:=y0I h p d;unfold AppR at b;rw[he,j] at b;exact b
theorem y5O{E:Oth}{w0 w:World}{g gl:Nat}{c s sure:Int}{C:Cks}{K:Nat->Prop}(h:LgK E w0 w g gl c s C sure K)(pos:Int)(d: -9223372036854775808<=pos)(i:pos<=9223372036854775807)(he:q6z C pos=(p,r)):
  Calls Tryz.prog 182 #[.pointer (some ⟨gl,0,none⟩),.int .i64 pos] w fun e w'=>e= .returned (.tuple #[.string ⟨p.toArray⟩,.int .i64 r])/\LgK E w0 w' g gl c s C sure K/\Stay K w w':=by
 have b:=y5P h pos d i;unfold ReadR at b;rw[he] at b;exact b
theorem y5B{E:Oth}{w0 w:World}{g gl:Nat}{c s sure:Int}{C:Cks}{K:Nat->Prop}(h:LgK E w0 w g gl c s C sure K)(pos:Int)(d: -9223372036854775808<=pos)(i:pos<=9223372036854775807){r:Option (Nat×List UInt8)}(he:q4J C pos=r):
  Calls Tryz.prog 59 #[.pointer (some ⟨gl,0,none⟩),.int .i64 pos] w fun e w'=>e= .returned (z4I r)/\LgK E w0 w' g gl c s C sure K/\Stay K w w':=by
 have b:=y5C h pos d i;unfold y4J at b;rw[he] at b;exact b
section
variable {E :Oth}{P:List UInt8}
end
end
end Go.Proofs.YtjlcdfpbllobaaaGreatDoor
