/- Walks. -/
import Derived.Test.YtjigghjfcbbkiaaGreatDoorG16SN
import Derived.WalkMore
import Derived.Deep.LoopGhost
set_option linter.unusedVariables false
set_option linter.unusedSimpArgs false
set_option maxRecDepth 100000
set_option maxHeartbeats 6400000
namespace Go.Proofs.YtjigghjfcbbkiaaGreatDoor
variable {k n:Nat}{ps:List (List UInt8)}{p:List UInt8}{r:Int}
section
open Go.RowKit
theorem q5w{fn:Func}{t u v x:Tmp}(h:fn.results=#[.tmp t,.tmp u,.tmp v,.tmp x])(tmps:Array Value)(P:Program)(w:World):
  (results fn tmps).run P w= .ok (.tuple #[tmps.getD t undef,tmps.getD u undef,tmps.getD v undef,tmps.getD x undef]) w:=by
 simp[results,h]
def z1M(r:Option (Nat×List UInt8)):Value:=match r with
 |none=> .tuple #[.string ⟨#[]⟩,.int .i64 0,.int .i64 0,.int .i64 4]
 |some (a,p)=> .tuple #[.string ⟨p.toArray⟩,.int .i64 (a:Int),.int .i64 ((a:Int)+(p.length:Int)+12),.int .i64 0]
theorem z5Y(C:Cks)(pos:Int):q3P C (max pos 0)=q3P C pos:=by
 unfold q3P
 congr 1
 funext r
 rw[decide_eq_decide];omega
theorem q8I(n:Nat)(ps:List (List UInt8)):z6Z (q0R n ps) (q2S n)=true:=by
 unfold z6Z q0R;rw[ζ (by simp),Bool.true_and,List.take_left];simp
theorem z3b{pos:Int}{b:Nat}(B:List (Nat×List UInt8))(h:ps[k]? =some p):((q2X (b+12) ps).drop k++B).find? (fun r=>decide (pos<=(r.1:Int)))=if pos<=((b+q0I (ps.take k):Nat):Int) then some (b+q0I (ps.take k),p) else((q2X (b+12) ps).drop (k+1)++B).find? fun r=>decide (pos<=(r.1:Int)):=by
 have i:=z2o ps (b+12) k p h;obtain⟨j,he⟩:=List.getElem?_eq_some_iff.1 i;rw[<-List.getElem_cons_drop j,he,List.cons_append,List.find?_cons];have e:b+12+((ps.take k).map fun p=>p.length+12).sum=b+q0I (ps.take k):=by unfold q0I;omega
 simp only[e];by_cases d:pos<=((b+q0I (ps.take k):Nat):Int)
 ·rw[ξ d,ζ d]
 ·rw[κ d,ε d]
theorem z7B{C:Cks}(h:C[n]? =some ps):q0x (4096*n) (C.drop n)=q2X (4096*n+12) ps++q0x (4096*(n+1)) (C.drop (n+1)):=by
 obtain⟨b,he⟩:=List.getElem?_eq_some_iff.1 h;rw[<-List.getElem_cons_drop b,he,q0x]
 congr 2
theorem z1X{W:World}{B:Nat}{m:Option Addr}{y:Nat}(h:W.ownsRow B 3 1 (.slice m ps.length y) ps.length ((q1S 12 ps).map fun x=>Value.int .i64 (x.1:Int)))(l:ps[k]? =some p):
  ∃b3,m=some ⟨b3,0,none⟩/\W.cell? ⟨b3,k,none⟩=some (.int .i64 (q0I (ps.take k):Int)):=by
 have i:k<ps.length:=(List.getElem?_eq_some_iff.1 l).1;obtain⟨b3,cap,o,d,_⟩:=(Own.of_row h).cell (j:=k) (by rw[List.length_map,q2R];exact i);have b:((q1S 12 ps).map fun x=>Value.int .i64 (x.1:Int))[k]'(by rw[List.length_map,q2R];exact i)= .int .i64 (q0I (ps.take k):Int):=by
  rw[List.getElem_map];have q:=q8H ps 12 k p l;obtain⟨_,u⟩:=List.getElem?_eq_some_iff.1 q;rw[u]
  rfl
 rw[b] at d
 cases o;exact⟨b3,rfl,d⟩
theorem q8K(ps:List (List UInt8))(k:Nat):q0I (ps.take k)<=q0I ps:=by
 unfold q0I
 conv=>rhs;rw[<-List.take_append_drop k ps,List.map_append,List.sum_append]
 omega
section
variable {E :Oth}{w0 w:World}{g gl:Nat}{F K:Nat->Prop}{v:Value}{σ:DM}{c s sure:Int}{C:Cks}{xs:List Int}
def z9v(E:Oth)(w0 w:World)(g gl:Nat)(c s:Int)(C:Cks)(sure:Int)(K:Nat->Prop)(pos:Int)(e:Ending)(w':World):Prop:=
 e= .returned (z1M (q3P C pos))/\LgK E w0 w' g gl c s C sure K/\Stay K w w'
theorem y0i(h :LgK E w0 w g gl c s C sure K)(pos:Int)(p0: -9223372036854775808<=pos)(p1:pos<=9223372036854775807):
  Calls Tryz.prog 100 #[.pointer (some ⟨gl,0,none⟩),.int .i64 pos] w (z9v E w0 w g gl c s C sure K pos):=by
 have HK:=η h;obtain⟨F,v,σ,j,d⟩:=h;have M0:=η (z1a j d.pl.up d.pl.st);have k0:=η d.ok;obtain⟨P,hP⟩: ∃P:Int,max pos 0=P:=⟨_,rfl⟩
 have j0:Hd (q3P C pos=q3P C P):=η (by rw[<-hP,z5Y]);have q0:0<=P:=by omega
 have q1:P<=9223372036854775807:=by omega
 obtain⟨m,hm⟩: ∃m:Nat,P/4096=(m:Int):=⟨(P/4096).toNat,by omega⟩
 have hq:P.tdiv 4096=(m:Int):=by rw[Int.tdiv_eq_ediv_of_nonneg q0];exact hm
 have u0:(m:Int)<=2251799813685248:=by omega
 have P0:Hd (q3P C P=(q0x (4096*m) (C.drop m)).find? fun r=>decide (P<=(r.1:Int))):=η (z1L C P k0.o.size m (by omega));have v0:(if pos<(0:Int) then(0:Int) else pos)=P:=by rw[<-hP];split<;>omega
 have HM:=η hm;clear j d v0 hq;go_enter Tryz.func100,Tryz.ntmps100;go_wp2_with fail
 go_step3
 go_wp2_with fail;refine M0.o.mono ?_;rintro e w1 ⟨rfl,x⟩;have HB:=η x;clear x;go_wp2_with fail
 go_step3
 go_wp2_with fail
 go_loopw [9] (fun i W=> ∃n:Nat,i= .int .i64 (n:Int)/\(n:Int)<=2251799813685248/\q3P C P=((q0x (4096*n) (C.drop n)).find? fun r=>decide (P<=(r.1:Int)))/\LgK E w0 W g gl c s C sure K/\Stay K w W) (fun i _=>C.length-(intOf i).toNat)
 case atStart=>exact⟨m,by rw[HM.o],u0,P0.o,HK.o.grow HB.o,HK.o.kExt HB.o⟩
 case round =>
  obtain⟨n,rfl,c1,G,hk,D0⟩:=hrel;have i0:=η G;have r0:=η D0;have h0:=η hk;obtain⟨F',v',σ',j,d⟩:=hk;have C0:=q0b C;obtain⟨sa,sk,F0⟩:=q0H j.l.row;rw[C0] at F0;subst F0;have c3:=j.l.c3;have c0:=j.l.c0;clear G D0 C0 u0 hP hm;by_cases x0:C.length<=n
  ·have HE:Hd (z1M (q3P C pos)= .tuple #[.string ⟨#[]⟩,.int .i64 0,.int .i64 0,.int .i64 4]):=η (by
    rw[j0.o,i0.o,List.drop_of_length_le x0];rfl)
   have hd:decide ((n:Int)<(C.length:Int))=false:=by simp;omega
   clear j d;go_wp2_with fail
   try rw[Exit.noGoto_ret]
   refine bodyPost_ret (q5w rfl _ _ _) rfl ?_;exact⟨by rw[HE.o];rfl,h0.o,r0.o⟩
  have hd:decide ((n:Int)<(C.length:Int))=true:=by simp;omega
  have A0:n<C.length:=by omega
  obtain⟨ps,u⟩: ∃ps,C[n]? =some ps:=⟨C[n],γ A0⟩
  have b0:n<200:=by have:=d.ok.few;omega
  obtain⟨b,d1,hv,s0,_⟩:=j.cellAt u
  cases hv;have N:q0I ps<=4096:=d.ok.size ps (List.mem_of_getElem? u);have q:=q1H n ps;have W0:ps.length<=341:=by have:=z8V ps;unfold q0I at N;omega
  have D:=q3S d.oth d.ok.few u;have B:=d.ok.pay ps (List.mem_of_getElem? u);have L0:Hd (q3P C P=((q2X (4096*n+12) ps).drop 0++q0x (4096*(n+1)) (C.drop (n+1))).find? fun r=>decide (P<=(r.1:Int))):=η (by rw[i0.o,z7B u,List.drop_zero]);obtain⟨z,hz⟩: ∃z:Int,(q0I ps:Int)=z:=⟨_,rfl⟩
  rw[hz] at s0;have z0:0<=z:=by omega
  have z1:z<=4096:=by omega
  have B0:=q2m (n:Int);have I0:=η (fun W=>q3x (n:Int) W);have n0:=η (fun (W:World) (k:Ext wr W)=>q5E (j.grow k) d.pl D B0 0 z (by decide) z0 (by rw[q];omega) (by rw[q];omega));have H0:z.toNat=q0I ps:=by omega
  have E0:((q0R n ps).drop 0).take (q0I ps)=q0R n ps:=by rw[List.drop_zero,Δ (by rw[q];omega)]
  have e0:(0:Int).toNat=0:=rfl;simp only[H0,e0,E0] at n0;have V:=η (fun W=>z8U (q0R n ps) n W b0 (by rw[q];omega) (q8I n ps));rw[q7V n ps B] at V;generalize T0:(q8d 12 (q1S 12 ps):Int)=ee at V
  have J0:=η (fun (k:Nat) (p:List UInt8) (h:ps[k]? =some p) (W:World)=>(show Calls Tryz.prog 152 #[.string ⟨(q0R n ps).toArray⟩,.int .i64 (q0I (ps.take k):Int)] W fun e w'=>e= .returned (.tuple #[.string ⟨p.toArray⟩,.int .i64 ((q0I (ps.take k)+p.length+12:Nat):Int),.bool true])/\Ext W w' by
   have j:=q8l (q0R n ps) (q0I (ps.take k)) W (by rw[q];omega) (by
    have h3:(q0I (ps.take k):Nat)<=4096:=Ω (q8K ps k) N
    omega)
   have d:q9q (q0R n ps) (q0I (ps.take k))= .tuple #[.string ⟨p.toArray⟩,.int .i64 ((q0I (ps.take k)+p.length+12:Nat):Int),.bool true]:=by
    unfold q9q;rw[z8O n ps k p h (B p (List.mem_of_getElem? h))]
   rw[d] at j
   exact j))
  have O:Hd (∀(W:World) (F':Nat->Prop) (τ:DM),LgF w0 W g gl F' (.slice (some ⟨b,0,none⟩) C.length sk) τ s (q0L C) sure K->W.cell? ⟨gl,0,none⟩=some (.pointer (some ⟨g,0,none⟩))/\W.cell? ⟨gl,3,none⟩=some (.slice (some ⟨b,0,none⟩) C.length sk)/\W.cell? ⟨b,n,none⟩=some (.int .i64 z)):=η fun W F' τ hW=>by
   obtain⟨b2,k2,e1,e2,_⟩:=hW.cellAt u
   cases e1;rw[hz] at e2;exact⟨hW.l.c0,hW.l.c3,e2⟩
  have hw:Ext wr wr.drew:=(Ext.refl wr).drew;have HW:=η hw;obtain⟨d0,d3,dz⟩:=O.o _ _ _ (j.grow hw);have Z0:=η d;have l0:=η d.oth;generalize q0R n ps=S at*;generalize q0E 99 (n:Int)=nm at*;have HZ:=η hz;have a1:=η u;have K0:=η N;have m0:=η B;clear j d q D B B0 H0 E0 T0 hw hz u N s0 x0;go_wp2_with fail
  go_region_held3 (fun W=>W.cell? ⟨gl,0,none⟩=some (.pointer (some ⟨g,0,none⟩))/\W.cell? ⟨gl,3,none⟩=some (.slice (some ⟨b,0,none⟩) C.length sk)/\W.cell? ⟨b,n,none⟩=some (.int .i64 z))
   (first|exact O0.o|exact N0.o|exact⟨d0,d3,dz⟩)
   (first
    |(go_at_call 149;refine(I0.o _).mono ?_;rintro e wa ⟨rfl,j⟩;have H1:=η (HW.o.trans j);have N0:=η (And.intro (q0A j d0) (And.intro (q0A j d3) (q0A j dz)));clear j)
    |(go_at_call 148;refine(n0.o _ H1.o).mono ?_;rintro e wb ⟨rfl,⟨F2,V0,d,h3⟩,h4⟩;have H2:=η d;have H3:=η h3;have H4:=η h4;have O0:=η (O.o _ _ _ d);clear d h3 h4))
  all_goals
   go_wp2_with fail;refine(V.o _).mono ?_;rintro e wc ⟨pv,rfl,hr,x⟩;have X0:=η x;obtain⟨pa,pc,rfl⟩:=q0H hr;have o0:=η hr;have M:(q1S 12 ps).length=ps.length:=q2R ps 12;rw[M] at o0;rw[M];have J:=η (show LgK E w0 wc g gl c s C sure K from⟨F2,_,V0,H2.o.grow x,⟨H3.o,k0.o,l0.o⟩⟩);have Q:=η (r0.o.trans ((h0.o.kExt H1.o).trans (H4.o.trans (H2.o.kExt x))));clear hr x M;go_wp2_with fail
   go_loopw [72] (fun i W=> ∃k:Nat,k<=ps.length/\i= .int .i64 (k:Int)/\q3P C P=(((q2X (4096*n+12) ps).drop k++q0x (4096*(n+1)) (C.drop (n+1))).find? fun r=>decide (P<=(r.1:Int)))/\Ext wc W) (fun i _=>ps.length-(intOf i).toNat)
   case atStart=>exact⟨0,υ _,rfl,L0.o,Ext.refl _⟩
   case round=>
    obtain⟨k,hk,rfl,G,x⟩:=hrel;have U:=η G;have I:=η x;clear G;by_cases U0:k<ps.length
    ·obtain⟨p,hp⟩: ∃p,ps[k]? =some p:=⟨ps[k],γ U0⟩
     have R0:decide ((k:Int)<(ps.length:Int))=true:=by simp;omega
     obtain⟨b3,rfl,Q0⟩:=z1X (q0K o0.o x) hp;have HG:=η (J0.o k p hp wr);have g0:=η (z3b (pos:=P) (b:=4096*n) (q0x (4096*(n+1)) (C.drop (n+1))) hp);have G0:q0I (ps.take k)<=4096:=Ω (q8K ps k) K0.o;have M:p.length<=2000:=m0.o p (List.mem_of_getElem? hp);obtain⟨X,Y⟩: ∃X:Int,((q0I (ps.take k)+p.length+12:Nat):Int)=X:=⟨_,rfl⟩
     rw[Y] at HG;obtain⟨y,hy⟩: ∃y:Int,(q0I (ps.take k):Int)=y:=⟨_,rfl⟩
     rw[hy] at Q0 HG;have Z:X=y+(p.length:Int)+12:=by omega
     have y0:0<=y:=by omega
     have y1:y<=4096:=by omega
     have Y0:0<=X:=by omega
     have Y1:X<=6108:=by omega
     have a0:(n:Int)<=199:=by omega
     have b1:=η Z;have HY:=η hy;by_cases t0:(n:Int)*4096+y<P
     ·have S0:decide ((n:Int)*4096+y<P)=true:=by simpa using t0
      have R:Hd (q3P C P=(((q2X (4096*n+12) ps).drop (k+1)++q0x (4096*(n+1)) (C.drop (n+1))).find? fun r=>decide (P<=(r.1:Int)))):=η (by
       rw[U.o,g0.o,κ (by omega)])
      clear hy Z Y hp x G0;go_wp2_with fail
      go_roundw
      case rel=>exact⟨k+1,by omega,by go_num,R.o,I.o⟩
      case measure=>simp[intOf];omega
     ·have S0:decide ((n:Int)*4096+y<P)=false:=by simpa using t0
      have HE:Hd (z1M (q3P C pos)= .tuple #[.string ⟨p.toArray⟩,.int .i64 ((n:Int)*4096+y),.int .i64 ((n:Int)*4096+X),.int .i64 0]):=η (by
       have e1:q3P C pos=some (4096*n+q0I (ps.take k),p):=by rw[j0.o,U.o,g0.o,ξ (by omega)]
       rw[e1];show Value.tuple #[.string ⟨p.toArray⟩,.int .i64 ((4096*n+q0I (ps.take k):Nat):Int),.int .i64 (((4096*n+q0I (ps.take k):Nat):Int)+(p.length:Int)+12),.int .i64 0]=_;have e2:((4096*n+q0I (ps.take k):Nat):Int)=(n:Int)*4096+y:=by omega
       have e3:((4096*n+q0I (ps.take k):Nat):Int)+(p.length:Int)+12=(n:Int)*4096+X:=by omega
       rw[e3,e2])
      clear hy Z Y hp x G0;go_wp2_with fail;refine HG.o.mono ?_;rintro e wd ⟨rfl,x⟩;have f0:=η (I.o.trans x);clear x;go_wp2_with fail
      try rw[Exit.noGoto_ret]
      refine bodyPost_ret (q5w rfl _ _ _) rfl ?_;exact⟨by rw[HE.o];rfl,J.o.grow f0.o,Q.o.trans (J.o.kExt f0.o)⟩
    ·have R0:decide ((k:Int)<(ps.length:Int))=false:=by simp;omega
     have R:Hd (q3P C P=((q0x (4096*(n+1)) (C.drop (n+1))).find? fun r=>decide (P<=(r.1:Int)))):=η (by
      rw[U.o,List.drop_of_length_le (by rw[q4G];omega),List.nil_append])
     have a0:(n:Int)<=199:=by omega
     clear x;go_wp2_with fail
     go_roundw
     case rel=>exact⟨n+1,by go_num,by omega,R.o,J.o.grow I.o,Q.o.trans (J.o.kExt I.o)⟩
     case measure=>simp[intOf];omega
end
end
section
open Go.RowKit Go.Maps Go.Sort
theorem Dk.names{w:World}{g:Nat}{F:Nat->Prop}{σ:DM}(h:Dk w g F σ):Calls Tryz.prog 64 #[.pointer (some ⟨g,0,none⟩)] w (RetN w (q1a σ)):=by
 obtain⟨i,m,l,L,b,_⟩:=h;have:=i.many;have j:L.length=σ.L.length:=by rw[<-b.files,List.length_map]
 have d:=z1J w g m L b.c0 b.c3 b.fs (by omega);have e:L.map FE.nm=q1a σ:=by unfold q1a;rw[<-b.files,List.map_map];rfl
 rwa [e] at d
section
variable {E :Oth}{w0 w:World}{g gl:Nat}{F K:Nat->Prop}{v:Value}{σ:DM}{c s sure:Int}{C:Cks}{xs:List Int}
theorem z8j(h:Dk w g F σ)(N:Lgd E σ c s C):Calls Tryz.prog 109 #[.pointer (some ⟨g,0,none⟩)] w fun e w'=>e= .returned (.tuple #[.int .i64 (C.length:Int),.bool true])/\Ext w w':=by
 have HN:=η h.names;have S:q1a σ=(E.X.map Prod.fst++((List.range C.length).map fun k:Nat=>q0E 99 (k:Int))++E.Z.map Prod.fst):=by rw[N.pl.names,z3P,List.append_assoc]
 have e0:=N.ok.few;have R:=N.oth.few;rw[S] at HN
 have a0:Hd (∀k (hk:k<(E.X.map Prod.fst++((List.range C.length).map fun k:Nat=>q0E 99 (k:Int))++E.Z.map Prod.fst).length) (W:World),
   ∃ U v o,Calls Tryz.prog 163 #[.string ⟨((E.X.map Prod.fst++((List.range C.length).map fun k:Nat=>q0E 99 (k:Int))++E.Z.map Prod.fst)[k]).toArray⟩] W (fun e w'=>e= .returned (.tuple #[.int .u8 U,.int .i64 v,.bool o])/\Ext W w')/\
    ((E.X.length<=k/\k<E.X.length+C.length/\U=99/\v=((k-E.X.length:Nat):Int)/\o=true)\/((k<E.X.length\/E.X.length+C.length<=k)/\(o=true->(U==99)=false)))):=η fun k hk W=>by
  have h0:k<E.X.length+C.length+E.Z.length:=by simp at hk;omega
  have B: ∀nm:List UInt8,(∃y,(y∈E.X\/y∈E.Z)/\y.1=nm)->Calls Tryz.prog 163 #[.string ⟨nm.toArray⟩] W (fun e w'=>e= .returned (.tuple #[.int .u8 (q0v nm).1.toNat,.int .i64 (q0v nm).2.1,.bool (q0v nm).2.2])/\Ext W w')/\((q0v nm).2.2=true->(((q0v nm).1.toNat:Int)==99)=false):=fun nm ⟨y,hy,e⟩=>by
   subst e;refine⟨z1U y.1 W (by have:=N.oth.len y hy;omega),fun ho=>?_⟩;have x:=N.oth.kind y hy ho;rw[beq_eq_false_iff_ne];intro e;exact x (UInt8.toNat_inj.1 (by have:((q0v y.1).1.toNat:Int)=99:=e;show(q0v y.1).1.toNat=99;omega))
  rcases Nat.lt_or_ge k E.X.length with x|x
  ·have e:(E.X.map Prod.fst++((List.range C.length).map fun k:Nat=>q0E 99 (k:Int))++E.Z.map Prod.fst)[k]=E.X[k].1:=by
    rw[List.getElem_append_left (by simp;omega),List.getElem_append_left (by simpa using x),List.getElem_map]
   rw[e];obtain⟨V,q2⟩:=B E.X[k].1 ⟨_,.inl (List.getElem_mem x),rfl⟩;exact⟨_,_,_,V,.inr ⟨.inl x,q2⟩⟩
  rcases Nat.lt_or_ge k (E.X.length+C.length) with Q|Q
  ·have e:(E.X.map Prod.fst++((List.range C.length).map fun k:Nat=>q0E 99 (k:Int))++E.Z.map Prod.fst)[k]=q0E 99 ((k-E.X.length:Nat):Int):=by
    rw[List.getElem_append_left (by simpa using Q),List.getElem_append_right (by simpa using x),List.getElem_map,List.getElem_range];simp
   rw[e];have h3:=z1U (q0E 99 ((k-E.X.length:Nat):Int)) W (q2m _);rw[q1u (by decide) (by omega)] at h3;exact⟨99,_,true,h3,.inl ⟨x,Q,rfl,rfl,rfl⟩⟩
  ·have hz:k-(E.X.length+C.length)<E.Z.length:=by omega
   have e:(E.X.map Prod.fst++((List.range C.length).map fun k:Nat=>q0E 99 (k:Int))++E.Z.map Prod.fst)[k]=(E.Z[k-(E.X.length+C.length)]).1:=by
    rw[List.getElem_append_right (by simpa using Q),List.getElem_map];simp
   rw[e];obtain⟨V,q2⟩:=B _ ⟨_,.inr (List.getElem_mem hz),rfl⟩;exact⟨_,_,_,V,.inr ⟨.inr Q,q2⟩⟩
 have M:(E.X.map Prod.fst++((List.range C.length).map fun k:Nat=>q0E 99 (k:Int))++E.Z.map Prod.fst).length=E.X.length+C.length+E.Z.length:=by simp;omega
 clear h N S;generalize E.X.map Prod.fst++((List.range C.length).map fun k:Nat=>q0E 99 (k:Int))++E.Z.map Prod.fst=NL at*;generalize E.X.length=a at*;generalize C.length=n at*;obtain⟨t,ht⟩: ∃t,a+n+E.Z.length=t:=⟨_,rfl⟩
 rw[ht] at M;have O:=η M;have f0:a+n<=t/\t<=400:=by omega
 clear ht M R;go_enter Tryz.func109,Tryz.ntmps109;go_wp2_with fail;refine HN.o.mono ?_;intro e w1 hr;obtain⟨ad,cap,rfl,u,d⟩:=hr.o;rw[O.o] at u⊢;have Y:=η u;have HB:=η d;clear hr u d;go_wp2_with fail
 go_loopw [2,3,12] (fun m o i W=> ∃k:Nat,k<=t/\i= .int .i64 (k:Int)/\m= .int .i64 ((min (k-a) n:Nat):Int)/\o= .bool true/\Ext w1 W) (fun _ _ i _=>t-(intOf i).toNat)
 case atStart=>exact⟨0,υ _,rfl,by simp,rfl,Ext.refl _⟩
 case round=>
  obtain⟨k,hk,rfl,rfl,rfl,d⟩:=hrel;have I:=η d;by_cases b0:k<t
  ·have hd:decide ((k:Int)<(t:Int))=true:=by simp;omega
   have l:k<NL.length:=by rw[O.o];exact b0
   obtain⟨b,d0,hv,hc,_⟩:=(Y.o.ext d).cell (j:=k) (by simpa using l)
   cases hv;have D:((NL.map encStr)[k]'(by simpa using l))= .string ⟨NL[k].toArray⟩:=by simp[encStr]
   rw[D] at hc;obtain⟨U,v,o,hP,J⟩:=a0.o k l wr;have HP:=η hP;have q0:IntKind.i64.wrap ((k:Int)+1)=(k:Int)+1:=by rw[ν];omega
   obtain⟨m,hm⟩: ∃m,min (k-a) n=m:=⟨_,rfl⟩
   have V:IntKind.i64.wrap ((m:Int)+1)=(m:Int)+1:=by rw[ν];omega
   generalize NL[k]=nm at*;clear D d hP;rcases J with⟨p1,p2,rfl,rfl,rfl⟩|⟨p1,p2⟩
   ·have c0:m=k-a:=by omega
    have q:min (k+1-a) n=m+1:=by omega
    rw[<-c0] at HP;rw[hm];clear l;go_wp2_with fail;refine HP.o.mono ?_;rintro e w2 ⟨rfl,d⟩;have G:=η (I.o.trans d);clear d;go_wp2_with fail
    go_roundw
    case rel=>exact⟨k+1,by omega,by go_num,by rw[q];go_num,rfl,G.o⟩
    case measure=>simp[intOf];omega
   ·have q:min (k+1-a) n=m:=by omega
    rw[hm];have ho:o=false\/(o=true/\(U==99)=false):=by
     cases o with
     |false=>exact .inl rfl
     |true=>exact .inr ⟨rfl,p2 rfl⟩
    clear l p2;rcases ho with rfl|⟨rfl,i0⟩
    all_goals
     go_wp2_with fail;refine HP.o.mono ?_;rintro e w2 ⟨rfl,d⟩;have G:=η (I.o.trans d);clear d;go_wp2_with fail
     go_roundw
     case rel=>exact⟨k+1,by omega,by go_num,by rw[q],rfl,G.o⟩
     case measure=>simp[intOf];omega
  ·have hd:decide ((k:Int)<(t:Int))=false:=by simp;omega
   have q:min (k-a) n=n:=by omega
   have g0:decide ((n:Int)<=200)=true:=by simp;omega
   rw[q];clear d;go_wp2_with fail;go_ret2;exact⟨rfl,HB.o.trans I.o⟩
theorem y0R(h:LgP E w0 w g gl c s (q3E E C) xs sure K)(j:okC C)(l:C[n]? =some ps):
  Calls Tryz.prog 164 #[.pointer (some ⟨g,0,none⟩),.int .i64 (n:Int)] w fun e w'=>e= .returned (.tuple #[.string ⟨(q0R n ps).toArray⟩,.int .i64 (q0I ps:Int),.int .i64 0])/\LgP E w0 w' g gl c s (q3E E C) xs sure K/\Stay K w w':=by
 obtain⟨F,v,σ,Q,V,D⟩:=h;have HE:=η V;have y:n<200:=by have:=j.few;have:=(List.getElem?_eq_some_iff.1 l).1;omega
 have X:q0I ps<=4096:=j.size ps (List.mem_of_getElem? l);have u:=j.pay ps (List.mem_of_getElem? l);have b:=q1H n ps;have i:=q3S V j.few l;have B:=q2m (n:Int);have M:=η (fun W=>q3x (n:Int) W)
 have U:=η (fun (W:World) (k:Ext w W)=>(show Calls Tryz.prog 107 #[.pointer (some ⟨g,0,none⟩),.string ⟨(q0E 99 (n:Int)).toArray⟩] W fun e w'=>e= .returned (.tuple #[.int .i64 (q0I ps:Int),.int .i64 0])/\W=w' by
  have G:=q7H (Q.d.ext k) (q0E 99 (n:Int)) B;rw[D.size i] at G;have R:(((q0E 99 (n:Int),q0R n ps):List UInt8×List UInt8).2.length:Int)=(q0I ps:Int):=by simp[b]
  rw[R] at G
  exact G))
 have N:=η (fun (W:World) (k:Ext w W)=>q5E (Q.grow k) D i B 0 (q0I ps:Int) (by decide) (by omega) (by rw[b];omega) (by rw[b];omega));have O:((q0R n ps).drop 0).take (q0I ps)=q0R n ps:=by rw[List.drop_zero,Δ (by rw[b];omega)]
 have e0:(0:Int).toNat=0:=rfl;simp only[Int.toNat_natCast,e0,O] at N;have x:=η (fun W=>z8U (q0R n ps) n W y (by rw[b];omega) (q8I n ps));rw[q7V n ps u] at x;have q:(q8d 12 (q1S 12 ps):Int)=(q0I ps:Int):=by rw[z1W];rfl
 rw[q] at x;have HH:=η Q;generalize q0R n ps=S at*;generalize q0E 99 (n:Int)=nm at*;generalize (q0I ps:Int)=z at*;clear Q D V b i u B O q X l j;go_enter Tryz.func164,Tryz.ntmps164;go_wp2_with fail;refine(M.o _).mono ?_;rintro e w1 ⟨rfl,m⟩;have HB:=η m;clear m;go_wp2_with fail;refine(U.o _ HB.o).mono ?_;rintro e w2 ⟨rfl,rfl⟩;go_wp2_with fail;refine(M.o _).mono ?_;rintro e w3 ⟨rfl,m⟩;have I:=η (HB.o.trans m);clear m;go_wp2_with fail;refine(N.o _ I.o).mono ?_;rintro e w4 ⟨rfl,⟨F2,Y,D,G⟩,R⟩;have Z:=η D;have H3:=η G;have H4:=η ((HH.o.kExt I.o).trans R);clear D G R;go_wp2_with fail;refine(x.o _).mono ?_;rintro e w5 ⟨pv,rfl,hr,m⟩;have J:=η m;obtain⟨pa,pc,rfl⟩:=q0H hr;clear hr m;go_wp2_with fail;go_ret3;exact⟨rfl,⟨_,_,Y,Z.o.grow J.o,HE.o,H3.o⟩,H4.o.trans (Z.o.kExt J.o)⟩
end
end
section
open Go.RowKit
section
variable {E :Oth}{w0 w:World}{g gl:Nat}{F K:Nat->Prop}{v:Value}{σ:DM}{c s sure:Int}{C:Cks}{xs:List Int}
theorem y0W{D:Cks}(h:LgP E w0 w g gl c s (q3E E (D++[ps])) (q0L D) sure K)(q:okC (D++[ps])):
  Calls Tryz.prog 165 #[.pointer (some ⟨gl,0,none⟩),.int .i64 (D.length:Int),.string ⟨(q0R D.length ps).toArray⟩,.int .i64 (q0I ps:Int)] w fun e w'=>
   e= .returned (.int .i64 0)/\LgP E w0 w' g gl c s (q3E E (D++[ps])) (q0L (D++[ps])) sure K/\Stay K w w':=by
 obtain⟨F,v,σ,O,Y,h2⟩:=h;have HE:=η Y;have Q:D.length+1<=200:=by have:=q.few;simpa using this
 have g0:q0I ps<=4096:=q.size ps (by simp);have X:12<=q0I ps:=by unfold q0I;omega
 have x:=q1H D.length ps;have m:=q3S Y q.few (q8Y D ps);have R:=q2m (D.length:Int);have a0:=η (fun W=>q3x (D.length:Int) W);obtain⟨σ',hm,U⟩:=h2.sync m
 have d0:=η (fun (W:World) (F':Nat->Prop) (hW:Dk W g F' σ)=>(show Calls Tryz.prog 215 #[.pointer (some ⟨g,0,none⟩),.string ⟨(q0E 99 (D.length:Int)).toArray⟩] W fun e w'=>e= .returned (.int .i64 0)/\DkS W g F' σ' w' by
  have:=z8W hW (q0E 99 (D.length:Int)) R;rw[hm] at this
  exact this))
 have u:=q0b D;obtain⟨sa,sk,V⟩:=q0H O.l.row;rw[u] at V;subst V;have b:=O.l.row;rw[u] at b;have M:=η b;have Z:=η O.l.c3;have HH:=η O;have HP:=η (And.intro Y U);have f0:((q0R D.length ps).length:Int)=(q0I ps:Int):=by rw[x]
 have N:Hd (q0L D++[(q0I ps:Int)]=q0L (D++[ps])):=η (q2N D ps).symm;have m0:(q0R D.length ps).length<=4096:=by omega
 obtain⟨z,hz⟩: ∃z:Int,(q0I ps:Int)=z:=⟨_,rfl⟩
 have n0:12<=z:=by omega
 have z4:z<=4096:=by omega
 have h0:(z==0)=false:=by simp;omega
 rw[hz] at f0 N⊢;have e0:=η u;generalize q0R D.length ps=S at*;generalize q0E 99 (D.length:Int)=nm at*;have l0:D.length<=199:=by omega
 generalize hn:D.length=n at*;clear O h2 Y U hm m R x u b hz g0 X q hn Q;go_enter Tryz.func165,Tryz.ntmps165;go_wp2_with fail;refine(a0.o _).mono ?_;rintro e w1 ⟨rfl,I⟩;have HB:=η I;have c3:=q0A I Z.o;have J:=η (HH.o.grow I);have b:=q0K M.o I;have b0:=η b;have z3:=(HH.o.grow I).l.blk.free 3;clear I b
 go_wp2_with (at_builtin;refine q0P rfl _ _ 44 rfl 0 3 _ 1 8 Tryz.underlying44 Tryz.infoI (by decide) (by decide) _ n _ rfl (q0K b0.o (q0B _ _)) _ 1 1 [.int .i64 z] rfl rfl (fun h=>by cases h) (Rd.lit _ _ _) (by simp[Value.oneCell']) (by unfold maxLen;omega) (by omega) (υ _) ?_;intro v' w2 j i B;have k0:=η j;have j0:=η i;have i0:=η B;obtain⟨_,q2,q3⟩:=J.o.pushed (q0B _ _) i;obtain⟨a',k',rfl⟩:=q0H j;have G:=J.o.push (q0B _ _) (by rw[e0.o];exact j) i B;have y:=η G;have u0:=G.1.l.c0;clear j i B G)
 refine(d0.o _ _ y.o.1.d).mono ?_;rintro e w3 ⟨rfl,h3⟩;have h4:=y.o.1.disk h3;have H4:=η h4;clear h3 h4;go_wp2_with fail;go_ret;exact⟨rfl,⟨_,_,σ',by rw[<-N.o];exact H4.o.1,HP.o⟩,(HH.o.kExt HB.o).trans (y.o.2.trans H4.o.2)⟩
theorem z8D(h:C[k]? =some ps):C.take (k+1)=C.take k++[ps]:=by
 obtain⟨b,he⟩:=List.getElem?_eq_some_iff.1 h;rw[List.take_succ_eq_append_getElem b,he]
theorem z5u(h:LgP E w0 w g gl c s (q3E E C) [] sure K)(U:okC C):
  Calls Tryz.prog 111 #[.pointer (some ⟨gl,0,none⟩),.int .i64 (C.length:Int)] w fun e w'=>e= .returned (.int .i64 0)/\LgP E w0 w' g gl c s (q3E E C) (q0L C) sure K/\Stay K w w':=by
 have HK:=η h;have N:=η U;have n0:=U.few;clear h U;go_enter Tryz.func111,Tryz.ntmps111;go_wp2_with fail
 go_loopw [10] (fun i W=> ∃k:Nat,k<=C.length/\i= .int .i64 (k:Int)/\LgP E w0 W g gl c s (q3E E C) (q0L (C.take k)) sure K/\Stay K w W) (fun i _=>C.length-(intOf i).toNat)
 case atStart=>exact⟨0,υ _,rfl,HK.o,Stay.refl _ _⟩
 case round=>
  obtain⟨k,hk,rfl,X,G⟩:=hrel;have O:=η G;by_cases k0:k<C.length
  ·have hd:decide ((k:Int)<(C.length:Int))=true:=by simp;omega
   obtain⟨ps,m⟩: ∃ps,C[k]? =some ps:=⟨C[k],γ k0⟩
   have M:=η (y0R X N.o m);have c0:=(by obtain⟨_,_,_,h1,_,_⟩:=X;exact h1.l.c0:wr.cell? ⟨gl,0,none⟩=some (.pointer (some ⟨g,0,none⟩)))
   have e0:q0I ps<=4096:=N.o.size ps (List.mem_of_getElem? m);have J:12<=q0I ps:=by unfold q0I;omega
   have j:=q1H k ps;have hT:=z8D m;have B:(C.take k).length=k:=by rw[Θ];omega
   have l0:((q0R k ps).length:Int)=(q0I ps:Int):=by rw[j]
   have a0:Hd (q0L (C.take k)++[(q0I ps:Int)]=q0L (C.take (k+1))):=η (by rw[hT,q2N]);by_cases R:k+1=C.length
   ·have y:C=C.take k++[ps]:=by rw[<-hT,R,List.take_length]
    have j0:((k:Int)==(C.length:Int)-1)=true:=by simp;omega
    have g0:=η (fun (W:World) (hW:LgP E w0 W g gl c s (q3E E C) (q0L (C.take k)) sure K)=>(show Calls Tryz.prog 165 #[.pointer (some ⟨gl,0,none⟩),.int .i64 (k:Int),.string ⟨(q0R k ps).toArray⟩,.int .i64 (q0I ps:Int)] W fun e w'=>e= .returned (.int .i64 0)/\LgP E w0 w' g gl c s (q3E E C) (q0L C) sure K/\Stay K W w' by
     have x:=y0W (D:=C.take k) (ps:=ps) (by rw[<-y];exact hW) (by rw[<-y];exact N.o);rw[B,<-y] at x
     exact x))
    generalize q0R k ps=S at*;generalize (q0I ps:Int)=z at*;clear X G m j hT B y e0 J;go_wp2_with fail;refine M.o.mono ?_;rintro e w2 ⟨rfl,x,I⟩;have H2:=η x;have H3:=η (O.o.trans I);clear x I;go_wp2_with fail;refine(g0.o _ H2.o).mono ?_;rintro e w3 ⟨rfl,x,I⟩;have H4:=η x;have H5:=η (H3.o.trans I);clear x I;go_wp2_with fail;go_ret;exact⟨rfl,H4.o,H5.o⟩
   ·have j0:((k:Int)==(C.length:Int)-1)=false:=by simp;omega
    obtain⟨z,hz⟩: ∃z:Int,(q0I ps:Int)=z:=⟨_,rfl⟩
    have t0:12<=z:=by omega
    have z4:z<=4096:=by omega
    have o0:(z==0)=false:=by simp;omega
    have s0:(q0R k ps).length<=4096:=by omega
    rw[hz] at l0 a0 M;have f0:=η B;generalize q0R k ps=S at*;clear X G m j hT B hz e0 J;go_wp2_with fail;refine M.o.mono ?_;rintro e w2 ⟨rfl,x,I⟩;have H3:=η (O.o.trans I);obtain⟨F2,v2,m0,V,hE,h5⟩:=x;have u:=q0b (C.take k);rw[f0.o] at u;obtain⟨sa,sk,d0⟩:=q0H V.l.row;rw[u] at d0;subst d0;have q:=V.l.row;rw[u] at q;have h0:=η q;have c3:=V.l.c3;have z3:=V.l.blk.free 3;have Y:=η V;have H5:=η (And.intro hE h5);have i0:=η u;clear hE I V h5 u q c0
    go_wp2_with (at_builtin;refine q0P rfl _ _ 44 rfl 0 3 _ 1 8 Tryz.underlying44 Tryz.infoI (by decide) (by decide) _ k _ rfl (q0K h0.o (q0B _ _)) _ 1 1 [.int .i64 z] rfl rfl (fun h=>by cases h) (Rd.lit _ _ _) (by simp[Value.oneCell']) (by unfold maxLen;omega) (by omega) (υ _) ?_;intro v' w3 d b Q;have r0:=η d;have q0:=η b;have p0:=η Q;obtain⟨_,q2,q3⟩:=Y.o.pushed (q0B _ _) b;obtain⟨a',k',rfl⟩:=q0H d;have b0:=Y.o.push (q0B _ _) (by rw[i0.o];exact d) b Q;have Z:=η b0;clear d b Q b0)
    go_roundw
    case rel=>exact⟨k+1,by omega,by go_num,⟨_,_,m0,by rw[<-a0.o];exact Z.o.1,H5.o⟩,H3.o.trans Z.o.2⟩
    case measure=>simp[intOf];omega
  ·have hd:decide ((k:Int)<(C.length:Int))=false:=by simp;omega
   have HL:=η (show LgP E w0 wr g gl c s (q3E E C) (q0L C) sure K by
    have e:C.take k=C:=Δ (by omega)
    rwa [e] at X)
   clear X G;go_wp2_with fail;go_ret;exact⟨rfl,HL.o,O.o⟩
end
section
variable {E :Oth}{w0 w:World}{g gl:Nat}{F K:Nat->Prop}{v:Value}{σ:DM}{c s sure:Int}{C:Cks}{xs:List Int}
theorem y0m(h:DkK E w0 w g c s C K):Calls Tryz.prog 62 #[.pointer (some ⟨g,0,none⟩)] w fun e w'=> ∃gl,e= .returned (.tuple #[.pointer (some ⟨gl,0,none⟩),.int .i64 0])/\w.heap.size<=gl/\LgK E w0 w' g gl c s C (q4h C) K/\Stay K w w':=by
 obtain⟨F,σ,b,m⟩:=h;have G: ∀i,F i->i<w.heap.size:=by obtain⟨_,_,_,_,_,_,h⟩:=b.d;exact h
 have V:=η (y1p b.d);rw[m.pl.up] at V;have S:=q7H b.d [110,101,119] (by decide);rw[m.pl.sizeN (z6m m.oth m.ok.few)] at S;have HS:=η S;have HC:=η (z8j b.d m);have y:=η (fun (W:World) (k:Ext w W)=>z2y (b.d.ext k));rw[m.pl.st] at y
 have x:=η (fun (W:World) (k:Ext w W)=>show LgP E w0 (W.alloc (.cells #[.pointer (some ⟨g,0,none⟩),.int .i64 s,.bool false,.slice none 0 0,.int .i64 0] 182)) g W.heap.size c s (q3E E C) [] 0 K/\Stay K w (W.alloc (.cells #[.pointer (some ⟨g,0,none⟩),.int .i64 s,.bool false,.slice none 0 0,.int .i64 0] 182)) from by
  have hk:=k.size;have I:=k.trans (q0B W (.cells #[.pointer (some ⟨g,0,none⟩),.int .i64 s,.bool false,.slice none 0 0,.int .i64 0] 182));have u: ∀i,q7i W.heap.size (.slice none 0 0) i->i=W.heap.size:=fun i j=>by rcases j with h|h;exact h;cases h
  refine⟨⟨F,.slice none 0 0,σ,⟨b.d.ext I,⟨Blk.new _ _ _,World.ownsRow_nil _ _ _ _⟩,fun i j R=>?_,b.bF,fun i j=>?_,b.ext.trans I,fun i j=>⟨?_,(b.k i j).2,fun R=>?_⟩⟩,m.oth,m.pl⟩,fun i j=>I.block i (b.k i j).1⟩
  ·have:=u i R;have:=G i j;omega
  ·have:=u i j;have:=b.ext.size;omega
  ·have:=(b.k i j).1;have:=I.size;omega
  ·have:=u i R;have:=(b.k i j).1;omega)
 have q:=η m.ok;clear b m S G;go_enter Tryz.func62,Tryz.ntmps62;go_wp2_with fail;refine V.o.mono ?_;rintro e w1 ⟨rfl,rfl⟩;go_wp2_with fail;refine HS.o.mono ?_;rintro e w1 ⟨rfl,rfl⟩;go_wp2_with fail;refine HC.o.mono ?_;rintro e w1 ⟨rfl,hb⟩;have J:=η hb;clear hb;go_wp2_with fail;refine(y.o _ J.o).mono ?_;rintro e w2 ⟨rfl,rfl⟩;go_wp2_with fail;obtain⟨X,Y⟩:=x.o _ J.o;have H4:=η Y;have N:=η (z5u X q.o);have O:=η J.o.size;clear X Y;refine N.o.mono ?_;rintro e w3 ⟨rfl,⟨F3,v3,U,B,D,Z⟩,h7⟩;have HE:=η (z8t B.l q.o);have z4:=B.l.blk.free 4;have c4:=B.l.c4;have Q:=B.setSure (q4h C);have H8:=η Q;have H6:=η Z;have M:=η D;have H7:=η (H4.o.trans (h7.trans Q.2));clear B Z h7 Q D;go_wp2_with fail;refine HE.o.mono ?_;rintro e w4 ⟨rfl,rfl⟩;go_wp2_with fail;go_ret2;exact⟨_,rfl,O.o,⟨F3,v3,U,H8.o.1,⟨H6.o,q.o,M.o⟩⟩,H7.o⟩
end
theorem z6c{E:Oth}{w0 w:World}{g gl:Nat}{c s sure x z:Int}{C i:Cks}{K:Nat->Prop}(h:LgK E w0 w g gl c s C sure K)(p:List UInt8)(d:p.length<=9223372036854775807)(he:q0y (c-(q0l C:Int)) C p=(x,r,i))(j:q3w (c-(q0l C:Int)) sure C p=z):
  Calls Tryz.prog 85 #[.pointer (some ⟨gl,0,none⟩),.string ⟨p.toArray⟩] w fun e w'=>e= .returned (.tuple #[.int .i64 x,.int .i64 r])/\LgK E w0 w' g gl c s i z K/\Stay K w w':=by
 have b:=z6d h p d;unfold AppR at b;rw[he,j] at b;exact b
theorem y0s{E:Oth}{w0 w:World}{g gl:Nat}{c s sure:Int}{C:Cks}{K:Nat->Prop}(h:LgK E w0 w g gl c s C sure K)(pos:Int)(d: -9223372036854775808<=pos)(i:pos<=9223372036854775807)(he:q5O C pos=(p,r)):
  Calls Tryz.prog 177 #[.pointer (some ⟨gl,0,none⟩),.int .i64 pos] w fun e w'=>e= .returned (.tuple #[.string ⟨p.toArray⟩,.int .i64 r])/\LgK E w0 w' g gl c s C sure K/\Stay K w w':=by
 have b:=y0t h pos d i;unfold ReadR at b;rw[he] at b;exact b
theorem y0h{E:Oth}{w0 w:World}{g gl:Nat}{c s sure:Int}{C:Cks}{K:Nat->Prop}(h:LgK E w0 w g gl c s C sure K)(pos:Int)(d: -9223372036854775808<=pos)(i:pos<=9223372036854775807){r:Option (Nat×List UInt8)}(he:q3P C pos=r):
  Calls Tryz.prog 100 #[.pointer (some ⟨gl,0,none⟩),.int .i64 pos] w fun e w'=>e= .returned (z1M r)/\LgK E w0 w' g gl c s C sure K/\Stay K w w':=by
 have b:=y0i h pos d i;unfold z9v at b;rw[he] at b;exact b
section
variable {E :Oth}{P:List UInt8}
end
end
end Go.Proofs.YtjigghjfcbbkiaaGreatDoor
