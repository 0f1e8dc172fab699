/- Walks. -/
import Derived.Test.YtjigghjfcbbkiaaGreatDoorG15SN
import Derived.Test.YtjigghjfcbbkiaaGreatDoorG3SN
set_option linter.unusedVariables false
set_option linter.unusedSimpArgs false
set_option maxRecDepth 100000
set_option maxHeartbeats 3200000
namespace Go.Proofs.YtjigghjfcbbkiaaGreatDoor
variable {a n bl bn br:Nat}{ps:List (List UInt8)}{pos fr:Int}{w' w3:World}{r:Nat×List UInt8}{D:Cks}{p:List UInt8}
section
open Go.RowKit
section
variable {E :Oth}{w0 w:World}{g gl:Nat}{F K:Nat->Prop}{v:Value}{σ:DM}{c s sure:Int}{C:Cks}
theorem LgF.setSure{xs:List Int}{sure:Int}(h:LgF w0 w g gl F v σ s xs sure K)(z:Int):LgF w0 (w.setCell ⟨gl,4,none⟩ (.int .i64 z)) g gl F v σ s xs z K/\Stay K w (w.setCell ⟨gl,4,none⟩ (.int .i64 z)):=
 h.log ⟨h.l.blk.set 4 (.int .i64 z),q1C h.l.row _ h.l.apart⟩ (OffS.set w (.inl rfl) 4 _) fun i b=> .inl b
theorem q8Z{C:Cks}(h:C≠[]): ∃D ps,C=D++[ps]:=by
 rcases List.eq_nil_or_concat C with b|⟨D,ps,b⟩
 ·exact absurd b h
 ·exact⟨D,ps,by rw[b,List.concat_eq_append]⟩
theorem q8Y(D:Cks)(ps:List (List UInt8)):(D++[ps])[D.length]? =some ps:=by simp
def q1T(C:Cks)(sure:Int):Int:=if C=[] then sure else q4h C
def LgV(E:Oth)(w0 w:World)(g gl:Nat)(v:Value)(c s:Int)(C:Cks)(sure:Int)(K:Nat->Prop):Prop:= ∃F σ,LgF w0 w g gl F v σ s (q0L C) sure K/\Lgd E σ c s C
theorem LgV.toK(h:LgV E w0 w g gl v c s C sure K):LgK E w0 w g gl c s C sure K:=by obtain⟨F,σ,b,d⟩:=h;exact⟨F,v,σ,b,d⟩
theorem LgK.toV(h:LgK E w0 w g gl c s C sure K): ∃v,LgV E w0 w g gl v c s C sure K:=by obtain⟨F,v,σ,b,d⟩:=h;exact⟨v,F,σ,b,d⟩
theorem z7d(h:LgF w0 w g gl F v σ s (q0L C) sure K)(b:Lgd E σ c s C):
  Calls Tryz.prog 157 #[.pointer (some ⟨gl,0,none⟩)] w fun e w'=>e= .returned (.int .i64 0)/\LgV E w0 w' g gl v c s C (q1T C sure) K/\Stay K w w':=by
 have c0:=h.l.c0;have c3:=h.l.c3;obtain⟨a,k,rfl,hx⟩:=h.l.slice;by_cases i:C=[]
 ·subst i
  have HK:Hd (LgV E w0 w g gl (.slice a (q0L []).length k) c s [] (q1T [] sure) K):=η ⟨F,σ,h,b⟩;have e0:(q0L []).length=0:=rfl;clear h b hx;go_enter Tryz.func157,Tryz.ntmps157;go_wp2_with fail;go_ret;exact⟨rfl,HK.o,Stay.refl _ _⟩
 have O:Hd (q1T C sure=q4h C):=η (by unfold q1T;rw[κ i]);have b0:1<=C.length:=by cases C with|nil=>exact absurd rfl i|cons=>simp
 obtain⟨D,ps,Y⟩:=q8Z i;have hn:(q0L C).length=C.length:=q0b C;have q:=b.ok.few;rw[hn] at c3;obtain⟨σ',hm,y⟩:=b.pl.sync (q3S b.oth q (by rw[Y];exact q8Y D ps));have Z:=q2m (D.length:Int)
 have U:=η (fun (J:World) (k:Ext w J)=>show Calls Tryz.prog 215 #[.pointer (some ⟨g,0,none⟩),.string ⟨(q0E 99 (D.length:Int)).toArray⟩] J fun e w'=>e= .returned (.int .i64 0)/\DkS J g F σ' w' by
  have:=z8W (h.d.ext k) (q0E 99 (D.length:Int)) Z;rw[hm] at this
  exact this)
 have hM:IntKind.i64.wrap ((C.length:Int)-1)=(D.length:Int):=by
  have:C.length=D.length+1:=by rw[Y];simp
  rw[ν];omega
 have m:=η (fun W=>q3x (D.length:Int) W);generalize q0E 99 (D.length:Int)=nm at*;obtain⟨M,u⟩: ∃M:Int,(D.length:Int)=M:=⟨_,rfl⟩
 rw[u] at hM m;have HH:=η h;have Q:=η b;have HP:=η y;have I:Ext w w.drew:=(Ext.refl w).drew;have HW:=η I;have d0:=q0A I c0;have d3:=q0A I c3;have a0:((C.length:Int)==0)=false:=by simpa using i
 clear h b y hm hx Y u i hn I;go_enter Tryz.func157,Tryz.ntmps157;go_wp2_with fail
 go_region_held3 (fun W=>W.cell? ⟨gl,0,none⟩=some (.pointer (some ⟨g,0,none⟩))/\W.cell? ⟨gl,3,none⟩=some (.slice a C.length k))
  (first|exact S.o|exact R.o|exact⟨d0,d3⟩)
  (first
   |(go_at_call 149;refine(m.o _).mono ?_;rintro e J ⟨rfl,B⟩;have N:=η (HW.o.trans B);have R:=η (And.intro (q0A B d0) (q0A B d3));clear B)
   |(go_at_call 215;refine(U.o _ N.o).mono ?_;rintro e wb ⟨rfl,h2⟩;have G:=(HH.o.grow N.o).disk h2;have j:=η G;have S:=η (And.intro G.1.l.c0 (q0b C▸G.1.l.c3));clear h2 G))
 all_goals
  have HE:=η (z8t j.o.1.l Q.o.ok);have e4:=j.o.1.l.c4;have z4:=j.o.1.l.blk.free 4;have X:=j.o.1.setSure (q4h C);have HF:=η (show LgV E w0 (wb.setCell ⟨gl,4,none⟩ (.int .i64 (q4h C))) g gl _ c s C (q1T C sure) K from⟨_,σ',by rw[O.o];exact X.1,⟨HP.o,Q.o.ok,Q.o.oth⟩⟩);have V:=η ((HH.o.kExt N.o).trans (j.o.2.trans X.2));clear X;go_wp2_with fail;refine HE.o.mono ?_;rintro e w' ⟨rfl,rfl⟩;go_wp2_with fail;go_ret;exact⟨rfl,HF.o,V.o⟩
theorem z9J(h:LgF w0 w g gl F v σ s (q0L C) sure K)(j:Lgd E σ c s C):
  Calls Tryz.prog 157 #[.pointer (some ⟨gl,0,none⟩)] w fun e w'=>e= .returned (.int .i64 0)/\LgK E w0 w' g gl c s C (q1T C sure) K/\Stay K w w':=
 (z7d h j).mono fun _ _ ⟨b,d,i⟩=>⟨b,d.toK,i⟩
end
theorem z7P{s:List UInt8}(h:a+q3q s a+12<=s.length):q4r ((s.drop a).take (q3q s a+12)) 0=(q4r s a).map fun r=>(r.1,r.2-a):=by
 obtain⟨n,i⟩: ∃n,q3q s a=n:=⟨_,rfl⟩
 rw[i] at h⊢;have j:((s.drop a).take (n+12)).take 4=(s.drop a).take 4:=by rw[List.take_take,Nat.min_eq_left (by omega)]
 have d:((s.drop a).take (n+12)).length=n+12:=by simp;omega
 have b:q3q ((s.drop a).take (n+12)) 0=n:=by
  unfold q3q;rw[List.drop_zero,j,<-i];first|done|rfl
 have q:isR ((s.drop a).take (n+12)) 0=isR s a:=by
  unfold isR;rw[b,d,i,List.drop_zero,j];have m:((s.drop a).take (n+12)).take (n+8)=(s.drop a).take (n+8):=by rw[List.take_take,Nat.min_eq_left (by omega)]
  have o:(((s.drop a).take (n+12)).drop (0+n+8)).take 4=(s.drop (a+n+8)).take 4:=by
   rw[List.drop_take,List.drop_drop,List.take_take]
   congr 1
   ·omega
   ·congr 1;omega
  rw[m,o,ζ (p:=0+12<=n+12) (by omega),ζ (p:=0+n+12<=n+12) (by omega),ζ (p:=a+12<=s.length) (by omega),ζ (p:=a+n+12<=s.length) h]
 unfold q4r;rw[q,b,i]
 split
 ·simp only[Option.map_some]
  congr 2
  ·rw[List.drop_take,List.drop_drop,List.take_take]
   congr 1
   ·omega
  ·omega
 ·rfl
section
variable {E :Oth}{w0 w:World}{g gl:Nat}{F K:Nat->Prop}{v:Value}{σ:DM}{c s sure:Int}{C:Cks}{xs:List Int}{l:List (List UInt8×List UInt8)}{nm:List UInt8}{x:List UInt8×List UInt8}
theorem q5E(h:LgF w0 w g gl F v σ s xs sure K)(j:Pl σ c s l)(q:q0F Prod.fst nm l=some x)(b:nm.length<=9223372036854775807)(a n:Int)(o:0<=a)(y:0<=n)(u:a+n<=(x.2.length:Int))(I:(x.2.length:Int)<=1048576):
  Calls Tryz.prog 148 #[.pointer (some ⟨g,0,none⟩),.string ⟨nm.toArray⟩,.int .i64 a,.int .i64 n] w fun e w'=>
   e= .returned (.tuple #[.string ⟨((x.2.drop a.toNat).take n.toNat).toArray⟩,.int .i64 0])/\(∃m σ',LgF w0 w' g gl m v σ' s xs sure K/\Pl σ' c s l)/\Stay K w w':=by
 have i:=z2n h.d nm a n b (by omega) (by omega) (by omega) (by omega);rw[j.read q a n o y u] at i;refine i.mono ?_;rintro e w' ⟨rfl,k⟩;obtain⟨B,G⟩:=h.disk k;exact⟨rfl,⟨_,_,B,j.tell⟩,G⟩
theorem LgF.cellAt(h:LgF w0 w g gl F v σ s (q0L C) sure K)(i:C[n]? =some ps):
  ∃b k,v= .slice (some ⟨b,0,none⟩) C.length k/\w.cell? ⟨b,n,none⟩=some (.int .i64 (q0I ps:Int))/\w.frozen? ⟨b,n,none⟩=false:=by
 have d:(q0L C).length=C.length:=q0b C;have y:n<C.length:=(List.getElem?_eq_some_iff.1 i).1;obtain⟨b,k,o,q,u,_⟩:=(Own.of_row h.l.row).cell (j:=n) (by rw[List.length_map,d];omega);have m:((q0L C).map (Value.int .i64))[n]'(by rw[List.length_map,d];omega)= .int .i64 (q0I ps:Int):=by
  rw[List.getElem_map]
  congr 1
  have:=z1g C n i;rw[δ,γ (by rw[d];omega)] at this;exact this
 rw[m] at q;rw[d] at o;exact⟨b,k,o,q,u⟩
theorem z5w(h:pos<0):q5O C pos=([],4):=by unfold q5O;rw[ξ h]
theorem z2m(d:pos=(n:Int)*4096+(a:Int))(m:a<4096):q5O C pos=match C[n]? with
  |none=>([],4)
  | some ps=>match (if 12<=a then q4r (q0R n ps) a else none) with
   |none=>([],4)
   |some (p,_)=>(p,0):=by
 have i:(pos/4096).toNat=n:=by omega
 have j:(pos % 4096).toNat=a:=by omega
 unfold q5O;rw[κ (by omega),i,j]
 cases C[n]? with
 |none=>rfl
 | some ps=>
  by_cases b:12<=a
  ·simp only[ξ b,ξ (show 12<=pos % 4096 by omega)]
   cases q4r (q0R n ps) a with
   |none=>rfl
   |some r=>rfl
  ·simp only[κ b,κ (show ¬12<=pos % 4096 by omega)]
def ReadR(E:Oth)(w0 w:World)(g gl:Nat)(c s:Int)(C:Cks)(sure:Int)(K:Nat->Prop)(r:List UInt8×Int)(e:Ending)(w':World):Prop:=
 e= .returned (.tuple #[.string ⟨r.1.toArray⟩,.int .i64 r.2])/\LgK E w0 w' g gl c s C sure K/\Stay K w w'
theorem ReadR.no{r:List UInt8×Int}(h:LgK E w0 w g gl c s C sure K)(k:Ext w w')(b:r=([],4)):ReadR E w0 w g gl c s C sure K r (.returned (.tuple #[.string ⟨#[]⟩,.int .i64 4])) w':=by
 subst b;exact⟨rfl,h.grow k,h.kExt k⟩
theorem y0t(h:LgK E w0 w g gl c s C sure K)(pos:Int)(p0: -9223372036854775808<=pos)(p1:pos<=9223372036854775807):
  Calls Tryz.prog 177 #[.pointer (some ⟨gl,0,none⟩),.int .i64 pos] w (ReadR E w0 w g gl c s C sure K (q5O C pos)):=by
 have HK:=η h;obtain⟨F,v,σ,h1,h2⟩:=h;have Q:=η (z1a h1 h2.pl.up h2.pl.st);by_cases m0:pos<0
 ·have HA:=η (z5w (C:=C) m0)
  have hd:decide (pos<0)=true:=by simpa using m0
  clear h1 h2;go_enter Tryz.func177,Tryz.ntmps177;go_wp2_with fail;refine Q.o.mono ?_;rintro e w1 ⟨rfl,d⟩;have V:=η d;clear d;go_wp2_with fail;go_ret2;exact ReadR.no HK.o V.o HA.o
 obtain⟨n,hn⟩: ∃n:Nat,pos/4096=(n:Int):=⟨(pos/4096).toNat,by omega⟩
 obtain⟨a,ha⟩: ∃a:Nat,pos % 4096=(a:Int):=⟨(pos % 4096).toNat,by omega⟩
 have s0:pos=(n:Int)*4096+(a:Int):=by omega
 have E0:a<4096:=by omega
 have P0:(n:Int)<=2251799813685248:=by omega
 have hq:pos.tdiv 4096=(n:Int):=by rw[Int.tdiv_eq_ediv_of_nonneg (by omega)];exact hn
 have hm:pos.tmod 4096=(a:Int):=by rw[Int.tmod_eq_emod_of_nonneg (by omega)];exact ha
 have f0:=η (z2m (C:=C) s0 E0);have Q0:decide (pos<0)=false:=by simpa using m0
 have J0:=q0b C;obtain⟨sa,sk,C0⟩:=q0H h1.l.row;rw[J0] at C0;subst C0;have I:=h1.l.c3;have O:=η I;clear s0;by_cases I0:C.length<=n
 ·have HA:Hd (q5O C pos=([],4)):=η (by rw[f0.o,List.getElem?_eq_none I0])
  have hd:decide ((C.length:Int)<=(n:Int))=true:=by simp;omega
  have hx:=O.o;clear h1 h2 I;go_enter Tryz.func177,Tryz.ntmps177;go_wp2_with fail;refine Q.o.mono ?_;rintro e w1 ⟨rfl,d⟩;have V:=η d;have I:=q0A d O.o;clear d;go_wp2_with fail;go_ret2;exact ReadR.no HK.o V.o HA.o
 have B0:n<C.length:=by omega
 obtain⟨ps,M⟩: ∃ps,C[n]? =some ps:=⟨C[n],γ B0⟩
 have H0:n<200:=by have:=h2.ok.few;omega
 obtain⟨b,T0,hv,g0,_⟩:=h1.cellAt M
 cases hv;have S0:q0I ps<=4096:=h2.ok.size ps (List.mem_of_getElem? M);have y:=q1H n ps;have u:=q3S h2.oth h2.ok.few M;rw[M] at f0;have O0:decide ((C.length:Int)<=(n:Int))=false:=by simp;omega
 have e0:=η g0;obtain⟨z,hz⟩: ∃z:Int,(q0I ps:Int)=z:=⟨_,rfl⟩
 rw[hz] at e0;have z0:0<=z:=by omega
 have z1:z<=4096:=by omega
 have a0:(0:Int)<=(a:Int):=by omega
 have a1:(a:Int)<=4095:=by omega
 by_cases h0:a<12\/q0I ps<a+12
 ·have HA:Hd (q5O C pos=([],4)):=η (by
   rw[f0.o];rcases h0 with h|h
   ·simp only[κ (show ¬12<=a by omega)]
   ·by_cases Z:12<=a
    ·simp only[ξ Z,z5N (q0R n ps) a (by omega)]
    ·simp only[κ Z])
  by_cases Z:a<12
  ·have y0:decide ((a:Int)<12)=true:=by simp;omega
   clear h1 h2 I g0 u y M h0 hz;go_enter Tryz.func177,Tryz.ntmps177;go_wp2_with fail;refine Q.o.mono ?_;rintro e w1 ⟨rfl,d⟩;have V:=η d;have I:=q0A d O.o;clear d;go_wp2_with fail;go_ret2;exact ReadR.no HK.o V.o HA.o
  ·have y0:decide ((a:Int)<12)=false:=by simp;omega
   have F0:decide (z-12<(a:Int))=true:=by simp;omega
   clear h1 h2 I g0 u y M h0 hz;go_enter Tryz.func177,Tryz.ntmps177;go_wp2_with fail;refine Q.o.mono ?_;rintro e w1 ⟨rfl,d⟩;have V:=η d;have I:=q0A d O.o;have cz:=q0A d e0.o;clear d;go_wp2_with fail;go_ret2;exact ReadR.no HK.o V.o HA.o
 have Z:12<=a:=by omega
 have R0:a+12<=q0I ps:=by omega
 have y0:decide ((a:Int)<12)=false:=by simp;omega
 have F0:decide (z-12<(a:Int))=false:=by simp;omega
 obtain⟨S,hS⟩: ∃S,q0R n ps=S:=⟨_,rfl⟩
 rw[hS] at y u;obtain⟨N,b0⟩: ∃N,q3q S a=N:=⟨_,rfl⟩
 have U:q1G (((S.drop a).take 4).take 8)=N:=by rw[Δ (by simp;omega),<-b0];rfl
 have L0:N<4294967296:=by
  rw[<-U];have:=q1r (((S.drop a).take 4).take 8);have h4:(((S.drop a).take 4).take 8).length=4:=by simp;omega
  rw[h4] at this;exact this
 have n0:=q2m (n:Int);have q0:=η (fun W=>q3x (n:Int) W);have k0:=η (fun (W:World) (k:Ext w W)=>q5E (h1.grow k) h2.pl u n0 (a:Int) 4 a0 (by decide) (by rw[y];omega) (by rw[y];omega));have HG:=η (fun W=>q8j ((S.drop a).take 4) W (by simp;omega));rw[U] at HG;have e4:(4:Int).toNat=4:=rfl;simp only[Int.toNat_natCast,e4] at k0;have HH:=η h1;have HL:=η h2;have M0:a+12<=S.length:=by omega
 have HZ:=η hz;have x0:=η y;have o0:=η h1.l.c0;have d0:Hd (∀(W:World) (F':Nat->Prop) (τ:DM),LgF w0 W g gl F' (.slice (some ⟨b,0,none⟩) C.length sk) τ s (q0L C) sure K->W.cell? ⟨gl,0,none⟩=some (.pointer (some ⟨g,0,none⟩))/\W.cell? ⟨gl,3,none⟩=some (.slice (some ⟨b,0,none⟩) C.length sk)/\W.cell? ⟨b,n,none⟩=some (.int .i64 z)):=η fun W F' τ hW=>by
  obtain⟨b2,k2,e1,e2,_⟩:=hW.cellAt M
  cases e1;rw[hz] at e2;exact⟨hW.l.c0,hW.l.c3,e2⟩
 by_cases R:2000<N\/S.length<a+N+12
 ·have HA:Hd (q5O C pos=([],4)):=η (by
   rw[f0.o];have:q4r S a=none:=by
    unfold q4r isR;rw[b0];rcases R with h|h
    ·rw[ε (p:=N<=2000) (by omega)];simp
    ·rw[ε (p:=a+N+12<=S.length) (by omega)];simp
   simp only[ξ Z,hS,this])
  clear h1 h2 I g0 u y M h0 hz b0 U hS n0;by_cases i:2000<N
  ·have A0:decide ((2000:Int)<(N:Int))=true:=by simp;omega
   clear R;go_enter Tryz.func177,Tryz.ntmps177;go_wp2_with fail;refine Q.o.mono ?_;rintro e w1 ⟨rfl,d⟩;have V:=η d;have I:=q0A d O.o;have cz:=q0A d e0.o;clear d;go_wp2_with fail;refine(q0.o _).mono ?_;rintro e wa ⟨rfl,d⟩;have G:=η (V.o.trans d);clear d I cz;have c0:=q0A G.o o0.o;go_wp2_with fail;refine(k0.o _ G.o).mono ?_;rintro e wb ⟨rfl,⟨F',σ',j,i⟩,m⟩;have B:=η j;have X:=η i;have Y:=η ((HK.o.kExt G.o).trans m);clear j i m c0;go_wp2_with fail;refine(HG.o _).mono ?_;rintro e wc ⟨rfl,d⟩;have J:=η d;obtain⟨c0,I,cz⟩:=d0.o _ _ _ (B.o.grow d);clear d;go_wp2_with fail;go_ret2;exact⟨by rw[HA.o];rfl,⟨_,_,σ',B.o.grow J.o,⟨X.o,HL.o.ok,HL.o.oth⟩⟩,Y.o.trans (B.o.kExt J.o)⟩
  ·have A0:decide ((2000:Int)<(N:Int))=false:=by simp;omega
   have G0:decide (z-12-(a:Int)<(N:Int))=true:=by have:=HZ.o;have:=x0.o;simp;omega
   clear R;go_enter Tryz.func177,Tryz.ntmps177;go_wp2_with fail;refine Q.o.mono ?_;rintro e w1 ⟨rfl,d⟩;have V:=η d;have I:=q0A d O.o;have cz:=q0A d e0.o;clear d;go_wp2_with fail;refine(q0.o _).mono ?_;rintro e wa ⟨rfl,d⟩;have G:=η (V.o.trans d);clear d I cz;have c0:=q0A G.o o0.o;go_wp2_with fail;refine(k0.o _ G.o).mono ?_;rintro e wb ⟨rfl,⟨F',σ',j,i⟩,m⟩;have B:=η j;have X:=η i;have Y:=η ((HK.o.kExt G.o).trans m);clear j i m c0;go_wp2_with fail;refine(HG.o _).mono ?_;rintro e wc ⟨rfl,d⟩;have J:=η d;obtain⟨c0,I,cz⟩:=d0.o _ _ _ (B.o.grow d);clear d;go_wp2_with fail;go_ret2;exact⟨by rw[HA.o];rfl,⟨_,_,σ',B.o.grow J.o,⟨X.o,HL.o.ok,HL.o.oth⟩⟩,Y.o.trans (B.o.kExt J.o)⟩
 have A0:decide ((2000:Int)<(N:Int))=false:=by simp;omega
 have G0:decide (z-12-(a:Int)<(N:Int))=false:=by simp;omega
 have K0:(N:Int)<=2000:=by omega
 have D0:((N:Int)+12).toNat=N+12:=by omega
 have r0:=η (fun (W:World) (F':Nat->Prop) (τ:DM) (hW:LgF w0 W g gl F' (.slice (some ⟨b,0,none⟩) C.length sk) τ s (q0L C) sure K) (hp:Pl τ (c+(q2G E:Int)) s (q3E E C))=>q5E hW hp u n0 (a:Int) ((N:Int)+12) a0 (by omega) (by rw[y];omega) (by rw[y];omega));simp only[Int.toNat_natCast,D0] at r0;obtain⟨T,hT⟩: ∃T,(S.drop a).take (N+12)=T:=⟨_,rfl⟩
 have N0:T.length=N+12:=by rw[<-hT];simp;omega
 rw[hT] at r0;have j0:=η (fun W=>q8l T 0 W (by omega) (by omega));have hcut:q4r T 0=(q4r S a).map fun r=>(r.1,r.2-a):=by
  have:=z7P (s:=S) (a:=a) (by rw[b0];omega);rw[b0,hT] at this;exact this
 rw[Int.natCast_zero] at j0
 cases hg:q4r S a with
 | none=>
  have HA:Hd (q5O C pos=([],4)):=η (by rw[f0.o];simp only[ξ Z,hS,hg]);have l0:q9q T 0= .tuple #[.string ⟨#[]⟩,.int .i64 0,.bool false]:=by unfold q9q;rw[hcut,hg];rfl
  rw[l0] at j0;clear h1 h2 I g0 u y M h0 hz b0 U hS n0 R hT hcut hg l0;go_enter Tryz.func177,Tryz.ntmps177;go_wp2_with fail;refine Q.o.mono ?_;rintro e w1 ⟨rfl,d⟩;have V:=η d;have I:=q0A d O.o;have cz:=q0A d e0.o;clear d;go_wp2_with fail;refine(q0.o _).mono ?_;rintro e wa ⟨rfl,d⟩;have G:=η (V.o.trans d);clear d I cz;have c0:=q0A G.o o0.o;go_wp2_with fail;refine(k0.o _ G.o).mono ?_;rintro e wb ⟨rfl,⟨F',σ',j,i⟩,m⟩;have B:=η j;have X:=η i;have Y:=η ((HK.o.kExt G.o).trans m);clear j i m c0;go_wp2_with fail;refine(HG.o _).mono ?_;rintro e wc ⟨rfl,d⟩;have J:=η d;obtain⟨c0,I,cz⟩:=d0.o _ _ _ (B.o.grow d);clear d;go_wp2_with fail;refine(r0.o _ _ _ (B.o.grow J.o) X.o).mono ?_;rintro e wd ⟨rfl,⟨F2,v0,j,i⟩,m⟩;have i0:=η j;have t0:=η i;have u0:=η ((Y.o.trans (B.o.kExt J.o)).trans m);clear j i m c0 I cz;go_wp2_with fail;refine(j0.o _).mono ?_;rintro e we ⟨rfl,d⟩;have HE:=η d;clear d;go_wp2_with fail;go_ret2;exact⟨by rw[HA.o];rfl,⟨_,_,v0,i0.o.grow HE.o,⟨t0.o,HL.o.ok,HL.o.oth⟩⟩,u0.o.trans (i0.o.kExt HE.o)⟩
 | some r=>
  obtain⟨q,e⟩:=r;have HA:Hd (q5O C pos=(q,0)):=η (by rw[f0.o];simp only[ξ Z,hS,hg]);have l0:q9q T 0= .tuple #[.string ⟨q.toArray⟩,.int .i64 ((e-a:Nat):Int),.bool true]:=by unfold q9q;rw[hcut,hg];rfl
  rw[l0] at j0;generalize ((e-a:Nat):Int)=ea at*;clear h1 h2 I g0 u y M h0 hz b0 U hS n0 R hT hcut hg l0;go_enter Tryz.func177,Tryz.ntmps177;go_wp2_with fail;refine Q.o.mono ?_;rintro e w1 ⟨rfl,d⟩;have V:=η d;have I:=q0A d O.o;have cz:=q0A d e0.o;clear d;go_wp2_with fail;refine(q0.o _).mono ?_;rintro e wa ⟨rfl,d⟩;have G:=η (V.o.trans d);clear d I cz;have c0:=q0A G.o o0.o;go_wp2_with fail;refine(k0.o _ G.o).mono ?_;rintro e wb ⟨rfl,⟨F',σ',j,i⟩,m⟩;have B:=η j;have X:=η i;have Y:=η ((HK.o.kExt G.o).trans m);clear j i m c0;go_wp2_with fail;refine(HG.o _).mono ?_;rintro e wc ⟨rfl,d⟩;have J:=η d;obtain⟨c0,I,cz⟩:=d0.o _ _ _ (B.o.grow d);clear d;go_wp2_with fail;refine(r0.o _ _ _ (B.o.grow J.o) X.o).mono ?_;rintro e wd ⟨rfl,⟨F2,v0,j,i⟩,m⟩;have i0:=η j;have t0:=η i;have u0:=η ((Y.o.trans (B.o.kExt J.o)).trans m);clear j i m c0 I cz;go_wp2_with fail;refine(j0.o _).mono ?_;rintro e we ⟨rfl,d⟩;have HE:=η d;clear d;go_wp2_with fail;go_ret2;exact⟨by rw[HA.o];rfl,⟨_,_,v0,i0.o.grow HE.o,⟨t0.o,HL.o.ok,HL.o.oth⟩⟩,u0.o.trans (i0.o.kExt HE.o)⟩
end
section
variable {E :Oth}{w0 w:World}{g gl:Nat}{F K:Nat->Prop}{v:Value}{σ:DM}{c s sure:Int}{C:Cks}
theorem Lgd.free(h:Lgd E σ c s C):z0y σ=c-(q0l C:Int):=by rw[h.pl.free,q6Y];push_cast;omega
theorem Dk.okD{F:Nat->Prop}(h:Dk w g F σ):okD σ:=by obtain⟨b,_⟩:=h;exact b
theorem LgF.room0{xs:List Int}(h:LgF w0 w g gl F v σ s xs sure K)(j:Lgd E σ c s C):0<=c-(q0l C:Int)/\c-(q0l C:Int)<=1048576:=by
 have b:=h.d.okD;have i:=j.free;have m:=b.used;have o:=b.cap1;unfold z0y at i;omega
theorem LgF.setRow{xs:List Int}(h:LgF w0 w g gl F v σ s xs sure K){b k:Nat}(o:v= .slice (some ⟨b,0,none⟩) xs.length k)(j:Nat)(z:Int):LgF w0 (w.setCell ⟨b,j,none⟩ (.int .i64 z)) g gl F v σ s (xs.set j z) sure K/\Stay K w (w.setCell ⟨b,j,none⟩ (.int .i64 z)):=by
 have m:v.ownBlock=some b:=by rw[o];rfl
 have d:¬gl=b:=fun e=>h.l.apart (by rw[m,e])
 refine h.log ⟨(OffS.set (F:=fun i=>i=b) w rfl j (.int .i64 z)).blk h.l.blk d,?_⟩ (OffS.set w (.inr m) j _) fun i q=> .inl q
 have:=z3y h.l.row o (j:=j) (.int .i64 z);rw[List.length_set,List.map_set];exact this
theorem LgF.last(h:LgF w0 w g gl F v σ s (q0L (D++[ps])) sure K):
  ∃b k,v= .slice (some ⟨b,0,none⟩) (D.length+1) k/\w.cell? ⟨b,D.length,none⟩=some (.int .i64 (q0I ps:Int))/\w.frozen? ⟨b,D.length,none⟩=false:=by
 have d:(q0L (D++[ps])).length=D.length+1:=by rw[q0b];simp
 obtain⟨b,k,m,o,q,_⟩:=(Own.of_row h.l.row).cell (j:=D.length) (by rw[List.length_map,d];omega);have i:((q0L (D++[ps])).map (Value.int .i64))[D.length]'(by rw[List.length_map,d];omega)= .int .i64 (q0I ps:Int):=by
  rw[List.getElem_map]
  congr 1
  have:=q7I D ps;rw[δ,γ (by rw[d];omega)] at this;exact this
 rw[i] at o;rw[d] at m;exact⟨b,k,m,o,q⟩
theorem z4U(h:LgF w0 w g gl F v σ s (q0L C) sure K)(b:Lgd E σ c s C)(n:Int)(R:List UInt8)(B:R.length<=2012)(y:c-(q0l C:Int)-(R.length:Int)<6000):
  Calls Tryz.prog 136 #[.pointer (some ⟨gl,0,none⟩),.int .i64 n,.string ⟨R.toArray⟩] w fun e w'=>e= .returned (.tuple #[.int .i64 0,.int .i64 60])/\Ext w w':=by
 obtain⟨m,q⟩:=h.room0 b;have d:=η (z2t h b.free m q (R.length:Int) (by omega) (by omega));have j:decide ((6000:Int)<=c-(q0l C:Int)-(R.length:Int))=false:=by simp;omega
 rw[j] at d;clear h b j m q y;go_enter Tryz.func136,Tryz.ntmps136;go_wp2_with fail;refine d.o.mono ?_;rintro e w1 ⟨rfl,i⟩;have u:=η i;clear i;go_wp2_with fail;go_ret2;exact⟨rfl,u.o⟩
theorem z6i(h:LgF w0 w g gl F v σ s (q0L (D++[ps])) sure K)(j:Lgd E σ c s (D++[ps]))(hp:p.length<=2000)(hs:q0I ps+(p.length+12)<=4096)
  (hr:6000<=c-(q0l (D++[ps]):Int)-((p.length:Int)+12)):
  Calls Tryz.prog 136 #[.pointer (some ⟨gl,0,none⟩),.int .i64 (D.length:Int),.string ⟨(q2H p).toArray⟩] w fun e w'=>
   e= .returned (.tuple #[.int .i64 ((D.length:Int)*4096+(q0I ps:Int)),.int .i64 0])/\LgK E w0 w' g gl c s (D++[ps++[p]]) sure K/\Stay K w w':=by
 obtain⟨r0,r1⟩:=h.room0 j;have i:=j.ok.few;have m:D.length+1<=200:=by simpa using i
 have e0:=q1E p;have HR:=η (z2t h j.free r0 r1 ((q2H p).length:Int) (by omega) (by omega));have hd:decide ((6000:Int)<=c-(q0l (D++[ps]):Int)-((q2H p).length:Int))=true:=by simp;omega
 rw[hd] at HR;obtain⟨σ',hm,q⟩:=j.pl.append (t:=q2H p) (q3S j.oth i (q8Y D ps)) (by rw[q6Y];push_cast;omega);rw[z4Y j.oth p (by omega)] at q;have HP:Hd (Lgd E σ' c s (D++[ps++[p]])):=η ⟨q,j.ok.grow hp hs,j.oth⟩;have I:=q2m (D.length:Int)
 have S:=η (fun (O:World) (k:Ext w O)=>show Calls Tryz.prog 190 #[.pointer (some ⟨g,0,none⟩),.string ⟨(q0E 99 (D.length:Int)).toArray⟩,.string ⟨(q2H p).toArray⟩] O fun e w'=>e= .returned (.int .i64 0)/\DkS O g F σ' w' by
  have:=z1x (h.d.ext k) (q0E 99 (D.length:Int)) (q2H p) I (by omega);rw[hm] at this
  exact this)
 have V:=η (fun W=>q3x (D.length:Int) W);have c0:=h.l.c0;have u:=η c0;have HH:=η h
 have b0:Hd ((q0L (D++[ps])).set D.length ((q0I ps:Int)+((q2H p).length:Int))=q0L (D++[ps++[p]])):=η (by
  rw[<-z4B D ps (ps++[p]),q2M,q1E];congr 1)
 have y:=η (fun (W:World) (F':Nat->Prop) (τ:DM) (hW:LgF w0 W g gl F' v τ s (q0L (D++[ps])) sure K)=>hW.last);have J:(q0L (D++[ps])).length=D.length+1:=by rw[q0b];simp
 have Z:=η J;have z0:(0:Int)<=(q0I ps:Int):=by omega
 have z1:(q0I ps:Int)<=4096:=by omega
 have f0:(q2H p).length<=2012:=by omega
 have g0:D.length<=199:=by omega
 generalize q0E 99 (D.length:Int)=nm at*;generalize q2H p=R at*;generalize (q0I ps:Int)=z at*;generalize D.length=n at*;clear h j q hm hd r0 r1 hr hs e0 i m hp I J;go_enter Tryz.func136,Tryz.ntmps136;go_wp2_with fail;refine HR.o.mono ?_;rintro e w1 ⟨rfl,G⟩;have HB:=η G;have d0:=q0A G u.o;have B:=q0A (G.drew) u.o;have U:=η G.drew;clear G c0;go_wp2_with fail
 go_region_held3 (fun W=>W.cell? ⟨gl,0,none⟩=some (.pointer (some ⟨g,0,none⟩)))
  (first|exact Y.o|exact X.o|exact B)
  (first
   |(go_at_call 149;refine(V.o _).mono ?_;rintro e O ⟨rfl,h1⟩;have Q:=η (U.o.trans h1);have X:=η (q0A h1 B);clear h1)
   |(go_at_call 190;refine(S.o _ Q.o).mono ?_;rintro e wb ⟨rfl,h2⟩;have h3:=(HH.o.grow Q.o).disk h2;have M:=η h3;have Y:=η h3.1.l.c0;clear h2 h3))
 all_goals
  obtain⟨b,k,rfl,e2,z2⟩:=y.o _ _ _ M.o.1;have e3:=M.o.1.l.c3;have N:=M.o.1.setRow (by rw[Z.o]) n (z+(R.length:Int));rw[b0.o] at N;have HF:=η (show LgK E w0 (wb.setCell ⟨b,n,none⟩ (.int .i64 (z+(R.length:Int)))) g gl c s (D++[ps++[p]]) sure K from⟨_,_,σ',N.1,HP.o⟩);have a0:=η ((HH.o.kExt Q.o).trans (M.o.2.trans N.2));clear N;go_wp2_with fail;go_ret2;exact⟨rfl,HF.o,a0.o⟩
end
def LgP(E:Oth)(w0 w:World)(g gl:Nat)(c s:Int)(l:List (List UInt8×List UInt8))(xs:List Int)(sure:Int)(K:Nat->Prop):Prop:= ∃F v σ,LgF w0 w g gl F v σ s xs sure K/\okOth E/\Pl σ (c+(q2G E:Int)) s l
theorem z4X{w:World}{b:Nat}(h:w'.heap[b]? =w.heap[b]?)(o:Nat):w'.cell? ⟨b,o,none⟩=w.cell? ⟨b,o,none⟩:=by simp only[World.cell?,h]
theorem q0t{K:Nat->Prop}{w:World}(h:Stay K w w'){b o:Nat}(hK:K b){u:Value}(hc:w.cell? ⟨b,o,none⟩=some u):w'.cell? ⟨b,o,none⟩=some u:=(z4X (h b hK) o).trans hc
section
variable {E :Oth}{w0 w:World}{g gl:Nat}{F K:Nat->Prop}{v:Value}{σ:DM}{c s sure:Int}{C:Cks}{xs:List Int}
theorem z6f(h:LgP E w0 w g gl c s (q3E E C) xs sure K)(hC:C.length<200)(kl:K bl)(kn:K bn)(u:w.cell? ⟨bl,0,none⟩=some (.pointer (some ⟨gl,0,none⟩)))(y:w.cell? ⟨bn,0,none⟩=some (.int .i64 (C.length:Int))):
  Calls Tryz.prog 192 #[.pointer (some ⟨bl,0,none⟩),.pointer (some ⟨bn,0,none⟩)] w fun e w'=>e= .returned (.int .i64 0)/\LgP E w0 w' g gl c s (z3R E C) xs sure K/\Stay K w w':=by
 obtain⟨F,v,σ,h,q,hp⟩:=h;have U:=h.l.c0;have G:q3m (q0E 99 (C.length:Int))=true:=by rw[q0W (by omega)];simp[q3m,q0d]
 obtain⟨σ',hm,i⟩:=hp.create (z4Z q (by omega) (ι _) (by omega)) G (by rw[q6X];have:=q.few;omega);rw[z6l q (by omega)] at i;have B:=q2m (C.length:Int)
 have O:=η (fun (J:World) (k:Ext w J)=>show Calls Tryz.prog 193 #[.pointer (some ⟨g,0,none⟩),.string ⟨(q0E 99 (C.length:Int)).toArray⟩] J fun e w'=>e= .returned (.int .i64 0)/\DkS J g F σ' w' by
  have:=z6r (h.d.ext k) (q0E 99 (C.length:Int)) B;rw[hm] at this
  exact this)
 have N:=η (fun W=>q3x (C.length:Int) W);have HP:=η (And.intro q i);have S:=η h;have I:Ext w w.drew:=(Ext.refl w).drew;have HW:=η I;have V:=q0A I U;have X:=q0A I u;have Y:=q0A I y;generalize q0E 99 (C.length:Int)=nm at*;generalize C.length=n at*;clear h hp i q hm G B I U u y;go_enter Tryz.func192,Tryz.ntmps192;go_wp2_with fail
 go_region_held3 (fun W=>W.cell? ⟨gl,0,none⟩=some (.pointer (some ⟨g,0,none⟩))/\W.cell? ⟨bl,0,none⟩=some (.pointer (some ⟨gl,0,none⟩))/\W.cell? ⟨bn,0,none⟩=some (.int .i64 (n:Int)))
  (first|exact Q.o|exact b.o|exact⟨V,X,Y⟩)
  (first
   |(go_at_call 149;refine(N.o _).mono ?_;rintro e J ⟨rfl,j⟩;have M:=η (HW.o.trans j);have b:=η (And.intro (q0A j V) (And.intro (q0A j X) (q0A j Y)));clear j)
   |(go_at_call 193;refine(O.o _ M.o).mono ?_;rintro e wb ⟨rfl,Z⟩;have m:=(S.o.grow M.o).disk Z;have R:=η m;have Q:=η (And.intro m.1.l.c0 (And.intro (q0t m.2 kl b.o.2.1) (q0t m.2 kn b.o.2.2)));clear Z m))
 all_goals
  go_wp2_with fail;go_ret;exact⟨rfl,⟨_,_,σ',R.o.1,HP.o⟩,(S.o.kExt M.o).trans R.o.2⟩
theorem z6g(h:LgP E w0 w g gl c s (z3R E C) xs sure K)(hC:C.length<200)(hp:p.length<=2000)(hr:(p.length:Int)+24<=c-(q0l C:Int))(kl:K bl)(kn:K bn)(kr:K br)
  (G:w.cell? ⟨bl,0,none⟩=some (.pointer (some ⟨gl,0,none⟩)))(I:w.cell? ⟨bn,0,none⟩=some (.int .i64 (C.length:Int)))(J:w.cell? ⟨br,0,none⟩=some (.string ⟨(q2H p).toArray⟩)):
  Calls Tryz.prog 194 #[.pointer (some ⟨bl,0,none⟩),.pointer (some ⟨bn,0,none⟩),.pointer (some ⟨br,0,none⟩)] w fun e w'=>e= .returned (.int .i64 0)/\LgP E w0 w' g gl c s (q3E E (C++[[p]])) xs sure K/\Stay K w w':=by
 obtain⟨F,v,σ,h,O,N⟩:=h;have c0:=h.l.c0;have hf:q0F Prod.fst (q0E 99 (C.length:Int)) (z3R E C)=some (q0E 99 (C.length:Int),[]):=by
  exact z4b O (by omega)
 have B:=q1E p;have y:=q2l C.length
 obtain⟨σ',hm,m⟩:=N.append (t:=q2S C.length++q2H p) hf (by
  rw[z4c,θ,B,y]
  push_cast
  omega)
 rw[z3O O p (by omega)] at m;have M:=q2m (C.length:Int)
 have U:=η (fun (Q:World) (k:Ext w Q)=>show Calls Tryz.prog 190 #[.pointer (some ⟨g,0,none⟩),.string ⟨(q0E 99 (C.length:Int)).toArray⟩,.string (⟨(q2S C.length).toArray⟩++⟨(q2H p).toArray⟩)] Q fun e w'=>e= .returned (.int .i64 0)/\DkS Q g F σ' w' by
  have:=z1x (h.d.ext k) (q0E 99 (C.length:Int)) (q2S C.length++q2H p) M (by rw[θ];omega);rw[hm] at this;rw[q3J]
  exact this)
 have V:=η (fun W=>q3x (C.length:Int) W);have X:=η (fun W=>z2C C.length W hC);have HP:=η (And.intro O m);have HH:=η h;have u:Ext w w.drew:=(Ext.refl w).drew;have HW:=η u;have d0:=q0A u c0;have d1:=q0A u G;have d2:=q0A u I;have d3:=q0A u J;have a0:¬(9223372036854775807<(q2S C.length).length+(q2H p).length):=by omega
 clear h N O m hm hf M u c0 G I J B y hr hp;generalize q2H p=R at*;generalize q2S C.length=Hd at*;generalize q0E 99 (C.length:Int)=nm at*;generalize C.length=n at*;go_enter Tryz.func194,Tryz.ntmps194;go_wp2_with fail
 go_region_held3 (fun W=>W.cell? ⟨gl,0,none⟩=some (.pointer (some ⟨g,0,none⟩))/\W.cell? ⟨bl,0,none⟩=some (.pointer (some ⟨gl,0,none⟩))/\W.cell? ⟨bn,0,none⟩=some (.int .i64 (n:Int))/\W.cell? ⟨br,0,none⟩=some (.string ⟨R.toArray⟩))
  (first|exact Y.o|exact j.o|exact i.o|exact⟨d0,d1,d2,d3⟩)
  (first
   |(go_at_call 149;refine(V.o _).mono ?_;rintro e Q ⟨rfl,b⟩;have H1:=η (HW.o.trans b);have i:=η (And.intro (q0A b d0) (And.intro (q0A b d1) (And.intro (q0A b d2) (q0A b d3))));clear b)
   |(go_at_call 195;refine(X.o _).mono ?_;rintro e wc ⟨rfl,b⟩;have S:=η (H1.o.trans b);have j:=η (And.intro (q0A b i.o.1) (And.intro (q0A b i.o.2.1) (And.intro (q0A b i.o.2.2.1) (q0A b i.o.2.2.2))));clear b)
   |(go_at_call 190;refine(U.o _ S.o).mono ?_;rintro e wb ⟨rfl,h2⟩;have q:=(HH.o.grow S.o).disk h2;have Z:=η q;have Y:=η (And.intro q.1.l.c0 (And.intro (q0t q.2 kl j.o.2.1) (And.intro (q0t q.2 kn j.o.2.2.1) (q0t q.2 kr j.o.2.2.2))));clear h2 q))
 all_goals
  go_wp2_with fail;go_ret;exact⟨rfl,⟨_,_,σ',Z.o.1,HP.o⟩,(HH.o.kExt S.o).trans Z.o.2⟩
end
section
variable {E :Oth}{w0 w:World}{g gl:Nat}{F K:Nat->Prop}{v:Value}{σ:DM}{c s sure:Int}{C:Cks}{xs:List Int}
theorem LgK.toP(h:LgK E w0 w g gl c s C sure K):LgP E w0 w g gl c s (q3E E C) (q0L C) sure K/\okC C:=by
 obtain⟨F,v,σ,d,b⟩:=h;exact⟨⟨F,v,σ,d,b.oth,b.pl⟩,b.ok⟩
def z1w(E:Oth)(w0:World)(g gl:Nat)(c s:Int)(C:Cks)(p:List UInt8)(sure:Int)(K:Nat->Prop):Nat->World->Prop
 |0,W=>LgK E w0 W g gl c s C sure K
 |1,W=>LgP E w0 W g gl c s (q3E E C) (q0L C) (q1T C sure) K
 |2,W=>LgP E w0 W g gl c s (z3R E C) (q0L C) (q1T C sure) K
 |_,W=>LgP E w0 W g gl c s (q3E E (C++[[p]])) (q0L C) (q1T C sure) K
theorem z9z(h:LgK E w0 w g gl c s C sure K)(hC:C.length<200)(hp:p.length<=2000)(hr:(p.length:Int)+24<=c-(q0l C:Int)){b:Nat}(V:K b)(kl:K bl)(Z:K bn)(kr:K br)
  (M:w.cell? ⟨b,0,none⟩=some (.func (.func 157) #[.pointer (some ⟨gl,0,none⟩)] #[]))
  (N:w.cell? ⟨b,1,none⟩=some (.func (.func 192) #[] #[.pointer (some ⟨bl,0,none⟩),.pointer (some ⟨bn,0,none⟩)]))
  (O:w.cell? ⟨b,2,none⟩=some (.func (.func 194) #[] #[.pointer (some ⟨bl,0,none⟩),.pointer (some ⟨bn,0,none⟩),.pointer (some ⟨br,0,none⟩)]))
  (Q:w.cell? ⟨bl,0,none⟩=some (.pointer (some ⟨gl,0,none⟩)))(R:w.cell? ⟨bn,0,none⟩=some (.int .i64 (C.length:Int)))(S:w.cell? ⟨br,0,none⟩=some (.string ⟨(q2H p).toArray⟩)):
  Calls Tryz.prog 191 #[.slice (some ⟨b,0,none⟩) 3 3] w fun e w'=>e= .returned (.int .i64 0)/\LgP E w0 w' g gl c s (q3E E (C++[[p]])) (q0L C) (q1T C sure) K/\Stay K w w':=by
 have H:=η h;have HB:=η (show∀W,Stay K w W->W.cell? ⟨b,0,none⟩=_/\W.cell? ⟨b,1,none⟩=_/\W.cell? ⟨b,2,none⟩=_ from fun W k=>⟨q0t k V M,q0t k V N,q0t k V O⟩);have HL:=η (show∀W,Stay K w W->W.cell? ⟨bl,0,none⟩=_/\W.cell? ⟨bn,0,none⟩=_/\W.cell? ⟨br,0,none⟩=_ from fun W k=>⟨q0t k kl Q,q0t k Z R,q0t k kr S⟩);have G:=η kl;have I:=η Z;have X:=η kr;have HC:=η hC;have Y:=η hp;have HR:=η hr;clear h V kl Z kr M N O Q R S hC hp hr;go_enter Tryz.func191,Tryz.ntmps191;go_wp2_with fail
 go_loopw [8] (fun i W=> ∃k:Nat,k<=3/\i= .int .i64 (k:Int)/\z1w E w0 g gl c s C p sure K k W/\Stay K w W) (fun i _=>3-(intOf i).toNat)
 case atStart=>exact⟨0,by omega,rfl,H.o,Stay.refl _ _⟩
 case round=>
  obtain⟨k,hk,rfl,hs,u⟩:=hrel;have U:=η hs;have q:=η u;obtain⟨q0,q1,q2⟩:=HB.o wr u;have d:=η (HL.o wr u);clear hs u;obtain rfl|rfl|rfl|rfl:k=0\/k=1\/k=2\/k=3:=by omega
  ·have J:Hd (Calls Tryz.prog 157 #[.pointer (some ⟨gl,0,none⟩)] wr fun e w'=>e= .returned (.int .i64 0)/\LgK E w0 w' g gl c s C (q1T C sure) K/\Stay K wr w'):=η (by
    obtain⟨F,v,σ,j,m⟩:=U.o
    exact z9J j m)
   go_wp2_with fail;refine J.o.mono ?_;rintro e w1 ⟨rfl,j,m⟩;have y:=η (show z1w E w0 g gl c s C p sure K 1 w1 from j.toP.1);have B:=η (q.o.trans m);clear j m;go_wp2_with fail
   go_roundw
   case rel=>exact⟨1,by omega,by go_num,y.o,B.o⟩
   case measure=>simp[intOf]
  ·have J:=η (z6f U.o HC.o G.o I.o d.o.1 d.o.2.1)
   go_wp2_with fail;refine J.o.mono ?_;rintro e w1 ⟨rfl,j,m⟩;have y:=η (show z1w E w0 g gl c s C p sure K 2 w1 from j);have B:=η (q.o.trans m);clear j m;go_wp2_with fail
   go_roundw
   case rel=>exact⟨2,by omega,by go_num,y.o,B.o⟩
   case measure=>simp[intOf]
  ·have J:=η (z6g U.o HC.o Y.o HR.o G.o I.o X.o d.o.1 d.o.2.1 d.o.2.2)
   go_wp2_with fail;refine J.o.mono ?_;rintro e w1 ⟨rfl,j,m⟩;have y:=η (show z1w E w0 g gl c s C p sure K 3 w1 from j);have B:=η (q.o.trans m);clear j m;go_wp2_with fail
   go_roundw
   case rel=>exact⟨3,by omega,by go_num,y.o,B.o⟩
   case measure=>simp[intOf]
  ·go_wp2_with fail
   go_ret;exact⟨rfl,U.o,q.o⟩
end
section
variable {E :Oth}{w0 w:World}{g gl:Nat}{F K:Nat->Prop}{v:Value}{σ:DM}{c s sure:Int}{C:Cks}{xs:List Int}
theorem LgF.push{B:World}(h:LgF w0 w3 g gl F v σ s xs sure K)(y:Ext w3 B){z:Int}{d:Value}(o:w'.ownsRow 0 3 1 d (xs.length+1) (xs.map (Value.int .i64)++[.int .i64 z]))(b:B.grownBy w' v.ownBlock)
  (m:d.ownBlock=v.ownBlock\/d.ownBlock=some B.heap.size):
  LgF w0 (w'.setCell ⟨gl,3,none⟩ d) g gl F d σ s (xs++[z]) sure K/\Stay K w3 (w'.setCell ⟨gl,3,none⟩ d):=by
 have I:=h.l.blk.lt;have J:=y.size;have u:d.ownBlock≠some gl:=fun e=>by
  rcases m with j|j
  ·exact h.l.apart (j.symm.trans e)
  ·rw[j] at e;cases e;omega
 have G:Blk w' gl 182 #[.pointer (some ⟨g,0,none⟩),.int .i64 s,.bool false,v,.int .i64 sure]:=(h.l.blk.ext y).same (b.block gl (by omega) fun e=>h.l.apart e.symm);refine h.log ⟨G.set 3 d,?_⟩ (((OffS.of_ext y).trans (OffS.grown b fun i e=> .inr e)).trans (OffS.set w' (.inl rfl) 3 d)) fun i q=>?_
 ·rw[θ,List.map_append]
  exact q1C o d u
 ·rcases m with j|j
  ·exact .inl (j.symm.trans q)
  ·right;rw[j] at q;cases q;exact J
theorem LgF.pushed{m:World}(h:LgF w0 w3 g gl F v σ s xs sure K)(d:Ext w3 m)(b:m.grownBy w' v.ownBlock):Stay K w3 w'/\w'.cell? ⟨gl,3,none⟩=some v/\w'.frozen? ⟨gl,3,none⟩=false:=by
 have y:=h.l.blk.lt;have B:=d.size;have j:Blk w' gl 182 #[.pointer (some ⟨g,0,none⟩),.int .i64 s,.bool false,v,.int .i64 sure]:=(h.l.blk.ext d).same (b.block gl (by omega) fun e=>h.l.apart e.symm);refine⟨fun i u=>?_,j.cell 3,j.free 3⟩;obtain⟨o,_,q⟩:=h.k i u;exact(b.block i (by omega) fun e=>q (.inr e.symm)).trans (d.block i o)
theorem z6h(h:LgF w0 w g gl F v σ s (q0L C) sure K)(d:Lgd E σ c s C)(R:List UInt8)(I:R.length<=2012)(y:200<=C.length\/c-(q0l C:Int)-((R.length:Int)+12)<6000):
  Calls Tryz.prog 137 #[.pointer (some ⟨gl,0,none⟩),.int .i64 (C.length:Int),.string ⟨R.toArray⟩] w fun e w'=>e= .returned (.tuple #[.int .i64 0,.int .i64 60])/\Ext w w':=by
 obtain⟨j,m⟩:=h.room0 d;have q:=d.ok.few;have i:=η (fun (W:World) (k:Ext w W)=>z2t (h.grow k) d.free j m (12+(R.length:Int)) (by omega) (by omega));by_cases J:200<=C.length
 ·have G:decide ((200:Int)<=(C.length:Int))=true:=by simp;omega
  clear h d i j m y;go_enter Tryz.func137,Tryz.ntmps137;go_wp2_with fail;go_ret2;exact⟨rfl,q6j w _ _ _⟩
 ·have G:decide ((200:Int)<=(C.length:Int))=false:=by simp;omega
  have b:decide ((6000:Int)<=c-(q0l C:Int)-(12+(R.length:Int)))=false:=by simp;omega
  rw[b] at i;clear h d j m y b;go_enter Tryz.func137,Tryz.ntmps137;go_wp2_with fail;refine(i.o _ (q6j w _ _ _)).mono ?_;rintro e w1 ⟨rfl,u⟩;have B:=η ((q6j w _ _ _).trans u);clear u;go_wp2_with fail;go_ret2;exact⟨rfl,B.o⟩
theorem z8d(h:LgF w0 w g gl F v σ s (q0L C) sure K)(hl:Lgd E σ c s C)(hp:p.length<=2000)(hn:C.length<200)(hr:6000<=c-(q0l C:Int)-((p.length:Int)+24)):
  Calls Tryz.prog 137 #[.pointer (some ⟨gl,0,none⟩),.int .i64 (C.length:Int),.string ⟨(q2H p).toArray⟩] w fun e w'=>
   e= .returned (.tuple #[.int .i64 ((C.length:Int)*4096+12),.int .i64 0])/\LgK E w0 w' g gl c s (C++[[p]]) (q1T C sure) K/\Stay K w w':=by
 obtain⟨r0,r1⟩:=h.room0 hl;have o0:=q1E p;have HR:=η (fun (W:World) (k:Ext w W)=>z2t (h.grow k) hl.free r0 r1 (12+((q2H p).length:Int)) (by omega) (by omega));have hd:decide ((200:Int)<=(C.length:Int))=false:=by simp;omega
 have v0:decide ((6000:Int)<=c-(q0l C:Int)-(12+((q2H p).length:Int)))=true:=by simp;omega
 rw[v0] at HR;obtain⟨W0,y⟩: ∃W0,((w.alloc (.cells #[.pointer (some ⟨gl,0,none⟩)] 130)).alloc (.cells #[.int .i64 (C.length:Int)] 3)).alloc (.cells #[.string ⟨(q2H p).toArray⟩] 9)=W0:=⟨_,rfl⟩
 have c0:Hd (Ext w W0):=η (by rw[<-y];exact q6j w _ _ _);have M:Hd (∀W,Ext W0 W->W.cell? ⟨w.heap.size,0,none⟩=some (.pointer (some ⟨gl,0,none⟩))/\W.cell? ⟨w.heap.size+1,0,none⟩=some (.int .i64 (C.length:Int))/\W.cell? ⟨w.heap.size+1+1,0,none⟩=some (.string ⟨(q2H p).toArray⟩)):=η fun W hW=>by
  rw[<-y] at hW;have b1:=(((Blk.new w 130 #[.pointer (some ⟨gl,0,none⟩)]).ext (q5r _ (.cells #[.int .i64 (C.length:Int)] 3) (.cells #[.string ⟨(q2H p).toArray⟩] 9))).ext hW).cell 0;have b2:=(((Blk.new (w.alloc (.cells #[.pointer (some ⟨gl,0,none⟩)] 130)) 3 #[.int .i64 (C.length:Int)]).ext (q0B _ (.cells #[.string ⟨(q2H p).toArray⟩] 9))).ext hW).cell 0;have b3:=((Blk.new ((w.alloc (.cells #[.pointer (some ⟨gl,0,none⟩)] 130)).alloc (.cells #[.int .i64 (C.length:Int)] 3)) 9 #[.string ⟨(q2H p).toArray⟩]).ext hW).cell 0;rw[ρ] at b2;rw[ρ,ρ] at b3;exact⟨b1,b2,b3⟩
 have J0:Hd (W0.heap.size=w.heap.size+1+1+1):=η (by rw[<-y];simp);have HK:=η (show LgK E w0 w g gl c s C sure K from⟨F,v,σ,h,hl⟩);have h0:=η hp;have g0:=η hn;have E0:=η hr;have l0:=η o0;have P0: ∀(fn:Fn) (first cap:Array Value) (w:World),(Instr.makeFunc fn first cap).run Tryz.prog w= .ok (.func fn first cap) w:=fun _ _ _ _=>rfl
 have p0:(q2H p).length<=2012:=by omega
 clear h hl r0 r1 hr v0 hp o0;obtain⟨R,hR⟩: ∃R,q2H p=R:=⟨_,rfl⟩
 rw[hR] at HR y M l0 p0⊢;have k0:=η hR;clear hR;go_enter Tryz.func137,Tryz.ntmps137;obtain⟨a0,a1,a2⟩:=M.o W0 (Ext.refl _);go_wp2_with fail
 try rw[y]
 clear y a0 a1 a2;refine(HR.o _ c0.o).mono ?_;rintro e w1 ⟨rfl,hb⟩;obtain⟨q0,q1,q2⟩:=M.o _ hb;have HB:=η hb;clear hb;go_wp2_with fail
 obtain⟨cs, G⟩: ∃cs:Array Value,#[Value.func (Fn.func 157) #[Value.pointer (some ⟨gl,0,none⟩)] #[],Value.func (Fn.func 192) #[] #[Value.pointer (some ⟨w.heap.size,0,none⟩),Value.pointer (some ⟨w.heap.size+1,0,none⟩)],
       Value.func (Fn.func 194) #[] #[Value.pointer (some ⟨w.heap.size,0,none⟩),Value.pointer (some ⟨w.heap.size+1,0,none⟩),Value.pointer (some ⟨w.heap.size+1+1,0,none⟩)]]=cs:=⟨_,rfl⟩
 rw[G];obtain⟨S,B⟩: ∃S,w1.alloc (.cells cs 48)=S:=⟨_,rfl⟩
 have Y:Ext w1 S:=by rw[<-B];exact q0B _ _
 have M0:S.heap.size=w1.heap.size+1:=by rw[<-B];simp
 have z0:=HB.o.size;rw[J0.o] at z0;have O:Blk S w1.heap.size 48 cs:=by rw[<-B];exact Blk.new _ _ _
 rw[B];have d0:=η ((c0.o.trans HB.o).trans Y);have hK':=HK.o.more (K':=fun i=>K i\/(w.heap.size<=i/\i<S.heap.size)) d0.o (fun i X=>X);have K0:=η (HK.o.kExt d0.o);obtain⟨r0,r1,r2⟩:=M.o _ (HB.o.trans Y);rw[<-k0.o] at r2;have s0:=z9z hK' g0.o h0.o (by have:=E0.o;omega) (b:=w1.heap.size) (bl:=w.heap.size) (bn:=w.heap.size+1) (br:=w.heap.size+1+1) (.inr ⟨by omega,by omega⟩) (.inr ⟨by omega,by omega⟩) (.inr ⟨by omega,by omega⟩) (.inr ⟨by omega,by omega⟩)
  (by rw[O.cell 0,<-G];rfl) (by rw[O.cell 1,<-G];rfl) (by rw[O.cell 2,<-G];rfl) r0 r1 r2
 have q:Hd (w.heap.size<S.heap.size/\w.heap.size+1+1<S.heap.size):=η ⟨by omega,by omega⟩;have V:=r2;rw[k0.o] at V;have I0:=η V;have G0:=η r0;have H0:=η r1;clear G B O Y M0 z0 r0 r1 r2 hK' q0 q1 q2 V;refine s0.mono ?_;rintro e w3 ⟨rfl,J,d⟩;clear s0;obtain⟨F3,v3,O0,J,y0⟩:=J;have e0:=q0t d (.inr ⟨ι _,q.o.1⟩) G0.o;have e2:=q0t d (.inr ⟨by omega,q.o.2⟩) I0.o;have e1:=η (q0t d (.inr ⟨by omega,by have:=q.o.2;omega⟩) H0.o);have m:=J.l.row;obtain⟨a,k,rfl⟩:=q0H m;have e3:=J.l.c3;have z3:=J.l.blk.free 3;have b0:=q0b C;rw[b0] at m e3 J;have N0:IntKind.i64.wrap (12+(R.length:Int))=(q0I [p]:Int):=by
  rw[q4I,<-l0.o,ν];omega
 obtain⟨z,hz⟩: ∃z:Int,(q0I [p]:Int)=z:=⟨_,rfl⟩
 rw[hz] at N0;obtain⟨wl,A0⟩: ∃wl,(w3.alloc (.cells #[.int .i64 z] 3)).drew=wl:=⟨_,rfl⟩
 have u:Hd (Ext w3 wl):=η (by rw[<-A0];exact(q0B w3 _).drew);have i0:Hd (Rd wl (some ⟨w3.heap.size,0,none⟩) [.int .i64 z]):=η (by rw[<-A0];exact Rd.lit w3 #[.int .i64 z] 3);have m0:Hd (wl.ownsRow 0 3 1 (.slice a C.length k) C.length ((q0L C).map (Value.int .i64))):=η (q0K m u.o);have HZ:=η hz;have H3:=η J;have j0:=η y0;have n0:=η d;have C0:=η b0;have L0:=g0.o;have f0:=q0A u.o e0;have f2:=q0A u.o e2;have f3:=q0A u.o e3;clear hz J y0 d b0 m hd;generalize x0:C.length=n at*;have HN:=η x0;clear x0
 have U:Hd (∀(w':World) (N:Option Addr) (k':Nat),w'.ownsRow 0 3 1 (.slice N (n+1) k') (n+1) ((q0L C).map (Value.int .i64)++[.int .i64 z])->wl.grownBy w' (Value.slice a n k).ownBlock->((Value.slice N (n+1) k').ownBlock=(Value.slice a n k).ownBlock\/(Value.slice N (n+1) k').ownBlock=some wl.heap.size)->
   LgK E w0 (w'.setCell ⟨gl,3,none⟩ (.slice N (n+1) k')) g gl c s (C++[[p]]) (q1T C sure) K/\Stay K w (w'.setCell ⟨gl,3,none⟩ (.slice N (n+1) k'))/\(w'.setCell ⟨gl,3,none⟩ (.slice N (n+1) k')).cell? ⟨w.heap.size+1,0,none⟩=some (.int .i64 (n:Int))):=η fun w' N k' h1 h2 J=>by
  have hp:=H3.o.push u.o (by rw[C0.o];exact h1) h2 J;refine⟨⟨F3,.slice N (n+1) k',O0,?_,⟨j0.o.2,HK.o.toP.2.more h0.o (by rw[HN.o];exact L0),j0.o.1⟩⟩,K0.o.trans (Stay.trans (K:=K) (fun i X=>n0.o i (.inl X)) fun i X=>hp.2 i (.inl X)),q0t hp.2 (.inr ⟨by omega,by have:=q.o.2;omega⟩) e1.o⟩;rw[q2N,HZ.o];exact hp.1.beside fun i X=> .inl X
 go_wp2_with fail
 go_region_law
  (refine q1d rfl (.tmp 33) (.tmp 37) 44 rfl 0 3 _ 1 8 Tryz.underlying44 Tryz.infoI (by decide) (by decide) (.slice a n k) n ((q0L C).map (Value.int .i64)) rfl m0.o (some ⟨w3.heap.size,0,none⟩) 1 1 [.int .i64 z] rfl rfl (fun h=>by cases h) i0.o (by simp[Value.oneCell']) (by unfold maxLen;omega) (by omega) (υ _) ?_;intro v' w' I j t0;have F0:=η I;have D0:=η j;have B0:=η t0;obtain⟨q1,q2,q3⟩:=H3.o.pushed u.o j;have u0:=q0t q1 (.inr ⟨ι _,q.o.1⟩) e0;have u2:=q0t q1 (.inr ⟨by omega,q.o.2⟩) e2;obtain⟨N,k',rfl⟩:=q0H I;clear I j t0 q1)
 all_goals
  have Z:=U.o _ _ _ F0.o D0.o B0.o;have Q:=η Z;have u1:=Z.2.2;clear Z;go_wp2_with fail;go_ret2;exact⟨by rw[HN.o];rfl,Q.o.1,Q.o.2.1⟩
end
section
variable {E :Oth}{w0 w:World}{g gl:Nat}{F K:Nat->Prop}{v:Value}{σ:DM}{c s sure:Int}{C:Cks}{xs:List Int}
def AppR(E:Oth)(w0 w:World)(g gl:Nat)(c s:Int)(C:Cks)(sure:Int)(K:Nat->Prop)(p:List UInt8)(e:Ending)(w':World):Prop:=
 e= .returned (.tuple #[.int .i64 (q0y (c-(q0l C:Int)) C p).1,.int .i64 (q0y (c-(q0l C:Int)) C p).2.1])/\
 LgK E w0 w' g gl c s (q0y (c-(q0l C:Int)) C p).2.2 (q3w (c-(q0l C:Int)) sure C p) K/\Stay K w w'
theorem AppR.same{r:Int}(h:LgK E w0 w g gl c s C sure K)(k:Ext w w')(d:q0y (c-(q0l C:Int)) C p=(0,r,C))(b:r≠0):AppR E w0 w g gl c s C sure K p (.returned (.tuple #[.int .i64 0,.int .i64 r])) w':=by
 unfold AppR q3w;rw[d,κ (fun h=>b h.1)];exact⟨rfl,h.grow k,h.kExt k⟩
theorem AppR.pre{w1:World}{e:Ending}(h:LgK E w0 w g gl c s C sure K)(k:Ext w w1)(b:AppR E w0 w1 g gl c s C sure K p e w'):AppR E w0 w g gl c s C sure K p e w':=
 ⟨b.1,b.2.1,(h.kExt k).trans b.2.2⟩
theorem q9U(h:2000<p.length):q0y fr C p=(0,3,C):=by unfold q0y;rw[ξ h]
theorem q4s(h:p.length<=2000)(b:q3o C p=true)(d:fr-((p.length:Int)+12)<6000):q0y fr C p=(0,60,C):=by
 unfold q0y;rw[κ (by omega),ξ b,ξ d]
theorem q6T(h:p.length<=2000)(b:q3o (D++[ps]) p=true)(d:6000<=fr-((p.length:Int)+12)):q0y fr (D++[ps]) p=((D.length:Int)*4096+(q0I ps:Int),0,D++[ps++[p]]):=by
 unfold q0y;rw[κ (by omega),ξ b,κ (by omega),q2T];simp
theorem q4t(h:p.length<=2000)(b:q3o C p=false)(d:200<=C.length\/fr-((p.length:Int)+24)<6000):q0y fr C p=(0,60,C):=by
 unfold q0y;rw[κ (by omega),κ (by rw[b];decide),ξ d]
theorem q6S(h:p.length<=2000)(b:q3o C p=false)(d:¬(200<=C.length\/fr-((p.length:Int)+24)<6000)):q0y fr C p=((C.length:Int)*4096+12,0,C++[[p]]):=by
 unfold q0y;rw[κ (by omega),κ (by rw[b];decide),κ d]
theorem q7q(D:Cks)(ps:List (List UInt8))(p:List UInt8):q3o (D++[ps]) p=decide (q0I ps+(p.length+12)<=4096):=by unfold q3o;simp
theorem y0B(h:LgK E w0 w g gl c s C sure K)(m:p.length<=2000)(j:q3o C p=false):
  Calls Tryz.prog 137 #[.pointer (some ⟨gl,0,none⟩),.int .i64 (C.length:Int),.string ⟨(q2H p).toArray⟩] w (AppR E w0 w g gl c s C sure K p):=by
 obtain⟨F,v,σ,d,i⟩:=h;by_cases u:200<=C.length\/c-(q0l C:Int)-((p.length:Int)+24)<6000
 ·refine(z6h d i (q2H p) (by rw[q1E];omega) (by rw[q1E];omega)).mono ?_
  rintro e w' ⟨rfl,k⟩;exact AppR.same ⟨F,v,σ,d,i⟩ k (q4t m j u) (by decide)
 ·refine(z8d d i m (by omega) (by omega)).mono ?_
  rintro e w' ⟨rfl,y,B⟩;have q:=q6S m j u;have o:q3w (c-(q0l C:Int)) sure C p=q1T C sure:=by
   unfold q3w q1T;rw[q];by_cases b:C=[]
   ·rw[ξ b,κ (fun h=>h.2.2 b)]
   ·rw[κ b,ξ ⟨rfl,j,b⟩]
  unfold AppR;rw[o,q];exact⟨rfl,y,B⟩
theorem z8e(h:LgK E w0 w g gl c s (D++[ps]) sure K)(j:p.length<=2000)(b:q3o (D++[ps]) p=true):
  Calls Tryz.prog 136 #[.pointer (some ⟨gl,0,none⟩),.int .i64 (D.length:Int),.string ⟨(q2H p).toArray⟩] w (AppR E w0 w g gl c s (D++[ps]) sure K p):=by
 obtain⟨F,v,σ,d,i⟩:=h;by_cases o:c-(q0l (D++[ps]):Int)-((p.length:Int)+12)<6000
 ·refine(z4U d i (D.length:Int) (q2H p) (by rw[q1E];omega) (by rw[q1E];omega)).mono ?_
  rintro e w' ⟨rfl,k⟩;exact AppR.same ⟨F,v,σ,d,i⟩ k (q4s j b o) (by decide)
 ·have q:q0I ps+(p.length+12)<=4096:=by rw[q7q] at b;exact of_decide_eq_true b
  refine(z6i d i j q (by omega)).mono ?_;rintro e w' ⟨rfl,u,y⟩;have m:=q6T (fr:=c-(q0l (D++[ps]):Int)) j b (by omega);unfold AppR q3w;rw[m,κ (fun h=>by rw[b] at h;exact absurd h.2.1 (by decide))];exact⟨rfl,u,y⟩
theorem z6d(h:LgK E w0 w g gl c s C sure K)(p:List UInt8)(c0:p.length<=9223372036854775807):
  Calls Tryz.prog 85 #[.pointer (some ⟨gl,0,none⟩),.string ⟨p.toArray⟩] w (AppR E w0 w g gl c s C sure K p):=by
 have HK:=η h;obtain⟨F,v,σ,J,V⟩:=h;have G:=η (z1a J V.pl.up V.pl.st);by_cases hp:2000<p.length
 ·have q:=η (fun W=>z5r p W hp c0)
  have HA:=η (q9U (C:=C) (fr:=c-(q0l C:Int)) hp);clear J V hp;go_enter Tryz.func85,Tryz.ntmps85;go_wp2_with fail;refine G.o.mono ?_;rintro e w1 ⟨rfl,i⟩;have S:=η i;clear i;go_wp2_with fail;refine(q.o _).mono ?_;rintro e w2 ⟨rfl,rfl⟩;go_wp2_with fail;go_ret2;exact AppR.same HK.o S.o HA.o (by decide)
 have I:p.length<=2000:=by omega
 have q:=η (fun W=>z7q p W I);have M:=V.ok.few;have m:=η (fun (W:World) (k:Ext w W) (y:q3o C p=false)=>(y0B (HK.o.grow k) I y).mono fun e w' h=>AppR.pre HK.o k h);by_cases hC:C=[]
 ·subst hC
  have j:=η (fun (W:World) (k:Ext w W)=>m.o W k rfl);have c3:=J.l.c3;obtain⟨a,k,rfl⟩:=q0H J.l.row;have e0:(q0L ([]:Cks)).length=0:=rfl;have B:=η c3;clear m J V hp c3;generalize Z:q2H p=R at*;clear Z;unfold AppR at j⊢;generalize (q0y (c-(q0l []:Int)) [] p)=X at*;go_enter Tryz.func85,Tryz.ntmps85;go_wp2_with fail;refine G.o.mono ?_;rintro e w1 ⟨rfl,i⟩;have S:=η i;clear i;go_wp2_with fail;refine(q.o _).mono ?_;rintro e w2 ⟨rfl,i⟩;have d:=η (S.o.trans i);clear i;have c3:=q0A d.o B.o;rw[e0] at c3;go_wp2_with fail;refine(j.o _ d.o).mono ?_;rintro e w3 ⟨rfl,N⟩;have H3:=η N;clear N;go_wp2_with fail;go_ret2;exact⟨rfl,H3.o⟩
 obtain⟨D,ps,rfl⟩:=q8Z hC;clear hC;obtain⟨b,k,rfl,a0,_⟩:=J.last;have d0:q0I ps<=4096:=V.ok.size ps (by simp);have Y:D.length+1<=200:=by simpa using M
 obtain⟨z,hz⟩: ∃z:Int,(q0I ps:Int)=z:=⟨_,rfl⟩
 rw[hz] at a0;have z0:0<=z:=by omega
 have z1:z<=4096:=by omega
 have B:=η J.l.c3;have b0:=η a0;have HF:=η (fun W=>y0J z p W z0 z1 I);have O:decide ((p.length:Int)+12<=4096-z)=q3o (D++[ps]) p:=by rw[q7q,decide_eq_decide];omega
 rw[O] at HF;have U:=η (fun (W:World) (k:Ext w W) (y:q3o (D++[ps]) p=true)=>(z8e (HK.o.grow k) I y).mono fun e w' h=>AppR.pre HK.o k h);have Q:(D++[ps]).length=D.length+1:=by simp
 rw[Q] at m;have f0:(D.length:Int)<=199:=by omega
 have u:(((D.length+1:Nat)):Int)=(D.length:Int)+1:=by omega
 rw[u] at m;generalize Z:q2H p=R at*;clear Z J V hp hz d0 O a0 M Y Q u;generalize (q0y (c-(q0l (D++[ps]):Int)) (D++[ps]) p)=X at*
 cases y:q3o (D++[ps]) p with
 | true=>
  rw[y] at HF;have j:=η (fun (W:World) (k:Ext w W)=>U.o W k y);clear m U y;unfold AppR at j⊢;go_enter Tryz.func85,Tryz.ntmps85;go_wp2_with fail;refine G.o.mono ?_;rintro e w1 ⟨rfl,i⟩;have S:=η i;clear i;go_wp2_with fail;refine(q.o _).mono ?_;rintro e w2 ⟨rfl,i⟩;have d:=η (S.o.trans i);clear i;have c3:=q0A d.o B.o;have cz:=q0A d.o b0.o;go_wp2_with fail;refine(HF.o _).mono ?_;rintro e w3 ⟨rfl,rfl⟩;go_wp2_with fail;refine(j.o _ d.o).mono ?_;rintro e w3 ⟨rfl,N⟩;have H3:=η N;clear N;go_wp2_with fail;go_ret2;exact⟨rfl,H3.o⟩
 | false=>
  rw[y] at HF;have j:=η (fun (W:World) (k:Ext w W)=>m.o W k y);clear m U y;unfold AppR at j⊢;go_enter Tryz.func85,Tryz.ntmps85;go_wp2_with fail;refine G.o.mono ?_;rintro e w1 ⟨rfl,i⟩;have S:=η i;clear i;go_wp2_with fail;refine(q.o _).mono ?_;rintro e w2 ⟨rfl,i⟩;have d:=η (S.o.trans i);clear i;have c3:=q0A d.o B.o;have cz:=q0A d.o b0.o;go_wp2_with fail;refine(HF.o _).mono ?_;rintro e w3 ⟨rfl,rfl⟩;go_wp2_with fail;refine(j.o _ d.o).mono ?_;rintro e w3 ⟨rfl,N⟩;have H3:=η N;clear N;go_wp2_with fail;go_ret2;exact⟨rfl,H3.o⟩
end
theorem q5g : ∀(ps:List (List UInt8)) (a:Nat) (p:List UInt8),q2X a (ps++[p])=q2X a ps++[(a+(ps.map fun p=>p.length+12).sum,p)]
 |[],a,p=>by simp[q2X]
 | q::t,a,p=>by
  rw[List.cons_append,q2X,q5g t,q2X,List.cons_append,List.map_cons,List.sum_cons]
  congr 4;omega
theorem q4R(D:Cks)(ps:List (List UInt8)):q0x 0 (D++[ps])=q0x 0 D++q2X (4096*D.length+12) ps:=by
 rw[z0M,Nat.zero_add];simp[q0x]
theorem z0n{x:Int}{C b:Cks}(u: ∀ps∈C,q0I ps<=4096)(m:p.length<=2000)(h:q0y fr C p=(x,0,b)):
  ∃pos:Nat,x=(pos:Int)/\q0x 0 b=q0x 0 C++[(pos,p)]/\q4h b=(pos:Int)+(p.length:Int)+12/\q4h C<=(pos:Int)/\q0l b<=q0l C+(p.length+24)/\b.length<=C.length+1/\pos<=4096*C.length+12:=by
 by_cases j:q3o C p=true
 ·by_cases d:C=[]
  ·subst d;cases j
  ·obtain⟨D,ps,rfl⟩:=q8Z d
   by_cases o:fr-((p.length:Int)+12)<6000
   ·rw[q4s m j o] at h;cases h
   ·rw [q6T m j (by omega)] at h
    cases h;refine⟨4096*D.length+q0I ps,by omega,?_,?_,?_,?_,by simp,by have:=u ps (by simp);rw[θ];simp only[χ,List.length_nil];omega⟩
    ·rw[q4R,q4R,q5g,List.append_assoc]
     congr 4
     unfold q0I;omega
    ·rw[q2T,q2M];omega
    ·rw[q2T];omega
    ·have q:q0l (D++[ps++[p]])=q0l D+q0I (ps++[p]):=by simp[q0l,List.sum_append]
     have y:q0l (D++[ps])=q0l D+q0I ps:=by simp[q0l,List.sum_append]
     rw[q,y,q2M];omega
 ·have i:q3o C p=false:=by simpa using j
  by_cases o:200<=C.length\/fr-((p.length:Int)+24)<6000
  ·rw[q4t m i o] at h;cases h
  ·rw [q6S m i o] at h
   cases h;refine⟨4096*C.length+12,by omega,?_,?_,?_,?_,by simp,ι _⟩
   ·rw[q4R];rfl
   ·rw[q2T,q4I];omega
   ·by_cases d:C=[]
    ·subst d;show(0:Int)<=_;omega
    ·obtain⟨D,ps,rfl⟩:=q8Z d
     have:=u ps (by simp);rw[q2T,θ];simp only[χ,List.length_nil];omega
   ·have q:q0l (C++[[p]])=q0l C+q0I [p]:=by simp[q0l,List.sum_append]
    rw[q,q4I];omega
def z6a(x y:Nat×List UInt8):Prop:=x.1+x.2.length+12<=y.1
theorem z2p : ∀(ps:List (List UInt8)) (a:Nat),(q2X a ps).Pairwise z6a
 |[],_=>List.Pairwise.nil
 |p::t,a=>List.pairwise_cons.2 ⟨fun r b=>(q6M t _ r b).1,z2p t _⟩
theorem q6N : ∀(C:Cks) (b:Nat),(∀ps∈C,q0I ps<=4096)->(q0x b C).Pairwise z6a
 |[],_,_=>List.Pairwise.nil
 | ps::t,b,hs=>by
  rw[q0x,List.pairwise_append];refine⟨z2p ps _,q6N t _ fun q hq=>hs q (List.mem_cons_of_mem _ hq),fun x i y j=>?_⟩;have m:=q6M ps _ x i;have o:=q5P t _ (fun q hq=>hs q (List.mem_cons_of_mem _ hq)) y j;have d:=hs ps (List.mem_cons_self);unfold q0I at d;unfold z6a;omega
def z7F(A:List (Nat×List UInt8)):Nat:=match A.getLast? with|none=>0|some r=>r.1+r.2.length+12
theorem q7n(A:List (Nat×List UInt8))(r:Nat×List UInt8):z7F (A++[r])=r.1+r.2.length+12:=by unfold z7F;simp
theorem z7G{A:List (Nat×List UInt8)}(h:A.Pairwise z6a): ∀r∈A,r.1<z7F A:=fun r d=>by
 rcases List.eq_nil_or_concat A with rfl|⟨D,q,rfl⟩
 ·cases d
 ·rw [List.concat_eq_append] at*
  rw[q7n];rcases List.mem_append.1 d with b|b
  ·have:=(List.pairwise_append.1 h).2.2 r b q (by simp)
   unfold z6a at this;omega
  ·obtain rfl:=List.mem_singleton.1 b;omega
theorem z3X{C:Cks}(h:okC C):(z7F (q0x 0 C):Int)=q4h C:=by
 rcases List.eq_nil_or_concat C with rfl|⟨D,ps,rfl⟩
 ·rfl
 ·rw [List.concat_eq_append] at*
  have b:=h.full ps (by simp);rcases List.eq_nil_or_concat ps with rfl|⟨d,p,rfl⟩
  ·exact absurd rfl b
  ·rw[List.concat_eq_append] at*
   rw[q4R,q5g,<-List.append_assoc,q7n,q2T,q2M];unfold q0I;show((4096*D.length+12+(d.map fun p=>p.length+12).sum+p.length+12:Nat):Int)=_;omega
theorem z0L : ∀(ps:List (List UInt8)) (a:Nat) (r:Nat×List UInt8),r∈q2X a ps-> ∃k,ps[k]? =some r.2/\r.1=a+((ps.take k).map fun p=>p.length+12).sum
 |[],_,r,h=>by cases h
 | p ::t,a,r,h=>by
  rw[q2X] at h;rcases List.mem_cons.1 h with rfl|h
  ·exact⟨0,rfl,by simp⟩
  ·obtain⟨k,b,d⟩:=z0L t _ r h
   exact⟨k+1,by rw[List.getElem?_cons_succ];exact b,by rw[d,List.take_succ_cons,List.map_cons,List.sum_cons];omega⟩
theorem z0N : ∀(C:Cks) (b:Nat) (r:Nat×List UInt8),r∈q0x b C-> ∃(n:Nat) (ps:List (List UInt8)) (k:Nat),C[n]? =some ps/\ps[k]? =some r.2/\r.1=b+4096*n+q0I (ps.take k)
 |[],_,r,h=>by cases h
 | ps ::t,b,r,h=>by
  rw[q0x] at h;rcases List.mem_append.1 h with h|h
  ·obtain⟨k,d,i⟩:=z0L ps _ r h
   exact⟨0,ps,k,rfl,d,by rw[i];unfold q0I;omega⟩
  ·obtain⟨n,m,k,d,i,j⟩:=z0N t _ r h
   exact⟨n+1,m,k,by rw[List.getElem?_cons_succ];exact d,i,by rw[j];omega⟩
theorem z5v{C:Cks}(h:okC C)(u:r∈q0x 0 C):q5O C (r.1:Int)=(r.2,0):=by
 obtain⟨n,ps,k,i,d,B⟩:=z0N C 0 r u;have b:=List.mem_of_getElem? i;have q:=h.pay ps b r.2 (List.mem_of_getElem? d);have o:k<ps.length:=(List.getElem?_eq_some_iff.1 d).1;have y:=h.size ps b;have j:q0I (ps.take (k+1))<=q0I ps:=by
  unfold q0I
  conv=>rhs;rw[<-List.take_append_drop (k+1) ps,List.map_append,List.sum_append]
  omega
 have m:ps.take (k+1)=ps.take k++[r.2]:=by
  obtain⟨_,he⟩:=List.getElem?_eq_some_iff.1 d;rw[List.take_succ_eq_append_getElem o,he]
 rw[m,q2M] at j;rw[z2m (n:=n) (a:=q0I (ps.take k)) (by omega) (by omega),i];show(match (if 12<=q0I (ps.take k) then q4r (q0R n ps) (q0I (ps.take k)) else none) with|none=>([],4)|some (p,_)=>(p,0))=(r.2,(0:Int));rw[ξ (by unfold q0I;omega),z8O n ps k r.2 d q]
theorem z7t{C:Cks}(h:okC C)(b:r∈q0x 0 C):r.1<=819200:=by
 have:=q5P C 0 h.size r b;have:=h.few;omega
end
end Go.Proofs.YtjigghjfcbbkiaaGreatDoor
