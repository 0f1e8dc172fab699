/- Walks. -/
import Derived.Test.YteabhdclmodefaaGreatDoorG22CX
import Derived.Test.YteabhdclmodefaaGreatDoorG18CX
set_option linter.unusedVariables false
set_option linter.unusedSimpArgs false
set_option maxRecDepth 100000
set_option maxHeartbeats 3200000
namespace Go.Proofs.YteabhdclmodefaaGreatDoor
variable {D:Cks}{ps:List (List UInt8)}{p:List UInt8}{w' w3:World}{bl bn br a n:Nat}{r:Nat×List UInt8}{fr pos:Int}
section
open Go.RowKit
section
variable {E :Oth}{w0 w:World}{g gl:Nat}{F K:Nat->Prop}{v:Value}{σ:DM}{c s sure:Int}{C:Cks}
theorem LgF.setSure{xs:List Int}{sure:Int}(h:LgF w0 w g gl F v σ s xs sure K)(z:Int):LgF w0 (w.setCell ⟨gl,4,none⟩ (.int .i64 z)) g gl F v σ s xs z K/\Stay K w (w.setCell ⟨gl,4,none⟩ (.int .i64 z)):=
 h.log ⟨h.l.blk.set 4 (.int .i64 z),q0y h.l.row _ h.l.apart⟩ (OffS.set w (.inl rfl) 4 _) fun i b=> .inl b
theorem q8p{C:Cks}(h:C≠[]): ∃D ps,C=D++[ps]:=by
 rcases List.eq_nil_or_concat C with h1|⟨D,ps,h1⟩
 ·exact absurd h1 h
 ·exact⟨D,ps,by rw[h1,List.concat_eq_append]⟩
theorem q8o(D:Cks)(ps:List (List UInt8)):(D++[ps])[D.length]? =some ps:=by simp
def q1c(C:Cks)(sure:Int):Int:=if C=[] then sure else q4t C
def LgV(E:Oth)(w0 w:World)(g gl:Nat)(v:Value)(c s:Int)(C:Cks)(sure:Int)(K:Nat->Prop):Prop:= ∃F σ,LgF w0 w g gl F v σ s (q0N C) sure K/\Lgd E σ c s C
theorem LgV.toK(h:LgV E w0 w g gl v c s C sure K):LgK E w0 w g gl c s C sure K:=by obtain⟨F,σ,h1,h2⟩:=h;exact⟨F,v,σ,h1,h2⟩
theorem LgK.toV(h:LgK E w0 w g gl c s C sure K): ∃v,LgV E w0 w g gl v c s C sure K:=by obtain⟨F,v,σ,h1,h2⟩:=h;exact⟨v,F,σ,h1,h2⟩
theorem z7w(h:LgF w0 w g gl F v σ s (q0N C) sure K)(b:Lgd E σ c s C):
  Calls Tryz.prog 132 #[.pointer (some ⟨gl,0,none⟩)] w fun e w'=>e= .returned (.int .i64 0)/\LgV E w0 w' g gl v c s C (q1c C sure) K/\Stay K w w':=by
 have c0:=h.l.c0;have Y:=h.l.c3;obtain⟨a,k,rfl,hx⟩:=h.l.slice;by_cases i:C=[]
 ·subst i
  have HK:Hd (LgV E w0 w g gl (.slice a (q0N []).length k) c s [] (q1c [] sure) K):=η ⟨F,σ,h,b⟩;have e0:(q0N []).length=0:=rfl;clear h b hx;go_enter Tryz.func132,Tryz.ntmps132;go_wp2_with fail;go_ret;exact⟨rfl,HK.o,Stay.refl _ _⟩
 have J:Hd (q1c C sure=q4t C):=η (by unfold q1c;rw[κ i]);have b0:1<=C.length:=by cases C with|nil=>exact absurd rfl i|cons=>simp
 obtain⟨D,ps,U⟩:=q8p i;have hn:(q0N C).length=C.length:=q0c C;have q:=b.ok.few;rw[hn] at Y;obtain⟨σ',hm,y⟩:=b.pl.sync (q3Y b.oth q (by rw[U];exact q8o D ps));have V:=q2s (D.length:Int)
 have R:=η (fun (G:World) (k:Ext w G)=>show Calls Tryz.prog 184 #[.pointer (some ⟨g,0,none⟩),.string ⟨(q0E 99 (D.length:Int)).toArray⟩] G fun e w'=>e= .returned (.int .i64 0)/\DkS G g F σ' w' by
  have:=z8n (h.d.ext k) (q0E 99 (D.length:Int)) V;rw[hm] at this
  exact this)
 have hM:IntKind.i64.wrap ((C.length:Int)-1)=(D.length:Int):=by
  have:C.length=D.length+1:=by rw[U];simp
  rw[ν];omega
 have m:=η (fun W=>q4E (D.length:Int) W);generalize q0E 99 (D.length:Int)=nm at*;obtain⟨M,u⟩: ∃M:Int,(D.length:Int)=M:=⟨_,rfl⟩
 rw[u] at hM m;have X:=η h;have N:=η b;have HP:=η y;have B:Ext w w.drew:=(Ext.refl w).drew;have HW:=η B;have Z:=q0A B c0;have d3:=q0A B Y;have a0:((C.length:Int)==0)=false:=by simpa using i
 clear h b y hm hx U u i hn B;go_enter Tryz.func132,Tryz.ntmps132;go_wp2_with fail
 go_region_held3 (fun W=>W.cell? ⟨gl,0,none⟩=some (.pointer (some ⟨g,0,none⟩))/\W.cell? ⟨gl,3,none⟩=some (.slice a C.length k))
  (first|exact Q.o|exact O.o|exact⟨Z,d3⟩)
  (first
   |(go_at_call 92;refine(m.o _).mono ?_;rintro e G ⟨rfl,h1⟩;have I:=η (HW.o.trans h1);have O:=η (And.intro (q0A h1 Z) (q0A h1 d3));clear h1)
   |(go_at_call 184;refine(R.o _ I.o).mono ?_;rintro e wb ⟨rfl,h2⟩;have h3:=(X.o.grow I.o).disk h2;have j:=η h3;have Q:=η (And.intro h3.1.l.c0 (q0c C▸h3.1.l.c3));clear h2 h3))
 all_goals
  have HE:=η (z9K j.o.1.l N.o.ok);have e4:=j.o.1.l.c4;have z4:=j.o.1.l.blk.free 4;have h4:=j.o.1.setSure (q4t C);have HF:=η (show LgV E w0 (wb.setCell ⟨gl,4,none⟩ (.int .i64 (q4t C))) g gl _ c s C (q1c C sure) K from⟨_,σ',by rw[J.o];exact h4.1,⟨HP.o,N.o.ok,N.o.oth⟩⟩);have S:=η ((X.o.kExt I.o).trans (j.o.2.trans h4.2));clear h4;go_wp2_with fail;refine HE.o.mono ?_;rintro e w' ⟨rfl,rfl⟩;go_wp2_with fail;go_ret;exact⟨rfl,HF.o,S.o⟩
theorem z9Y(h:LgF w0 w g gl F v σ s (q0N C) sure K)(b:Lgd E σ c s C):
  Calls Tryz.prog 132 #[.pointer (some ⟨gl,0,none⟩)] w fun e w'=>e= .returned (.int .i64 0)/\LgK E w0 w' g gl c s C (q1c C sure) K/\Stay K w w':=
 (z7w h b).mono fun _ _ ⟨h1,h2,h3⟩=>⟨h1,h2.toK,h3⟩
end
section
variable {E :Oth}{w0 w:World}{g gl:Nat}{F K:Nat->Prop}{v:Value}{σ:DM}{c s sure:Int}{C:Cks}
theorem Lgd.free(h:Lgd E σ c s C):z1P σ=c-(q0p C:Int):=by rw[h.pl.free,q6r];push_cast;omega
theorem Dk.okD{F:Nat->Prop}(h:Dk w g F σ):okD σ:=by obtain⟨h1,_⟩:=h;exact h1
theorem LgF.room0{xs:List Int}(h:LgF w0 w g gl F v σ s xs sure K)(i:Lgd E σ c s C):0<=c-(q0p C:Int)/\c-(q0p C:Int)<=1048576:=by
 have b:=h.d.okD;have h1:=i.free;have h2:=b.used;have h3:=b.cap1;unfold z1P at h1;omega
theorem LgF.setRow{xs:List Int}(h:LgF w0 w g gl F v σ s xs sure K){b k:Nat}(o:v= .slice (some ⟨b,0,none⟩) xs.length k)(j:Nat)(z:Int):LgF w0 (w.setCell ⟨b,j,none⟩ (.int .i64 z)) g gl F v σ s (xs.set j z) sure K/\Stay K w (w.setCell ⟨b,j,none⟩ (.int .i64 z)):=by
 have m:v.ownBlock=some b:=by rw[o];rfl
 have d:¬gl=b:=fun e=>h.l.apart (by rw[m,e])
 refine h.log ⟨(OffS.set (F:=fun i=>i=b) w rfl j (.int .i64 z)).blk h.l.blk d,?_⟩ (OffS.set w (.inr m) j _) fun i q=> .inl q
 have:=z4P h.l.row o (j:=j) (.int .i64 z);rw[List.length_set,List.map_set];exact this
theorem LgF.last(h:LgF w0 w g gl F v σ s (q0N (D++[ps])) sure K):
  ∃b k,v= .slice (some ⟨b,0,none⟩) (D.length+1) k/\w.cell? ⟨b,D.length,none⟩=some (.int .i64 (q0K ps:Int))/\w.frozen? ⟨b,D.length,none⟩=false:=by
 have d:(q0N (D++[ps])).length=D.length+1:=by rw[q0c];simp
 obtain⟨b,k,h1,h2,h3,_⟩:=(Own.of_row h.l.row).cell (j:=D.length) (by rw[List.length_map,d];omega);have i:((q0N (D++[ps])).map (Value.int .i64))[D.length]'(by rw[List.length_map,d];omega)= .int .i64 (q0K ps:Int):=by
  rw[List.getElem_map]
  congr 1
  have:=q7a D ps;rw[δ,γ (by rw[d];omega)] at this;exact this
 rw[i] at h2;rw[d] at h1;exact⟨b,k,h1,h2,h3⟩
theorem z4i(h:LgF w0 w g gl F v σ s (q0N C) sure K)(b:Lgd E σ c s C)(n:Int)(R:List UInt8)(B:R.length<=2012)(y:c-(q0p C:Int)-(R.length:Int)<6000):
  Calls Tryz.prog 121 #[.pointer (some ⟨gl,0,none⟩),.int .i64 n,.string ⟨R.toArray⟩] w fun e w'=>e= .returned (.tuple #[.int .i64 0,.int .i64 60])/\Ext w w':=by
 obtain⟨m,q⟩:=h.room0 b;have d:=η (z3J h b.free m q (R.length:Int) (by omega) (by omega));have j:decide ((6000:Int)<=c-(q0p C:Int)-(R.length:Int))=false:=by simp;omega
 rw[j] at d;clear h b j m q y;go_enter Tryz.func121,Tryz.ntmps121;go_wp2_with fail;refine d.o.mono ?_;rintro e w1 ⟨rfl,i⟩;have u:=η i;clear i;go_wp2_with fail;go_ret2;exact⟨rfl,u.o⟩
theorem z6y(h:LgF w0 w g gl F v σ s (q0N (D++[ps])) sure K)(j:Lgd E σ c s (D++[ps]))(hp:p.length<=2000)(hs:q0K ps+(p.length+12)<=4096)
  (hr:6000<=c-(q0p (D++[ps]):Int)-((p.length:Int)+12)):
  Calls Tryz.prog 121 #[.pointer (some ⟨gl,0,none⟩),.int .i64 (D.length:Int),.string ⟨(q2R p).toArray⟩] w fun e w'=>
   e= .returned (.tuple #[.int .i64 ((D.length:Int)*4096+(q0K ps:Int)),.int .i64 0])/\LgK E w0 w' g gl c s (D++[ps++[p]]) sure K/\Stay K w w':=by
 obtain⟨r0,r1⟩:=h.room0 j;have i:=j.ok.few;have m:D.length+1<=200:=by simpa using i
 have b0:=q1I p;have HR:=η (z3J h j.free r0 r1 ((q2R p).length:Int) (by omega) (by omega));have hd:decide ((6000:Int)<=c-(q0p (D++[ps]):Int)-((q2R p).length:Int))=true:=by simp;omega
 rw[hd] at HR;obtain⟨σ',hm,q⟩:=j.pl.append (t:=q2R p) (q3Y j.oth i (q8o D ps)) (by rw[q6r];push_cast;omega);rw[z4p j.oth p (by omega)] at q;have HP:Hd (Lgd E σ' c s (D++[ps++[p]])):=η ⟨q,j.ok.grow hp hs,j.oth⟩;have I:=q2s (D.length:Int)
 have Q:=η (fun (N:World) (k:Ext w N)=>show Calls Tryz.prog 173 #[.pointer (some ⟨g,0,none⟩),.string ⟨(q0E 99 (D.length:Int)).toArray⟩,.string ⟨(q2R p).toArray⟩] N fun e w'=>e= .returned (.int .i64 0)/\DkS N g F σ' w' by
  have:=z2L (h.d.ext k) (q0E 99 (D.length:Int)) (q2R p) I (by omega);rw[hm] at this
  exact this)
 have U:=η (fun W=>q4E (D.length:Int) W);have c0:=h.l.c0;have u:=η c0;have HH:=η h
 have a0:Hd ((q0N (D++[ps])).set D.length ((q0K ps:Int)+((q2R p).length:Int))=q0N (D++[ps++[p]])):=η (by
  rw[<-z4S D ps (ps++[p]),q2V,q1I];congr 1)
 have y:=η (fun (W:World) (F':Nat->Prop) (τ:DM) (hW:LgF w0 W g gl F' v τ s (q0N (D++[ps])) sure K)=>hW.last);have J:(q0N (D++[ps])).length=D.length+1:=by rw[q0c];simp
 have Y:=η J;have z0:(0:Int)<=(q0K ps:Int):=by omega
 have z1:(q0K ps:Int)<=4096:=by omega
 have e0:(q2R p).length<=2012:=by omega
 have f0:D.length<=199:=by omega
 generalize q0E 99 (D.length:Int)=nm at*;generalize q2R p=R at*;generalize (q0K ps:Int)=z at*;generalize D.length=n at*;clear h j q hm hd r0 r1 hr hs b0 i m hp I J;go_enter Tryz.func121,Tryz.ntmps121;go_wp2_with fail;refine HR.o.mono ?_;rintro e w1 ⟨rfl,G⟩;have HB:=η G;have d0:=q0A G u.o;have B:=q0A (G.drew) u.o;have S:=η G.drew;clear G c0;go_wp2_with fail
 go_region_held3 (fun W=>W.cell? ⟨gl,0,none⟩=some (.pointer (some ⟨g,0,none⟩)))
  (first|exact X.o|exact V.o|exact B)
  (first
   |(go_at_call 92;refine(U.o _).mono ?_;rintro e N ⟨rfl,h1⟩;have O:=η (S.o.trans h1);have V:=η (q0A h1 B);clear h1)
   |(go_at_call 173;refine(Q.o _ O.o).mono ?_;rintro e wb ⟨rfl,h2⟩;have h3:=(HH.o.grow O.o).disk h2;have M:=η h3;have X:=η h3.1.l.c0;clear h2 h3))
 all_goals
  obtain⟨b,k,rfl,e2,z2⟩:=y.o _ _ _ M.o.1;have e3:=M.o.1.l.c3;have h4:=M.o.1.setRow (by rw[Y.o]) n (z+(R.length:Int));rw[a0.o] at h4;have HF:=η (show LgK E w0 (wb.setCell ⟨b,n,none⟩ (.int .i64 (z+(R.length:Int)))) g gl c s (D++[ps++[p]]) sure K from⟨_,_,σ',h4.1,HP.o⟩);have Z:=η ((HH.o.kExt O.o).trans (M.o.2.trans h4.2));clear h4;go_wp2_with fail;go_ret2;exact⟨rfl,HF.o,Z.o⟩
end
def LgP(E:Oth)(w0 w:World)(g gl:Nat)(c s:Int)(l:List (List UInt8×List UInt8))(xs:List Int)(sure:Int)(K:Nat->Prop):Prop:= ∃F v σ,LgF w0 w g gl F v σ s xs sure K/\okOth E/\Pl σ (c+(q2Q E:Int)) s l
theorem z4n{w:World}{b:Nat}(h:w'.heap[b]? =w.heap[b]?)(o:Nat):w'.cell? ⟨b,o,none⟩=w.cell? ⟨b,o,none⟩:=by simp only[World.cell?,h]
theorem q1A{K:Nat->Prop}{w:World}(h:Stay K w w'){b o:Nat}(hK:K b){u:Value}(hc:w.cell? ⟨b,o,none⟩=some u):w'.cell? ⟨b,o,none⟩=some u:=(z4n (h b hK) o).trans hc
section
variable {E :Oth}{w0 w:World}{g gl:Nat}{F K:Nat->Prop}{v:Value}{σ:DM}{c s sure:Int}{C:Cks}{xs:List Int}
theorem z6v(h:LgP E w0 w g gl c s (q3K E C) xs sure K)(hC:C.length<200)(kl:K bl)(kn:K bn)(m:w.cell? ⟨bl,0,none⟩=some (.pointer (some ⟨gl,0,none⟩)))(q:w.cell? ⟨bn,0,none⟩=some (.int .i64 (C.length:Int))):
  Calls Tryz.prog 175 #[.pointer (some ⟨bl,0,none⟩),.pointer (some ⟨bn,0,none⟩)] w fun e w'=>e= .returned (.int .i64 0)/\LgP E w0 w' g gl c s (z3j E C) xs sure K/\Stay K w w':=by
 obtain⟨F,v,σ,h,j,X⟩:=h;have R:=h.l.c0;have y:q3r (q0E 99 (C.length:Int))=true:=by rw[q0Y (by omega)];simp[q3r,q0f]
 obtain⟨σ',hm,i⟩:=X.create (z4q j (by omega) (ι _) (by omega)) y (by rw[q6q];have:=j.few;omega);rw[z7D j (by omega)] at i;have u:=q2s (C.length:Int)
 have M:=η (fun (G:World) (k:Ext w G)=>show Calls Tryz.prog 176 #[.pointer (some ⟨g,0,none⟩),.string ⟨(q0E 99 (C.length:Int)).toArray⟩] G fun e w'=>e= .returned (.int .i64 0)/\DkS G g F σ' w' by
  have:=z7L (h.d.ext k) (q0E 99 (C.length:Int)) u;rw[hm] at this
  exact this)
 have J:=η (fun W=>q4E (C.length:Int) W);have Y:=η (And.intro j i);have Q:=η h;have B:Ext w w.drew:=(Ext.refl w).drew;have Z:=η B;have S:=q0A B R;have U:=q0A B m;have V:=q0A B q;generalize q0E 99 (C.length:Int)=nm at*;generalize C.length=n at*;clear h X i j hm y u B R m q;go_enter Tryz.func175,Tryz.ntmps175;go_wp2_with fail
 go_region_held3 (fun W=>W.cell? ⟨gl,0,none⟩=some (.pointer (some ⟨g,0,none⟩))/\W.cell? ⟨bl,0,none⟩=some (.pointer (some ⟨gl,0,none⟩))/\W.cell? ⟨bn,0,none⟩=some (.int .i64 (n:Int)))
  (first|exact N.o|exact b.o|exact⟨S,U,V⟩)
  (first
   |(go_at_call 92;refine(J.o _).mono ?_;rintro e G ⟨rfl,h1⟩;have I:=η (Z.o.trans h1);have b:=η (And.intro (q0A h1 S) (And.intro (q0A h1 U) (q0A h1 V)));clear h1)
   |(go_at_call 176;refine(M.o _ I.o).mono ?_;rintro e wb ⟨rfl,h2⟩;have h3:=(Q.o.grow I.o).disk h2;have O:=η h3;have N:=η (And.intro h3.1.l.c0 (And.intro (q1A h3.2 kl b.o.2.1) (q1A h3.2 kn b.o.2.2)));clear h2 h3))
 all_goals
  go_wp2_with fail;go_ret;exact⟨rfl,⟨_,_,σ',O.o.1,Y.o⟩,(Q.o.kExt I.o).trans O.o.2⟩
theorem z6w(h:LgP E w0 w g gl c s (z3j E C) xs sure K)(hC:C.length<200)(hp:p.length<=2000)(hr:(p.length:Int)+24<=c-(q0p C:Int))(kl:K bl)(kn:K bn)(kr:K br)
  (y:w.cell? ⟨bl,0,none⟩=some (.pointer (some ⟨gl,0,none⟩)))(B:w.cell? ⟨bn,0,none⟩=some (.int .i64 (C.length:Int)))(G:w.cell? ⟨br,0,none⟩=some (.string ⟨(q2R p).toArray⟩)):
  Calls Tryz.prog 177 #[.pointer (some ⟨bl,0,none⟩),.pointer (some ⟨bn,0,none⟩),.pointer (some ⟨br,0,none⟩)] w fun e w'=>e= .returned (.int .i64 0)/\LgP E w0 w' g gl c s (q3K E (C++[[p]])) xs sure K/\Stay K w w':=by
 obtain⟨F,v,σ,h,M,J⟩:=h;have Z:=h.l.c0;have hf:q0I Prod.fst (q0E 99 (C.length:Int)) (z3j E C)=some (q0E 99 (C.length:Int),[]):=by
  exact z4s M (by omega)
 have u:=q1I p;have q:=q2r C.length
 obtain⟨σ',hm,j⟩:=J.append (t:=q2a C.length++q2R p) hf (by
  rw[z4t,θ,u,q]
  push_cast
  omega)
 rw[z3g M p (by omega)] at j;have I:=q2s (C.length:Int)
 have Q:=η (fun (N:World) (k:Ext w N)=>show Calls Tryz.prog 173 #[.pointer (some ⟨g,0,none⟩),.string ⟨(q0E 99 (C.length:Int)).toArray⟩,.string (⟨(q2a C.length).toArray⟩++⟨(q2R p).toArray⟩)] N fun e w'=>e= .returned (.int .i64 0)/\DkS N g F σ' w' by
  have:=z2L (h.d.ext k) (q0E 99 (C.length:Int)) (q2a C.length++q2R p) I (by rw[θ];omega);rw[hm] at this;rw[q1w]
  exact this)
 have S:=η (fun W=>q4E (C.length:Int) W);have U:=η (fun W=>z2R C.length W hC);have HP:=η (And.intro M j);have Y:=η h;have m:Ext w w.drew:=(Ext.refl w).drew;have HW:=η m;have d0:=q0A m Z;have d1:=q0A m y;have d2:=q0A m B;have d3:=q0A m G;have a0:¬(9223372036854775807<(q2a C.length).length+(q2R p).length):=by omega
 clear h J M j hm hf I m Z y B G u q hr hp;generalize q2R p=R at*;generalize q2a C.length=Hd at*;generalize q0E 99 (C.length:Int)=nm at*;generalize C.length=n at*;go_enter Tryz.func177,Tryz.ntmps177;go_wp2_with fail
 go_region_held3 (fun W=>W.cell? ⟨gl,0,none⟩=some (.pointer (some ⟨g,0,none⟩))/\W.cell? ⟨bl,0,none⟩=some (.pointer (some ⟨gl,0,none⟩))/\W.cell? ⟨bn,0,none⟩=some (.int .i64 (n:Int))/\W.cell? ⟨br,0,none⟩=some (.string ⟨R.toArray⟩))
  (first|exact V.o|exact i.o|exact b.o|exact⟨d0,d1,d2,d3⟩)
  (first
   |(go_at_call 92;refine(S.o _).mono ?_;rintro e N ⟨rfl,h1⟩;have H1:=η (HW.o.trans h1);have b:=η (And.intro (q0A h1 d0) (And.intro (q0A h1 d1) (And.intro (q0A h1 d2) (q0A h1 d3))));clear h1)
   |(go_at_call 146;refine(U.o _).mono ?_;rintro e wc ⟨rfl,h1⟩;have O:=η (H1.o.trans h1);have i:=η (And.intro (q0A h1 b.o.1) (And.intro (q0A h1 b.o.2.1) (And.intro (q0A h1 b.o.2.2.1) (q0A h1 b.o.2.2.2))));clear h1)
   |(go_at_call 173;refine(Q.o _ O.o).mono ?_;rintro e wb ⟨rfl,h2⟩;have h3:=(Y.o.grow O.o).disk h2;have X:=η h3;have V:=η (And.intro h3.1.l.c0 (And.intro (q1A h3.2 kl i.o.2.1) (And.intro (q1A h3.2 kn i.o.2.2.1) (q1A h3.2 kr i.o.2.2.2))));clear h2 h3))
 all_goals
  go_wp2_with fail;go_ret;exact⟨rfl,⟨_,_,σ',X.o.1,HP.o⟩,(Y.o.kExt O.o).trans X.o.2⟩
end
section
variable {E :Oth}{w0 w:World}{g gl:Nat}{F K:Nat->Prop}{v:Value}{σ:DM}{c s sure:Int}{C:Cks}{xs:List Int}
theorem LgK.toP(h:LgK E w0 w g gl c s C sure K):LgP E w0 w g gl c s (q3K E C) (q0N C) sure K/\okC C:=by
 obtain⟨F,v,σ,h1,h2⟩:=h;exact⟨⟨F,v,σ,h1,h2.oth,h2.pl⟩,h2.ok⟩
def z2K(E:Oth)(w0:World)(g gl:Nat)(c s:Int)(C:Cks)(p:List UInt8)(sure:Int)(K:Nat->Prop):Nat->World->Prop
 |0,W=>LgK E w0 W g gl c s C sure K
 |1,W=>LgP E w0 W g gl c s (q3K E C) (q0N C) (q1c C sure) K
 |2,W=>LgP E w0 W g gl c s (z3j E C) (q0N C) (q1c C sure) K
 |_,W=>LgP E w0 W g gl c s (q3K E (C++[[p]])) (q0N C) (q1c C sure) K
theorem y0O(h:LgK E w0 w g gl c s C sure K)(hC:C.length<200)(hp:p.length<=2000)(hr:(p.length:Int)+24<=c-(q0p C:Int)){b:Nat}(S:K b)(kl:K bl)(X:K bn)(Y:K br)
  (I:w.cell? ⟨b,0,none⟩=some (.func (.func 132) #[.pointer (some ⟨gl,0,none⟩)] #[]))
  (J:w.cell? ⟨b,1,none⟩=some (.func (.func 175) #[] #[.pointer (some ⟨bl,0,none⟩),.pointer (some ⟨bn,0,none⟩)]))
  (M:w.cell? ⟨b,2,none⟩=some (.func (.func 177) #[] #[.pointer (some ⟨bl,0,none⟩),.pointer (some ⟨bn,0,none⟩),.pointer (some ⟨br,0,none⟩)]))
  (N:w.cell? ⟨bl,0,none⟩=some (.pointer (some ⟨gl,0,none⟩)))(O:w.cell? ⟨bn,0,none⟩=some (.int .i64 (C.length:Int)))(Q:w.cell? ⟨br,0,none⟩=some (.string ⟨(q2R p).toArray⟩)):
  Calls Tryz.prog 174 #[.slice (some ⟨b,0,none⟩) 3 3] w fun e w'=>e= .returned (.int .i64 0)/\LgP E w0 w' g gl c s (q3K E (C++[[p]])) (q0N C) (q1c C sure) K/\Stay K w w':=by
 have H:=η h;have HB:=η (show∀W,Stay K w W->W.cell? ⟨b,0,none⟩=_/\W.cell? ⟨b,1,none⟩=_/\W.cell? ⟨b,2,none⟩=_ from fun W k=>⟨q1A k S I,q1A k S J,q1A k S M⟩);have HL:=η (show∀W,Stay K w W->W.cell? ⟨bl,0,none⟩=_/\W.cell? ⟨bn,0,none⟩=_/\W.cell? ⟨br,0,none⟩=_ from fun W k=>⟨q1A k kl N,q1A k X O,q1A k Y Q⟩);have y:=η kl;have B:=η X;have U:=η Y;have Z:=η hC;have V:=η hp;have HR:=η hr;clear h S kl X Y I J M N O Q hC hp hr;go_enter Tryz.func174,Tryz.ntmps174;go_wp2_with fail
 go_loopw [8] (fun i W=> ∃k:Nat,k<=3/\i= .int .i64 (k:Int)/\z2K E w0 g gl c s C p sure K k W/\Stay K w W) (fun i _=>3-(intOf i).toNat)
 case atStart=>exact⟨0,by omega,rfl,H.o,Stay.refl _ _⟩
 case round=>
  obtain⟨k,hk,rfl,hs,m⟩:=hrel;have R:=η hs;have j:=η m;obtain⟨q0,q1,q2⟩:=HB.o wr m;have d:=η (HL.o wr m);clear hs m;obtain rfl|rfl|rfl|rfl:k=0\/k=1\/k=2\/k=3:=by omega
  ·have G:Hd (Calls Tryz.prog 132 #[.pointer (some ⟨gl,0,none⟩)] wr fun e w'=>e= .returned (.int .i64 0)/\LgK E w0 w' g gl c s C (q1c C sure) K/\Stay K wr w'):=η (by
    obtain⟨F,v,σ,h1,h2⟩:=R.o
    exact z9Y h1 h2)
   go_wp2_with fail;refine G.o.mono ?_;rintro e w1 ⟨rfl,h1,h2⟩;have q:=η (show z2K E w0 g gl c s C p sure K 1 w1 from h1.toP.1);have u:=η (j.o.trans h2);clear h1 h2;go_wp2_with fail
   go_roundw
   case rel=>exact⟨1,by omega,by go_num,q.o,u.o⟩
   case measure=>simp[intOf]
  ·have G:=η (z6v R.o Z.o y.o B.o d.o.1 d.o.2.1)
   go_wp2_with fail;refine G.o.mono ?_;rintro e w1 ⟨rfl,h1,h2⟩;have q:=η (show z2K E w0 g gl c s C p sure K 2 w1 from h1);have u:=η (j.o.trans h2);clear h1 h2;go_wp2_with fail
   go_roundw
   case rel=>exact⟨2,by omega,by go_num,q.o,u.o⟩
   case measure=>simp[intOf]
  ·have G:=η (z6w R.o Z.o V.o HR.o y.o B.o U.o d.o.1 d.o.2.1 d.o.2.2)
   go_wp2_with fail;refine G.o.mono ?_;rintro e w1 ⟨rfl,h1,h2⟩;have q:=η (show z2K E w0 g gl c s C p sure K 3 w1 from h1);have u:=η (j.o.trans h2);clear h1 h2;go_wp2_with fail
   go_roundw
   case rel=>exact⟨3,by omega,by go_num,q.o,u.o⟩
   case measure=>simp[intOf]
  ·go_wp2_with fail
   go_ret;exact⟨rfl,R.o,j.o⟩
end
section
variable {E :Oth}{w0 w:World}{g gl:Nat}{F K:Nat->Prop}{v:Value}{σ:DM}{c s sure:Int}{C:Cks}{xs:List Int}
theorem LgF.push{y:World}(h:LgF w0 w3 g gl F v σ s xs sure K)(u:Ext w3 y){z:Int}{d:Value}(m:w'.ownsRow 0 3 1 d (xs.length+1) (xs.map (Value.int .i64)++[.int .i64 z]))(b:y.grownBy w' v.ownBlock)
  (j:d.ownBlock=v.ownBlock\/d.ownBlock=some y.heap.size):
  LgF w0 (w'.setCell ⟨gl,3,none⟩ d) g gl F d σ s (xs++[z]) sure K/\Stay K w3 (w'.setCell ⟨gl,3,none⟩ d):=by
 have G:=h.l.blk.lt;have I:=u.size;have q:d.ownBlock≠some gl:=fun e=>by
  rcases j with h1|h1
  ·exact h.l.apart (h1.symm.trans e)
  ·rw[h1] at e;cases e;omega
 have B:Blk w' gl 156 #[.pointer (some ⟨g,0,none⟩),.int .i64 s,.bool false,v,.int .i64 sure]:=(h.l.blk.ext u).same (b.block gl (by omega) fun e=>h.l.apart e.symm);refine h.log ⟨B.set 3 d,?_⟩ (((OffS.of_ext u).trans (OffS.grown b fun i e=> .inr e)).trans (OffS.set w' (.inl rfl) 3 d)) fun i o=>?_
 ·rw[θ,List.map_append]
  exact q0y m d q
 ·rcases j with h1|h1
  ·exact .inl (h1.symm.trans o)
  ·right;rw[h1] at o;cases o;exact I
theorem LgF.pushed{m:World}(h:LgF w0 w3 g gl F v σ s xs sure K)(d:Ext w3 m)(b:m.grownBy w' v.ownBlock):Stay K w3 w'/\w'.cell? ⟨gl,3,none⟩=some v/\w'.frozen? ⟨gl,3,none⟩=false:=by
 have q:=h.l.blk.lt;have u:=d.size;have j:Blk w' gl 156 #[.pointer (some ⟨g,0,none⟩),.int .i64 s,.bool false,v,.int .i64 sure]:=(h.l.blk.ext d).same (b.block gl (by omega) fun e=>h.l.apart e.symm);refine⟨fun i o=>?_,j.cell 3,j.free 3⟩;obtain⟨h1,_,h2⟩:=h.k i o;exact(b.block i (by omega) fun e=>h2 (.inr e.symm)).trans (d.block i h1)
theorem z6x(h:LgF w0 w g gl F v σ s (q0N C) sure K)(d:Lgd E σ c s C)(R:List UInt8)(I:R.length<=2012)(y:200<=C.length\/c-(q0p C:Int)-((R.length:Int)+12)<6000):
  Calls Tryz.prog 122 #[.pointer (some ⟨gl,0,none⟩),.int .i64 (C.length:Int),.string ⟨R.toArray⟩] w fun e w'=>e= .returned (.tuple #[.int .i64 0,.int .i64 60])/\Ext w w':=by
 obtain⟨j,m⟩:=h.room0 d;have q:=d.ok.few;have i:=η (fun (W:World) (k:Ext w W)=>z3J (h.grow k) d.free j m (12+(R.length:Int)) (by omega) (by omega));by_cases J:200<=C.length
 ·have G:decide ((200:Int)<=(C.length:Int))=true:=by simp;omega
  clear h d i j m y;go_enter Tryz.func122,Tryz.ntmps122;go_wp2_with fail;go_ret2;exact⟨rfl,z0A w _ _ _⟩
 ·have G:decide ((200:Int)<=(C.length:Int))=false:=by simp;omega
  have b:decide ((6000:Int)<=c-(q0p C:Int)-(12+(R.length:Int)))=false:=by simp;omega
  rw[b] at i;clear h d j m y b;go_enter Tryz.func122,Tryz.ntmps122;go_wp2_with fail;refine(i.o _ (z0A w _ _ _)).mono ?_;rintro e w1 ⟨rfl,u⟩;have B:=η ((z0A w _ _ _).trans u);clear u;go_wp2_with fail;go_ret2;exact⟨rfl,B.o⟩
theorem z8v(h:LgF w0 w g gl F v σ s (q0N C) sure K)(hl:Lgd E σ c s C)(hp:p.length<=2000)(hn:C.length<200)(hr:6000<=c-(q0p C:Int)-((p.length:Int)+24)):
  Calls Tryz.prog 122 #[.pointer (some ⟨gl,0,none⟩),.int .i64 (C.length:Int),.string ⟨(q2R p).toArray⟩] w fun e w'=>
   e= .returned (.tuple #[.int .i64 ((C.length:Int)*4096+12),.int .i64 0])/\LgK E w0 w' g gl c s (C++[[p]]) (q1c C sure) K/\Stay K w w':=by
 obtain⟨r0,r1⟩:=h.room0 hl;have n0:=q1I p;have HR:=η (fun (W:World) (k:Ext w W)=>z3J (h.grow k) hl.free r0 r1 (12+((q2R p).length:Int)) (by omega) (by omega));have hd:decide ((200:Int)<=(C.length:Int))=false:=by simp;omega
 have t0:decide ((6000:Int)<=c-(q0p C:Int)-(12+((q2R p).length:Int)))=true:=by simp;omega
 rw[t0] at HR;obtain⟨W0,y⟩: ∃W0,((w.alloc (.cells #[.pointer (some ⟨gl,0,none⟩)] 113)).alloc (.cells #[.int .i64 (C.length:Int)] 3)).alloc (.cells #[.string ⟨(q2R p).toArray⟩] 9)=W0:=⟨_,rfl⟩
 have b0:Hd (Ext w W0):=η (by rw[<-y];exact z0A w _ _ _);have J:Hd (∀W,Ext W0 W->W.cell? ⟨w.heap.size,0,none⟩=some (.pointer (some ⟨gl,0,none⟩))/\W.cell? ⟨w.heap.size+1,0,none⟩=some (.int .i64 (C.length:Int))/\W.cell? ⟨w.heap.size+1+1,0,none⟩=some (.string ⟨(q2R p).toArray⟩)):=η fun W hW=>by
  rw[<-y] at hW;have b1:=(((Blk.new w 113 #[.pointer (some ⟨gl,0,none⟩)]).ext (q5T _ (.cells #[.int .i64 (C.length:Int)] 3) (.cells #[.string ⟨(q2R p).toArray⟩] 9))).ext hW).cell 0;have b2:=(((Blk.new (w.alloc (.cells #[.pointer (some ⟨gl,0,none⟩)] 113)) 3 #[.int .i64 (C.length:Int)]).ext (q0B _ (.cells #[.string ⟨(q2R p).toArray⟩] 9))).ext hW).cell 0;have b3:=((Blk.new ((w.alloc (.cells #[.pointer (some ⟨gl,0,none⟩)] 113)).alloc (.cells #[.int .i64 (C.length:Int)] 3)) 9 #[.string ⟨(q2R p).toArray⟩]).ext hW).cell 0;rw[ρ] at b2;rw[ρ,ρ] at b3;exact⟨b1,b2,b3⟩
 have I0:Hd (W0.heap.size=w.heap.size+1+1+1):=η (by rw[<-y];simp);have HK:=η (show LgK E w0 w g gl c s C sure K from⟨F,v,σ,h,hl⟩);have g0:=η hp;have d0:=η hn;have D0:=η hr;have k0:=η n0;have O0: ∀(fn:Fn) (first cap:Array Value) (w:World),(Instr.makeFunc fn first cap).run Tryz.prog w= .ok (.func fn first cap) w:=fun _ _ _ _=>rfl
 have o0:(q2R p).length<=2012:=by omega
 clear h hl r0 r1 hr t0 hp n0;obtain⟨R,hR⟩: ∃R,q2R p=R:=⟨_,rfl⟩
 rw[hR] at HR y J k0 o0⊢;have j0:=η hR;clear hR;go_enter Tryz.func122,Tryz.ntmps122;obtain⟨a0,a1,a2⟩:=J.o W0 (Ext.refl _);go_wp2_with fail
 try rw[y]
 clear y a0 a1 a2;refine(HR.o _ b0.o).mono ?_;rintro e w1 ⟨rfl,hb⟩;obtain⟨q0,q1,q2⟩:=J.o _ hb;have HB:=η hb;clear hb;go_wp2_with fail
 obtain⟨cs, G⟩: ∃cs:Array Value,#[Value.func (Fn.func 132) #[Value.pointer (some ⟨gl,0,none⟩)] #[],Value.func (Fn.func 175) #[] #[Value.pointer (some ⟨w.heap.size,0,none⟩),Value.pointer (some ⟨w.heap.size+1,0,none⟩)],
       Value.func (Fn.func 177) #[] #[Value.pointer (some ⟨w.heap.size,0,none⟩),Value.pointer (some ⟨w.heap.size+1,0,none⟩),Value.pointer (some ⟨w.heap.size+1+1,0,none⟩)]]=cs:=⟨_,rfl⟩
 rw[G];obtain⟨Q,B⟩: ∃Q,w1.alloc (.cells cs 77)=Q:=⟨_,rfl⟩
 have X:Ext w1 Q:=by rw[<-B];exact q0B _ _
 have L0:Q.heap.size=w1.heap.size+1:=by rw[<-B];simp
 have y0:=HB.o.size;rw[I0.o] at y0;have N:Blk Q w1.heap.size 77 cs:=by rw[<-B];exact Blk.new _ _ _
 rw[B];have c0:=η ((b0.o.trans HB.o).trans X);have hK':=HK.o.more (K':=fun i=>K i\/(w.heap.size<=i/\i<Q.heap.size)) c0.o (fun i V=>V);have J0:=η (HK.o.kExt c0.o);obtain⟨r0,r1,r2⟩:=J.o _ (HB.o.trans X);rw[<-j0.o] at r2;have p0:=y0O hK' d0.o g0.o (by have:=D0.o;omega) (b:=w1.heap.size) (bl:=w.heap.size) (bn:=w.heap.size+1) (br:=w.heap.size+1+1) (.inr ⟨by omega,by omega⟩) (.inr ⟨by omega,by omega⟩) (.inr ⟨by omega,by omega⟩) (.inr ⟨by omega,by omega⟩)
  (by rw[N.cell 0,<-G];rfl) (by rw[N.cell 1,<-G];rfl) (by rw[N.cell 2,<-G];rfl) r0 r1 r2
 have q:Hd (w.heap.size<Q.heap.size/\w.heap.size+1+1<Q.heap.size):=η ⟨by omega,by omega⟩;have U:=r2;rw[j0.o] at U;have H0:=η U;have F0:=η r0;have G0:=η r1;clear G B N X L0 y0 r0 r1 r2 hK' q0 q1 q2 U;refine p0.mono ?_;rintro e w3 ⟨rfl,h3,d⟩;clear p0;obtain⟨F3,v3,N0,h3,x0⟩:=h3;have e0:=q1A d (.inr ⟨ι _,q.o.1⟩) F0.o;have e2:=q1A d (.inr ⟨by omega,q.o.2⟩) H0.o;have e1:=η (q1A d (.inr ⟨by omega,by have:=q.o.2;omega⟩) G0.o);have m:=h3.l.row;obtain⟨a,k,rfl⟩:=q0G m;have e3:=h3.l.c3;have z3:=h3.l.blk.free 3;have Z:=q0c C;rw[Z] at m e3 h3;have M0:IntKind.i64.wrap (12+(R.length:Int))=(q0K [p]:Int):=by
  rw[q4R,<-k0.o,ν];omega
 obtain⟨z,hz⟩: ∃z:Int,(q0K [p]:Int)=z:=⟨_,rfl⟩
 rw[hz] at M0;obtain⟨wl,z0⟩: ∃wl,(w3.alloc (.cells #[.int .i64 z] 3)).drew=wl:=⟨_,rfl⟩
 have u:Hd (Ext w3 wl):=η (by rw[<-z0];exact(q0B w3 _).drew);have h0:Hd (Rd wl (some ⟨w3.heap.size,0,none⟩) [.int .i64 z]):=η (by rw[<-z0];exact Rd.lit w3 #[.int .i64 z] 3);have l0:Hd (wl.ownsRow 0 3 1 (.slice a C.length k) C.length ((q0N C).map (Value.int .i64))):=η (q0H m u.o);have HZ:=η hz;have H3:=η h3;have i0:=η x0;have m0:=η d;have B0:=η Z;have K0:=d0.o;have f0:=q0A u.o e0;have f2:=q0A u.o e2;have f3:=q0A u.o e3;clear hz h3 x0 d Z m hd;generalize v0:C.length=n at*;have HN:=η v0;clear v0
 have S:Hd (∀(w':World) (M:Option Addr) (k':Nat),w'.ownsRow 0 3 1 (.slice M (n+1) k') (n+1) ((q0N C).map (Value.int .i64)++[.int .i64 z])->wl.grownBy w' (Value.slice a n k).ownBlock->((Value.slice M (n+1) k').ownBlock=(Value.slice a n k).ownBlock\/(Value.slice M (n+1) k').ownBlock=some wl.heap.size)->
   LgK E w0 (w'.setCell ⟨gl,3,none⟩ (.slice M (n+1) k')) g gl c s (C++[[p]]) (q1c C sure) K/\Stay K w (w'.setCell ⟨gl,3,none⟩ (.slice M (n+1) k'))/\(w'.setCell ⟨gl,3,none⟩ (.slice M (n+1) k')).cell? ⟨w.heap.size+1,0,none⟩=some (.int .i64 (n:Int))):=η fun w' M k' h1 h2 h3=>by
  have hp:=H3.o.push u.o (by rw[B0.o];exact h1) h2 h3;refine⟨⟨F3,.slice M (n+1) k',N0,?_,⟨i0.o.2,HK.o.toP.2.more g0.o (by rw[HN.o];exact K0),i0.o.1⟩⟩,J0.o.trans (Stay.trans (K:=K) (fun i V=>m0.o i (.inl V)) fun i V=>hp.2 i (.inl V)),q1A hp.2 (.inr ⟨by omega,by have:=q.o.2;omega⟩) e1.o⟩;rw[q2W,HZ.o];exact hp.1.beside fun i V=> .inl V
 go_wp2_with fail
 go_region_law
  (refine q1W rfl (.tmp 33) (.tmp 37) 73 rfl 0 3 _ 1 8 Tryz.underlying73 Tryz.infoI (by decide) (by decide) (.slice a n k) n ((q0N C).map (Value.int .i64)) rfl l0.o (some ⟨w3.heap.size,0,none⟩) 1 1 [.int .i64 z] rfl rfl (fun h=>by cases h) h0.o (by simp[Value.oneCell']) (by unfold maxLen;omega) (by omega) (υ _) ?_;intro v' w' I j s0;have E0:=η I;have C0:=η j;have A0:=η s0;obtain⟨q1,q2,q3⟩:=H3.o.pushed u.o j;have u0:=q1A q1 (.inr ⟨ι _,q.o.1⟩) e0;have u2:=q1A q1 (.inr ⟨by omega,q.o.2⟩) e2;obtain⟨M,k',rfl⟩:=q0G I;clear I j s0 q1)
 all_goals
  have Y:=S.o _ _ _ E0.o C0.o A0.o;have O:=η Y;have u1:=Y.2.2;clear Y;go_wp2_with fail;go_ret2;exact⟨by rw[HN.o];rfl,O.o.1,O.o.2.1⟩
end
section
variable {E :Oth}{w0 w:World}{g gl:Nat}{F K:Nat->Prop}{v:Value}{σ:DM}{c s sure:Int}{C:Cks}{xs:List Int}
def AppR(E:Oth)(w0 w:World)(g gl:Nat)(c s:Int)(C:Cks)(sure:Int)(K:Nat->Prop)(p:List UInt8)(e:Ending)(w':World):Prop:=
 e= .returned (.tuple #[.int .i64 (q1D (c-(q0p C:Int)) C p).1,.int .i64 (q1D (c-(q0p C:Int)) C p).2.1])/\
 LgK E w0 w' g gl c s (q1D (c-(q0p C:Int)) C p).2.2 (q4B (c-(q0p C:Int)) sure C p) K/\Stay K w w'
theorem AppR.same{r:Int}(h:LgK E w0 w g gl c s C sure K)(k:Ext w w')(d:q1D (c-(q0p C:Int)) C p=(0,r,C))(b:r≠0):AppR E w0 w g gl c s C sure K p (.returned (.tuple #[.int .i64 0,.int .i64 r])) w':=by
 unfold AppR q4B;rw[d,κ (fun h=>b h.1)];exact⟨rfl,h.grow k,h.kExt k⟩
theorem AppR.pre{w1:World}{e:Ending}(h:LgK E w0 w g gl c s C sure K)(k:Ext w w1)(h1:AppR E w0 w1 g gl c s C sure K p e w'):AppR E w0 w g gl c s C sure K p e w':=
 ⟨h1.1,h1.2.1,(h.kExt k).trans h1.2.2⟩
theorem q9j(h:2000<p.length):q1D fr C p=(0,3,C):=by unfold q1D;rw[ξ h]
theorem q5F(h:p.length<=2000)(b:q3u C p=true)(d:fr-((p.length:Int)+12)<6000):q1D fr C p=(0,60,C):=by
 unfold q1D;rw[κ (by omega),ξ b,ξ d]
theorem q6l(h:p.length<=2000)(b:q3u (D++[ps]) p=true)(d:6000<=fr-((p.length:Int)+12)):q1D fr (D++[ps]) p=((D.length:Int)*4096+(q0K ps:Int),0,D++[ps++[p]]):=by
 unfold q1D;rw[κ (by omega),ξ b,κ (by omega),q2b];simp
theorem q5G(h:p.length<=2000)(b:q3u C p=false)(d:200<=C.length\/fr-((p.length:Int)+24)<6000):q1D fr C p=(0,60,C):=by
 unfold q1D;rw[κ (by omega),κ (by rw[b];decide),ξ d]
theorem q6k(h:p.length<=2000)(b:q3u C p=false)(d:¬(200<=C.length\/fr-((p.length:Int)+24)<6000)):q1D fr C p=((C.length:Int)*4096+12,0,C++[[p]]):=by
 unfold q1D;rw[κ (by omega),κ (by rw[b];decide),κ d]
theorem q8H(D:Cks)(ps:List (List UInt8))(p:List UInt8):q3u (D++[ps]) p=decide (q0K ps+(p.length+12)<=4096):=by unfold q3u;simp
theorem y0Q(h:LgK E w0 w g gl c s C sure K)(i:p.length<=2000)(d:q3u C p=false):
  Calls Tryz.prog 122 #[.pointer (some ⟨gl,0,none⟩),.int .i64 (C.length:Int),.string ⟨(q2R p).toArray⟩] w (AppR E w0 w g gl c s C sure K p):=by
 obtain⟨F,v,σ,h1,h2⟩:=h;by_cases o:200<=C.length\/c-(q0p C:Int)-((p.length:Int)+24)<6000
 ·refine(z6x h1 h2 (q2R p) (by rw[q1I];omega) (by rw[q1I];omega)).mono ?_
  rintro e w' ⟨rfl,k⟩;exact AppR.same ⟨F,v,σ,h1,h2⟩ k (q5G i d o) (by decide)
 ·refine(z8v h1 h2 i (by omega) (by omega)).mono ?_
  rintro e w' ⟨rfl,q,u⟩;have m:=q6k i d o;have j:q4B (c-(q0p C:Int)) sure C p=q1c C sure:=by
   unfold q4B q1c;rw[m];by_cases b:C=[]
   ·rw[ξ b,κ (fun h=>h.2.2 b)]
   ·rw[κ b,ξ ⟨rfl,d,b⟩]
  unfold AppR;rw[j,m];exact⟨rfl,q,u⟩
theorem z8w(h:LgK E w0 w g gl c s (D++[ps]) sure K)(d:p.length<=2000)(b:q3u (D++[ps]) p=true):
  Calls Tryz.prog 121 #[.pointer (some ⟨gl,0,none⟩),.int .i64 (D.length:Int),.string ⟨(q2R p).toArray⟩] w (AppR E w0 w g gl c s (D++[ps]) sure K p):=by
 obtain⟨F,v,σ,h1,h2⟩:=h;by_cases j:c-(q0p (D++[ps]):Int)-((p.length:Int)+12)<6000
 ·refine(z4i h1 h2 (D.length:Int) (q2R p) (by rw[q1I];omega) (by rw[q1I];omega)).mono ?_
  rintro e w' ⟨rfl,k⟩;exact AppR.same ⟨F,v,σ,h1,h2⟩ k (q5F d b j) (by decide)
 ·have m:q0K ps+(p.length+12)<=4096:=by rw[q8H] at b;exact of_decide_eq_true b
  refine(z6y h1 h2 d m (by omega)).mono ?_;rintro e w' ⟨rfl,o,q⟩;have i:=q6l (fr:=c-(q0p (D++[ps]):Int)) d b (by omega);unfold AppR q4B;rw[i,κ (fun h=>by rw[b] at h;exact absurd h.2.1 (by decide))];exact⟨rfl,o,q⟩
theorem z6u(h:LgK E w0 w g gl c s C sure K)(p:List UInt8)(b0:p.length<=9223372036854775807):
  Calls Tryz.prog 74 #[.pointer (some ⟨gl,0,none⟩),.string ⟨p.toArray⟩] w (AppR E w0 w g gl c s C sure K p):=by
 have HK:=η h;obtain⟨F,v,σ,h1,h2⟩:=h;have G:=η (z1p h1 h2.pl.up h2.pl.st);by_cases hp:2000<p.length
 ·have q:=η (fun W=>z6G p W hp b0)
  have HA:=η (q9j (C:=C) (fr:=c-(q0p C:Int)) hp);clear h1 h2 hp;go_enter Tryz.func74,Tryz.ntmps74;go_wp2_with fail;refine G.o.mono ?_;rintro e w1 ⟨rfl,i⟩;have O:=η i;clear i;go_wp2_with fail;refine(q.o _).mono ?_;rintro e w2 ⟨rfl,rfl⟩;go_wp2_with fail;go_ret2;exact AppR.same HK.o O.o HA.o (by decide)
 have I:p.length<=2000:=by omega
 have q:=η (fun W=>z8J p W I);have J:=h2.ok.few;have m:=η (fun (W:World) (k:Ext w W) (y:q3u C p=false)=>(y0Q (HK.o.grow k) I y).mono fun e w' h=>AppR.pre HK.o k h);by_cases hC:C=[]
 ·subst hC
  have j:=η (fun (W:World) (k:Ext w W)=>m.o W k rfl);have Y:=h1.l.c3;obtain⟨a,k,rfl⟩:=q0G h1.l.row;have e0:(q0N ([]:Cks)).length=0:=rfl;have B:=η Y;clear m h1 h2 hp Y;generalize U:q2R p=R at*;clear U;unfold AppR at j⊢;generalize (q1D (c-(q0p []:Int)) [] p)=X at*;go_enter Tryz.func74,Tryz.ntmps74;go_wp2_with fail;refine G.o.mono ?_;rintro e w1 ⟨rfl,i⟩;have O:=η i;clear i;go_wp2_with fail;refine(q.o _).mono ?_;rintro e w2 ⟨rfl,i⟩;have d:=η (O.o.trans i);clear i;have Y:=q0A d.o B.o;rw[e0] at Y;go_wp2_with fail;refine(j.o _ d.o).mono ?_;rintro e w3 ⟨rfl,h3⟩;have Z:=η h3;clear h3;go_wp2_with fail;go_ret2;exact⟨rfl,Z.o⟩
 obtain⟨D,ps,rfl⟩:=q8p hC;clear hC;obtain⟨b,k,rfl,V,_⟩:=h1.last;have c0:q0K ps<=4096:=h2.ok.size ps (by simp);have S:D.length+1<=200:=by simpa using J
 obtain⟨z,hz⟩: ∃z:Int,(q0K ps:Int)=z:=⟨_,rfl⟩
 rw[hz] at V;have z0:0<=z:=by omega
 have z1:z<=4096:=by omega
 have B:=η h1.l.c3;have a0:=η V;have HF:=η (fun W=>y0Y z p W z0 z1 I);have M:decide ((p.length:Int)+12<=4096-z)=q3u (D++[ps]) p:=by rw[q8H,decide_eq_decide];omega
 rw[M] at HF;have Q:=η (fun (W:World) (k:Ext w W) (y:q3u (D++[ps]) p=true)=>(z8w (HK.o.grow k) I y).mono fun e w' h=>AppR.pre HK.o k h);have N:(D++[ps]).length=D.length+1:=by simp
 rw[N] at m;have d0:(D.length:Int)<=199:=by omega
 have u:(((D.length+1:Nat)):Int)=(D.length:Int)+1:=by omega
 rw[u] at m;generalize U:q2R p=R at*;clear U h1 h2 hp hz c0 M V J S N u;generalize (q1D (c-(q0p (D++[ps]):Int)) (D++[ps]) p)=X at*
 cases y:q3u (D++[ps]) p with
 | true=>
  rw[y] at HF;have j:=η (fun (W:World) (k:Ext w W)=>Q.o W k y);clear m Q y;unfold AppR at j⊢;go_enter Tryz.func74,Tryz.ntmps74;go_wp2_with fail;refine G.o.mono ?_;rintro e w1 ⟨rfl,i⟩;have O:=η i;clear i;go_wp2_with fail;refine(q.o _).mono ?_;rintro e w2 ⟨rfl,i⟩;have d:=η (O.o.trans i);clear i;have Y:=q0A d.o B.o;have cz:=q0A d.o a0.o;go_wp2_with fail;refine(HF.o _).mono ?_;rintro e w3 ⟨rfl,rfl⟩;go_wp2_with fail;refine(j.o _ d.o).mono ?_;rintro e w3 ⟨rfl,h3⟩;have Z:=η h3;clear h3;go_wp2_with fail;go_ret2;exact⟨rfl,Z.o⟩
 | false=>
  rw[y] at HF;have j:=η (fun (W:World) (k:Ext w W)=>m.o W k y);clear m Q y;unfold AppR at j⊢;go_enter Tryz.func74,Tryz.ntmps74;go_wp2_with fail;refine G.o.mono ?_;rintro e w1 ⟨rfl,i⟩;have O:=η i;clear i;go_wp2_with fail;refine(q.o _).mono ?_;rintro e w2 ⟨rfl,i⟩;have d:=η (O.o.trans i);clear i;have Y:=q0A d.o B.o;have cz:=q0A d.o a0.o;go_wp2_with fail;refine(HF.o _).mono ?_;rintro e w3 ⟨rfl,rfl⟩;go_wp2_with fail;refine(j.o _ d.o).mono ?_;rintro e w3 ⟨rfl,h3⟩;have Z:=η h3;clear h3;go_wp2_with fail;go_ret2;exact⟨rfl,Z.o⟩
end
theorem z7j{s:List UInt8}(h:a+q3w s a+12<=s.length):q5E ((s.drop a).take (q3w s a+12)) 0=(q5E s a).map fun r=>(r.1,r.2-a):=by
 obtain⟨n,i⟩: ∃n,q3w s a=n:=⟨_,rfl⟩
 rw[i] at h⊢;have j:((s.drop a).take (n+12)).take 4=(s.drop a).take 4:=by rw[List.take_take,Nat.min_eq_left (by omega)]
 have d:((s.drop a).take (n+12)).length=n+12:=by simp;omega
 have b:q3w ((s.drop a).take (n+12)) 0=n:=by
  unfold q3w;rw[List.drop_zero,j,<-i];first|done|rfl
 have q:isR ((s.drop a).take (n+12)) 0=isR s a:=by
  unfold isR;rw[b,d,i,List.drop_zero,j];have m:((s.drop a).take (n+12)).take (n+8)=(s.drop a).take (n+8):=by rw[List.take_take,Nat.min_eq_left (by omega)]
  have o:(((s.drop a).take (n+12)).drop (0+n+8)).take 4=(s.drop (a+n+8)).take 4:=by
   rw[List.drop_take,List.drop_drop,List.take_take]
   congr 1
   ·omega
   ·congr 1;omega
  rw[m,o,ζ (p:=0+12<=n+12) (by omega),ζ (p:=0+n+12<=n+12) (by omega),ζ (p:=a+12<=s.length) (by omega),ζ (p:=a+n+12<=s.length) h]
 unfold q5E;rw[q,b,i]
 split
 ·simp only[Option.map_some]
  congr 2
  ·rw[List.drop_take,List.drop_drop,List.take_take]
   congr 1
   ·omega
  ·omega
 ·rfl
section
variable {E :Oth}{w0 w:World}{g gl:Nat}{F K:Nat->Prop}{v:Value}{σ:DM}{c s sure:Int}{C:Cks}{xs:List Int}{l:List (List UInt8×List UInt8)}{nm:List UInt8}{x:List UInt8×List UInt8}
theorem q5Q(h:LgF w0 w g gl F v σ s xs sure K)(i:Pl σ c s l)(o:q0I Prod.fst nm l=some x)(b:nm.length<=9223372036854775807)(a n:Int)(m:0<=a)(u:0<=n)(q:a+n<=(x.2.length:Int))(G:(x.2.length:Int)<=1048576):
  Calls Tryz.prog 91 #[.pointer (some ⟨g,0,none⟩),.string ⟨nm.toArray⟩,.int .i64 a,.int .i64 n] w fun e w'=>
   e= .returned (.tuple #[.string ⟨((x.2.drop a.toNat).take n.toNat).toArray⟩,.int .i64 0])/\(∃j σ',LgF w0 w' g gl j v σ' s xs sure K/\Pl σ' c s l)/\Stay K w w':=by
 have h1:=z3A h.d nm a n b (by omega) (by omega) (by omega) (by omega);rw[i.read o a n m u q] at h1;refine h1.mono ?_;rintro e w' ⟨rfl,k⟩;obtain⟨y,B⟩:=h.disk k;exact⟨rfl,⟨_,_,y,i.tell⟩,B⟩
theorem LgF.cellAt(h:LgF w0 w g gl F v σ s (q0N C) sure K)(i:C[n]? =some ps):
  ∃b k,v= .slice (some ⟨b,0,none⟩) C.length k/\w.cell? ⟨b,n,none⟩=some (.int .i64 (q0K ps:Int))/\w.frozen? ⟨b,n,none⟩=false:=by
 have d:(q0N C).length=C.length:=q0c C;have o:n<C.length:=(List.getElem?_eq_some_iff.1 i).1;obtain⟨b,k,h1,h2,h3,_⟩:=(Own.of_row h.l.row).cell (j:=n) (by rw[List.length_map,d];omega);have m:((q0N C).map (Value.int .i64))[n]'(by rw[List.length_map,d];omega)= .int .i64 (q0K ps:Int):=by
  rw[List.getElem_map]
  congr 1
  have:=z1t C n i;rw[δ,γ (by rw[d];omega)] at this;exact this
 rw[m] at h2;rw[d] at h1;exact⟨b,k,h1,h2,h3⟩
theorem z6L(h:pos<0):q5c C pos=([],4):=by unfold q5c;rw[ξ h]
theorem z2z(d:pos=(n:Int)*4096+(a:Int))(i:a<4096):q5c C pos=match C[n]? with
  |none=>([],4)
  | some ps=>match (if 12<=a then q5E (q0T n ps) a else none) with
   |none=>([],4)
   |some (p,_)=>(p,0):=by
 have h1:(pos/4096).toNat=n:=by omega
 have h2:(pos % 4096).toNat=a:=by omega
 unfold q5c;rw[κ (by omega),h1,h2]
 cases C[n]? with
 |none=>rfl
 | some ps=>
  by_cases b:12<=a
  ·simp only[ξ b,ξ (show 12<=pos % 4096 by omega)]
   cases q5E (q0T n ps) a with
   |none=>rfl
   |some r=>rfl
  ·simp only[κ b,κ (show ¬12<=pos % 4096 by omega)]
def ReadR(E:Oth)(w0 w:World)(g gl:Nat)(c s:Int)(C:Cks)(sure:Int)(K:Nat->Prop)(r:List UInt8×Int)(e:Ending)(w':World):Prop:=
 e= .returned (.tuple #[.string ⟨r.1.toArray⟩,.int .i64 r.2])/\LgK E w0 w' g gl c s C sure K/\Stay K w w'
theorem ReadR.no{r:List UInt8×Int}(h:LgK E w0 w g gl c s C sure K)(k:Ext w w')(b:r=([],4)):ReadR E w0 w g gl c s C sure K r (.returned (.tuple #[.string ⟨#[]⟩,.int .i64 4])) w':=by
 subst b;exact⟨rfl,h.grow k,h.kExt k⟩
theorem y1K(h:LgK E w0 w g gl c s C sure K)(pos:Int)(p0: -9223372036854775808<=pos)(p1:pos<=9223372036854775807):
  Calls Tryz.prog 226 #[.pointer (some ⟨gl,0,none⟩),.int .i64 pos] w (ReadR E w0 w g gl c s C sure K (q5c C pos)):=by
 have HK:=η h;obtain⟨F,v,σ,h1,h2⟩:=h;have Q:=η (z1p h1 h2.pl.up h2.pl.st);by_cases m0:pos<0
 ·have HA:=η (z6L (C:=C) m0)
  have hd:decide (pos<0)=true:=by simpa using m0
  clear h1 h2;go_enter Tryz.func226,Tryz.ntmps226;go_wp2_with fail;refine Q.o.mono ?_;rintro e w1 ⟨rfl,d⟩;have V:=η d;clear d;go_wp2_with fail;go_ret2;exact ReadR.no HK.o V.o HA.o
 obtain⟨n,hn⟩: ∃n:Nat,pos/4096=(n:Int):=⟨(pos/4096).toNat,by omega⟩
 obtain⟨a,ha⟩: ∃a:Nat,pos % 4096=(a:Int):=⟨(pos % 4096).toNat,by omega⟩
 have s0:pos=(n:Int)*4096+(a:Int):=by omega
 have E0:a<4096:=by omega
 have P0:(n:Int)<=2251799813685248:=by omega
 have hq:pos.tdiv 4096=(n:Int):=by rw[Int.tdiv_eq_ediv_of_nonneg (by omega)];exact hn
 have hm:pos.tmod 4096=(a:Int):=by rw[Int.tmod_eq_emod_of_nonneg (by omega)];exact ha
 have f0:=η (z2z (C:=C) s0 E0);have Q0:decide (pos<0)=false:=by simpa using m0
 have J0:=q0c C;obtain⟨sa,sk,C0⟩:=q0G h1.l.row;rw[J0] at C0;subst C0;have I:=h1.l.c3;have O:=η I;clear s0;by_cases I0:C.length<=n
 ·have HA:Hd (q5c C pos=([],4)):=η (by rw[f0.o,List.getElem?_eq_none I0])
  have hd:decide ((C.length:Int)<=(n:Int))=true:=by simp;omega
  have hx:=O.o;clear h1 h2 I;go_enter Tryz.func226,Tryz.ntmps226;go_wp2_with fail;refine Q.o.mono ?_;rintro e w1 ⟨rfl,d⟩;have V:=η d;have I:=q0A d O.o;clear d;go_wp2_with fail;go_ret2;exact ReadR.no HK.o V.o HA.o
 have B0:n<C.length:=by omega
 obtain⟨ps,M⟩: ∃ps,C[n]? =some ps:=⟨C[n],γ B0⟩
 have H0:n<200:=by have:=h2.ok.few;omega
 obtain⟨b,T0,hv,g0,_⟩:=h1.cellAt M
 cases hv;have S0:q0K ps<=4096:=h2.ok.size ps (List.mem_of_getElem? M);have y:=q1L n ps;have u:=q3Y h2.oth h2.ok.few M;rw[M] at f0;have O0:decide ((C.length:Int)<=(n:Int))=false:=by simp;omega
 have e0:=η g0;obtain⟨z,hz⟩: ∃z:Int,(q0K ps:Int)=z:=⟨_,rfl⟩
 rw[hz] at e0;have z0:0<=z:=by omega
 have z1:z<=4096:=by omega
 have a0:(0:Int)<=(a:Int):=by omega
 have a1:(a:Int)<=4095:=by omega
 by_cases h0:a<12\/q0K ps<a+12
 ·have HA:Hd (q5c C pos=([],4)):=η (by
   rw[f0.o];rcases h0 with h|h
   ·simp only[κ (show ¬12<=a by omega)]
   ·by_cases Z:12<=a
    ·simp only[ξ Z,z5g (q0T n ps) a (by omega)]
    ·simp only[κ Z])
  by_cases Z:a<12
  ·have y0:decide ((a:Int)<12)=true:=by simp;omega
   clear h1 h2 I g0 u y M h0 hz;go_enter Tryz.func226,Tryz.ntmps226;go_wp2_with fail;refine Q.o.mono ?_;rintro e w1 ⟨rfl,d⟩;have V:=η d;have I:=q0A d O.o;clear d;go_wp2_with fail;go_ret2;exact ReadR.no HK.o V.o HA.o
  ·have y0:decide ((a:Int)<12)=false:=by simp;omega
   have F0:decide (z-12<(a:Int))=true:=by simp;omega
   clear h1 h2 I g0 u y M h0 hz;go_enter Tryz.func226,Tryz.ntmps226;go_wp2_with fail;refine Q.o.mono ?_;rintro e w1 ⟨rfl,d⟩;have V:=η d;have I:=q0A d O.o;have cz:=q0A d e0.o;clear d;go_wp2_with fail;go_ret2;exact ReadR.no HK.o V.o HA.o
 have Z:12<=a:=by omega
 have R0:a+12<=q0K ps:=by omega
 have y0:decide ((a:Int)<12)=false:=by simp;omega
 have F0:decide (z-12<(a:Int))=false:=by simp;omega
 obtain⟨S,hS⟩: ∃S,q0T n ps=S:=⟨_,rfl⟩
 rw[hS] at y u;obtain⟨N,b0⟩: ∃N,q3w S a=N:=⟨_,rfl⟩
 have U:q0o (((S.drop a).take 4).take 8)=N:=by rw[Δ (by simp;omega),<-b0];rfl
 have L0:N<4294967296:=by
  rw[<-U];have:=q1Q (((S.drop a).take 4).take 8);have h4:(((S.drop a).take 4).take 8).length=4:=by simp;omega
  rw[h4] at this;exact this
 have n0:=q2s (n:Int);have q0:=η (fun W=>q4E (n:Int) W);have k0:=η (fun (W:World) (k:Ext w W)=>q5Q (h1.grow k) h2.pl u n0 (a:Int) 4 a0 (by decide) (by rw[y];omega) (by rw[y];omega));have HG:=η (fun W=>q7u ((S.drop a).take 4) W (by simp;omega));rw[U] at HG;have e4:(4:Int).toNat=4:=rfl;simp only[Int.toNat_natCast,e4] at k0;have HH:=η h1;have HL:=η h2;have M0:a+12<=S.length:=by omega
 have HZ:=η hz;have x0:=η y;have o0:=η h1.l.c0;have d0:Hd (∀(W:World) (F':Nat->Prop) (τ:DM),LgF w0 W g gl F' (.slice (some ⟨b,0,none⟩) C.length sk) τ s (q0N C) sure K->W.cell? ⟨gl,0,none⟩=some (.pointer (some ⟨g,0,none⟩))/\W.cell? ⟨gl,3,none⟩=some (.slice (some ⟨b,0,none⟩) C.length sk)/\W.cell? ⟨b,n,none⟩=some (.int .i64 z)):=η fun W F' τ hW=>by
  obtain⟨b2,k2,e1,e2,_⟩:=hW.cellAt M
  cases e1;rw[hz] at e2;exact⟨hW.l.c0,hW.l.c3,e2⟩
 by_cases R:2000<N\/S.length<a+N+12
 ·have HA:Hd (q5c C pos=([],4)):=η (by
   rw[f0.o];have:q5E S a=none:=by
    unfold q5E isR;rw[b0];rcases R with h|h
    ·rw[ε (p:=N<=2000) (by omega)];simp
    ·rw[ε (p:=a+N+12<=S.length) (by omega)];simp
   simp only[ξ Z,hS,this])
  clear h1 h2 I g0 u y M h0 hz b0 U hS n0;by_cases i:2000<N
  ·have A0:decide ((2000:Int)<(N:Int))=true:=by simp;omega
   clear R;go_enter Tryz.func226,Tryz.ntmps226;go_wp2_with fail;refine Q.o.mono ?_;rintro e w1 ⟨rfl,d⟩;have V:=η d;have I:=q0A d O.o;have cz:=q0A d e0.o;clear d;go_wp2_with fail;refine(q0.o _).mono ?_;rintro e wa ⟨rfl,d⟩;have G:=η (V.o.trans d);clear d I cz;have c0:=q0A G.o o0.o;go_wp2_with fail;refine(k0.o _ G.o).mono ?_;rintro e wb ⟨rfl,⟨F',σ',j,i⟩,m⟩;have B:=η j;have X:=η i;have Y:=η ((HK.o.kExt G.o).trans m);clear j i m c0;go_wp2_with fail;refine(HG.o _).mono ?_;rintro e wc ⟨rfl,d⟩;have J:=η d;obtain⟨c0,I,cz⟩:=d0.o _ _ _ (B.o.grow d);clear d;go_wp2_with fail;go_ret2;exact⟨by rw[HA.o];rfl,⟨_,_,σ',B.o.grow J.o,⟨X.o,HL.o.ok,HL.o.oth⟩⟩,Y.o.trans (B.o.kExt J.o)⟩
  ·have A0:decide ((2000:Int)<(N:Int))=false:=by simp;omega
   have G0:decide (z-12-(a:Int)<(N:Int))=true:=by have:=HZ.o;have:=x0.o;simp;omega
   clear R;go_enter Tryz.func226,Tryz.ntmps226;go_wp2_with fail;refine Q.o.mono ?_;rintro e w1 ⟨rfl,d⟩;have V:=η d;have I:=q0A d O.o;have cz:=q0A d e0.o;clear d;go_wp2_with fail;refine(q0.o _).mono ?_;rintro e wa ⟨rfl,d⟩;have G:=η (V.o.trans d);clear d I cz;have c0:=q0A G.o o0.o;go_wp2_with fail;refine(k0.o _ G.o).mono ?_;rintro e wb ⟨rfl,⟨F',σ',j,i⟩,m⟩;have B:=η j;have X:=η i;have Y:=η ((HK.o.kExt G.o).trans m);clear j i m c0;go_wp2_with fail;refine(HG.o _).mono ?_;rintro e wc ⟨rfl,d⟩;have J:=η d;obtain⟨c0,I,cz⟩:=d0.o _ _ _ (B.o.grow d);clear d;go_wp2_with fail;go_ret2;exact⟨by rw[HA.o];rfl,⟨_,_,σ',B.o.grow J.o,⟨X.o,HL.o.ok,HL.o.oth⟩⟩,Y.o.trans (B.o.kExt J.o)⟩
 have A0:decide ((2000:Int)<(N:Int))=false:=by simp;omega
 have G0:decide (z-12-(a:Int)<(N:Int))=false:=by simp;omega
 have K0:(N:Int)<=2000:=by omega
 have D0:((N:Int)+12).toNat=N+12:=by omega
 have r0:=η (fun (W:World) (F':Nat->Prop) (τ:DM) (hW:LgF w0 W g gl F' (.slice (some ⟨b,0,none⟩) C.length sk) τ s (q0N C) sure K) (hp:Pl τ (c+(q2Q E:Int)) s (q3K E C))=>q5Q hW hp u n0 (a:Int) ((N:Int)+12) a0 (by omega) (by rw[y];omega) (by rw[y];omega));simp only[Int.toNat_natCast,D0] at r0;obtain⟨T,hT⟩: ∃T,(S.drop a).take (N+12)=T:=⟨_,rfl⟩
 have N0:T.length=N+12:=by rw[<-hT];simp;omega
 rw[hT] at r0;have j0:=η (fun W=>q8z T 0 W (by omega) (by omega));have hcut:q5E T 0=(q5E S a).map fun r=>(r.1,r.2-a):=by
  have:=z7j (s:=S) (a:=a) (by rw[b0];omega);rw[b0,hT] at this;exact this
 rw[Int.natCast_zero] at j0
 cases hg:q5E S a with
 | none=>
  have HA:Hd (q5c C pos=([],4)):=η (by rw[f0.o];simp only[ξ Z,hS,hg]);have l0:z0H T 0= .tuple #[.string ⟨#[]⟩,.int .i64 0,.bool false]:=by unfold z0H;rw[hcut,hg];rfl
  rw[l0] at j0;clear h1 h2 I g0 u y M h0 hz b0 U hS n0 R hT hcut hg l0;go_enter Tryz.func226,Tryz.ntmps226;go_wp2_with fail;refine Q.o.mono ?_;rintro e w1 ⟨rfl,d⟩;have V:=η d;have I:=q0A d O.o;have cz:=q0A d e0.o;clear d;go_wp2_with fail;refine(q0.o _).mono ?_;rintro e wa ⟨rfl,d⟩;have G:=η (V.o.trans d);clear d I cz;have c0:=q0A G.o o0.o;go_wp2_with fail;refine(k0.o _ G.o).mono ?_;rintro e wb ⟨rfl,⟨F',σ',j,i⟩,m⟩;have B:=η j;have X:=η i;have Y:=η ((HK.o.kExt G.o).trans m);clear j i m c0;go_wp2_with fail;refine(HG.o _).mono ?_;rintro e wc ⟨rfl,d⟩;have J:=η d;obtain⟨c0,I,cz⟩:=d0.o _ _ _ (B.o.grow d);clear d;go_wp2_with fail;refine(r0.o _ _ _ (B.o.grow J.o) X.o).mono ?_;rintro e wd ⟨rfl,⟨F2,v0,j,i⟩,m⟩;have i0:=η j;have t0:=η i;have u0:=η ((Y.o.trans (B.o.kExt J.o)).trans m);clear j i m c0 I cz;go_wp2_with fail;refine(j0.o _).mono ?_;rintro e we ⟨rfl,d⟩;have HE:=η d;clear d;go_wp2_with fail;go_ret2;exact⟨by rw[HA.o];rfl,⟨_,_,v0,i0.o.grow HE.o,⟨t0.o,HL.o.ok,HL.o.oth⟩⟩,u0.o.trans (i0.o.kExt HE.o)⟩
 | some r=>
  obtain⟨q,e⟩:=r;have HA:Hd (q5c C pos=(q,0)):=η (by rw[f0.o];simp only[ξ Z,hS,hg]);have l0:z0H T 0= .tuple #[.string ⟨q.toArray⟩,.int .i64 ((e-a:Nat):Int),.bool true]:=by unfold z0H;rw[hcut,hg];rfl
  rw[l0] at j0;generalize ((e-a:Nat):Int)=ea at*;clear h1 h2 I g0 u y M h0 hz b0 U hS n0 R hT hcut hg l0;go_enter Tryz.func226,Tryz.ntmps226;go_wp2_with fail;refine Q.o.mono ?_;rintro e w1 ⟨rfl,d⟩;have V:=η d;have I:=q0A d O.o;have cz:=q0A d e0.o;clear d;go_wp2_with fail;refine(q0.o _).mono ?_;rintro e wa ⟨rfl,d⟩;have G:=η (V.o.trans d);clear d I cz;have c0:=q0A G.o o0.o;go_wp2_with fail;refine(k0.o _ G.o).mono ?_;rintro e wb ⟨rfl,⟨F',σ',j,i⟩,m⟩;have B:=η j;have X:=η i;have Y:=η ((HK.o.kExt G.o).trans m);clear j i m c0;go_wp2_with fail;refine(HG.o _).mono ?_;rintro e wc ⟨rfl,d⟩;have J:=η d;obtain⟨c0,I,cz⟩:=d0.o _ _ _ (B.o.grow d);clear d;go_wp2_with fail;refine(r0.o _ _ _ (B.o.grow J.o) X.o).mono ?_;rintro e wd ⟨rfl,⟨F2,v0,j,i⟩,m⟩;have i0:=η j;have t0:=η i;have u0:=η ((Y.o.trans (B.o.kExt J.o)).trans m);clear j i m c0 I cz;go_wp2_with fail;refine(j0.o _).mono ?_;rintro e we ⟨rfl,d⟩;have HE:=η d;clear d;go_wp2_with fail;go_ret2;exact⟨by rw[HA.o];rfl,⟨_,_,v0,i0.o.grow HE.o,⟨t0.o,HL.o.ok,HL.o.oth⟩⟩,u0.o.trans (i0.o.kExt HE.o)⟩
end
theorem q5s : ∀(ps:List (List UInt8)) (a:Nat) (p:List UInt8),q2f a (ps++[p])=q2f a ps++[(a+(ps.map fun p=>p.length+12).sum,p)]
 |[],a,p=>by simp[q2f]
 | q::t,a,p=>by
  rw[List.cons_append,q2f,q5s t,q2f,List.cons_append,List.map_cons,List.sum_cons]
  congr 4;omega
theorem q4b(D:Cks)(ps:List (List UInt8)):q1B 0 (D++[ps])=q1B 0 D++q2f (4096*D.length+12) ps:=by
 rw[z0c,Nat.zero_add];simp[q1B]
theorem z1B{x:Int}{C b:Cks}(q: ∀ps∈C,q0K ps<=4096)(m:p.length<=2000)(h:q1D fr C p=(x,0,b)):
  ∃pos:Nat,x=(pos:Int)/\q1B 0 b=q1B 0 C++[(pos,p)]/\q4t b=(pos:Int)+(p.length:Int)+12/\q4t C<=(pos:Int)/\q0p b<=q0p C+(p.length+24)/\b.length<=C.length+1/\pos<=4096*C.length+12:=by
 by_cases j:q3u C p=true
 ·by_cases d:C=[]
  ·subst d;cases j
  ·obtain⟨D,ps,rfl⟩:=q8p d
   by_cases o:fr-((p.length:Int)+12)<6000
   ·rw[q5F m j o] at h;cases h
   ·rw [q6l m j (by omega)] at h
    cases h;refine⟨4096*D.length+q0K ps,by omega,?_,?_,?_,?_,by simp,by have:=q ps (by simp);rw[θ];simp only[χ,List.length_nil];omega⟩
    ·rw[q4b,q4b,q5s,List.append_assoc]
     congr 4
     unfold q0K;omega
    ·rw[q2b,q2V];omega
    ·rw[q2b];omega
    ·have h1:q0p (D++[ps++[p]])=q0p D+q0K (ps++[p]):=by simp[q0p,List.sum_append]
     have h2:q0p (D++[ps])=q0p D+q0K ps:=by simp[q0p,List.sum_append]
     rw[h1,h2,q2V];omega
 ·have i:q3u C p=false:=by simpa using j
  by_cases o:200<=C.length\/fr-((p.length:Int)+24)<6000
  ·rw[q5G m i o] at h;cases h
  ·rw [q6k m i o] at h
   cases h;refine⟨4096*C.length+12,by omega,?_,?_,?_,?_,by simp,ι _⟩
   ·rw[q4b];rfl
   ·rw[q2b,q4R];omega
   ·by_cases d:C=[]
    ·subst d;show(0:Int)<=_;omega
    ·obtain⟨D,ps,rfl⟩:=q8p d
     have:=q ps (by simp);rw[q2b,θ];simp only[χ,List.length_nil];omega
   ·have h1:q0p (C++[[p]])=q0p C+q0K [p]:=by simp[q0p,List.sum_append]
    rw[h1,q4R];omega
def z6q(x y:Nat×List UInt8):Prop:=x.1+x.2.length+12<=y.1
theorem z3C : ∀(ps:List (List UInt8)) (a:Nat),(q2f a ps).Pairwise z6q
 |[],_=>List.Pairwise.nil
 |p::t,a=>List.pairwise_cons.2 ⟨fun r b=>(q6f t _ r b).1,z3C t _⟩
theorem q6g : ∀(C:Cks) (b:Nat),(∀ps∈C,q0K ps<=4096)->(q1B b C).Pairwise z6q
 |[],_,_=>List.Pairwise.nil
 | ps::t,b,hs=>by
  rw[q1B,List.pairwise_append];refine⟨z3C ps _,q6g t _ fun q hq=>hs q (List.mem_cons_of_mem _ hq),fun x d y i=>?_⟩;have h1:=q6f ps _ x d;have h2:=q5d t _ (fun q hq=>hs q (List.mem_cons_of_mem _ hq)) y i;have h3:=hs ps (List.mem_cons_self);unfold q0K at h3;unfold z6q;omega
def z7Y(A:List (Nat×List UInt8)):Nat:=match A.getLast? with|none=>0|some r=>r.1+r.2.length+12
theorem q8E(A:List (Nat×List UInt8))(r:Nat×List UInt8):z7Y (A++[r])=r.1+r.2.length+12:=by unfold z7Y;simp
theorem z7Z{A:List (Nat×List UInt8)}(h:A.Pairwise z6q): ∀r∈A,r.1<z7Y A:=fun r b=>by
 rcases List.eq_nil_or_concat A with rfl|⟨D,q,rfl⟩
 ·cases b
 ·rw [List.concat_eq_append] at*
  rw[q8E];rcases List.mem_append.1 b with h1|h1
  ·have:=(List.pairwise_append.1 h).2.2 r h1 q (by simp)
   unfold z6q at this;omega
  ·obtain rfl:=List.mem_singleton.1 h1;omega
theorem z3q{C:Cks}(h:okC C):(z7Y (q1B 0 C):Int)=q4t C:=by
 rcases List.eq_nil_or_concat C with rfl|⟨D,ps,rfl⟩
 ·rfl
 ·rw [List.concat_eq_append] at*
  have b:=h.full ps (by simp);rcases List.eq_nil_or_concat ps with rfl|⟨d,p,rfl⟩
  ·exact absurd rfl b
  ·rw[List.concat_eq_append] at*
   rw[q4b,q5s,<-List.append_assoc,q8E,q2b,q2V];unfold q0K;show((4096*D.length+12+(d.map fun p=>p.length+12).sum+p.length+12:Nat):Int)=_;omega
theorem z0b : ∀(ps:List (List UInt8)) (a:Nat) (r:Nat×List UInt8),r∈q2f a ps-> ∃k,ps[k]? =some r.2/\r.1=a+((ps.take k).map fun p=>p.length+12).sum
 |[],_,r,h=>by cases h
 | p ::t,a,r,h=>by
  rw[q2f] at h;rcases List.mem_cons.1 h with rfl|h
  ·exact⟨0,rfl,by simp⟩
  ·obtain⟨k,h1,h2⟩:=z0b t _ r h
   exact⟨k+1,by rw[List.getElem?_cons_succ];exact h1,by rw[h2,List.take_succ_cons,List.map_cons,List.sum_cons];omega⟩
theorem z0d : ∀(C:Cks) (b:Nat) (r:Nat×List UInt8),r∈q1B b C-> ∃(n:Nat) (ps:List (List UInt8)) (k:Nat),C[n]? =some ps/\ps[k]? =some r.2/\r.1=b+4096*n+q0K (ps.take k)
 |[],_,r,h=>by cases h
 | ps ::t,b,r,h=>by
  rw[q1B] at h;rcases List.mem_append.1 h with h|h
  ·obtain⟨k,h1,h2⟩:=z0b ps _ r h
   exact⟨0,ps,k,rfl,h1,by rw[h2];unfold q0K;omega⟩
  ·obtain⟨n,d,k,h1,h2,h3⟩:=z0d t _ r h
   exact⟨n+1,d,k,by rw[List.getElem?_cons_succ];exact h1,h2,by rw[h3];omega⟩
theorem z6K{C:Cks}(h:okC C)(m:r∈q1B 0 C):q5c C (r.1:Int)=(r.2,0):=by
 obtain⟨n,ps,k,h1,h2,h3⟩:=z0d C 0 r m;have b:=List.mem_of_getElem? h1;have j:=h.pay ps b r.2 (List.mem_of_getElem? h2);have i:k<ps.length:=(List.getElem?_eq_some_iff.1 h2).1;have o:=h.size ps b;have h4:q0K (ps.take (k+1))<=q0K ps:=by
  unfold q0K
  conv=>rhs;rw[<-List.take_append_drop (k+1) ps,List.map_append,List.sum_append]
  omega
 have d:ps.take (k+1)=ps.take k++[r.2]:=by
  obtain⟨_,he⟩:=List.getElem?_eq_some_iff.1 h2;rw[List.take_succ_eq_append_getElem i,he]
 rw[d,q2V] at h4;rw[z2z (n:=n) (a:=q0K (ps.take k)) (by omega) (by omega),h1];show(match (if 12<=q0K (ps.take k) then q5E (q0T n ps) (q0K (ps.take k)) else none) with|none=>([],4)|some (p,_)=>(p,0))=(r.2,(0:Int));rw[ξ (by unfold q0K;omega),z8g n ps k r.2 h2 j]
theorem z3D{C:Cks}(h:okC C)(b:r∈q1B 0 C):r.1<=819200:=by
 have:=q5d C 0 h.size r b;have:=h.few;omega
end
end Go.Proofs.YteabhdclmodefaaGreatDoor
