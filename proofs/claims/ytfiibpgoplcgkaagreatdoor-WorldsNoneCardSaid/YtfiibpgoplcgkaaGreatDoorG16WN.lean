/- Walks. -/
import Derived.Test.YtfiibpgoplcgkaaGreatDoorG14WN
import Derived.Test.YtfiibpgoplcgkaaGreatDoorG15WN
set_option linter.unusedVariables false
set_option linter.unusedSimpArgs false
set_option maxRecDepth 100000
set_option maxHeartbeats 3200000
namespace Go.Proofs.YtfiibpgoplcgkaaGreatDoor
variable {k pos fr:Int}{D:Cks}{ps:List (List UInt8)}{p:List UInt8}{w' w1 w3:World}{bl bn br a n:Nat}{r:Nat×List UInt8}{A:List (Nat×List UInt8)}
section
open Go.RowKit
section
variable {E :Oth}{w0 w:World}{g gl:Nat}{F K:Nat->Prop}{v:Value}{σ:DM}{c s sure:Int}{C:Cks}
theorem LgF.setSure{xs:List Int}{sure:Int}(h:LgF w0 w g gl F v σ s xs sure K)(z:Int):LgF w0 (w.setCell ⟨gl,4,none⟩ (.int .i64 z)) g gl F v σ s xs z K/\Stay K w (w.setCell ⟨gl,4,none⟩ (.int .i64 z)):=
 h.log ⟨h.l.blk.set 4 (.int .i64 z),q1F h.l.row _ h.l.apart⟩ (OffS.set w (.inl rfl) 4 _) fun i b=> .inl b
theorem q8v{C:Cks}(h:C≠[]): ∃D ps,C=D++[ps]:=by
 rcases List.eq_nil_or_concat C with h1|⟨D,ps,h1⟩
 ·exact absurd h1 h
 ·exact⟨D,ps,by rw[h1,List.concat_eq_append]⟩
theorem q8u(D:Cks)(ps:List (List UInt8)):(D++[ps])[D.length]? =some ps:=by simp
def q0g(C:Cks)(sure:Int):Int:=if C=[] then sure else q2g C
theorem Lgd.allS{E:Oth}{σ:DM}{c s sure:Int}{C:Cks}(h:Lgd E σ c s C (q0g C sure))(b:okD σ):AllS σ.L:=by
 unfold q0g at h
 split at h
 ·rename_i e;subst e;exact h.sr.all0
 ·exact h.all b
theorem q7f{E:Oth}{σ:DM}{c s sure:Int}{C:Cks}(h:Lgd E σ c s C sure):q0g C sure<=q2g C:=by
 unfold q0g
 split
 ·exact h.le
 ·exact Int.le_refl _
def LgV(E:Oth)(w0 w:World)(g gl:Nat)(v:Value)(c s:Int)(C:Cks)(sure:Int)(K:Nat->Prop):Prop:= ∃F σ,LgF w0 w g gl F v σ s (q0M C) sure K/\Lgd E σ c s C sure
theorem LgV.toK(h:LgV E w0 w g gl v c s C sure K):LgK E w0 w g gl c s C sure K:=by obtain⟨F,σ,h1,h2⟩:=h;exact⟨F,v,σ,h1,h2⟩
theorem LgK.toV(h:LgK E w0 w g gl c s C sure K): ∃v,LgV E w0 w g gl v c s C sure K:=by obtain⟨F,v,σ,h1,h2⟩:=h;exact⟨v,F,σ,h1,h2⟩
theorem z8L(h:LgF w0 w g gl F v σ s (q0M C) sure K)(b:Lgd E σ c s C sure):
  Calls Tryz.prog 168 #[.pointer (some ⟨gl,0,none⟩)] w fun e w'=>e= .returned (.int .i64 0)/\LgV E w0 w' g gl v c s C (q0g C sure) K/\Stay K w w':=by
 have c0:=h.l.c0;have c3:=h.l.c3;obtain⟨a,k,rfl,hx⟩:=h.l.slice;by_cases i:C=[]
 ·subst i
  have HK:Hd (LgV E w0 w g gl (.slice a (q0M []).length k) c s [] (q0g [] sure) K):=η ⟨F,σ,h,b⟩;have e0:(q0M []).length=0:=rfl;clear h b hx;go_enter Tryz.func168,Tryz.ntmps168;go_wp2_with fail;go_ret;exact⟨rfl,HK.o,Stay.refl _ _⟩
 have Q:Hd (q0g C sure=q2g C):=η (by unfold q0g;rw[κ i]);have b0:1<=C.length:=by cases C with|nil=>exact absurd rfl i|cons=>simp
 obtain⟨D,ps,I⟩:=q8v i;have hn:(q0M C).length=C.length:=q0Y C;have u:=b.ok.few;rw[hn] at c3;obtain⟨σ',hm,G⟩:=b.pl.sync (q3F b.oth u (by rw[I];exact q8u D ps));have B:AllS σ'.L:=z3X hm b.sr fun j hj=>by
  have:j=D.length:=by rw[I,θ,List.length_singleton] at hj;omega
  rw[this]
 have Z:=q2e (D.length:Int)
 have V:=η (fun (N:World) (k:Ext w N)=>show Calls Tryz.prog 228 #[.pointer (some ⟨g,0,none⟩),.string ⟨(q0C 99 (D.length:Int)).toArray⟩] N fun e w'=>e= .returned (.int .i64 0)/\DkS N g F σ' w' by
  have:=z6m (h.d.ext k) (q0C 99 (D.length:Int)) Z;rw[hm] at this
  exact this)
 have hM:IntKind.i64.wrap ((C.length:Int)-1)=(D.length:Int):=by
  have:C.length=D.length+1:=by rw[I];simp
  rw[ν];omega
 have q:=η (fun W=>q3Z (D.length:Int) W);generalize q0C 99 (D.length:Int)=nm at*;obtain⟨M,y⟩: ∃M:Int,(D.length:Int)=M:=⟨_,rfl⟩
 rw[y] at hM q;have HH:=η h;have R:=η b;have HP:=η (And.intro G B);have X:=η (q7f b);clear B;have J:Ext w w.drew:=(Ext.refl w).drew;have HW:=η J;have d0:=q0A J c0;have d3:=q0A J c3;have a0:((C.length:Int)==0)=false:=by simpa using i
 clear h b G hm hx I y i hn J;go_enter Tryz.func168,Tryz.ntmps168;go_wp2_with fail
 go_region_held3 (fun W=>W.cell? ⟨gl,0,none⟩=some (.pointer (some ⟨g,0,none⟩))/\W.cell? ⟨gl,3,none⟩=some (.slice a C.length k))
  (first|exact U.o|exact S.o|exact⟨d0,d3⟩)
  (first
   |(go_at_call 161;refine(q.o _).mono ?_;rintro e N ⟨rfl,h1⟩;have O:=η (HW.o.trans h1);have S:=η (And.intro (q0A h1 d0) (q0A h1 d3));clear h1)
   |(go_at_call 228;refine(V.o _ O.o).mono ?_;rintro e wb ⟨rfl,h2⟩;have h3:=(HH.o.grow O.o).disk h2;have m:=η h3;have U:=η (And.intro h3.1.l.c0 (q0Y C▸h3.1.l.c3));clear h2 h3))
 all_goals
  have HE:=η (z7n m.o.1.l R.o.ok);have e4:=m.o.1.l.c4;have z4:=m.o.1.l.blk.free 4;have h4:=m.o.1.setSure (q2g C);have HF:=η (show LgV E w0 (wb.setCell ⟨gl,4,none⟩ (.int .i64 (q2g C))) g gl _ c s C (q0g C sure) K from⟨_,σ',by rw[Q.o];exact h4.1,⟨HP.o.1,R.o.ok,R.o.oth,HP.o.2.sur _ _,X.o⟩⟩);have Y:=η ((HH.o.kExt O.o).trans (m.o.2.trans h4.2));clear h4;go_wp2_with fail;refine HE.o.mono ?_;rintro e w' ⟨rfl,rfl⟩;go_wp2_with fail;go_ret;exact⟨rfl,HF.o,Y.o⟩
theorem z9k(h:LgF w0 w g gl F v σ s (q0M C) sure K)(b:Lgd E σ c s C sure):
  Calls Tryz.prog 168 #[.pointer (some ⟨gl,0,none⟩)] w fun e w'=>e= .returned (.int .i64 0)/\LgK E w0 w' g gl c s C (q0g C sure) K/\Stay K w w':=
 (z8L h b).mono fun _ _ ⟨h1,h2,h3⟩=>⟨h1,h2.toK,h3⟩
end
section
variable {E :Oth}{w0 w:World}{g gl:Nat}{F K:Nat->Prop}{v:Value}{σ:DM}{c s sure:Int}{C:Cks}
theorem Lgd.free(h:Lgd E σ c s C k):z1d σ=c-(q0f C:Int):=by rw[h.pl.free,q6v];push_cast;omega
theorem Dk.okD{F:Nat->Prop}(h:Dk w g F σ):okD σ:=by obtain⟨h1,_⟩:=h;exact h1
theorem LgF.room0{xs:List Int}(h:LgF w0 w g gl F v σ s xs sure K)(i:Lgd E σ c s C k):0<=c-(q0f C:Int)/\c-(q0f C:Int)<=1048576:=by
 have b:=h.d.okD;have h1:=i.free;have h2:=b.used;have h3:=b.cap1;unfold z1d at h1;omega
theorem LgF.setRow{xs:List Int}(h:LgF w0 w g gl F v σ s xs sure K){b k:Nat}(o:v= .slice (some ⟨b,0,none⟩) xs.length k)(j:Nat)(z:Int):LgF w0 (w.setCell ⟨b,j,none⟩ (.int .i64 z)) g gl F v σ s (xs.set j z) sure K/\Stay K w (w.setCell ⟨b,j,none⟩ (.int .i64 z)):=by
 have m:v.ownBlock=some b:=by rw[o];rfl
 have d:¬gl=b:=fun e=>h.l.apart (by rw[m,e])
 refine h.log ⟨(OffS.set (F:=fun i=>i=b) w rfl j (.int .i64 z)).blk h.l.blk d,?_⟩ (OffS.set w (.inr m) j _) fun i q=> .inl q
 have:=z4d h.l.row o (j:=j) (.int .i64 z);rw[List.length_set,List.map_set];exact this
theorem LgF.last(h:LgF w0 w g gl F v σ s (q0M (D++[ps])) sure K):
  ∃b k,v= .slice (some ⟨b,0,none⟩) (D.length+1) k/\w.cell? ⟨b,D.length,none⟩=some (.int .i64 (q0H ps:Int))/\w.frozen? ⟨b,D.length,none⟩=false:=by
 have d:(q0M (D++[ps])).length=D.length+1:=by rw[q0Y];simp
 obtain⟨b,k,h1,h2,h3,_⟩:=(Own.of_row h.l.row).cell (j:=D.length) (by rw[List.length_map,d];omega);have i:((q0M (D++[ps])).map (Value.int .i64))[D.length]'(by rw[List.length_map,d];omega)= .int .i64 (q0H ps:Int):=by
  rw[List.getElem_map]
  congr 1
  have:=q7d D ps;rw[δ,γ (by rw[d];omega)] at this;exact this
 rw[i] at h2;rw[d] at h1;exact⟨b,k,h1,h2,h3⟩
theorem z4y(h:LgF w0 w g gl F v σ s (q0M C) sure K)(b:Lgd E σ c s C sure)(n:Int)(R:List UInt8)(B:R.length<=2012)(y:c-(q0f C:Int)-(R.length:Int)<6000):
  Calls Tryz.prog 149 #[.pointer (some ⟨gl,0,none⟩),.int .i64 n,.string ⟨R.toArray⟩] w fun e w'=>e= .returned (.tuple #[.int .i64 0,.int .i64 60])/\Ext w w':=by
 obtain⟨m,q⟩:=h.room0 b;have d:=η (z3S h b.free m q (R.length:Int) (by omega) (by omega));have j:decide ((6000:Int)<=c-(q0f C:Int)-(R.length:Int))=false:=by simp;omega
 rw[j] at d;clear h b j m q y;go_enter Tryz.func149,Tryz.ntmps149;go_wp2_with fail;refine d.o.mono ?_;rintro e w1 ⟨rfl,i⟩;have u:=η i;clear i;go_wp2_with fail;go_ret2;exact⟨rfl,u.o⟩
theorem z7Q(h:LgF w0 w g gl F v σ s (q0M (D++[ps])) sure K)(i:Lgd E σ c s (D++[ps]) sure)(hp:p.length<=2000)(hs:q0H ps+(p.length+12)<=4096)
  (hr:6000<=c-(q0f (D++[ps]):Int)-((p.length:Int)+12)):
  Calls Tryz.prog 149 #[.pointer (some ⟨gl,0,none⟩),.int .i64 (D.length:Int),.string ⟨(q2A p).toArray⟩] w fun e w'=>
   e= .returned (.tuple #[.int .i64 ((D.length:Int)*4096+(q0H ps:Int)),.int .i64 0])/\LgK E w0 w' g gl c s (D++[ps++[p]]) sure K/\Stay K w w':=by
 obtain⟨r0,r1⟩:=h.room0 i;have j:=i.ok.few;have q:D.length+1<=200:=by simpa using j
 have e0:=q0d p;have HR:=η (z3S h i.free r0 r1 ((q2A p).length:Int) (by omega) (by omega));have hd:decide ((6000:Int)<=c-(q0f (D++[ps]):Int)-((q2A p).length:Int))=true:=by simp;omega
 rw[hd] at HR;obtain⟨σ',hm,u⟩:=i.pl.append (t:=q2A p) (q3F i.oth j (q8u D ps)) (by rw[q6v];push_cast;omega);rw[z5C i.oth p (by omega)] at u;have m:=i.le;have f0:Sur σ'.L (D.length+1) sure:=z3j hm (by have:=i.sr;rwa [θ,List.length_singleton] at this) rfl fun f hf e=>by
  rw[i.lastLen h.d.okD hf e];rw[q0y] at m;exact m
 have HP:Hd (Lgd E σ' c s (D++[ps++[p]]) sure):=η ⟨u,i.ok.grow hp hs,i.oth,by rwa [θ,List.length_singleton],by rw[q0y] at m⊢;rw[q2J];omega⟩;clear m f0;have J:=q2e (D.length:Int)
 have S:=η (fun (O:World) (k:Ext w O)=>show Calls Tryz.prog 208 #[.pointer (some ⟨g,0,none⟩),.string ⟨(q0C 99 (D.length:Int)).toArray⟩,.string ⟨(q2A p).toArray⟩] O fun e w'=>e= .returned (.int .i64 0)/\DkS O g F σ' w' by
  have:=q8n (h.d.ext k) (q0C 99 (D.length:Int)) (q2A p) J (by omega);rw[hm] at this
  exact this)
 have V:=η (fun W=>q3Z (D.length:Int) W);have c0:=h.l.c0;have y:=η c0;have HH:=η h
 have b0:Hd ((q0M (D++[ps])).set D.length ((q0H ps:Int)+((q2A p).length:Int))=q0M (D++[ps++[p]])):=η (by
  rw[<-z4f D ps (ps++[p]),q2J,q0d];congr 1)
 have B:=η (fun (W:World) (F':Nat->Prop) (τ:DM) (hW:LgF w0 W g gl F' v τ s (q0M (D++[ps])) sure K)=>hW.last);have M:(q0M (D++[ps])).length=D.length+1:=by rw[q0Y];simp
 have Z:=η M;have z0:(0:Int)<=(q0H ps:Int):=by omega
 have z1:(q0H ps:Int)<=4096:=by omega
 have g0:(q2A p).length<=2012:=by omega
 have h0:D.length<=199:=by omega
 generalize q0C 99 (D.length:Int)=nm at*;generalize q2A p=R at*;generalize (q0H ps:Int)=z at*;generalize D.length=n at*;clear h i u hm hd r0 r1 hr hs e0 j q hp J M;go_enter Tryz.func149,Tryz.ntmps149;go_wp2_with fail;refine HR.o.mono ?_;rintro e w1 ⟨rfl,I⟩;have HB:=η I;have d0:=q0A I y.o;have G:=q0A (I.drew) y.o;have U:=η I.drew;clear I c0;go_wp2_with fail
 go_region_held3 (fun W=>W.cell? ⟨gl,0,none⟩=some (.pointer (some ⟨g,0,none⟩)))
  (first|exact Y.o|exact X.o|exact G)
  (first
   |(go_at_call 161;refine(V.o _).mono ?_;rintro e O ⟨rfl,h1⟩;have Q:=η (U.o.trans h1);have X:=η (q0A h1 G);clear h1)
   |(go_at_call 208;refine(S.o _ Q.o).mono ?_;rintro e wb ⟨rfl,h2⟩;have h3:=(HH.o.grow Q.o).disk h2;have N:=η h3;have Y:=η h3.1.l.c0;clear h2 h3))
 all_goals
  obtain⟨b,k,rfl,e2,z2⟩:=B.o _ _ _ N.o.1;have e3:=N.o.1.l.c3;have h4:=N.o.1.setRow (by rw[Z.o]) n (z+(R.length:Int));rw[b0.o] at h4;have HF:=η (show LgK E w0 (wb.setCell ⟨b,n,none⟩ (.int .i64 (z+(R.length:Int)))) g gl c s (D++[ps++[p]]) sure K from⟨_,_,σ',h4.1,HP.o⟩);have a0:=η ((HH.o.kExt Q.o).trans (N.o.2.trans h4.2));clear h4;go_wp2_with fail;go_ret2;exact⟨rfl,HF.o,a0.o⟩
end
def LgP(E:Oth)(w0 w:World)(g gl:Nat)(c s:Int)(l:List (List UInt8×List UInt8))(xs:List Int)(sure:Int)(Q:List FM->Prop)(K:Nat->Prop):Prop:= ∃F v σ,LgF w0 w g gl F v σ s xs sure K/\okOth E/\Pl σ (c+(q1R E:Int)) s l/\Q σ.L
theorem z0C{w:World}{b:Nat}(h:w'.heap[b]? =w.heap[b]?)(o:Nat):w'.cell? ⟨b,o,none⟩=w.cell? ⟨b,o,none⟩:=by simp only[World.cell?,h]
theorem q0Z{K:Nat->Prop}{w:World}(h:Stay K w w'){b o:Nat}(hK:K b){u:Value}(hc:w.cell? ⟨b,o,none⟩=some u):w'.cell? ⟨b,o,none⟩=some u:=(z0C (h b hK) o).trans hc
section
variable {E :Oth}{w0 w:World}{g gl:Nat}{F K:Nat->Prop}{v:Value}{σ:DM}{c s sure:Int}{C:Cks}{xs:List Int}
theorem z7N(h:LgP E w0 w g gl c s (q2V E C) xs sure AllS K)(hC:C.length<200)(kl:K bl)(kn:K bn)(q:w.cell? ⟨bl,0,none⟩=some (.pointer (some ⟨gl,0,none⟩)))(u:w.cell? ⟨bn,0,none⟩=some (.int .i64 (C.length:Int))):
  Calls Tryz.prog 210 #[.pointer (some ⟨bl,0,none⟩),.pointer (some ⟨bn,0,none⟩)] w fun e w'=>e= .returned (.int .i64 0)/\LgP E w0 w' g gl c s (z3v E C) xs sure AllS K/\Stay K w w':=by
 obtain⟨F,v,σ,h,j,Z,Y⟩:=h;have S:=h.l.c0;have B:q2B (q0C 99 (C.length:Int))=true:=by rw[q0T (by omega)];simp[q2B,q0W]
 obtain⟨σ',hm,i⟩:=Z.create (z5D j (by omega) (ι _) (by omega)) B (by rw[q6u];have:=j.few;omega);rw[z7R j (by omega)] at i;have m:=q8G hm Y;have y:=q2e (C.length:Int)
 have N:=η (fun (I:World) (k:Ext w I)=>show Calls Tryz.prog 211 #[.pointer (some ⟨g,0,none⟩),.string ⟨(q0C 99 (C.length:Int)).toArray⟩] I fun e w'=>e= .returned (.int .i64 0)/\DkS I g F σ' w' by
  have:=z2g (h.d.ext k) (q0C 99 (C.length:Int)) y;rw[hm] at this
  exact this)
 have M:=η (fun W=>q3Z (C.length:Int) W);have HP:=η (And.intro j (And.intro i m));have R:=η h;have G:Ext w w.drew:=(Ext.refl w).drew;have HW:=η G;have U:=q0A G S;have V:=q0A G q;have X:=q0A G u;generalize q0C 99 (C.length:Int)=nm at*;generalize C.length=n at*;clear h Z i j hm B y G S q u Y m;go_enter Tryz.func210,Tryz.ntmps210;go_wp2_with fail
 go_region_held3 (fun W=>W.cell? ⟨gl,0,none⟩=some (.pointer (some ⟨g,0,none⟩))/\W.cell? ⟨bl,0,none⟩=some (.pointer (some ⟨gl,0,none⟩))/\W.cell? ⟨bn,0,none⟩=some (.int .i64 (n:Int)))
  (first|exact O.o|exact b.o|exact⟨U,V,X⟩)
  (first
   |(go_at_call 161;refine(M.o _).mono ?_;rintro e I ⟨rfl,h1⟩;have J:=η (HW.o.trans h1);have b:=η (And.intro (q0A h1 U) (And.intro (q0A h1 V) (q0A h1 X)));clear h1)
   |(go_at_call 211;refine(N.o _ J.o).mono ?_;rintro e wb ⟨rfl,h2⟩;have h3:=(R.o.grow J.o).disk h2;have Q:=η h3;have O:=η (And.intro h3.1.l.c0 (And.intro (q0Z h3.2 kl b.o.2.1) (q0Z h3.2 kn b.o.2.2)));clear h2 h3))
 all_goals
  go_wp2_with fail;go_ret;exact⟨rfl,⟨_,_,σ',Q.o.1,HP.o⟩,(R.o.kExt J.o).trans Q.o.2⟩
theorem z7O(h:LgP E w0 w g gl c s (z3v E C) xs sure AllS K)(hC:C.length<200)(hp:p.length<=2000)(hr:(p.length:Int)+24<=c-(q0f C:Int))(kl:K bl)(kn:K bn)(kr:K br)
  (B:w.cell? ⟨bl,0,none⟩=some (.pointer (some ⟨gl,0,none⟩)))(G:w.cell? ⟨bn,0,none⟩=some (.int .i64 (C.length:Int)))(I:w.cell? ⟨br,0,none⟩=some (.string ⟨(q2A p).toArray⟩)):
  Calls Tryz.prog 212 #[.pointer (some ⟨bl,0,none⟩),.pointer (some ⟨bn,0,none⟩),.pointer (some ⟨br,0,none⟩)] w fun e w'=>e= .returned (.int .i64 0)/\LgP E w0 w' g gl c s (q2V E (C++[[p]])) xs sure (fun L=>Sur L (C.length+1) ((C.length:Int)*4096)) K/\Stay K w w':=by
 obtain⟨F,v,σ,h,N,M,hQ⟩:=h;have c0:=h.l.c0;have hf:q0E Prod.fst (q0C 99 (C.length:Int)) (z3v E C)=some (q0C 99 (C.length:Int),[]):=by
  exact z5F N (by omega)
 have y:=q0d p;have q:=q1W C.length
 obtain⟨σ',hm,j⟩:=M.append (t:=q1U C.length++q2A p) hf (by
  rw[z5G,θ,y,q]
  push_cast
  omega)
 rw[z3s N p (by omega)] at j;have u:=z3i hm hQ rfl;have J:=q2e (C.length:Int)
 have S:=η (fun (O:World) (k:Ext w O)=>show Calls Tryz.prog 208 #[.pointer (some ⟨g,0,none⟩),.string ⟨(q0C 99 (C.length:Int)).toArray⟩,.string (⟨(q1U C.length).toArray⟩++⟨(q2A p).toArray⟩)] O fun e w'=>e= .returned (.int .i64 0)/\DkS O g F σ' w' by
  have:=q8n (h.d.ext k) (q0C 99 (C.length:Int)) (q1U C.length++q2A p) J (by rw[θ];omega);rw[hm] at this;rw[q3V]
  exact this)
 have U:=η (fun W=>q3Z (C.length:Int) W);have V:=η (fun W=>q8q C.length W hC);have HP:=η (And.intro N (And.intro j u));have Z:=η h;have m:Ext w w.drew:=(Ext.refl w).drew;have HW:=η m;have d0:=q0A m c0;have d1:=q0A m B;have d2:=q0A m G;have d3:=q0A m I;have a0:¬(9223372036854775807<(q1U C.length).length+(q2A p).length):=by omega
 clear h M N j hm hf J m c0 B G I y q hr hp hQ u;generalize q2A p=R at*;generalize q1U C.length=Hd at*;generalize q0C 99 (C.length:Int)=nm at*;generalize C.length=n at*;go_enter Tryz.func212,Tryz.ntmps212;go_wp2_with fail
 go_region_held3 (fun W=>W.cell? ⟨gl,0,none⟩=some (.pointer (some ⟨g,0,none⟩))/\W.cell? ⟨bl,0,none⟩=some (.pointer (some ⟨gl,0,none⟩))/\W.cell? ⟨bn,0,none⟩=some (.int .i64 (n:Int))/\W.cell? ⟨br,0,none⟩=some (.string ⟨R.toArray⟩))
  (first|exact X.o|exact i.o|exact b.o|exact⟨d0,d1,d2,d3⟩)
  (first
   |(go_at_call 161;refine(U.o _).mono ?_;rintro e O ⟨rfl,h1⟩;have H1:=η (HW.o.trans h1);have b:=η (And.intro (q0A h1 d0) (And.intro (q0A h1 d1) (And.intro (q0A h1 d2) (q0A h1 d3))));clear h1)
   |(go_at_call 213;refine(V.o _).mono ?_;rintro e wc ⟨rfl,h1⟩;have Q:=η (H1.o.trans h1);have i:=η (And.intro (q0A h1 b.o.1) (And.intro (q0A h1 b.o.2.1) (And.intro (q0A h1 b.o.2.2.1) (q0A h1 b.o.2.2.2))));clear h1)
   |(go_at_call 208;refine(S.o _ Q.o).mono ?_;rintro e wb ⟨rfl,h2⟩;have h3:=(Z.o.grow Q.o).disk h2;have Y:=η h3;have X:=η (And.intro h3.1.l.c0 (And.intro (q0Z h3.2 kl i.o.2.1) (And.intro (q0Z h3.2 kn i.o.2.2.1) (q0Z h3.2 kr i.o.2.2.2))));clear h2 h3))
 all_goals
  go_wp2_with fail;go_ret;exact⟨rfl,⟨_,_,σ',Y.o.1,HP.o⟩,(Z.o.kExt Q.o).trans Y.o.2⟩
end
section
variable {E :Oth}{w0 w:World}{g gl:Nat}{F K:Nat->Prop}{v:Value}{σ:DM}{c s sure:Int}{C:Cks}{xs:List Int}
theorem LgK.toP(h:LgK E w0 w g gl c s C (q0g C sure) K):LgP E w0 w g gl c s (q2V E C) (q0M C) (q0g C sure) AllS K:=by
 obtain⟨F,v,σ,h1,h2⟩:=h;exact⟨F,v,σ,h1,h2.oth,h2.pl,h2.allS h1.d.okD⟩
theorem LgK.le(h:LgK E w0 w g gl c s C sure K):okC C/\sure<=q2g C:=by
 obtain⟨F,v,σ,h1,h2⟩:=h;exact⟨h2.ok,h2.le⟩
theorem LgP.grow{l:List (List UInt8×List UInt8)}{Q:List FM->Prop}(h:LgP E w0 w g gl c s l xs sure Q K)(k:Ext w w1):LgP E w0 w1 g gl c s l xs sure Q K:=by
 obtain⟨F,v,σ,h1,h2⟩:=h;exact⟨F,v,σ,h1.grow k,h2⟩
def z2W(E:Oth)(w0:World)(g gl:Nat)(c s:Int)(C:Cks)(p:List UInt8)(sure:Int)(K:Nat->Prop):Nat->World->Prop
 |0,W=>LgK E w0 W g gl c s C sure K
 |1,W=>LgP E w0 W g gl c s (q2V E C) (q0M C) (q0g C sure) AllS K
 |2,W=>LgP E w0 W g gl c s (z3v E C) (q0M C) (q0g C sure) AllS K
 |_,W=>LgP E w0 W g gl c s (q2V E (C++[[p]])) (q0M C) (q0g C sure) (fun L=>Sur L (C.length+1) ((C.length:Int)*4096)) K
theorem y0i(h:LgK E w0 w g gl c s C sure K)(Z:C.length<200)(hp:p.length<=2000)(hr:(p.length:Int)+24<=c-(q0f C:Int)){b:Nat}(S:K b)(kl:K bl)(kn:K bn)(X:K br)
  (I:w.cell? ⟨b,0,none⟩=some (.func (.func 168) #[.pointer (some ⟨gl,0,none⟩)] #[]))
  (J:w.cell? ⟨b,1,none⟩=some (.func (.func 210) #[] #[.pointer (some ⟨bl,0,none⟩),.pointer (some ⟨bn,0,none⟩)]))
  (M:w.cell? ⟨b,2,none⟩=some (.func (.func 212) #[] #[.pointer (some ⟨bl,0,none⟩),.pointer (some ⟨bn,0,none⟩),.pointer (some ⟨br,0,none⟩)]))
  (N:w.cell? ⟨bl,0,none⟩=some (.pointer (some ⟨gl,0,none⟩)))(O:w.cell? ⟨bn,0,none⟩=some (.int .i64 (C.length:Int)))(Q:w.cell? ⟨br,0,none⟩=some (.string ⟨(q2A p).toArray⟩)):
  Calls Tryz.prog 209 #[.slice (some ⟨b,0,none⟩) 3 3] w fun e w'=>e= .returned (.int .i64 0)/\LgP E w0 w' g gl c s (q2V E (C++[[p]])) (q0M C) (q0g C sure) (fun L=>Sur L (C.length+1) ((C.length:Int)*4096)) K/\Stay K w w':=by
 have H:=η h;have HB:=η (show∀W,Stay K w W->W.cell? ⟨b,0,none⟩=_/\W.cell? ⟨b,1,none⟩=_/\W.cell? ⟨b,2,none⟩=_ from fun W k=>⟨q0Z k S I,q0Z k S J,q0Z k S M⟩);have HL:=η (show∀W,Stay K w W->W.cell? ⟨bl,0,none⟩=_/\W.cell? ⟨bn,0,none⟩=_/\W.cell? ⟨br,0,none⟩=_ from fun W k=>⟨q0Z k kl N,q0Z k kn O,q0Z k X Q⟩);have y:=η kl;have B:=η kn;have U:=η X;have Y:=η Z;have V:=η hp;have HR:=η hr;clear h S kl kn X I J M N O Q Z hp hr;go_enter Tryz.func209,Tryz.ntmps209;go_wp2_with fail
 go_loopw [8] (fun i W=> ∃k:Nat,k<=3/\i= .int .i64 (k:Int)/\z2W E w0 g gl c s C p sure K k W/\Stay K w W) (fun i _=>3-(intOf i).toNat)
 case atStart=>exact⟨0,by omega,rfl,H.o,Stay.refl _ _⟩
 case round=>
  obtain⟨k,hk,rfl,hs,m⟩:=hrel;have R:=η hs;have j:=η m;obtain⟨q0,q1,q2⟩:=HB.o wr m;have d:=η (HL.o wr m);clear hs m;obtain rfl|rfl|rfl|rfl:k=0\/k=1\/k=2\/k=3:=by omega
  ·have G:Hd (Calls Tryz.prog 168 #[.pointer (some ⟨gl,0,none⟩)] wr fun e w'=>e= .returned (.int .i64 0)/\LgK E w0 w' g gl c s C (q0g C sure) K/\Stay K wr w'):=η (by
    obtain⟨F,v,σ,h1,h2⟩:=R.o
    exact z9k h1 h2)
   go_wp2_with fail;refine G.o.mono ?_;rintro e w1 ⟨rfl,h1,h2⟩;have q:=η (show z2W E w0 g gl c s C p sure K 1 w1 from h1.toP);have u:=η (j.o.trans h2);clear h1 h2;go_wp2_with fail
   go_roundw
   case rel=>exact⟨1,by omega,by go_num,q.o,u.o⟩
   case measure=>simp[intOf]
  ·have G:=η (z7N R.o Y.o y.o B.o d.o.1 d.o.2.1)
   go_wp2_with fail;refine G.o.mono ?_;rintro e w1 ⟨rfl,h1,h2⟩;have q:=η (show z2W E w0 g gl c s C p sure K 2 w1 from h1);have u:=η (j.o.trans h2);clear h1 h2;go_wp2_with fail
   go_roundw
   case rel=>exact⟨2,by omega,by go_num,q.o,u.o⟩
   case measure=>simp[intOf]
  ·have G:=η (z7O R.o Y.o V.o HR.o y.o B.o U.o d.o.1 d.o.2.1 d.o.2.2)
   go_wp2_with fail;refine G.o.mono ?_;rintro e w1 ⟨rfl,h1,h2⟩;have q:=η (show z2W E w0 g gl c s C p sure K 3 w1 from h1);have u:=η (j.o.trans h2);clear h1 h2;go_wp2_with fail
   go_roundw
   case rel=>exact⟨3,by omega,by go_num,q.o,u.o⟩
   case measure=>simp[intOf]
  ·go_wp2_with fail
   go_ret;exact⟨rfl,R.o,j.o⟩
end
theorem z7x{s:List UInt8}(h:a+q3k s a+12<=s.length):q5A ((s.drop a).take (q3k s a+12)) 0=(q5A s a).map fun r=>(r.1,r.2-a):=by
 obtain⟨n,i⟩: ∃n,q3k s a=n:=⟨_,rfl⟩
 rw[i] at h⊢;have j:((s.drop a).take (n+12)).take 4=(s.drop a).take 4:=by rw[List.take_take,Nat.min_eq_left (by omega)]
 have d:((s.drop a).take (n+12)).length=n+12:=by simp;omega
 have b:q3k ((s.drop a).take (n+12)) 0=n:=by
  unfold q3k;rw[List.drop_zero,j,<-i];first|done|rfl
 have q:isR ((s.drop a).take (n+12)) 0=isR s a:=by
  unfold isR;rw[b,d,i,List.drop_zero,j];have m:((s.drop a).take (n+12)).take (n+8)=(s.drop a).take (n+8):=by rw[List.take_take,Nat.min_eq_left (by omega)]
  have o:(((s.drop a).take (n+12)).drop (0+n+8)).take 4=(s.drop (a+n+8)).take 4:=by
   rw[List.drop_take,List.drop_drop,List.take_take]
   congr 1
   ·omega
   ·congr 1;omega
  rw[m,o,ζ (p:=0+12<=n+12) (by omega),ζ (p:=0+n+12<=n+12) (by omega),ζ (p:=a+12<=s.length) (by omega),ζ (p:=a+n+12<=s.length) h]
 unfold q5A;rw[q,b,i]
 split
 ·simp only[Option.map_some]
  congr 2
  ·rw[List.drop_take,List.drop_drop,List.take_take]
   congr 1
   ·omega
  ·omega
 ·rfl
section
variable {E :Oth}{w0 w:World}{g gl:Nat}{F K:Nat->Prop}{v:Value}{σ:DM}{c s sure:Int}{C:Cks}{xs:List Int}{l:List (List UInt8×List UInt8)}{nm:List UInt8}{x:List UInt8×List UInt8}
theorem z0I(h:LgF w0 w g gl F v σ s xs sure K)(i:Pl σ c s l)(o:q0E Prod.fst nm l=some x)(b:nm.length<=9223372036854775807)(a n:Int)(m:0<=a)(u:0<=n)(q:a+n<=(x.2.length:Int))(B:(x.2.length:Int)<=1048576):
  Calls Tryz.prog 160 #[.pointer (some ⟨g,0,none⟩),.string ⟨nm.toArray⟩,.int .i64 a,.int .i64 n] w fun e w'=>
   e= .returned (.tuple #[.string ⟨((x.2.drop a.toNat).take n.toNat).toArray⟩,.int .i64 0])/\(∃j σ',LgF w0 w' g gl j v σ' s xs sure K/\Pl σ' c s l/\σ'.L=σ.L)/\Stay K w w':=by
 have h1:=z3L h.d nm a n b (by omega) (by omega) (by omega) (by omega);rw[i.read o a n m u q] at h1;refine h1.mono ?_;rintro e w' ⟨rfl,k⟩;obtain⟨k1,y⟩:=h.disk k;exact⟨rfl,⟨_,_,k1,i.tell,rfl⟩,y⟩
theorem q5u(h:LgF w0 w g gl F v σ s xs sure K)(b:Lgd E σ c s C sure)(o:q0E Prod.fst nm (q2V E C)=some x)(j:nm.length<=9223372036854775807)(a n:Int)(m:0<=a)(q:0<=n)(i:a+n<=(x.2.length:Int))(u:(x.2.length:Int)<=1048576):
  Calls Tryz.prog 160 #[.pointer (some ⟨g,0,none⟩),.string ⟨nm.toArray⟩,.int .i64 a,.int .i64 n] w fun e w'=>
   e= .returned (.tuple #[.string ⟨((x.2.drop a.toNat).take n.toNat).toArray⟩,.int .i64 0])/\(∃d σ',LgF w0 w' g gl d v σ' s xs sure K/\Lgd E σ' c s C sure)/\Stay K w w':=by
 refine(z0I h b.pl o j a n m q i u).mono ?_;rintro e w' ⟨rfl,⟨d,σ',h1,h2,h3⟩,h4⟩;exact⟨rfl,⟨d,σ',h1,h2,b.ok,b.oth,by rw[h3];exact b.sr,b.le⟩,h4⟩
theorem LgF.cellAt(h:LgF w0 w g gl F v σ s (q0M C) sure K)(i:C[n]? =some ps):
  ∃b k,v= .slice (some ⟨b,0,none⟩) C.length k/\w.cell? ⟨b,n,none⟩=some (.int .i64 (q0H ps:Int))/\w.frozen? ⟨b,n,none⟩=false:=by
 have d:(q0M C).length=C.length:=q0Y C;have o:n<C.length:=(List.getElem?_eq_some_iff.1 i).1;obtain⟨b,k,h1,h2,h3,_⟩:=(Own.of_row h.l.row).cell (j:=n) (by rw[List.length_map,d];omega);have m:((q0M C).map (Value.int .i64))[n]'(by rw[List.length_map,d];omega)= .int .i64 (q0H ps:Int):=by
  rw[List.getElem_map]
  congr 1
  have:=z2G C n i;rw[δ,γ (by rw[d];omega)] at this;exact this
 rw[m] at h2;rw[d] at h1;exact⟨b,k,h1,h2,h3⟩
theorem z6c(h:pos<0):q5g C pos=([],4):=by unfold q5g;rw[ξ h]
theorem z3K(d:pos=(n:Int)*4096+(a:Int))(i:a<4096):q5g C pos=match C[n]? with
  |none=>([],4)
  | some ps=>match (if 12<=a then q5A (q0L n ps) a else none) with
   |none=>([],4)
   |some (p,_)=>(p,0):=by
 have h1:(pos/4096).toNat=n:=by omega
 have h2:(pos % 4096).toNat=a:=by omega
 unfold q5g;rw[κ (by omega),h1,h2]
 cases C[n]? with
 |none=>rfl
 | some ps=>
  by_cases b:12<=a
  ·simp only[ξ b,ξ (show 12<=pos % 4096 by omega)]
   cases q5A (q0L n ps) a with
   |none=>rfl
   |some r=>rfl
  ·simp only[κ b,κ (show ¬12<=pos % 4096 by omega)]
def ReadR(E:Oth)(w0 w:World)(g gl:Nat)(c s:Int)(C:Cks)(sure:Int)(K:Nat->Prop)(r:List UInt8×Int)(e:Ending)(w':World):Prop:=
 e= .returned (.tuple #[.string ⟨r.1.toArray⟩,.int .i64 r.2])/\LgK E w0 w' g gl c s C sure K/\Stay K w w'
theorem ReadR.no{r:List UInt8×Int}(h:LgK E w0 w g gl c s C sure K)(k:Ext w w')(b:r=([],4)):ReadR E w0 w g gl c s C sure K r (.returned (.tuple #[.string ⟨#[]⟩,.int .i64 4])) w':=by
 subst b;exact⟨rfl,h.grow k,h.kExt k⟩
theorem y1Z(h:LgK E w0 w g gl c s C sure K)(pos:Int)(p0: -9223372036854775808<=pos)(p1:pos<=9223372036854775807):
  Calls Tryz.prog 181 #[.pointer (some ⟨gl,0,none⟩),.int .i64 pos] w (ReadR E w0 w g gl c s C sure K (q5g C pos)):=by
 have HK:=η h;obtain⟨F,v,σ,h1,h2⟩:=h;have Q:=η (z2D h1 h2.pl.up h2.pl.st);by_cases m0:pos<0
 ·have HA:=η (z6c (C:=C) m0)
  have hd:decide (pos<0)=true:=by simpa using m0
  clear h1 h2;go_enter Tryz.func181,Tryz.ntmps181;go_wp2_with fail;refine Q.o.mono ?_;rintro e w1 ⟨rfl,d⟩;have V:=η d;clear d;go_wp2_with fail;go_ret2;exact ReadR.no HK.o V.o HA.o
 obtain⟨n,hn⟩: ∃n:Nat,pos/4096=(n:Int):=⟨(pos/4096).toNat,by omega⟩
 obtain⟨a,ha⟩: ∃a:Nat,pos % 4096=(a:Int):=⟨(pos % 4096).toNat,by omega⟩
 have s0:pos=(n:Int)*4096+(a:Int):=by omega
 have E0:a<4096:=by omega
 have P0:(n:Int)<=2251799813685248:=by omega
 have hq:pos.tdiv 4096=(n:Int):=by rw[Int.tdiv_eq_ediv_of_nonneg (by omega)];exact hn
 have hm:pos.tmod 4096=(a:Int):=by rw[Int.tmod_eq_emod_of_nonneg (by omega)];exact ha
 have f0:=η (z3K (C:=C) s0 E0);have Q0:decide (pos<0)=false:=by simpa using m0
 have J0:=q0Y C;obtain⟨sa,sk,C0⟩:=q0I h1.l.row;rw[J0] at C0;subst C0;have I:=h1.l.c3;have O:=η I;clear s0;by_cases I0:C.length<=n
 ·have HA:Hd (q5g C pos=([],4)):=η (by rw[f0.o,List.getElem?_eq_none I0])
  have hd:decide ((C.length:Int)<=(n:Int))=true:=by simp;omega
  have hx:=O.o;clear h1 h2 I;go_enter Tryz.func181,Tryz.ntmps181;go_wp2_with fail;refine Q.o.mono ?_;rintro e w1 ⟨rfl,d⟩;have V:=η d;have I:=q0A d O.o;clear d;go_wp2_with fail;go_ret2;exact ReadR.no HK.o V.o HA.o
 have B0:n<C.length:=by omega
 obtain⟨ps,M⟩: ∃ps,C[n]? =some ps:=⟨C[n],γ B0⟩
 have H0:n<200:=by have:=h2.ok.few;omega
 obtain⟨b,T0,hv,g0,_⟩:=h1.cellAt M
 cases hv;have S0:q0H ps<=4096:=h2.ok.size ps (List.mem_of_getElem? M);have y:=q0U n ps;have u:=q3F h2.oth h2.ok.few M;rw[M] at f0;have O0:decide ((C.length:Int)<=(n:Int))=false:=by simp;omega
 have e0:=η g0;obtain⟨z,hz⟩: ∃z:Int,(q0H ps:Int)=z:=⟨_,rfl⟩
 rw[hz] at e0;have z0:0<=z:=by omega
 have z1:z<=4096:=by omega
 have a0:(0:Int)<=(a:Int):=by omega
 have a1:(a:Int)<=4095:=by omega
 by_cases h0:a<12\/q0H ps<a+12
 ·have HA:Hd (q5g C pos=([],4)):=η (by
   rw[f0.o];rcases h0 with h|h
   ·simp only[κ (show ¬12<=a by omega)]
   ·by_cases Z:12<=a
    ·simp only[ξ Z,q9N (q0L n ps) a (by omega)]
    ·simp only[κ Z])
  by_cases Z:a<12
  ·have y0:decide ((a:Int)<12)=true:=by simp;omega
   clear h1 h2 I g0 u y M h0 hz;go_enter Tryz.func181,Tryz.ntmps181;go_wp2_with fail;refine Q.o.mono ?_;rintro e w1 ⟨rfl,d⟩;have V:=η d;have I:=q0A d O.o;clear d;go_wp2_with fail;go_ret2;exact ReadR.no HK.o V.o HA.o
  ·have y0:decide ((a:Int)<12)=false:=by simp;omega
   have F0:decide (z-12<(a:Int))=true:=by simp;omega
   clear h1 h2 I g0 u y M h0 hz;go_enter Tryz.func181,Tryz.ntmps181;go_wp2_with fail;refine Q.o.mono ?_;rintro e w1 ⟨rfl,d⟩;have V:=η d;have I:=q0A d O.o;have cz:=q0A d e0.o;clear d;go_wp2_with fail;go_ret2;exact ReadR.no HK.o V.o HA.o
 have Z:12<=a:=by omega
 have R0:a+12<=q0H ps:=by omega
 have y0:decide ((a:Int)<12)=false:=by simp;omega
 have F0:decide (z-12<(a:Int))=false:=by simp;omega
 obtain⟨S,hS⟩: ∃S,q0L n ps=S:=⟨_,rfl⟩
 rw[hS] at y u;obtain⟨N,b0⟩: ∃N,q3k S a=N:=⟨_,rfl⟩
 have U:q1K (((S.drop a).take 4).take 8)=N:=by rw[Δ (by simp;omega),<-b0];rfl
 have L0:N<4294967296:=by
  rw[<-U];have:=q2H (((S.drop a).take 4).take 8);have h4:(((S.drop a).take 4).take 8).length=4:=by simp;omega
  rw[h4] at this;exact this
 have n0:=q2e (n:Int);have q0:=η (fun W=>q3Z (n:Int) W);have k0:=η (fun (W:World) (k:Ext w W)=>q5u (h1.grow k) h2 u n0 (a:Int) 4 a0 (by decide) (by rw[y];omega) (by rw[y];omega));have HG:=η (fun W=>q9I ((S.drop a).take 4) W (by simp;omega));rw[U] at HG;have e4:(4:Int).toNat=4:=rfl;simp only[Int.toNat_natCast,e4] at k0;have HH:=η h1;have HL:=η h2;have M0:a+12<=S.length:=by omega
 have HZ:=η hz;have x0:=η y;have o0:=η h1.l.c0;have d0:Hd (∀(W:World) (F':Nat->Prop) (τ:DM),LgF w0 W g gl F' (.slice (some ⟨b,0,none⟩) C.length sk) τ s (q0M C) sure K->W.cell? ⟨gl,0,none⟩=some (.pointer (some ⟨g,0,none⟩))/\W.cell? ⟨gl,3,none⟩=some (.slice (some ⟨b,0,none⟩) C.length sk)/\W.cell? ⟨b,n,none⟩=some (.int .i64 z)):=η fun W F' τ hW=>by
  obtain⟨b2,k2,e1,e2,_⟩:=hW.cellAt M
  cases e1;rw[hz] at e2;exact⟨hW.l.c0,hW.l.c3,e2⟩
 by_cases R:2000<N\/S.length<a+N+12
 ·have HA:Hd (q5g C pos=([],4)):=η (by
   rw[f0.o];have:q5A S a=none:=by
    unfold q5A isR;rw[b0];rcases R with h|h
    ·rw[ε (p:=N<=2000) (by omega)];simp
    ·rw[ε (p:=a+N+12<=S.length) (by omega)];simp
   simp only[ξ Z,hS,this])
  clear h1 h2 I g0 u y M h0 hz b0 U hS n0;by_cases i:2000<N
  ·have A0:decide ((2000:Int)<(N:Int))=true:=by simp;omega
   clear R;go_enter Tryz.func181,Tryz.ntmps181;go_wp2_with fail;refine Q.o.mono ?_;rintro e w1 ⟨rfl,d⟩;have V:=η d;have I:=q0A d O.o;have cz:=q0A d e0.o;clear d;go_wp2_with fail;refine(q0.o _).mono ?_;rintro e wa ⟨rfl,d⟩;have G:=η (V.o.trans d);clear d I cz;have c0:=q0A G.o o0.o;go_wp2_with fail;refine(k0.o _ G.o).mono ?_;rintro e wb ⟨rfl,⟨F',σ',j,i⟩,m⟩;have B:=η j;have X:=η i;have Y:=η ((HK.o.kExt G.o).trans m);clear j i m c0;go_wp2_with fail;refine(HG.o _).mono ?_;rintro e wc ⟨rfl,d⟩;have J:=η d;obtain⟨c0,I,cz⟩:=d0.o _ _ _ (B.o.grow d);clear d;go_wp2_with fail;go_ret2;exact⟨by rw[HA.o];rfl,⟨_,_,σ',B.o.grow J.o,X.o⟩,Y.o.trans (B.o.kExt J.o)⟩
  ·have A0:decide ((2000:Int)<(N:Int))=false:=by simp;omega
   have G0:decide (z-12-(a:Int)<(N:Int))=true:=by have:=HZ.o;have:=x0.o;simp;omega
   clear R;go_enter Tryz.func181,Tryz.ntmps181;go_wp2_with fail;refine Q.o.mono ?_;rintro e w1 ⟨rfl,d⟩;have V:=η d;have I:=q0A d O.o;have cz:=q0A d e0.o;clear d;go_wp2_with fail;refine(q0.o _).mono ?_;rintro e wa ⟨rfl,d⟩;have G:=η (V.o.trans d);clear d I cz;have c0:=q0A G.o o0.o;go_wp2_with fail;refine(k0.o _ G.o).mono ?_;rintro e wb ⟨rfl,⟨F',σ',j,i⟩,m⟩;have B:=η j;have X:=η i;have Y:=η ((HK.o.kExt G.o).trans m);clear j i m c0;go_wp2_with fail;refine(HG.o _).mono ?_;rintro e wc ⟨rfl,d⟩;have J:=η d;obtain⟨c0,I,cz⟩:=d0.o _ _ _ (B.o.grow d);clear d;go_wp2_with fail;go_ret2;exact⟨by rw[HA.o];rfl,⟨_,_,σ',B.o.grow J.o,X.o⟩,Y.o.trans (B.o.kExt J.o)⟩
 have A0:decide ((2000:Int)<(N:Int))=false:=by simp;omega
 have G0:decide (z-12-(a:Int)<(N:Int))=false:=by simp;omega
 have K0:(N:Int)<=2000:=by omega
 have D0:((N:Int)+12).toNat=N+12:=by omega
 have r0:=η (fun (W:World) (F':Nat->Prop) (τ:DM) (hW:LgF w0 W g gl F' (.slice (some ⟨b,0,none⟩) C.length sk) τ s (q0M C) sure K) (hp:Lgd E τ c s C sure)=>q5u hW hp u n0 (a:Int) ((N:Int)+12) a0 (by omega) (by rw[y];omega) (by rw[y];omega));simp only[Int.toNat_natCast,D0] at r0;obtain⟨T,hT⟩: ∃T,(S.drop a).take (N+12)=T:=⟨_,rfl⟩
 have N0:T.length=N+12:=by rw[<-hT];simp;omega
 rw[hT] at r0;have j0:=η (fun W=>q9K T 0 W (by omega) (by omega));have hcut:q5A T 0=(q5A S a).map fun r=>(r.1,r.2-a):=by
  have:=z7x (s:=S) (a:=a) (by rw[b0];omega);rw[b0,hT] at this;exact this
 rw[Int.natCast_zero] at j0
 cases hg:q5A S a with
 | none=>
  have HA:Hd (q5g C pos=([],4)):=η (by rw[f0.o];simp only[ξ Z,hS,hg]);have l0:z0V T 0= .tuple #[.string ⟨#[]⟩,.int .i64 0,.bool false]:=by unfold z0V;rw[hcut,hg];rfl
  rw[l0] at j0;clear h1 h2 I g0 u y M h0 hz b0 U hS n0 R hT hcut hg l0;go_enter Tryz.func181,Tryz.ntmps181;go_wp2_with fail;refine Q.o.mono ?_;rintro e w1 ⟨rfl,d⟩;have V:=η d;have I:=q0A d O.o;have cz:=q0A d e0.o;clear d;go_wp2_with fail;refine(q0.o _).mono ?_;rintro e wa ⟨rfl,d⟩;have G:=η (V.o.trans d);clear d I cz;have c0:=q0A G.o o0.o;go_wp2_with fail;refine(k0.o _ G.o).mono ?_;rintro e wb ⟨rfl,⟨F',σ',j,i⟩,m⟩;have B:=η j;have X:=η i;have Y:=η ((HK.o.kExt G.o).trans m);clear j i m c0;go_wp2_with fail;refine(HG.o _).mono ?_;rintro e wc ⟨rfl,d⟩;have J:=η d;obtain⟨c0,I,cz⟩:=d0.o _ _ _ (B.o.grow d);clear d;go_wp2_with fail;refine(r0.o _ _ _ (B.o.grow J.o) X.o).mono ?_;rintro e wd ⟨rfl,⟨F2,v0,j,i⟩,m⟩;have i0:=η j;have t0:=η i;have u0:=η ((Y.o.trans (B.o.kExt J.o)).trans m);clear j i m c0 I cz;go_wp2_with fail;refine(j0.o _).mono ?_;rintro e we ⟨rfl,d⟩;have HE:=η d;clear d;go_wp2_with fail;go_ret2;exact⟨by rw[HA.o];rfl,⟨_,_,v0,i0.o.grow HE.o,t0.o⟩,u0.o.trans (i0.o.kExt HE.o)⟩
 | some r=>
  obtain⟨q,e⟩:=r;have HA:Hd (q5g C pos=(q,0)):=η (by rw[f0.o];simp only[ξ Z,hS,hg]);have l0:z0V T 0= .tuple #[.string ⟨q.toArray⟩,.int .i64 ((e-a:Nat):Int),.bool true]:=by unfold z0V;rw[hcut,hg];rfl
  rw[l0] at j0;generalize ((e-a:Nat):Int)=ea at*;clear h1 h2 I g0 u y M h0 hz b0 U hS n0 R hT hcut hg l0;go_enter Tryz.func181,Tryz.ntmps181;go_wp2_with fail;refine Q.o.mono ?_;rintro e w1 ⟨rfl,d⟩;have V:=η d;have I:=q0A d O.o;have cz:=q0A d e0.o;clear d;go_wp2_with fail;refine(q0.o _).mono ?_;rintro e wa ⟨rfl,d⟩;have G:=η (V.o.trans d);clear d I cz;have c0:=q0A G.o o0.o;go_wp2_with fail;refine(k0.o _ G.o).mono ?_;rintro e wb ⟨rfl,⟨F',σ',j,i⟩,m⟩;have B:=η j;have X:=η i;have Y:=η ((HK.o.kExt G.o).trans m);clear j i m c0;go_wp2_with fail;refine(HG.o _).mono ?_;rintro e wc ⟨rfl,d⟩;have J:=η d;obtain⟨c0,I,cz⟩:=d0.o _ _ _ (B.o.grow d);clear d;go_wp2_with fail;refine(r0.o _ _ _ (B.o.grow J.o) X.o).mono ?_;rintro e wd ⟨rfl,⟨F2,v0,j,i⟩,m⟩;have i0:=η j;have t0:=η i;have u0:=η ((Y.o.trans (B.o.kExt J.o)).trans m);clear j i m c0 I cz;go_wp2_with fail;refine(j0.o _).mono ?_;rintro e we ⟨rfl,d⟩;have HE:=η d;clear d;go_wp2_with fail;go_ret2;exact⟨by rw[HA.o];rfl,⟨_,_,v0,i0.o.grow HE.o,t0.o⟩,u0.o.trans (i0.o.kExt HE.o)⟩
end
section
variable {E :Oth}{w0 w:World}{g gl:Nat}{F K:Nat->Prop}{v:Value}{σ:DM}{c s sure:Int}{C:Cks}{xs:List Int}
theorem LgF.push{y:World}(h:LgF w0 w3 g gl F v σ s xs sure K)(u:Ext w3 y){z:Int}{d:Value}(m:w'.ownsRow 0 3 1 d (xs.length+1) (xs.map (Value.int .i64)++[.int .i64 z]))(b:y.grownBy w' v.ownBlock)
  (j:d.ownBlock=v.ownBlock\/d.ownBlock=some y.heap.size):
  LgF w0 (w'.setCell ⟨gl,3,none⟩ d) g gl F d σ s (xs++[z]) sure K/\Stay K w3 (w'.setCell ⟨gl,3,none⟩ d):=by
 have G:=h.l.blk.lt;have I:=u.size;have q:d.ownBlock≠some gl:=fun e=>by
  rcases j with h1|h1
  ·exact h.l.apart (h1.symm.trans e)
  ·rw[h1] at e;cases e;omega
 have B:Blk w' gl 226 #[.pointer (some ⟨g,0,none⟩),.int .i64 s,.bool false,v,.int .i64 sure]:=(h.l.blk.ext u).same (b.block gl (by omega) fun e=>h.l.apart e.symm);refine h.log ⟨B.set 3 d,?_⟩ (((OffS.of_ext u).trans (OffS.grown b fun i e=> .inr e)).trans (OffS.set w' (.inl rfl) 3 d)) fun i o=>?_
 ·rw[θ,List.map_append]
  exact q1F m d q
 ·rcases j with h1|h1
  ·exact .inl (h1.symm.trans o)
  ·right;rw[h1] at o;cases o;exact I
theorem LgF.pushed{m:World}(h:LgF w0 w3 g gl F v σ s xs sure K)(d:Ext w3 m)(b:m.grownBy w' v.ownBlock):Stay K w3 w'/\w'.cell? ⟨gl,3,none⟩=some v/\w'.frozen? ⟨gl,3,none⟩=false:=by
 have q:=h.l.blk.lt;have u:=d.size;have j:Blk w' gl 226 #[.pointer (some ⟨g,0,none⟩),.int .i64 s,.bool false,v,.int .i64 sure]:=(h.l.blk.ext d).same (b.block gl (by omega) fun e=>h.l.apart e.symm);refine⟨fun i o=>?_,j.cell 3,j.free 3⟩;obtain⟨h1,_,h2⟩:=h.k i o;exact(b.block i (by omega) fun e=>h2 (.inr e.symm)).trans (d.block i h1)
theorem z7P(h:LgF w0 w g gl F v σ s (q0M C) sure K)(d:Lgd E σ c s C sure)(R:List UInt8)(I:R.length<=2012)(y:200<=C.length\/c-(q0f C:Int)-((R.length:Int)+12)<6000):
  Calls Tryz.prog 150 #[.pointer (some ⟨gl,0,none⟩),.int .i64 (C.length:Int),.string ⟨R.toArray⟩] w fun e w'=>e= .returned (.tuple #[.int .i64 0,.int .i64 60])/\Ext w w':=by
 obtain⟨j,m⟩:=h.room0 d;have q:=d.ok.few;have i:=η (fun (W:World) (k:Ext w W)=>z3S (h.grow k) d.free j m (12+(R.length:Int)) (by omega) (by omega));by_cases J:200<=C.length
 ·have G:decide ((200:Int)<=(C.length:Int))=true:=by simp;omega
  clear h d i j m y;go_enter Tryz.func150,Tryz.ntmps150;go_wp2_with fail;go_ret2;exact⟨rfl,q8M w _ _ _⟩
 ·have G:decide ((200:Int)<=(C.length:Int))=false:=by simp;omega
  have b:decide ((6000:Int)<=c-(q0f C:Int)-(12+(R.length:Int)))=false:=by simp;omega
  rw[b] at i;clear h d j m y b;go_enter Tryz.func150,Tryz.ntmps150;go_wp2_with fail;refine(i.o _ (q8M w _ _ _)).mono ?_;rintro e w1 ⟨rfl,u⟩;have B:=η ((q8M w _ _ _).trans u);clear u;go_wp2_with fail;go_ret2;exact⟨rfl,B.o⟩
theorem z9J(h:LgF w0 w g gl F v σ s (q0M C) sure K)(hl:Lgd E σ c s C sure)(hp:p.length<=2000)(hn:C.length<200)(y0: ∀ps∈C,ps≠[])(hr:6000<=c-(q0f C:Int)-((p.length:Int)+24)):
  Calls Tryz.prog 150 #[.pointer (some ⟨gl,0,none⟩),.int .i64 (C.length:Int),.string ⟨(q2A p).toArray⟩] w fun e w'=>
   e= .returned (.tuple #[.int .i64 ((C.length:Int)*4096+12),.int .i64 0])/\LgK E w0 w' g gl c s (C++[[p]]) (q0g C sure) K/\Stay K w w':=by
 obtain⟨r0,r1⟩:=h.room0 hl;have p0:=q0d p;have HR:=η (fun (W:World) (k:Ext w W)=>z3S (h.grow k) hl.free r0 r1 (12+((q2A p).length:Int)) (by omega) (by omega));have hd:decide ((200:Int)<=(C.length:Int))=false:=by simp;omega
 have x0:decide ((6000:Int)<=c-(q0f C:Int)-(12+((q2A p).length:Int)))=true:=by simp;omega
 rw[x0] at HR;obtain⟨W0,y⟩: ∃W0,((w.alloc (.cells #[.pointer (some ⟨gl,0,none⟩)] 128)).alloc (.cells #[.int .i64 (C.length:Int)] 3)).alloc (.cells #[.string ⟨(q2A p).toArray⟩] 9)=W0:=⟨_,rfl⟩
 have c0:Hd (Ext w W0):=η (by rw[<-y];exact q8M w _ _ _);have J:Hd (∀W,Ext W0 W->W.cell? ⟨w.heap.size,0,none⟩=some (.pointer (some ⟨gl,0,none⟩))/\W.cell? ⟨w.heap.size+1,0,none⟩=some (.int .i64 (C.length:Int))/\W.cell? ⟨w.heap.size+1+1,0,none⟩=some (.string ⟨(q2A p).toArray⟩)):=η fun W hW=>by
  rw[<-y] at hW;have b1:=(((Blk.new w 128 #[.pointer (some ⟨gl,0,none⟩)]).ext (q2U _ (.cells #[.int .i64 (C.length:Int)] 3) (.cells #[.string ⟨(q2A p).toArray⟩] 9))).ext hW).cell 0;have b2:=(((Blk.new (w.alloc (.cells #[.pointer (some ⟨gl,0,none⟩)] 128)) 3 #[.int .i64 (C.length:Int)]).ext (q0B _ (.cells #[.string ⟨(q2A p).toArray⟩] 9))).ext hW).cell 0;have b3:=((Blk.new ((w.alloc (.cells #[.pointer (some ⟨gl,0,none⟩)] 128)).alloc (.cells #[.int .i64 (C.length:Int)] 3)) 9 #[.string ⟨(q2A p).toArray⟩]).ext hW).cell 0;rw[ρ] at b2;rw[ρ,ρ] at b3;exact⟨b1,b2,b3⟩
 have N0:Hd (W0.heap.size=w.heap.size+1+1+1):=η (by rw[<-y];simp);have HK:=η (show LgK E w0 w g gl c s C sure K from⟨F,v,σ,h,hl⟩);have I0:=η y0
 have i0:Hd (q0g C sure<=(C.length:Int)*4096/\q0g C sure<=q2g (C++[[p]])):=η (by
  have h1:=q7f hl;have h2:=z1X hl.ok;rw[q0y]
  omega)
 clear y0;have h0:=η hp;have g0:=η hn;have H0:=η hr;have l0:=η p0;have T0: ∀(fn:Fn) (first cap:Array Value) (w:World),(Instr.makeFunc fn first cap).run Tryz.prog w= .ok (.func fn first cap) w:=fun _ _ _ _=>rfl
 have s0:(q2A p).length<=2012:=by omega
 clear h hl r0 r1 hr x0 hp p0;obtain⟨R,hR⟩: ∃R,q2A p=R:=⟨_,rfl⟩
 rw[hR] at HR y J l0 s0⊢;have k0:=η hR;clear hR;go_enter Tryz.func150,Tryz.ntmps150;obtain⟨a0,a1,a2⟩:=J.o W0 (Ext.refl _);go_wp2_with fail
 try rw[y]
 clear y a0 a1 a2;refine(HR.o _ c0.o).mono ?_;rintro e w1 ⟨rfl,hb⟩;obtain⟨q0,q1,q2⟩:=J.o _ hb;have HB:=η hb;clear hb;go_wp2_with fail
 obtain⟨cs, G⟩: ∃cs:Array Value,#[Value.func (Fn.func 168) #[Value.pointer (some ⟨gl,0,none⟩)] #[],Value.func (Fn.func 210) #[] #[Value.pointer (some ⟨w.heap.size,0,none⟩),Value.pointer (some ⟨w.heap.size+1,0,none⟩)],
       Value.func (Fn.func 212) #[] #[Value.pointer (some ⟨w.heap.size,0,none⟩),Value.pointer (some ⟨w.heap.size+1,0,none⟩),Value.pointer (some ⟨w.heap.size+1+1,0,none⟩)]]=cs:=⟨_,rfl⟩
 rw[G];obtain⟨Q,B⟩: ∃Q,w1.alloc (.cells cs 90)=Q:=⟨_,rfl⟩
 have Y:Ext w1 Q:=by rw[<-B];exact q0B _ _
 have Q0:Q.heap.size=w1.heap.size+1:=by rw[<-B];simp
 have C0:=HB.o.size;rw[N0.o] at C0;have N:Blk Q w1.heap.size 90 cs:=by rw[<-B];exact Blk.new _ _ _
 rw[B];have d0:=η ((c0.o.trans HB.o).trans Y);have hK':=HK.o.more (K':=fun i=>K i\/(w.heap.size<=i/\i<Q.heap.size)) d0.o (fun i X=>X);have O0:=η (HK.o.kExt d0.o);obtain⟨r0,r1,r2⟩:=J.o _ (HB.o.trans Y);rw[<-k0.o] at r2;have t0:=y0i hK' g0.o h0.o (by have:=H0.o;omega) (b:=w1.heap.size) (bl:=w.heap.size) (bn:=w.heap.size+1) (br:=w.heap.size+1+1) (.inr ⟨by omega,by omega⟩) (.inr ⟨by omega,by omega⟩) (.inr ⟨by omega,by omega⟩) (.inr ⟨by omega,by omega⟩)
  (by rw[N.cell 0,<-G];rfl) (by rw[N.cell 1,<-G];rfl) (by rw[N.cell 2,<-G];rfl) r0 r1 r2
 have q:Hd (w.heap.size<Q.heap.size/\w.heap.size+1+1<Q.heap.size):=η ⟨by omega,by omega⟩;have V:=r2;rw[k0.o] at V;have M0:=η V;have K0:=η r0;have L0:=η r1;clear G B N Y Q0 C0 r0 r1 r2 hK' q0 q1 q2 V;refine t0.mono ?_;rintro e w3 ⟨rfl,h3,d⟩;clear t0;obtain⟨F3,v3,S0,h3,o0,A0,B0⟩:=h3;have e0:=q0Z d (.inr ⟨ι _,q.o.1⟩) K0.o;have e2:=q0Z d (.inr ⟨by omega,q.o.2⟩) M0.o;have e1:=η (q0Z d (.inr ⟨by omega,by have:=q.o.2;omega⟩) L0.o);have m:=h3.l.row;obtain⟨a,k,rfl⟩:=q0I m;have e3:=h3.l.c3;have z3:=h3.l.blk.free 3;have b0:=q0Y C;rw[b0] at m e3 h3;have R0:IntKind.i64.wrap (12+(R.length:Int))=(q0H [p]:Int):=by
  rw[q4d,<-l0.o,ν];omega
 obtain⟨z,hz⟩: ∃z:Int,(q0H [p]:Int)=z:=⟨_,rfl⟩
 rw[hz] at R0;obtain⟨wl,D0⟩: ∃wl,(w3.alloc (.cells #[.int .i64 z] 3)).drew=wl:=⟨_,rfl⟩
 have u:Hd (Ext w3 wl):=η (by rw[<-D0];exact(q0B w3 _).drew);have j0:Hd (Rd wl (some ⟨w3.heap.size,0,none⟩) [.int .i64 z]):=η (by rw[<-D0];exact Rd.lit w3 #[.int .i64 z] 3);have m0:Hd (wl.ownsRow 0 3 1 (.slice a C.length k) C.length ((q0M C).map (Value.int .i64))):=η (q0N m u.o);have HZ:=η hz;have H3:=η h3;have S:=η (And.intro o0 (And.intro A0 B0));have n0:=η d;have F0:=η b0;have P0:=g0.o;have f0:=q0A u.o e0;have f2:=q0A u.o e2;have f3:=q0A u.o e3;clear hz h3 o0 A0 B0 d b0 m hd;generalize z0:C.length=n at*;have HN:=η z0;clear z0
 have U:Hd (∀(w':World) (M:Option Addr) (k':Nat),w'.ownsRow 0 3 1 (.slice M (n+1) k') (n+1) ((q0M C).map (Value.int .i64)++[.int .i64 z])->wl.grownBy w' (Value.slice a n k).ownBlock->((Value.slice M (n+1) k').ownBlock=(Value.slice a n k).ownBlock\/(Value.slice M (n+1) k').ownBlock=some wl.heap.size)->
   LgK E w0 (w'.setCell ⟨gl,3,none⟩ (.slice M (n+1) k')) g gl c s (C++[[p]]) (q0g C sure) K/\Stay K w (w'.setCell ⟨gl,3,none⟩ (.slice M (n+1) k'))/\(w'.setCell ⟨gl,3,none⟩ (.slice M (n+1) k')).cell? ⟨w.heap.size+1,0,none⟩=some (.int .i64 (n:Int))):=η fun w' M k' h1 h2 h3=>by
  have hp:=H3.o.push u.o (by rw[F0.o];exact h1) h2 h3;refine⟨⟨F3,.slice M (n+1) k',S0,?_,⟨S.o.2.1,HK.o.le.1.more h0.o (by rw[HN.o];exact P0) I0.o,S.o.1,by rw[θ,List.length_singleton,HN.o];exact Sur.less S.o.2.2 i0.o.1,i0.o.2⟩⟩,O0.o.trans (Stay.trans (K:=K) (fun i X=>n0.o i (.inl X)) fun i X=>hp.2 i (.inl X)),q0Z hp.2 (.inr ⟨by omega,by have:=q.o.2;omega⟩) e1.o⟩;rw[q1q,HZ.o];exact hp.1.beside fun i X=> .inl X
 go_wp2_with fail
 go_region_law
  (refine q1r rfl (.tmp 33) (.tmp 37) 37 rfl 0 3 _ 1 8 Tryz.underlying37 Tryz.infoI (by decide) (by decide) (.slice a n k) n ((q0M C).map (Value.int .i64)) rfl m0.o (some ⟨w3.heap.size,0,none⟩) 1 1 [.int .i64 z] rfl rfl (fun h=>by cases h) j0.o (by simp[Value.oneCell']) (by unfold maxLen;omega) (by omega) (υ _) ?_;intro v' w' I j v0;have J0:=η I;have G0:=η j;have E0:=η v0;obtain⟨q1,q2,q3⟩:=H3.o.pushed u.o j;have u0:=q0Z q1 (.inr ⟨ι _,q.o.1⟩) e0;have u2:=q0Z q1 (.inr ⟨by omega,q.o.2⟩) e2;obtain⟨M,k',rfl⟩:=q0I I;clear I j v0 q1)
 all_goals
  have Z:=U.o _ _ _ J0.o G0.o E0.o;have O:=η Z;have u1:=Z.2.2;clear Z;go_wp2_with fail;go_ret2;exact⟨by rw[HN.o];rfl,O.o.1,O.o.2.1⟩
end
section
variable {E :Oth}{w0 w:World}{g gl:Nat}{F K:Nat->Prop}{v:Value}{σ:DM}{c s sure:Int}{C:Cks}{xs:List Int}
def AppR(E:Oth)(w0 w:World)(g gl:Nat)(c s:Int)(C:Cks)(sure:Int)(K:Nat->Prop)(p:List UInt8)(e:Ending)(w':World):Prop:=
 e= .returned (.tuple #[.int .i64 (q1C (c-(q0f C:Int)) C p).1,.int .i64 (q1C (c-(q0f C:Int)) C p).2.1])/\
 LgK E w0 w' g gl c s (q1C (c-(q0f C:Int)) C p).2.2 (q3p (c-(q0f C:Int)) sure C p) K/\Stay K w w'
theorem AppR.same{r:Int}(h:LgK E w0 w g gl c s C sure K)(k:Ext w w')(d:q1C (c-(q0f C:Int)) C p=(0,r,C))(b:r≠0):AppR E w0 w g gl c s C sure K p (.returned (.tuple #[.int .i64 0,.int .i64 r])) w':=by
 unfold AppR q3p;rw[d,κ (fun h=>b h.1)];exact⟨rfl,h.grow k,h.kExt k⟩
theorem AppR.pre{e:Ending}(h:LgK E w0 w g gl c s C sure K)(k:Ext w w1)(h1:AppR E w0 w1 g gl c s C sure K p e w'):AppR E w0 w g gl c s C sure K p e w':=
 ⟨h1.1,h1.2.1,(h.kExt k).trans h1.2.2⟩
theorem q9x(h:2000<p.length):q1C fr C p=(0,3,C):=by unfold q1C;rw[ξ h]
theorem q5N(h:p.length<=2000)(b:q3w C p=true)(d:fr-((p.length:Int)+12)<6000):q1C fr C p=(0,60,C):=by
 unfold q1C;rw[κ (by omega),ξ b,ξ d]
theorem q6r(h:p.length<=2000)(b:q3w (D++[ps]) p=true)(d:6000<=fr-((p.length:Int)+12)):q1C fr (D++[ps]) p=((D.length:Int)*4096+(q0H ps:Int),0,D++[ps++[p]]):=by
 unfold q1C;rw[κ (by omega),ξ b,κ (by omega),q0y];simp
theorem q5O(h:p.length<=2000)(b:q3w C p=false)(d:200<=C.length\/fr-((p.length:Int)+24)<6000):q1C fr C p=(0,60,C):=by
 unfold q1C;rw[κ (by omega),κ (by rw[b];decide),ξ d]
theorem q6q(h:p.length<=2000)(b:q3w C p=false)(d:¬(200<=C.length\/fr-((p.length:Int)+24)<6000)):q1C fr C p=((C.length:Int)*4096+12,0,C++[[p]]):=by
 unfold q1C;rw[κ (by omega),κ (by rw[b];decide),κ d]
theorem q8O(D:Cks)(ps:List (List UInt8))(p:List UInt8):q3w (D++[ps]) p=decide (q0H ps+(p.length+12)<=4096):=by unfold q3w;simp
theorem y0l(h:LgK E w0 w g gl c s C sure K)(m:p.length<=2000)(d:q3w C p=false):
  Calls Tryz.prog 150 #[.pointer (some ⟨gl,0,none⟩),.int .i64 (C.length:Int),.string ⟨(q2A p).toArray⟩] w (AppR E w0 w g gl c s C sure K p):=by
 obtain⟨F,v,σ,h1,h2⟩:=h;by_cases u:200<=C.length\/c-(q0f C:Int)-((p.length:Int)+24)<6000
 ·refine(z7P h1 h2 (q2A p) (by rw[q0d];omega) (by rw[q0d];omega)).mono ?_
  rintro e w' ⟨rfl,k⟩;exact AppR.same ⟨F,v,σ,h1,h2⟩ k (q5O m d u) (by decide)
 ·refine(z9J h1 h2 m (by omega) (fun ps b e=>?_) (by omega)).mono ?_
  ·subst e
   rcases List.eq_nil_or_concat C with i|⟨D,B,i⟩
   ·rw[i] at b;cases b
   ·rw [List.concat_eq_append] at i
    subst i;rcases List.mem_append.1 b with h3|h3
    ·exact h2.ok.full [] (by simpa using h3) rfl
    ·have h4:=List.mem_singleton.1 h3
     subst h4;unfold q3w at d;simp[q0H] at d;omega
  rintro e w' ⟨rfl,k1,y⟩;have q:=q6q m d u;have o:q3p (c-(q0f C:Int)) sure C p=q0g C sure:=by
   unfold q3p q0g;rw[q];by_cases j:C=[]
   ·rw[ξ j,κ (fun h=>h.2.2 j)]
   ·rw[κ j,ξ ⟨rfl,d,j⟩]
  unfold AppR;rw[o,q];exact⟨rfl,k1,y⟩
theorem z9K(h:LgK E w0 w g gl c s (D++[ps]) sure K)(d:p.length<=2000)(b:q3w (D++[ps]) p=true):
  Calls Tryz.prog 149 #[.pointer (some ⟨gl,0,none⟩),.int .i64 (D.length:Int),.string ⟨(q2A p).toArray⟩] w (AppR E w0 w g gl c s (D++[ps]) sure K p):=by
 obtain⟨F,v,σ,h1,h2⟩:=h;by_cases j:c-(q0f (D++[ps]):Int)-((p.length:Int)+12)<6000
 ·refine(z4y h1 h2 (D.length:Int) (q2A p) (by rw[q0d];omega) (by rw[q0d];omega)).mono ?_
  rintro e w' ⟨rfl,k⟩;exact AppR.same ⟨F,v,σ,h1,h2⟩ k (q5N d b j) (by decide)
 ·have m:q0H ps+(p.length+12)<=4096:=by rw[q8O] at b;exact of_decide_eq_true b
  refine(z7Q h1 h2 d m (by omega)).mono ?_;rintro e w' ⟨rfl,k1,o⟩;have i:=q6r (fr:=c-(q0f (D++[ps]):Int)) d b (by omega);unfold AppR q3p;rw[i,κ (fun h=>by rw[b] at h;exact absurd h.2.1 (by decide))];exact⟨rfl,k1,o⟩
theorem z7M(h:LgK E w0 w g gl c s C sure K)(p:List UInt8)(b0:p.length<=9223372036854775807):
  Calls Tryz.prog 88 #[.pointer (some ⟨gl,0,none⟩),.string ⟨p.toArray⟩] w (AppR E w0 w g gl c s C sure K p):=by
 have HK:=η h;obtain⟨F,v,σ,h1,h2⟩:=h;have G:=η (z2D h1 h2.pl.up h2.pl.st);by_cases hp:2000<p.length
 ·have q:=η (fun W=>z6X p W hp b0)
  have HA:=η (q9x (C:=C) (fr:=c-(q0f C:Int)) hp);clear h1 h2 hp;go_enter Tryz.func88,Tryz.ntmps88;go_wp2_with fail;refine G.o.mono ?_;rintro e w1 ⟨rfl,i⟩;have O:=η i;clear i;go_wp2_with fail;refine(q.o _).mono ?_;rintro e w2 ⟨rfl,rfl⟩;go_wp2_with fail;go_ret2;exact AppR.same HK.o O.o HA.o (by decide)
 have I:p.length<=2000:=by omega
 have q:=η (fun W=>z8a p W I);have J:=h2.ok.few;have m:=η (fun (W:World) (k:Ext w W) (y:q3w C p=false)=>(y0l (HK.o.grow k) I y).mono fun e w' h=>AppR.pre HK.o k h);by_cases hC:C=[]
 ·subst hC
  have j:=η (fun (W:World) (k:Ext w W)=>m.o W k rfl);have Y:=h1.l.c3;obtain⟨a,k,rfl⟩:=q0I h1.l.row;have e0:(q0M ([]:Cks)).length=0:=rfl;have B:=η Y;clear m h1 h2 hp Y;generalize U:q2A p=R at*;clear U;unfold AppR at j⊢;generalize (q1C (c-(q0f []:Int)) [] p)=X at*;go_enter Tryz.func88,Tryz.ntmps88;go_wp2_with fail;refine G.o.mono ?_;rintro e w1 ⟨rfl,i⟩;have O:=η i;clear i;go_wp2_with fail;refine(q.o _).mono ?_;rintro e w2 ⟨rfl,i⟩;have d:=η (O.o.trans i);clear i;have Y:=q0A d.o B.o;rw[e0] at Y;go_wp2_with fail;refine(j.o _ d.o).mono ?_;rintro e w3 ⟨rfl,h3⟩;have Z:=η h3;clear h3;go_wp2_with fail;go_ret2;exact⟨rfl,Z.o⟩
 obtain⟨D,ps,rfl⟩:=q8v hC;clear hC;obtain⟨b,k,rfl,V,_⟩:=h1.last;have c0:q0H ps<=4096:=h2.ok.size ps (by simp);have S:D.length+1<=200:=by simpa using J
 obtain⟨z,hz⟩: ∃z:Int,(q0H ps:Int)=z:=⟨_,rfl⟩
 rw[hz] at V;have z0:0<=z:=by omega
 have z1:z<=4096:=by omega
 have B:=η h1.l.c3;have a0:=η V;have HF:=η (fun W=>y0s z p W z0 z1 I);have M:decide ((p.length:Int)+12<=4096-z)=q3w (D++[ps]) p:=by rw[q8O,decide_eq_decide];omega
 rw[M] at HF;have Q:=η (fun (W:World) (k:Ext w W) (y:q3w (D++[ps]) p=true)=>(z9K (HK.o.grow k) I y).mono fun e w' h=>AppR.pre HK.o k h);have N:(D++[ps]).length=D.length+1:=by simp
 rw[N] at m;have d0:(D.length:Int)<=199:=by omega
 have u:(((D.length+1:Nat)):Int)=(D.length:Int)+1:=by omega
 rw[u] at m;generalize U:q2A p=R at*;clear U h1 h2 hp hz c0 M V J S N u;generalize (q1C (c-(q0f (D++[ps]):Int)) (D++[ps]) p)=X at*
 cases y:q3w (D++[ps]) p with
 | true=>
  rw[y] at HF;have j:=η (fun (W:World) (k:Ext w W)=>Q.o W k y);clear m Q y;unfold AppR at j⊢;go_enter Tryz.func88,Tryz.ntmps88;go_wp2_with fail;refine G.o.mono ?_;rintro e w1 ⟨rfl,i⟩;have O:=η i;clear i;go_wp2_with fail;refine(q.o _).mono ?_;rintro e w2 ⟨rfl,i⟩;have d:=η (O.o.trans i);clear i;have Y:=q0A d.o B.o;have cz:=q0A d.o a0.o;go_wp2_with fail;refine(HF.o _).mono ?_;rintro e w3 ⟨rfl,rfl⟩;go_wp2_with fail;refine(j.o _ d.o).mono ?_;rintro e w3 ⟨rfl,h3⟩;have Z:=η h3;clear h3;go_wp2_with fail;go_ret2;exact⟨rfl,Z.o⟩
 | false=>
  rw[y] at HF;have j:=η (fun (W:World) (k:Ext w W)=>m.o W k y);clear m Q y;unfold AppR at j⊢;go_enter Tryz.func88,Tryz.ntmps88;go_wp2_with fail;refine G.o.mono ?_;rintro e w1 ⟨rfl,i⟩;have O:=η i;clear i;go_wp2_with fail;refine(q.o _).mono ?_;rintro e w2 ⟨rfl,i⟩;have d:=η (O.o.trans i);clear i;have Y:=q0A d.o B.o;have cz:=q0A d.o a0.o;go_wp2_with fail;refine(HF.o _).mono ?_;rintro e w3 ⟨rfl,rfl⟩;go_wp2_with fail;refine(j.o _ d.o).mono ?_;rintro e w3 ⟨rfl,h3⟩;have Z:=η h3;clear h3;go_wp2_with fail;go_ret2;exact⟨rfl,Z.o⟩
end
theorem q6E : ∀(ps:List (List UInt8)) (a:Nat) (p:List UInt8),q1p a (ps++[p])=q1p a ps++[(a+(ps.map fun p=>p.length+12).sum,p)]
 |[],a,p=>by simp[q1p]
 | q::t,a,p=>by
  rw[List.cons_append,q1p,q6E t,q1p,List.cons_append,List.map_cons,List.sum_cons]
  congr 4;omega
theorem q1e(D:Cks)(ps:List (List UInt8)):q0c 0 (D++[ps])=q0c 0 D++q1p (4096*D.length+12) ps:=by
 rw[z0p,Nat.zero_add];simp[q0c]
theorem z1N{x:Int}{C b:Cks}(q: ∀ps∈C,q0H ps<=4096)(m:p.length<=2000)(h:q1C fr C p=(x,0,b)):
  ∃pos:Nat,x=(pos:Int)/\q0c 0 b=q0c 0 C++[(pos,p)]/\q2g b=(pos:Int)+(p.length:Int)+12/\q2g C<=(pos:Int)/\q0f b<=q0f C+(p.length+24)/\b.length<=C.length+1/\pos<=4096*C.length+12:=by
 by_cases j:q3w C p=true
 ·by_cases d:C=[]
  ·subst d;cases j
  ·obtain⟨D,ps,rfl⟩:=q8v d
   by_cases o:fr-((p.length:Int)+12)<6000
   ·rw[q5N m j o] at h;cases h
   ·rw [q6r m j (by omega)] at h
    cases h;refine⟨4096*D.length+q0H ps,by omega,?_,?_,?_,?_,by simp,by have:=q ps (by simp);rw[θ];simp only[χ,List.length_nil];omega⟩
    ·rw[q1e,q1e,q6E,List.append_assoc]
     congr 4
     unfold q0H;omega
    ·rw[q0y,q2J];omega
    ·rw[q0y];omega
    ·have h1:q0f (D++[ps++[p]])=q0f D+q0H (ps++[p]):=by simp[q0f,List.sum_append]
     have h2:q0f (D++[ps])=q0f D+q0H ps:=by simp[q0f,List.sum_append]
     rw[h1,h2,q2J];omega
 ·have i:q3w C p=false:=by simpa using j
  by_cases o:200<=C.length\/fr-((p.length:Int)+24)<6000
  ·rw[q5O m i o] at h;cases h
  ·rw [q6q m i o] at h
   cases h;refine⟨4096*C.length+12,by omega,?_,?_,?_,?_,by simp,ι _⟩
   ·rw[q1e];rfl
   ·rw[q0y,q4d];omega
   ·by_cases d:C=[]
    ·subst d;show(0:Int)<=_;omega
    ·obtain⟨D,ps,rfl⟩:=q8v d
     have:=q ps (by simp);rw[q0y,θ];simp only[χ,List.length_nil];omega
   ·have h1:q0f (C++[[p]])=q0f C+q0H [p]:=by simp[q0f,List.sum_append]
    rw[h1,q4d];omega
def z4t(x y:Nat×List UInt8):Prop:=x.1+x.2.length+12<=y.1
theorem z3O : ∀(ps:List (List UInt8)) (a:Nat),(q1p a ps).Pairwise z4t
 |[],_=>List.Pairwise.nil
 |p::t,a=>List.pairwise_cons.2 ⟨fun r b=>(q4E t _ r b).1,z3O t _⟩
theorem q5i : ∀(C:Cks) (b:Nat),(∀ps∈C,q0H ps<=4096)->(q0c b C).Pairwise z4t
 |[],_,_=>List.Pairwise.nil
 | ps::t,b,hs=>by
  rw[q0c,List.pairwise_append];refine⟨z3O ps _,q5i t _ fun q hq=>hs q (List.mem_cons_of_mem _ hq),fun x d y i=>?_⟩;have h1:=q4E ps _ x d;have h2:=q5h t _ (fun q hq=>hs q (List.mem_cons_of_mem _ hq)) y i;have h3:=hs ps (List.mem_cons_self);unfold q0H at h3;unfold z4t;omega
def z4D(A:List (Nat×List UInt8)):Nat:=match A.getLast? with|none=>0|some r=>r.1+r.2.length+12
theorem q5y(A:List (Nat×List UInt8))(r:Nat×List UInt8):z4D (A++[r])=r.1+r.2.length+12:=by unfold z4D;simp
theorem z7m(h:A.Pairwise z4t): ∀r∈A,r.1<z4D A:=fun r b=>by
 rcases List.eq_nil_or_concat A with rfl|⟨D,q,rfl⟩
 ·cases b
 ·rw [List.concat_eq_append] at*
  rw[q5y];rcases List.mem_append.1 b with h1|h1
  ·have:=(List.pairwise_append.1 h).2.2 r h1 q (by simp)
   unfold z4t at this;omega
  ·obtain rfl:=List.mem_singleton.1 h1;omega
theorem z7l(h:A.Pairwise z4t): ∀r∈A,r.1+r.2.length+12<=z4D A:=fun r b=>by
 rcases List.eq_nil_or_concat A with rfl|⟨D,q,rfl⟩
 ·cases b
 ·rw [List.concat_eq_append] at*
  rw[q5y];rcases List.mem_append.1 b with h1|h1
  ·have:=(List.pairwise_append.1 h).2.2 r h1 q (by simp)
   unfold z4t at this;omega
  ·obtain rfl:=List.mem_singleton.1 h1;omega
theorem q8J{C:Cks}(b: ∀ps∈C,ps≠[]):(z4D (q0c 0 C):Int)=q2g C:=by
 rcases List.eq_nil_or_concat C with rfl|⟨D,ps,rfl⟩
 ·rfl
 ·rw [List.concat_eq_append] at*
  have b:=b ps (by simp);rcases List.eq_nil_or_concat ps with rfl|⟨d,p,rfl⟩
  ·exact absurd rfl b
  ·rw[List.concat_eq_append] at*
   rw[q1e,q6E,<-List.append_assoc,q5y,q0y,q2J];unfold q0H;show((4096*D.length+12+(d.map fun p=>p.length+12).sum+p.length+12:Nat):Int)=_;omega
theorem z0K{C:Cks}(h:okC C):(z4D (q0c 0 C):Int)<=q2g C:=by
 rcases List.eq_nil_or_concat C with rfl|⟨D,ps,rfl⟩
 ·exact Int.le_refl _
 ·rw [List.concat_eq_append] at*
  have i: ∀b∈D,b≠[]:=fun b hq=>h.full b (by simpa using hq)
  rcases List.eq_nil_or_concat ps with rfl|⟨b,p,rfl⟩
  ·have h1:=q8J i
   have h2:q2g D<=(D.length:Int)*4096:=by
    rcases List.eq_nil_or_concat D with rfl|⟨E,b,rfl⟩
    ·exact Int.le_refl _
    ·rw[List.concat_eq_append] at*
     have:=h.size b (by simp);rw[q0y,θ,List.length_singleton];omega
   rw[q1e,show q1p (4096*D.length+12) []=[] from rfl,List.append_nil,q0y];omega
  ·rw[List.concat_eq_append] at*
   refine Int.le_of_eq (q8J fun j d=>?_);rcases List.mem_append.1 d with d|d
   ·exact i j d
   ·rw[List.mem_singleton.1 d];simp
theorem z0o : ∀(ps:List (List UInt8)) (a:Nat) (r:Nat×List UInt8),r∈q1p a ps-> ∃k,ps[k]? =some r.2/\r.1=a+((ps.take k).map fun p=>p.length+12).sum
 |[],_,r,h=>by cases h
 | p ::t,a,r,h=>by
  rw[q1p] at h;rcases List.mem_cons.1 h with rfl|h
  ·exact⟨0,rfl,by simp⟩
  ·obtain⟨k,h1,h2⟩:=z0o t _ r h
   exact⟨k+1,by rw[List.getElem?_cons_succ];exact h1,by rw[h2,List.take_succ_cons,List.map_cons,List.sum_cons];omega⟩
theorem z0q : ∀(C:Cks) (b:Nat) (r:Nat×List UInt8),r∈q0c b C-> ∃(n:Nat) (ps:List (List UInt8)) (k:Nat),C[n]? =some ps/\ps[k]? =some r.2/\r.1=b+4096*n+q0H (ps.take k)
 |[],_,r,h=>by cases h
 | ps ::t,b,r,h=>by
  rw[q0c] at h;rcases List.mem_append.1 h with h|h
  ·obtain⟨k,h1,h2⟩:=z0o ps _ r h
   exact⟨0,ps,k,rfl,h1,by rw[h2];unfold q0H;omega⟩
  ·obtain⟨n,d,k,h1,h2,h3⟩:=z0q t _ r h
   exact⟨n+1,d,k,by rw[List.getElem?_cons_succ];exact h1,h2,by rw[h3];omega⟩
theorem z6b{C:Cks}(h:okC C)(m:r∈q0c 0 C):q5g C (r.1:Int)=(r.2,0):=by
 obtain⟨n,ps,k,h1,h2,h3⟩:=z0q C 0 r m;have b:=List.mem_of_getElem? h1;have j:=h.pay ps b r.2 (List.mem_of_getElem? h2);have i:k<ps.length:=(List.getElem?_eq_some_iff.1 h2).1;have o:=h.size ps b;have h4:q0H (ps.take (k+1))<=q0H ps:=by
  unfold q0H
  conv=>rhs;rw[<-List.take_append_drop (k+1) ps,List.map_append,List.sum_append]
  omega
 have d:ps.take (k+1)=ps.take k++[r.2]:=by
  obtain⟨_,he⟩:=List.getElem?_eq_some_iff.1 h2;rw[List.take_succ_eq_append_getElem i,he]
 rw[d,q2J] at h4;rw[z3K (n:=n) (a:=q0H (ps.take k)) (by omega) (by omega),h1];show(match (if 12<=q0H (ps.take k) then q5A (q0L n ps) (q0H (ps.take k)) else none) with|none=>([],4)|some (p,_)=>(p,0))=(r.2,(0:Int));rw[ξ (by unfold q0H;omega),z8t n ps k r.2 h2 j]
theorem z8c{C:Cks}(h:okC C)(b:r∈q0c 0 C):r.1<=819200:=by
 have:=q5h C 0 h.size r b;have:=h.few;omega
end
end Go.Proofs.YtfiibpgoplcgkaaGreatDoor
