/- Walks. -/
import Derived.Test.YthdekbmdkpcooaaGreatDoorG30CT
import Derived.Test.YthdekbmdkpcooaaGreatDoorG4CT
set_option linter.unusedVariables false
set_option linter.unusedSimpArgs false
set_option maxRecDepth 100000
set_option maxHeartbeats 3200000
namespace Go.Proofs.YthdekbmdkpcooaaGreatDoor
theorem η31 {p:Prop} (h:p):Go.RowKit.Hid p:=Lib.hid h
section
open Go.RowKit
section
variable {E :Oth} {w0 w:World} {g gl:Nat} {F K:Nat→Prop} {v:Value} {σ:DM} {c s sure:Int} {C:Cks}
theorem LgF.setSure {xs:List Int} {sure:Int} (h:LgF w0 w g gl F v σ s xs sure K) (z:Int):LgF w0 (w.setCell ⟨gl,4,none⟩ (.int .i64 z)) g gl F v σ s xs z K∧Stay K w (w.setCell ⟨gl,4,none⟩ (.int .i64 z)):=
 h.log ⟨h.l.blk.set 4 (.int .i64 z),q0s h.l.row _ h.l.apart⟩ (OffS.set w (.inl rfl) 4 _) fun i hi=> .inl hi
theorem q8t {C:Cks} (h:C≠[]): ∃D ps,C=D++[ps]:=by
 rcases List.eq_nil_or_concat C with h1|⟨D,ps,h1⟩
 ·exact absurd h1 h
 ·exact ⟨D,ps,by rw[h1,List.concat_eq_append]⟩
theorem q8k (D:Cks) (ps:List (List UInt8)):(D++[ps])[D.length]? =some ps:=by simp
def q1T (C:Cks) (sure:Int):Int:=if C=[] then sure else q4r C
def LgV (E:Oth) (w0 w:World) (g gl:Nat) (v:Value) (c s:Int) (C:Cks) (sure:Int) (K:Nat→Prop):Prop:= ∃F σ,LgF w0 w g gl F v σ s (q0M C) sure K∧Lgd E σ c s C
theorem LgV.toK (h:LgV E w0 w g gl v c s C sure K):LgK E w0 w g gl c s C sure K:=by obtain ⟨F,σ,h1,h2⟩:=h;exact ⟨F,v,σ,h1,h2⟩
theorem LgK.toV (h:LgK E w0 w g gl c s C sure K): ∃v,LgV E w0 w g gl v c s C sure K:=by obtain ⟨F,v,σ,h1,h2⟩:=h;exact ⟨v,F,σ,h1,h2⟩
theorem z7X (h:LgF w0 w g gl F v σ s (q0M C) sure K) (hl:Lgd E σ c s C):
  Calls Tryz.prog 125 #[.pointer (some ⟨gl,0,none⟩)] w fun e w'=>e= .returned (.int .i64 0)∧LgV E w0 w' g gl v c s C (q1T C sure) K∧Stay K w w':=by
 have c0:=h.l.c0;have c3:=h.l.c3;obtain ⟨a,k,rfl,hx⟩:=h.l.slice;by_cases hC:C=[]
 ·subst hC
  have HK:Hid (LgV E w0 w g gl (.slice a (q0M []).length k) c s [] (q1T [] sure) K):=η31 ⟨F,σ,h,hl⟩;have e0:(q0M []).length=0:=rfl;clear h hl hx;go_enter Tryz.func125,Tryz.ntmps125;go_wp2_with fail;go_ret;exact ⟨rfl,HK.out,Stay.refl _ _⟩
 have HIf:Hid (q1T C sure=q4r C):=η31 (by unfold q1T;rw[if_neg hC]);have hCl:1≤C.length:=by cases C with|nil=>exact absurd rfl hC|cons=>simp
 obtain ⟨D,ps,hD⟩:=q8t hC;have hn:(q0M C).length=C.length:=q0b C;have h200:=hl.ok.few;rw[hn] at c3;obtain ⟨σ',hm,hp'⟩:=hl.pl.sync (q3U hl.oth h200 (by rw[hD];exact q8k D ps));have hnm:=q2n (D.length:Int)
 have HSY:=η31 (fun (wa:World) (k:Ext w wa)=>show Calls Tryz.prog 185 #[.pointer (some ⟨g,0,none⟩),.string ⟨(q0G 99 (D.length:Int)).toArray⟩] wa fun e w'=>e= .returned (.int .i64 0)∧DkS wa g F σ' w' by
  have:=z8U (h.d.ext k) (q0G 99 (D.length:Int)) hnm;rw[hm] at this
  exact this)
 have hM:IntKind.i64.wrap ((C.length:Int)-1)=(D.length:Int):=by
  have:C.length=D.length+1:=by rw[hD];simp
  rw[IntKind.wrap_i64];omega
 have HCH:=η31 (fun W=>q4J (D.length:Int) W);generalize q0G 99 (D.length:Int)=nm at*;obtain ⟨M,hMM⟩: ∃M:Int,(D.length:Int)=M:=⟨_,rfl⟩
 rw[hMM] at hM HCH;have HH:=η31 h;have HL:=η31 hl;have HP:=η31 hp';have hw:Ext w w.drew:=(Ext.refl w).drew;have HW:=η31 hw;have d0:=q0A hw c0;have d3:=q0A hw c3;have hC0:((C.length:Int)==0)=false:=by simpa using hC
 clear h hl hp' hm hx hD hMM hC hn hw;go_enter Tryz.func125,Tryz.ntmps125;go_wp2_with fail
 go_region_held3 (fun W=>W.cell? ⟨gl,0,none⟩=some (.pointer (some ⟨g,0,none⟩))∧W.cell? ⟨gl,3,none⟩=some (.slice a C.length k))
  (first|exact HS2.out|exact HS1.out|exact ⟨d0,d3⟩)
  (first
   |(go_at_call 91;refine (HCH.out _).mono ?_;rintro e wa ⟨rfl,h1⟩;have H1:=η31 (HW.out.trans h1);have HS1:=η31 (And.intro (q0A h1 d0) (q0A h1 d3));clear h1)
   |(go_at_call 185;refine (HSY.out _ H1.out).mono ?_;rintro e wb ⟨rfl,h2⟩;have h3:=(HH.out.grow H1.out).disk h2;have H3:=η31 h3;have HS2:=η31 (And.intro h3.1.l.c0 (q0b C▸h3.1.l.c3));clear h2 h3))
 all_goals
  have HE:=η31 (z9d H3.out.1.l HL.out.ok);have e4:=H3.out.1.l.c4;have z4:=H3.out.1.l.blk.free 4;have h4:=H3.out.1.setSure (q4r C);have HF:=η31 (show LgV E w0 (wb.setCell ⟨gl,4,none⟩ (.int .i64 (q4r C))) g gl _ c s C (q1T C sure) K from ⟨_,σ',by rw[HIf.out];exact h4.1,⟨HP.out,HL.out.ok,HL.out.oth⟩⟩);have HSt:=η31 ((HH.out.kExt H1.out).trans (H3.out.2.trans h4.2));clear h4;go_wp2_with fail;refine HE.out.mono ?_;rintro e w' ⟨rfl,rfl⟩;go_wp2_with fail;go_ret;exact ⟨rfl,HF.out,HSt.out⟩
theorem z8d (h:LgF w0 w g gl F v σ s (q0M C) sure K) (hl:Lgd E σ c s C):
  Calls Tryz.prog 125 #[.pointer (some ⟨gl,0,none⟩)] w fun e w'=>e= .returned (.int .i64 0)∧LgK E w0 w' g gl c s C (q1T C sure) K∧Stay K w w':=
 (z7X h hl).mono fun _ _ ⟨h1,h2,h3⟩=>⟨h1,h2.toK,h3⟩
end
end
section
open Go.RowKit
section
variable {E :Oth} {w0 w:World} {g gl:Nat} {F K:Nat→Prop} {v:Value} {σ:DM} {c s sure:Int} {C:Cks}
theorem Lgd.free (h:Lgd E σ c s C):z1A σ=c-(q0l C:Int):=by rw[h.pl.free,q7U];push_cast;omega
theorem Dk.okD {F:Nat→Prop} (h:Dk w g F σ):okD σ:=by obtain ⟨h1,_⟩:=h;exact h1
theorem LgF.room0 {xs:List Int} (h:LgF w0 w g gl F v σ s xs sure K) (hl:Lgd E σ c s C):0≤c-(q0l C:Int)∧c-(q0l C:Int)≤1048576:=by
 have ho:=h.d.okD;have h1:=hl.free;have h2:=ho.used;have h3:=ho.cap1;unfold z1A at h1;omega
theorem LgF.setRow {xs:List Int} (h:LgF w0 w g gl F v σ s xs sure K) {b k:Nat} (hv:v= .slice (some ⟨b,0,none⟩) xs.length k) (j:Nat) (z:Int):LgF w0 (w.setCell ⟨b,j,none⟩ (.int .i64 z)) g gl F v σ s (xs.set j z) sure K∧Stay K w (w.setCell ⟨b,j,none⟩ (.int .i64 z)):=by
 have hb:v.ownBlock=some b:=by rw[hv];rfl
 have hne:¬gl=b:=fun e=>h.l.apart (by rw[hb,e])
 refine h.log ⟨(OffS.set (F:=fun i=>i=b) w rfl j (.int .i64 z)).blk h.l.blk hne,?_⟩ (OffS.set w (.inr hb) j _) fun i hi=> .inl hi
 have:=z3V h.l.row hv (j:=j) (.int .i64 z);rw[List.length_set,List.map_set];exact this
theorem LgF.last {D:Cks} {ps:List (List UInt8)} (h:LgF w0 w g gl F v σ s (q0M (D++[ps])) sure K):
  ∃b k,v= .slice (some ⟨b,0,none⟩) (D.length+1) k∧w.cell? ⟨b,D.length,none⟩=some (.int .i64 (q0K ps:Int))∧w.frozen? ⟨b,D.length,none⟩=false:=by
 have hsl:(q0M (D++[ps])).length=D.length+1:=by rw[q0b];simp
 obtain ⟨b,k,h1,h2,h3,_⟩:=(Own.of_row h.l.row).cell (j:=D.length) (by rw[List.length_map,hsl];omega);have hlast:((q0M (D++[ps])).map (Value.int .i64))[D.length]'(by rw[List.length_map,hsl];omega)= .int .i64 (q0K ps:Int):=by
  rw[List.getElem_map]
  congr 1
  have:=q7L D ps;rw[List.getD_eq_getElem?_getD,List.getElem?_eq_getElem (by rw[hsl];omega)] at this;exact this
 rw[hlast] at h2;rw[hsl] at h1;exact ⟨b,k,h1,h2,h3⟩
theorem z4h (h:LgF w0 w g gl F v σ s (q0M C) sure K) (hl:Lgd E σ c s C) (n:Int) (R:List UInt8) (hR:R.length≤2012) (hr:c-(q0l C:Int)-(R.length:Int)<6000):
  Calls Tryz.prog 75 #[.pointer (some ⟨gl,0,none⟩),.int .i64 n,.string ⟨R.toArray⟩] w fun e w'=>e= .returned (.tuple #[.int .i64 0,.int .i64 60])∧Ext w w':=by
 obtain ⟨r0,r1⟩:=h.room0 hl;have HR:=η31 (z2M h hl.free r0 r1 (R.length:Int) (by omega) (by omega));have hd:decide ((6000:Int)≤c-(q0l C:Int)-(R.length:Int))=false:=by simp;omega
 rw[hd] at HR;clear h hl hd r0 r1 hr;go_enter Tryz.func75,Tryz.ntmps75;go_wp2_with fail;refine HR.out.mono ?_;rintro e w1 ⟨rfl,hb⟩;have HB:=η31 hb;clear hb;go_wp2_with fail;go_ret2;exact ⟨rfl,HB.out⟩
theorem z7Z {D:Cks} {ps:List (List UInt8)} {p:List UInt8} (h:LgF w0 w g gl F v σ s (q0M (D++[ps])) sure K) (hl:Lgd E σ c s (D++[ps])) (hp:p.length≤2000) (hs:q0K ps+(p.length+12)≤4096)
  (hr:6000≤c-(q0l (D++[ps]):Int)-((p.length:Int)+12)):
  Calls Tryz.prog 75 #[.pointer (some ⟨gl,0,none⟩),.int .i64 (D.length:Int),.string ⟨(q2H p).toArray⟩] w fun e w'=>
   e= .returned (.tuple #[.int .i64 ((D.length:Int)*4096+(q0K ps:Int)),.int .i64 0])∧LgK E w0 w' g gl c s (D++[ps++[p]]) sure K∧Stay K w w':=by
 obtain ⟨r0,r1⟩:=h.room0 hl;have h200:=hl.ok.few;have hD200:D.length+1≤200:=by simpa using h200
 have hRl:=q1E p;have HR:=η31 (z2M h hl.free r0 r1 ((q2H p).length:Int) (by omega) (by omega));have hd:decide ((6000:Int)≤c-(q0l (D++[ps]):Int)-((q2H p).length:Int))=true:=by simp;omega
 rw[hd] at HR;obtain ⟨σ',hm,hp'⟩:=hl.pl.append (t:=q2H p) (q3U hl.oth h200 (q8k D ps)) (by rw[q7U];push_cast;omega);rw[z4i hl.oth p (by omega)] at hp';have HP:Hid (Lgd E σ' c s (D++[ps++[p]])):=η31 ⟨hp',hl.ok.grow hp hs,hl.oth⟩;have hnm:=q2n (D.length:Int)
 have HAP:=η31 (fun (wa:World) (k:Ext w wa)=>show Calls Tryz.prog 123 #[.pointer (some ⟨g,0,none⟩),.string ⟨(q0G 99 (D.length:Int)).toArray⟩,.string ⟨(q2H p).toArray⟩] wa fun e w'=>e= .returned (.int .i64 0)∧DkS wa g F σ' w' by
  have:=z2K (h.d.ext k) (q0G 99 (D.length:Int)) (q2H p) hnm (by omega);rw[hm] at this
  exact this)
 have HCH:=η31 (fun W=>q4J (D.length:Int) W);have c0:=h.l.c0;have HC0:=η31 c0;have HH:=η31 h
 have HSz:Hid ((q0M (D++[ps])).set D.length ((q0K ps:Int)+((q2H p).length:Int))=q0M (D++[ps++[p]])):=η31 (by
  rw[←z3X D ps (ps++[p]),q2O,q1E];congr 1)
 have HRow:=η31 (fun (W:World) (F':Nat→Prop) (τ:DM) (hW:LgF w0 W g gl F' v τ s (q0M (D++[ps])) sure K)=>hW.last);have hsl:(q0M (D++[ps])).length=D.length+1:=by rw[q0b];simp
 have HSl:=η31 hsl;have z0:(0:Int)≤(q0K ps:Int):=by omega
 have z1:(q0K ps:Int)≤4096:=by omega
 have hRl2:(q2H p).length≤2012:=by omega
 have hDl:D.length≤199:=by omega
 generalize q0G 99 (D.length:Int)=nm at*;generalize q2H p=R at*;generalize (q0K ps:Int)=z at*;generalize D.length=n at*;clear h hl hp' hm hd r0 r1 hr hs hRl h200 hD200 hp hnm hsl;go_enter Tryz.func75,Tryz.ntmps75;go_wp2_with fail;refine HR.out.mono ?_;rintro e w1 ⟨rfl,hb⟩;have HB:=η31 hb;have d0:=q0A hb HC0.out;have d0':=q0A (hb.drew) HC0.out;have HB':=η31 hb.drew;clear hb c0;go_wp2_with fail
 go_region_held3 (fun W=>W.cell? ⟨gl,0,none⟩=some (.pointer (some ⟨g,0,none⟩)))
  (first|exact HS2.out|exact HS1.out|exact d0')
  (first
   |(go_at_call 91;refine (HCH.out _).mono ?_;rintro e wa ⟨rfl,h1⟩;have H1:=η31 (HB'.out.trans h1);have HS1:=η31 (q0A h1 d0');clear h1)
   |(go_at_call 123;refine (HAP.out _ H1.out).mono ?_;rintro e wb ⟨rfl,h2⟩;have h3:=(HH.out.grow H1.out).disk h2;have H3:=η31 h3;have HS2:=η31 h3.1.l.c0;clear h2 h3))
 all_goals
  obtain ⟨b,k,rfl,e2,z2⟩:=HRow.out _ _ _ H3.out.1;have e3:=H3.out.1.l.c3;have h4:=H3.out.1.setRow (by rw[HSl.out]) n (z+(R.length:Int));rw[HSz.out] at h4;have HF:=η31 (show LgK E w0 (wb.setCell ⟨b,n,none⟩ (.int .i64 (z+(R.length:Int)))) g gl c s (D++[ps++[p]]) sure K from ⟨_,_,σ',h4.1,HP.out⟩);have HSt:=η31 ((HH.out.kExt H1.out).trans (H3.out.2.trans h4.2));clear h4;go_wp2_with fail;go_ret2;exact ⟨rfl,HF.out,HSt.out⟩
end
end
section
open Go.RowKit
def LgP (E:Oth) (w0 w:World) (g gl:Nat) (c s:Int) (l:List (List UInt8×List UInt8)) (xs:List Int) (sure:Int) (K:Nat→Prop):Prop:= ∃F v σ,LgF w0 w g gl F v σ s xs sure K∧okOth E∧Pl σ (c+(q2G E:Int)) s l
theorem z5p {w w':World} {b:Nat} (h:w'.heap[b]? =w.heap[b]?) (o:Nat):w'.cell? ⟨b,o,none⟩=w.cell? ⟨b,o,none⟩:=by simp only[World.cell?,h]
theorem q0r {K:Nat→Prop} {w w':World} (h:Stay K w w') {b o:Nat} (hK:K b) {u:Value} (hc:w.cell? ⟨b,o,none⟩=some u):w'.cell? ⟨b,o,none⟩=some u:=(z5p (h b hK) o).trans hc
section
variable {E :Oth} {w0 w:World} {g gl:Nat} {F K:Nat→Prop} {v:Value} {σ:DM} {c s sure:Int} {C:Cks} {xs:List Int}
theorem z6p (h:LgP E w0 w g gl c s (q3D E C) xs sure K) (hC:C.length<200) {bl bn:Nat} (kl:K bl) (kn:K bn) (hbl:w.cell? ⟨bl,0,none⟩=some (.pointer (some ⟨gl,0,none⟩))) (hbn:w.cell? ⟨bn,0,none⟩=some (.int .i64 (C.length:Int))):
  Calls Tryz.prog 126 #[.pointer (some ⟨bl,0,none⟩),.pointer (some ⟨bn,0,none⟩)] w fun e w'=>e= .returned (.int .i64 0)∧LgP E w0 w' g gl c s (z3s E C) xs sure K∧Stay K w w':=by
 obtain ⟨F,v,σ,h,hE,hp⟩:=h;have c0:=h.l.c0;have hok:q3t (q0G 99 (C.length:Int))=true:=by rw[q0X (by omega)];simp[q3t,q0f]
 obtain ⟨σ',hm,hp'⟩:=hp.create (z5a hE (by omega) (Nat.le_refl _) (by omega)) hok (by rw[q7S];have:=hE.few;omega);rw[z7l hE (by omega)] at hp';have hnm:=q2n (C.length:Int)
 have HCR:=η31 (fun (wa:World) (k:Ext w wa)=>show Calls Tryz.prog 127 #[.pointer (some ⟨g,0,none⟩),.string ⟨(q0G 99 (C.length:Int)).toArray⟩] wa fun e w'=>e= .returned (.int .i64 0)∧DkS wa g F σ' w' by
  have:=z7K (h.d.ext k) (q0G 99 (C.length:Int)) hnm;rw[hm] at this
  exact this)
 have HCH:=η31 (fun W=>q4J (C.length:Int) W);have HP:=η31 (And.intro hE hp');have HH:=η31 h;have hw:Ext w w.drew:=(Ext.refl w).drew;have HW:=η31 hw;have d0:=q0A hw c0;have d1:=q0A hw hbl;have d2:=q0A hw hbn;generalize q0G 99 (C.length:Int)=nm at*;generalize C.length=n at*;clear h hp hp' hE hm hok hnm hw c0 hbl hbn;go_enter Tryz.func126,Tryz.ntmps126;go_wp2_with fail
 go_region_held3 (fun W=>W.cell? ⟨gl,0,none⟩=some (.pointer (some ⟨g,0,none⟩))∧W.cell? ⟨bl,0,none⟩=some (.pointer (some ⟨gl,0,none⟩))∧W.cell? ⟨bn,0,none⟩=some (.int .i64 (n:Int)))
  (first|exact HS2.out|exact HS1.out|exact ⟨d0,d1,d2⟩)
  (first
   |(go_at_call 91;refine (HCH.out _).mono ?_;rintro e wa ⟨rfl,h1⟩;have H1:=η31 (HW.out.trans h1);have HS1:=η31 (And.intro (q0A h1 d0) (And.intro (q0A h1 d1) (q0A h1 d2)));clear h1)
   |(go_at_call 127;refine (HCR.out _ H1.out).mono ?_;rintro e wb ⟨rfl,h2⟩;have h3:=(HH.out.grow H1.out).disk h2;have H3:=η31 h3;have HS2:=η31 (And.intro h3.1.l.c0 (And.intro (q0r h3.2 kl HS1.out.2.1) (q0r h3.2 kn HS1.out.2.2)));clear h2 h3))
 all_goals
  go_wp2_with fail;go_ret;exact ⟨rfl,⟨_,_,σ',H3.out.1,HP.out⟩,(HH.out.kExt H1.out).trans H3.out.2⟩
theorem z7i {p:List UInt8} (h:LgP E w0 w g gl c s (z3s E C) xs sure K) (hC:C.length<200) (hp:p.length≤2000) (hr:(p.length:Int)+24≤c-(q0l C:Int)) {bl bn br:Nat} (kl:K bl) (kn:K bn) (kr:K br)
  (hbl:w.cell? ⟨bl,0,none⟩=some (.pointer (some ⟨gl,0,none⟩))) (hbn:w.cell? ⟨bn,0,none⟩=some (.int .i64 (C.length:Int))) (hbr:w.cell? ⟨br,0,none⟩=some (.string ⟨(q2H p).toArray⟩)):
  Calls Tryz.prog 128 #[.pointer (some ⟨bl,0,none⟩),.pointer (some ⟨bn,0,none⟩),.pointer (some ⟨br,0,none⟩)] w fun e w'=>e= .returned (.int .i64 0)∧LgP E w0 w' g gl c s (q3D E (C++[[p]])) xs sure K∧Stay K w w':=by
 obtain ⟨F,v,σ,h,hE,hpl⟩:=h;have c0:=h.l.c0;have hf:q0H Prod.fst (q0G 99 (C.length:Int)) (z3s E C)=some (q0G 99 (C.length:Int),[]):=by
  exact z4k hE (by omega)
 have hRl:=q1E p;have hHl:=q2m C.length
 obtain ⟨σ',hm,hp'⟩:=hpl.append (t:=q2R C.length++q2H p) hf (by
  rw[z5P,List.length_append,hRl,hHl]
  push_cast
  omega)
 rw[z3i hE p (by omega)] at hp';have hnm:=q2n (C.length:Int)
 have HAP:=η31 (fun (wa:World) (k:Ext w wa)=>show Calls Tryz.prog 123 #[.pointer (some ⟨g,0,none⟩),.string ⟨(q0G 99 (C.length:Int)).toArray⟩,.string (⟨(q2R C.length).toArray⟩++⟨(q2H p).toArray⟩)] wa fun e w'=>e= .returned (.int .i64 0)∧DkS wa g F σ' w' by
  have:=z2K (h.d.ext k) (q0G 99 (C.length:Int)) (q2R C.length++q2H p) hnm (by rw[List.length_append];omega);rw[hm] at this;rw[q2i]
  exact this)
 have HCH:=η31 (fun W=>q4J (C.length:Int) W);have HHD:=η31 (fun W=>z3J C.length W hC);have HP:=η31 (And.intro hE hp');have HH:=η31 h;have hw:Ext w w.drew:=(Ext.refl w).drew;have HW:=η31 hw;have d0:=q0A hw c0;have d1:=q0A hw hbl;have d2:=q0A hw hbn;have d3:=q0A hw hbr;have hcat:¬(9223372036854775807<(q2R C.length).length+(q2H p).length):=by omega
 clear h hpl hE hp' hm hf hnm hw c0 hbl hbn hbr hRl hHl hr hp;generalize q2H p=R at*;generalize q2R C.length=Hd at*;generalize q0G 99 (C.length:Int)=nm at*;generalize C.length=n at*;go_enter Tryz.func128,Tryz.ntmps128;go_wp2_with fail
 go_region_held3 (fun W=>W.cell? ⟨gl,0,none⟩=some (.pointer (some ⟨g,0,none⟩))∧W.cell? ⟨bl,0,none⟩=some (.pointer (some ⟨gl,0,none⟩))∧W.cell? ⟨bn,0,none⟩=some (.int .i64 (n:Int))∧W.cell? ⟨br,0,none⟩=some (.string ⟨R.toArray⟩))
  (first|exact HS3.out|exact HS2.out|exact HS1.out|exact ⟨d0,d1,d2,d3⟩)
  (first
   |(go_at_call 91;refine (HCH.out _).mono ?_;rintro e wa ⟨rfl,h1⟩;have H1:=η31 (HW.out.trans h1);have HS1:=η31 (And.intro (q0A h1 d0) (And.intro (q0A h1 d1) (And.intro (q0A h1 d2) (q0A h1 d3))));clear h1)
   |(go_at_call 129;refine (HHD.out _).mono ?_;rintro e wc ⟨rfl,h1⟩;have H2:=η31 (H1.out.trans h1);have HS2:=η31 (And.intro (q0A h1 HS1.out.1) (And.intro (q0A h1 HS1.out.2.1) (And.intro (q0A h1 HS1.out.2.2.1) (q0A h1 HS1.out.2.2.2))));clear h1)
   |(go_at_call 123;refine (HAP.out _ H2.out).mono ?_;rintro e wb ⟨rfl,h2⟩;have h3:=(HH.out.grow H2.out).disk h2;have H3:=η31 h3;have HS3:=η31 (And.intro h3.1.l.c0 (And.intro (q0r h3.2 kl HS2.out.2.1) (And.intro (q0r h3.2 kn HS2.out.2.2.1) (q0r h3.2 kr HS2.out.2.2.2))));clear h2 h3))
 all_goals
  go_wp2_with fail;go_ret;exact ⟨rfl,⟨_,_,σ',H3.out.1,HP.out⟩,(HH.out.kExt H2.out).trans H3.out.2⟩
end
end
section
open Go.RowKit
section
variable {E :Oth} {w0 w:World} {g gl:Nat} {F K:Nat→Prop} {v:Value} {σ:DM} {c s sure:Int} {C:Cks} {xs:List Int}
theorem LgK.toP (h:LgK E w0 w g gl c s C sure K):LgP E w0 w g gl c s (q3D E C) (q0M C) sure K∧okC C:=by
 obtain ⟨F,v,σ,h1,h2⟩:=h;exact ⟨⟨F,v,σ,h1,h2.oth,h2.pl⟩,h2.ok⟩
def z1x (E:Oth) (w0:World) (g gl:Nat) (c s:Int) (C:Cks) (p:List UInt8) (sure:Int) (K:Nat→Prop):Nat→World→Prop
 |0,W=>LgK E w0 W g gl c s C sure K
 |1,W=>LgP E w0 W g gl c s (q3D E C) (q0M C) (q1T C sure) K
 |2,W=>LgP E w0 W g gl c s (z3s E C) (q0M C) (q1T C sure) K
 |_,W=>LgP E w0 W g gl c s (q3D E (C++[[p]])) (q0M C) (q1T C sure) K
theorem y1N {p:List UInt8} (h:LgK E w0 w g gl c s C sure K) (hC:C.length<200) (hp:p.length≤2000) (hr:(p.length:Int)+24≤c-(q0l C:Int)) {b bl bn br:Nat} (kb:K b) (kl:K bl) (kn:K bn) (kr:K br)
  (hb0:w.cell? ⟨b,0,none⟩=some (.func (.func 125) #[.pointer (some ⟨gl,0,none⟩)] #[]))
  (hb1:w.cell? ⟨b,1,none⟩=some (.func (.func 126) #[] #[.pointer (some ⟨bl,0,none⟩),.pointer (some ⟨bn,0,none⟩)]))
  (hb2:w.cell? ⟨b,2,none⟩=some (.func (.func 128) #[] #[.pointer (some ⟨bl,0,none⟩),.pointer (some ⟨bn,0,none⟩),.pointer (some ⟨br,0,none⟩)]))
  (hbl:w.cell? ⟨bl,0,none⟩=some (.pointer (some ⟨gl,0,none⟩))) (hbn:w.cell? ⟨bn,0,none⟩=some (.int .i64 (C.length:Int))) (hbr:w.cell? ⟨br,0,none⟩=some (.string ⟨(q2H p).toArray⟩)):
  Calls Tryz.prog 124 #[.slice (some ⟨b,0,none⟩) 3 3] w fun e w'=>e= .returned (.int .i64 0)∧LgP E w0 w' g gl c s (q3D E (C++[[p]])) (q0M C) (q1T C sure) K∧Stay K w w':=by
 have H:=η31 h;have HB:=η31 (show∀W,Stay K w W→W.cell? ⟨b,0,none⟩=_∧W.cell? ⟨b,1,none⟩=_∧W.cell? ⟨b,2,none⟩=_ from fun W k=>⟨q0r k kb hb0,q0r k kb hb1,q0r k kb hb2⟩);have HL:=η31 (show∀W,Stay K w W→W.cell? ⟨bl,0,none⟩=_∧W.cell? ⟨bn,0,none⟩=_∧W.cell? ⟨br,0,none⟩=_ from fun W k=>⟨q0r k kl hbl,q0r k kn hbn,q0r k kr hbr⟩);have HKl:=η31 kl;have HKn:=η31 kn;have HKr:=η31 kr;have HC:=η31 hC;have HPp:=η31 hp;have HR:=η31 hr;clear h kb kl kn kr hb0 hb1 hb2 hbl hbn hbr hC hp hr;go_enter Tryz.func124,Tryz.ntmps124;go_wp2_with fail
 go_loopw [8] (fun i W=> ∃k:Nat,k≤3∧i= .int .i64 (k:Int)∧z1x E w0 g gl c s C p sure K k W∧Stay K w W) (fun i _=>3-(intOf i).toNat)
 case atStart=>exact ⟨0,by omega,rfl,H.out,Stay.refl _ _⟩
 case round=>
  obtain ⟨k,hk,rfl,hs,hst⟩:=hrel;have HS:=η31 hs;have HSt:=η31 hst;obtain ⟨q0,q1,q2⟩:=HB.out wr hst;have HLw:=η31 (HL.out wr hst);clear hs hst;obtain rfl|rfl|rfl|rfl:k=0∨k=1∨k=2∨k=3:=by omega
  ·have HX:Hid (Calls Tryz.prog 125 #[.pointer (some ⟨gl,0,none⟩)] wr fun e w'=>e= .returned (.int .i64 0)∧LgK E w0 w' g gl c s C (q1T C sure) K∧Stay K wr w'):=η31 (by
    obtain ⟨F,v,σ,h1,h2⟩:=HS.out
    exact z8d h1 h2)
   go_wp2_with fail;refine HX.out.mono ?_;rintro e w1 ⟨rfl,h1,h2⟩;have H1:=η31 (show z1x E w0 g gl c s C p sure K 1 w1 from h1.toP.1);have H2:=η31 (HSt.out.trans h2);clear h1 h2;go_wp2_with fail
   go_roundw
   case rel=>exact ⟨1,by omega,by go_num,H1.out,H2.out⟩
   case measure=>simp[intOf]
  ·have HX:=η31 (z6p HS.out HC.out HKl.out HKn.out HLw.out.1 HLw.out.2.1)
   go_wp2_with fail;refine HX.out.mono ?_;rintro e w1 ⟨rfl,h1,h2⟩;have H1:=η31 (show z1x E w0 g gl c s C p sure K 2 w1 from h1);have H2:=η31 (HSt.out.trans h2);clear h1 h2;go_wp2_with fail
   go_roundw
   case rel=>exact ⟨2,by omega,by go_num,H1.out,H2.out⟩
   case measure=>simp[intOf]
  ·have HX:=η31 (z7i HS.out HC.out HPp.out HR.out HKl.out HKn.out HKr.out HLw.out.1 HLw.out.2.1 HLw.out.2.2)
   go_wp2_with fail;refine HX.out.mono ?_;rintro e w1 ⟨rfl,h1,h2⟩;have H1:=η31 (show z1x E w0 g gl c s C p sure K 3 w1 from h1);have H2:=η31 (HSt.out.trans h2);clear h1 h2;go_wp2_with fail
   go_roundw
   case rel=>exact ⟨3,by omega,by go_num,H1.out,H2.out⟩
   case measure=>simp[intOf]
  ·go_wp2_with fail
   go_ret;exact ⟨rfl,HS.out,HSt.out⟩
end
end
section
open Go.RowKit
section
variable {E :Oth} {w0 w:World} {g gl:Nat} {F K:Nat→Prop} {v:Value} {σ:DM} {c s sure:Int} {C:Cks} {xs:List Int}
theorem LgF.push {w3 wl w':World} (h:LgF w0 w3 g gl F v σ s xs sure K) (hx:Ext w3 wl) {z:Int} {v':Value} (hown:w'.ownsRow 0 3 1 v' (xs.length+1) (xs.map (Value.int .i64)++[.int .i64 z])) (hgrow:wl.grownBy w' v.ownBlock)
  (hat:v'.ownBlock=v.ownBlock∨v'.ownBlock=some wl.heap.size):
  LgF w0 (w'.setCell ⟨gl,3,none⟩ v') g gl F v' σ s (xs++[z]) sure K∧Stay K w3 (w'.setCell ⟨gl,3,none⟩ v'):=by
 have hlt:=h.l.blk.lt;have hs:=hx.size;have hne:v'.ownBlock≠some gl:=fun e=>by
  rcases hat with h1|h1
  ·exact h.l.apart (h1.symm.trans e)
  ·rw[h1] at e;cases e;omega
 have hb:Blk w' gl 141 #[.pointer (some ⟨g,0,none⟩),.int .i64 s,.bool false,v,.int .i64 sure]:=(h.l.blk.ext hx).same (hgrow.block gl (by omega) fun e=>h.l.apart e.symm);refine h.log ⟨hb.set 3 v',?_⟩ (((OffS.of_ext hx).trans (OffS.grown hgrow fun i e=> .inr e)).trans (OffS.set w' (.inl rfl) 3 v')) fun i hi=>?_
 ·rw[List.length_append,List.map_append]
  exact q0s hown v' hne
 ·rcases hat with h1|h1
  ·exact .inl (h1.symm.trans hi)
  ·right;rw[h1] at hi;cases hi;exact hs
theorem LgF.pushed {w3 wl w':World} (h:LgF w0 w3 g gl F v σ s xs sure K) (hx:Ext w3 wl) (hgrow:wl.grownBy w' v.ownBlock):Stay K w3 w'∧w'.cell? ⟨gl,3,none⟩=some v∧w'.frozen? ⟨gl,3,none⟩=false:=by
 have hlt:=h.l.blk.lt;have hs:=hx.size;have hb:Blk w' gl 141 #[.pointer (some ⟨g,0,none⟩),.int .i64 s,.bool false,v,.int .i64 sure]:=(h.l.blk.ext hx).same (hgrow.block gl (by omega) fun e=>h.l.apart e.symm);refine ⟨fun i hi=>?_,hb.cell 3,hb.free 3⟩;obtain ⟨h1,_,h2⟩:=h.k i hi;exact (hgrow.block i (by omega) fun e=>h2 (.inr e.symm)).trans (hx.block i h1)
theorem z7Y (h:LgF w0 w g gl F v σ s (q0M C) sure K) (hl:Lgd E σ c s C) (R:List UInt8) (hR:R.length≤2012) (hr:200≤C.length∨c-(q0l C:Int)-((R.length:Int)+12)<6000):
  Calls Tryz.prog 76 #[.pointer (some ⟨gl,0,none⟩),.int .i64 (C.length:Int),.string ⟨R.toArray⟩] w fun e w'=>e= .returned (.tuple #[.int .i64 0,.int .i64 60])∧Ext w w':=by
 obtain ⟨r0,r1⟩:=h.room0 hl;have h200:=hl.ok.few;have HR:=η31 (fun (W:World) (k:Ext w W)=>z2M (h.grow k) hl.free r0 r1 (12+(R.length:Int)) (by omega) (by omega));by_cases hn:200≤C.length
 ·have hd:decide ((200:Int)≤(C.length:Int))=true:=by simp;omega
  clear h hl HR r0 r1 hr;go_enter Tryz.func76,Tryz.ntmps76;go_wp2_with fail;go_ret2;exact ⟨rfl,q9b w _ _ _⟩
 ·have hd:decide ((200:Int)≤(C.length:Int))=false:=by simp;omega
  have hd2:decide ((6000:Int)≤c-(q0l C:Int)-(12+(R.length:Int)))=false:=by simp;omega
  rw[hd2] at HR;clear h hl r0 r1 hr hd2;go_enter Tryz.func76,Tryz.ntmps76;go_wp2_with fail;refine (HR.out _ (q9b w _ _ _)).mono ?_;rintro e w1 ⟨rfl,hb⟩;have HB:=η31 ((q9b w _ _ _).trans hb);clear hb;go_wp2_with fail;go_ret2;exact ⟨rfl,HB.out⟩
theorem z9y {p :List UInt8} (h:LgF w0 w g gl F v σ s (q0M C) sure K) (hl:Lgd E σ c s C) (hp:p.length≤2000) (hn:C.length<200) (hr:6000≤c-(q0l C:Int)-((p.length:Int)+24)):
  Calls Tryz.prog 76 #[.pointer (some ⟨gl,0,none⟩),.int .i64 (C.length:Int),.string ⟨(q2H p).toArray⟩] w fun e w'=>
   e= .returned (.tuple #[.int .i64 ((C.length:Int)*4096+12),.int .i64 0])∧LgK E w0 w' g gl c s (C++[[p]]) (q1T C sure) K∧Stay K w w':=by
 obtain ⟨r0,r1⟩:=h.room0 hl;have hRl:=q1E p;have HR:=η31 (fun (W:World) (k:Ext w W)=>z2M (h.grow k) hl.free r0 r1 (12+((q2H p).length:Int)) (by omega) (by omega));have hd:decide ((200:Int)≤(C.length:Int))=false:=by simp;omega
 have hd2:decide ((6000:Int)≤c-(q0l C:Int)-(12+((q2H p).length:Int)))=true:=by simp;omega
 rw[hd2] at HR;obtain ⟨W0,hW0⟩: ∃W0,((w.alloc (.cells #[.pointer (some ⟨gl,0,none⟩)] 99)).alloc (.cells #[.int .i64 (C.length:Int)] 3)).alloc (.cells #[.string ⟨(q2H p).toArray⟩] 9)=W0:=⟨_,rfl⟩
 have HE0:Hid (Ext w W0):=η31 (by rw[←hW0];exact q9b w _ _ _);have HCl:Hid (∀W,Ext W0 W→W.cell? ⟨w.heap.size,0,none⟩=some (.pointer (some ⟨gl,0,none⟩))∧W.cell? ⟨w.heap.size+1,0,none⟩=some (.int .i64 (C.length:Int))∧W.cell? ⟨w.heap.size+1+1,0,none⟩=some (.string ⟨(q2H p).toArray⟩)):=η31 fun W hW=>by
  rw[←hW0] at hW;have b1:=(((Blk.new w 99 #[.pointer (some ⟨gl,0,none⟩)]).ext (q2I _ (.cells #[.int .i64 (C.length:Int)] 3) (.cells #[.string ⟨(q2H p).toArray⟩] 9))).ext hW).cell 0;have b2:=(((Blk.new (w.alloc (.cells #[.pointer (some ⟨gl,0,none⟩)] 99)) 3 #[.int .i64 (C.length:Int)]).ext (q0B _ (.cells #[.string ⟨(q2H p).toArray⟩] 9))).ext hW).cell 0;have b3:=((Blk.new ((w.alloc (.cells #[.pointer (some ⟨gl,0,none⟩)] 99)).alloc (.cells #[.int .i64 (C.length:Int)] 3)) 9 #[.string ⟨(q2H p).toArray⟩]).ext hW).cell 0;rw[World.size_alloc] at b2;rw[World.size_alloc,World.size_alloc] at b3;exact ⟨b1,b2,b3⟩
 have HS0:Hid (W0.heap.size=w.heap.size+1+1+1):=η31 (by rw[←hW0];simp);have HK:=η31 (show LgK E w0 w g gl c s C sure K from ⟨F,v,σ,h,hl⟩);have HHp:=η31 hp;have HHn:=η31 hn;have HHr:=η31 hr;have HRl:=η31 hRl;have hmf: ∀(fn:Fn) (first cap:Array Value) (w:World),(Instr.makeFunc fn first cap).run Tryz.prog w= .ok (.func fn first cap) w:=fun _ _ _ _=>rfl
 have hRl2:(q2H p).length≤2012:=by omega
 clear h hl r0 r1 hr hd2 hp hRl;obtain ⟨R,hR⟩: ∃R,q2H p=R:=⟨_,rfl⟩
 rw[hR] at HR hW0 HCl HRl hRl2⊢;have HRe:=η31 hR;clear hR;go_enter Tryz.func76,Tryz.ntmps76;obtain ⟨a0,a1,a2⟩:=HCl.out W0 (Ext.refl _);go_wp2_with fail
 try rw[hW0]
 clear hW0 a0 a1 a2;refine (HR.out _ HE0.out).mono ?_;rintro e w1 ⟨rfl,hb⟩;obtain ⟨q0,q1,q2⟩:=HCl.out _ hb;have HB:=η31 hb;clear hb;go_wp2_with fail
 obtain ⟨cs, hcs⟩: ∃cs:Array Value,#[Value.func (Fn.func 125) #[Value.pointer (some ⟨gl,0,none⟩)] #[],Value.func (Fn.func 126) #[] #[Value.pointer (some ⟨w.heap.size,0,none⟩),Value.pointer (some ⟨w.heap.size+1,0,none⟩)],
       Value.func (Fn.func 128) #[] #[Value.pointer (some ⟨w.heap.size,0,none⟩),Value.pointer (some ⟨w.heap.size+1,0,none⟩),Value.pointer (some ⟨w.heap.size+1+1,0,none⟩)]]=cs:=⟨_,rfl⟩
 rw[hcs];obtain ⟨W2,hW2⟩: ∃W2,w1.alloc (.cells cs 110)=W2:=⟨_,rfl⟩
 have hk2:Ext w1 W2:=by rw[←hW2];exact q0B _ _
 have hs2:W2.heap.size=w1.heap.size+1:=by rw[←hW2];simp
 have hs1:=HB.out.size;rw[HS0.out] at hs1;have hbk:Blk W2 w1.heap.size 110 cs:=by rw[←hW2];exact Blk.new _ _ _
 rw[hW2];have HE2:=η31 ((HE0.out.trans HB.out).trans hk2);have hK':=HK.out.more (K':=fun i=>K i∨(w.heap.size≤i∧i<W2.heap.size)) HE2.out (fun i hi=>hi);have HSK:=η31 (HK.out.kExt HE2.out);obtain ⟨r0,r1,r2⟩:=HCl.out _ (HB.out.trans hk2);rw[←HRe.out] at r2;have hal:=y1N hK' HHn.out HHp.out (by have:=HHr.out;omega) (b:=w1.heap.size) (bl:=w.heap.size) (bn:=w.heap.size+1) (br:=w.heap.size+1+1) (.inr ⟨by omega,by omega⟩) (.inr ⟨by omega,by omega⟩) (.inr ⟨by omega,by omega⟩) (.inr ⟨by omega,by omega⟩)
  (by rw[hbk.cell 0,←hcs];rfl) (by rw[hbk.cell 1,←hcs];rfl) (by rw[hbk.cell 2,←hcs];rfl) r0 r1 r2
 have HKs:Hid (w.heap.size<W2.heap.size∧w.heap.size+1+1<W2.heap.size):=η31 ⟨by omega,by omega⟩;have hR2:=r2;rw[HRe.out] at hR2;have HR2:=η31 hR2;have HR0:=η31 r0;have HR1:=η31 r1;clear hcs hW2 hbk hk2 hs2 hs1 r0 r1 r2 hK' q0 q1 q2 hR2;refine hal.mono ?_;rintro e w3 ⟨rfl,h3,hst3⟩;clear hal;obtain ⟨F3,v3,σ3,h3,hp3⟩:=h3;have e0:=q0r hst3 (.inr ⟨Nat.le_refl _,HKs.out.1⟩) HR0.out;have e2:=q0r hst3 (.inr ⟨by omega,HKs.out.2⟩) HR2.out;have e1:=η31 (q0r hst3 (.inr ⟨by omega,by have:=HKs.out.2;omega⟩) HR1.out);have hrow:=h3.l.row;obtain ⟨a,k,rfl⟩:=q0J hrow;have e3:=h3.l.c3;have z3:=h3.l.blk.free 3;have hsl:=q0b C;rw[hsl] at hrow e3 h3;have hwz:IntKind.i64.wrap (12+(R.length:Int))=(q0K [p]:Int):=by
  rw[q4F,←HRl.out,IntKind.wrap_i64];omega
 obtain ⟨z,hz⟩: ∃z:Int,(q0K [p]:Int)=z:=⟨_,rfl⟩
 rw[hz] at hwz;obtain ⟨wl,hwl⟩: ∃wl,(w3.alloc (.cells #[.int .i64 z] 3)).drew=wl:=⟨_,rfl⟩
 have HXl:Hid (Ext w3 wl):=η31 (by rw[←hwl];exact (q0B w3 _).drew);have HLit:Hid (Rd wl (some ⟨w3.heap.size,0,none⟩) [.int .i64 z]):=η31 (by rw[←hwl];exact Rd.lit w3 #[.int .i64 z] 3);have HRow:Hid (wl.ownsRow 0 3 1 (.slice a C.length k) C.length ((q0M C).map (Value.int .i64))):=η31 (q0N hrow HXl.out);have HZ:=η31 hz;have H3:=η31 h3;have HP3:=η31 hp3;have HSt3:=η31 hst3;have HCn:=η31 hsl;have hn2:=HHn.out;have f0:=q0A HXl.out e0;have f2:=q0A HXl.out e2;have f3:=q0A HXl.out e3;clear hz h3 hp3 hst3 hsl hrow hd;generalize hnn:C.length=n at*;have HN:=η31 hnn;clear hnn
 have HPush:Hid (∀(w':World) (a':Option Addr) (k':Nat),w'.ownsRow 0 3 1 (.slice a' (n+1) k') (n+1) ((q0M C).map (Value.int .i64)++[.int .i64 z])→wl.grownBy w' (Value.slice a n k).ownBlock→((Value.slice a' (n+1) k').ownBlock=(Value.slice a n k).ownBlock∨(Value.slice a' (n+1) k').ownBlock=some wl.heap.size)→
   LgK E w0 (w'.setCell ⟨gl,3,none⟩ (.slice a' (n+1) k')) g gl c s (C++[[p]]) (q1T C sure) K∧Stay K w (w'.setCell ⟨gl,3,none⟩ (.slice a' (n+1) k'))∧(w'.setCell ⟨gl,3,none⟩ (.slice a' (n+1) k')).cell? ⟨w.heap.size+1,0,none⟩=some (.int .i64 (n:Int))):=η31 fun w' a' k' h1 h2 h3=>by
  have hp:=H3.out.push HXl.out (by rw[HCn.out];exact h1) h2 h3;refine ⟨⟨F3,.slice a' (n+1) k',σ3,?_,⟨HP3.out.2,HK.out.toP.2.more HHp.out (by rw[HN.out];exact hn2),HP3.out.1⟩⟩,HSK.out.trans (Stay.trans (K:=K) (fun i hi=>HSt3.out i (.inl hi)) fun i hi=>hp.2 i (.inl hi)),q0r hp.2 (.inr ⟨by omega,by have:=HKs.out.2;omega⟩) e1.out⟩;rw[q2K,HZ.out];exact hp.1.beside fun i hi=> .inl hi
 go_wp2_with fail
 go_region_law
  (refine q1d rfl (.tmp 33) (.tmp 37) 36 rfl 0 3 _ 1 8 Tryz.underlying36 Tryz.infoI (by decide) (by decide) (.slice a n k) n ((q0M C).map (Value.int .i64)) rfl HRow.out (some ⟨w3.heap.size,0,none⟩) 1 1 [.int .i64 z] rfl rfl (fun h=>by cases h) HLit.out (by simp[Value.oneCell']) (by unfold maxLen;omega) (by omega) (Nat.zero_le _) ?_;intro v' w' hown hgrow hat;have HOw:=η31 hown;have HGr:=η31 hgrow;have HAt:=η31 hat;obtain ⟨q1,q2,q3⟩:=H3.out.pushed HXl.out hgrow;have u0:=q0r q1 (.inr ⟨Nat.le_refl _,HKs.out.1⟩) e0;have u2:=q0r q1 (.inr ⟨by omega,HKs.out.2⟩) e2;obtain ⟨a',k',rfl⟩:=q0J hown;clear hown hgrow hat q1)
 all_goals
  have hpu:=HPush.out _ _ _ HOw.out HGr.out HAt.out;have HFin:=η31 hpu;have u1:=hpu.2.2;clear hpu;go_wp2_with fail;go_ret2;exact ⟨by rw[HN.out];rfl,HFin.out.1,HFin.out.2.1⟩
end
end
section
open Go.RowKit
section
variable {E :Oth} {w0 w:World} {g gl:Nat} {F K:Nat→Prop} {v:Value} {σ:DM} {c s sure:Int} {C:Cks} {xs:List Int}
def AppR (E:Oth) (w0 w:World) (g gl:Nat) (c s:Int) (C:Cks) (sure:Int) (K:Nat→Prop) (p:List UInt8) (e:Ending) (w':World):Prop:=
 e= .returned (.tuple #[.int .i64 (q1A (c-(q0l C:Int)) C p).1,.int .i64 (q1A (c-(q0l C:Int)) C p).2.1])∧
 LgK E w0 w' g gl c s (q1A (c-(q0l C:Int)) C p).2.2 (q4Q (c-(q0l C:Int)) sure C p) K∧Stay K w w'
theorem AppR.same {p:List UInt8} {w':World} {r:Int} (h:LgK E w0 w g gl c s C sure K) (k:Ext w w') (hr:q1A (c-(q0l C:Int)) C p=(0,r,C)) (h0:r≠0):AppR E w0 w g gl c s C sure K p (.returned (.tuple #[.int .i64 0,.int .i64 r])) w':=by
 unfold AppR q4Q;rw[hr,if_neg (fun h=>h0 h.1)];exact ⟨rfl,h.grow k,h.kExt k⟩
theorem AppR.pre {p:List UInt8} {w1 w':World} {e:Ending} (h:LgK E w0 w g gl c s C sure K) (k:Ext w w1) (h1:AppR E w0 w1 g gl c s C sure K p e w'):AppR E w0 w g gl c s C sure K p e w':=
 ⟨h1.1,h1.2.1,(h.kExt k).trans h1.2.2⟩
theorem q9e {fr:Int} {p:List UInt8} (h:2000<p.length):q1A fr C p=(0,3,C):=by unfold q1A;rw[if_pos h]
theorem q5Z {fr:Int} {p:List UInt8} (h:p.length≤2000) (hf:q4A C p=true) (hr:fr-((p.length:Int)+12)<6000):q1A fr C p=(0,60,C):=by
 unfold q1A;rw[if_neg (by omega),if_pos hf,if_pos hr]
theorem q7P {fr:Int} {D:Cks} {ps:List (List UInt8)} {p:List UInt8} (h:p.length≤2000) (hf:q4A (D++[ps]) p=true) (hr:6000≤fr-((p.length:Int)+12)):q1A fr (D++[ps]) p=((D.length:Int)*4096+(q0K ps:Int),0,D++[ps++[p]]):=by
 unfold q1A;rw[if_neg (by omega),if_pos hf,if_neg (by omega),q2T];simp
theorem q5Q {fr:Int} {p:List UInt8} (h:p.length≤2000) (hf:q4A C p=false) (hr:200≤C.length∨fr-((p.length:Int)+24)<6000):q1A fr C p=(0,60,C):=by
 unfold q1A;rw[if_neg (by omega),if_neg (by rw[hf];decide),if_pos hr]
theorem q6o {fr:Int} {p:List UInt8} (h:p.length≤2000) (hf:q4A C p=false) (hr:¬(200≤C.length∨fr-((p.length:Int)+24)<6000)):q1A fr C p=((C.length:Int)*4096+12,0,C++[[p]]):=by
 unfold q1A;rw[if_neg (by omega),if_neg (by rw[hf];decide),if_neg hr]
theorem q8A (D:Cks) (ps:List (List UInt8)) (p:List UInt8):q4A (D++[ps]) p=decide (q0K ps+(p.length+12)≤4096):=by unfold q4A;simp
theorem y0U {p:List UInt8} (h:LgK E w0 w g gl c s C sure K) (hp:p.length≤2000) (hf:q4A C p=false):
  Calls Tryz.prog 76 #[.pointer (some ⟨gl,0,none⟩),.int .i64 (C.length:Int),.string ⟨(q2H p).toArray⟩] w (AppR E w0 w g gl c s C sure K p):=by
 obtain ⟨F,v,σ,h1,h2⟩:=h;by_cases hr:200≤C.length∨c-(q0l C:Int)-((p.length:Int)+24)<6000
 ·refine (z7Y h1 h2 (q2H p) (by rw[q1E];omega) (by rw[q1E];omega)).mono ?_
  rintro e w' ⟨rfl,k⟩;exact AppR.same ⟨F,v,σ,h1,h2⟩ k (q5Q hp hf hr) (by decide)
 ·refine (z9y h1 h2 hp (by omega) (by omega)).mono ?_
  rintro e w' ⟨rfl,k1,k2⟩;have ha:=q6o hp hf hr;have hsu:q4Q (c-(q0l C:Int)) sure C p=q1T C sure:=by
   unfold q4Q q1T;rw[ha];by_cases hC:C=[]
   ·rw[if_pos hC,if_neg (fun h=>h.2.2 hC)]
   ·rw[if_neg hC,if_pos ⟨rfl,hf,hC⟩]
  unfold AppR;rw[hsu,ha];exact ⟨rfl,k1,k2⟩
theorem z9B {p:List UInt8} {D:Cks} {ps:List (List UInt8)} (h:LgK E w0 w g gl c s (D++[ps]) sure K) (hp:p.length≤2000) (hf:q4A (D++[ps]) p=true):
  Calls Tryz.prog 75 #[.pointer (some ⟨gl,0,none⟩),.int .i64 (D.length:Int),.string ⟨(q2H p).toArray⟩] w (AppR E w0 w g gl c s (D++[ps]) sure K p):=by
 obtain ⟨F,v,σ,h1,h2⟩:=h;by_cases hr:c-(q0l (D++[ps]):Int)-((p.length:Int)+12)<6000
 ·refine (z4h h1 h2 (D.length:Int) (q2H p) (by rw[q1E];omega) (by rw[q1E];omega)).mono ?_
  rintro e w' ⟨rfl,k⟩;exact AppR.same ⟨F,v,σ,h1,h2⟩ k (q5Z hp hf hr) (by decide)
 ·have hs:q0K ps+(p.length+12)≤4096:=by rw[q8A] at hf;exact of_decide_eq_true hf
  refine (z7Z h1 h2 hp hs (by omega)).mono ?_;rintro e w' ⟨rfl,k1,k2⟩;have ha:=q7P (fr:=c-(q0l (D++[ps]):Int)) hp hf (by omega);unfold AppR q4Q;rw[ha,if_neg (fun h=>by rw[hf] at h;exact absurd h.2.1 (by decide))];exact ⟨rfl,k1,k2⟩
theorem z7t (h:LgK E w0 w g gl c s C sure K) (p:List UInt8) (hp9:p.length≤9223372036854775807):
  Calls Tryz.prog 37 #[.pointer (some ⟨gl,0,none⟩),.string ⟨p.toArray⟩] w (AppR E w0 w g gl c s C sure K p):=by
 have HK:=η31 h;obtain ⟨F,v,σ,h1,h2⟩:=h;have HRd:=η31 (z1t h1 h2.pl.up h2.pl.st);by_cases hp:2000<p.length
 ·have HPn:=η31 (fun W=>z4u p W hp hp9)
  have HA:=η31 (q9e (C:=C) (fr:=c-(q0l C:Int)) hp);clear h1 h2 hp;go_enter Tryz.func37,Tryz.ntmps37;go_wp2_with fail;refine HRd.out.mono ?_;rintro e w1 ⟨rfl,hb⟩;have HB:=η31 hb;clear hb;go_wp2_with fail;refine (HPn.out _).mono ?_;rintro e w2 ⟨rfl,rfl⟩;go_wp2_with fail;go_ret2;exact AppR.same HK.out HB.out HA.out (by decide)
 have hp2:p.length≤2000:=by omega
 have HPn:=η31 (fun W=>z6l p W hp2);have h200:=h2.ok.few;have HBg:=η31 (fun (W:World) (k:Ext w W) (hf:q4A C p=false)=>(y0U (HK.out.grow k) hp2 hf).mono fun e w' h=>AppR.pre HK.out k h);by_cases hC:C=[]
 ·subst hC
  have HB0:=η31 (fun (W:World) (k:Ext w W)=>HBg.out W k rfl);have c3:=h1.l.c3;obtain ⟨a,k,rfl⟩:=q0J h1.l.row;have e0:(q0M ([]:Cks)).length=0:=rfl;have HC3:=η31 c3;clear HBg h1 h2 hp c3;generalize hRR:q2H p=R at*;clear hRR;unfold AppR at HB0⊢;generalize (q1A (c-(q0l []:Int)) [] p)=X at*;go_enter Tryz.func37,Tryz.ntmps37;go_wp2_with fail;refine HRd.out.mono ?_;rintro e w1 ⟨rfl,hb⟩;have HB:=η31 hb;clear hb;go_wp2_with fail;refine (HPn.out _).mono ?_;rintro e w2 ⟨rfl,hb⟩;have HB2:=η31 (HB.out.trans hb);clear hb;have c3:=q0A HB2.out HC3.out;rw[e0] at c3;go_wp2_with fail;refine (HB0.out _ HB2.out).mono ?_;rintro e w3 ⟨rfl,h3⟩;have H3:=η31 h3;clear h3;go_wp2_with fail;go_ret2;exact ⟨rfl,H3.out⟩
 obtain ⟨D,ps,rfl⟩:=q8t hC;clear hC;obtain ⟨b,k,rfl,hcz,_⟩:=h1.last;have hz4:q0K ps≤4096:=h2.ok.size ps (by simp);have hD200:D.length+1≤200:=by simpa using h200
 obtain ⟨z,hz⟩: ∃z:Int,(q0K ps:Int)=z:=⟨_,rfl⟩
 rw[hz] at hcz;have z0:0≤z:=by omega
 have z1:z≤4096:=by omega
 have HC3:=η31 h1.l.c3;have HCz:=η31 hcz;have HF:=η31 (fun W=>y0v z p W z0 z1 hp2);have hfit:decide ((p.length:Int)+12≤4096-z)=q4A (D++[ps]) p:=by rw[q8A,decide_eq_decide];omega
 rw[hfit] at HF;have HBh:=η31 (fun (W:World) (k:Ext w W) (hf:q4A (D++[ps]) p=true)=>(z9B (HK.out.grow k) hp2 hf).mono fun e w' h=>AppR.pre HK.out k h);have hlen:(D++[ps]).length=D.length+1:=by simp
 rw[hlen] at HBg;have hDl:(D.length:Int)≤199:=by omega
 have hcast:(((D.length+1:Nat)):Int)=(D.length:Int)+1:=by omega
 rw[hcast] at HBg;generalize hRR:q2H p=R at*;clear hRR h1 h2 hp hz hz4 hfit hcz h200 hD200 hlen hcast;generalize (q1A (c-(q0l (D++[ps]):Int)) (D++[ps]) p)=X at*
 cases hf:q4A (D++[ps]) p with
 | true=>
  rw[hf] at HF;have HB0:=η31 (fun (W:World) (k:Ext w W)=>HBh.out W k hf);clear HBg HBh hf;unfold AppR at HB0⊢;go_enter Tryz.func37,Tryz.ntmps37;go_wp2_with fail;refine HRd.out.mono ?_;rintro e w1 ⟨rfl,hb⟩;have HB:=η31 hb;clear hb;go_wp2_with fail;refine (HPn.out _).mono ?_;rintro e w2 ⟨rfl,hb⟩;have HB2:=η31 (HB.out.trans hb);clear hb;have c3:=q0A HB2.out HC3.out;have cz:=q0A HB2.out HCz.out;go_wp2_with fail;refine (HF.out _).mono ?_;rintro e w3 ⟨rfl,rfl⟩;go_wp2_with fail;refine (HB0.out _ HB2.out).mono ?_;rintro e w3 ⟨rfl,h3⟩;have H3:=η31 h3;clear h3;go_wp2_with fail;go_ret2;exact ⟨rfl,H3.out⟩
 | false=>
  rw[hf] at HF;have HB0:=η31 (fun (W:World) (k:Ext w W)=>HBg.out W k hf);clear HBg HBh hf;unfold AppR at HB0⊢;go_enter Tryz.func37,Tryz.ntmps37;go_wp2_with fail;refine HRd.out.mono ?_;rintro e w1 ⟨rfl,hb⟩;have HB:=η31 hb;clear hb;go_wp2_with fail;refine (HPn.out _).mono ?_;rintro e w2 ⟨rfl,hb⟩;have HB2:=η31 (HB.out.trans hb);clear hb;have c3:=q0A HB2.out HC3.out;have cz:=q0A HB2.out HCz.out;go_wp2_with fail;refine (HF.out _).mono ?_;rintro e w3 ⟨rfl,rfl⟩;go_wp2_with fail;refine (HB0.out _ HB2.out).mono ?_;rintro e w3 ⟨rfl,h3⟩;have H3:=η31 h3;clear h3;go_wp2_with fail;go_ret2;exact ⟨rfl,H3.out⟩
end
end
section
open Go.RowKit
theorem z8C {s:List UInt8} {a:Nat} (h:a+q3x s a+12≤s.length):q4z ((s.drop a).take (q3x s a+12)) 0=(q4z s a).map fun r=>(r.1,r.2-a):=by
 obtain ⟨n,hn⟩: ∃n,q3x s a=n:=⟨_,rfl⟩
 rw[hn] at h⊢;have e4:((s.drop a).take (n+12)).take 4=(s.drop a).take 4:=by rw[List.take_take,Nat.min_eq_left (by omega)]
 have hlen:((s.drop a).take (n+12)).length=n+12:=by simp;omega
 have hl0:q3x ((s.drop a).take (n+12)) 0=n:=by
  unfold q3x;rw[List.drop_zero,e4,←hn];first|done|rfl
 have hi:isR ((s.drop a).take (n+12)) 0=isR s a:=by
  unfold isR;rw[hl0,hlen,hn,List.drop_zero,e4];have e8:((s.drop a).take (n+12)).take (n+8)=(s.drop a).take (n+8):=by rw[List.take_take,Nat.min_eq_left (by omega)]
  have ed:(((s.drop a).take (n+12)).drop (0+n+8)).take 4=(s.drop (a+n+8)).take 4:=by
   rw[List.drop_take,List.drop_drop,List.take_take]
   congr 1
   ·omega
   ·congr 1;omega
  rw[e8,ed,decide_eq_true (p:=0+12≤n+12) (by omega),decide_eq_true (p:=0+n+12≤n+12) (by omega),decide_eq_true (p:=a+12≤s.length) (by omega),decide_eq_true (p:=a+n+12≤s.length) h]
 unfold q4z;rw[hi,hl0,hn]
 split
 ·simp only[Option.map_some]
  congr 2
  ·rw[List.drop_take,List.drop_drop,List.take_take]
   congr 1
   ·omega
  ·omega
 ·rfl
section
variable {E :Oth} {w0 w:World} {g gl:Nat} {F K:Nat→Prop} {v:Value} {σ:DM} {c s sure:Int} {C:Cks} {xs:List Int} {l:List (List UInt8×List UInt8)} {nm:List UInt8} {x:List UInt8×List UInt8}
theorem q5D (h:LgF w0 w g gl F v σ s xs sure K) (hp:Pl σ c s l) (hf:q0H Prod.fst nm l=some x) (hnm:nm.length≤9223372036854775807) (a n:Int) (ha:0≤a) (hn:0≤n) (hl:a+n≤(x.2.length:Int)) (hx:(x.2.length:Int)≤1048576):
  Calls Tryz.prog 90 #[.pointer (some ⟨g,0,none⟩),.string ⟨nm.toArray⟩,.int .i64 a,.int .i64 n] w fun e w'=>
   e= .returned (.tuple #[.string ⟨((x.2.drop a.toNat).take n.toNat).toArray⟩,.int .i64 0])∧(∃F' σ',LgF w0 w' g gl F' v σ' s xs sure K∧Pl σ' c s l)∧Stay K w w':=by
 have h1:=z2g h.d nm a n hnm (by omega) (by omega) (by omega) (by omega);rw[hp.read hf a n ha hn hl] at h1;refine h1.mono ?_;rintro e w' ⟨rfl,k⟩;obtain ⟨k1,k2⟩:=h.disk k;exact ⟨rfl,⟨_,_,k1,hp.tell⟩,k2⟩
theorem LgF.cellAt (h:LgF w0 w g gl F v σ s (q0M C) sure K) {n:Nat} {ps:List (List UInt8)} (hps:C[n]? =some ps):
  ∃b k,v= .slice (some ⟨b,0,none⟩) C.length k∧w.cell? ⟨b,n,none⟩=some (.int .i64 (q0K ps:Int))∧w.frozen? ⟨b,n,none⟩=false:=by
 have hsl:(q0M C).length=C.length:=q0b C;have hn:n<C.length:=(List.getElem?_eq_some_iff.1 hps).1;obtain ⟨b,k,h1,h2,h3,_⟩:=(Own.of_row h.l.row).cell (j:=n) (by rw[List.length_map,hsl];omega);have hval:((q0M C).map (Value.int .i64))[n]'(by rw[List.length_map,hsl];omega)= .int .i64 (q0K ps:Int):=by
  rw[List.getElem_map]
  congr 1
  have:=z1Z C n hps;rw[List.getD_eq_getElem?_getD,List.getElem?_eq_getElem (by rw[hsl];omega)] at this;exact this
 rw[hval] at h2;rw[hsl] at h1;exact ⟨b,k,h1,h2,h3⟩
theorem z5z {pos:Int} (h:pos<0):q5I C pos=([],4):=by unfold q5I;rw[if_pos h]
theorem z2G {n a:Nat} {pos:Int} (hpos:pos=(n:Int)*4096+(a:Int)) (ha:a<4096):q5I C pos=match C[n]? with
  |none=>([],4)
  | some ps=>match (if 12≤a then q4z (q0S n ps) a else none) with
   |none=>([],4)
   |some (p,_)=>(p,0):=by
 have h1:(pos/4096).toNat=n:=by omega
 have h2:(pos % 4096).toNat=a:=by omega
 unfold q5I;rw[if_neg (by omega),h1,h2]
 cases C[n]? with
 |none=>rfl
 | some ps=>
  by_cases h12:12≤a
  ·simp only[if_pos h12,if_pos (show 12≤pos % 4096 by omega)]
   cases q4z (q0S n ps) a with
   |none=>rfl
   |some r=>rfl
  ·simp only[if_neg h12,if_neg (show ¬12≤pos % 4096 by omega)]
def ReadR (E:Oth) (w0 w:World) (g gl:Nat) (c s:Int) (C:Cks) (sure:Int) (K:Nat→Prop) (r:List UInt8×Int) (e:Ending) (w':World):Prop:=
 e= .returned (.tuple #[.string ⟨r.1.toArray⟩,.int .i64 r.2])∧LgK E w0 w' g gl c s C sure K∧Stay K w w'
theorem ReadR.no {w':World} {r:List UInt8×Int} (h:LgK E w0 w g gl c s C sure K) (k:Ext w w') (hr:r=([],4)):ReadR E w0 w g gl c s C sure K r (.returned (.tuple #[.string ⟨#[]⟩,.int .i64 4])) w':=by
 subst hr;exact ⟨rfl,h.grow k,h.kExt k⟩
theorem y0O (h:LgK E w0 w g gl c s C sure K) (pos:Int) (p0: -9223372036854775808≤pos) (p1:pos≤9223372036854775807):
  Calls Tryz.prog 167 #[.pointer (some ⟨gl,0,none⟩),.int .i64 pos] w (ReadR E w0 w g gl c s C sure K (q5I C pos)):=by
 have HK:=η31 h;obtain ⟨F,v,σ,h1,h2⟩:=h;have HRd:=η31 (z1t h1 h2.pl.up h2.pl.st);by_cases hneg:pos<0
 ·have HA:=η31 (z5z (C:=C) hneg)
  have hd:decide (pos<0)=true:=by simpa using hneg
  clear h1 h2;go_enter Tryz.func167,Tryz.ntmps167;go_wp2_with fail;refine HRd.out.mono ?_;rintro e w1 ⟨rfl,hb⟩;have HB:=η31 hb;clear hb;go_wp2_with fail;go_ret2;exact ReadR.no HK.out HB.out HA.out
 obtain ⟨n,hn⟩: ∃n:Nat,pos/4096=(n:Int):=⟨(pos/4096).toNat,by omega⟩
 obtain ⟨a,ha⟩: ∃a:Nat,pos % 4096=(a:Int):=⟨(pos % 4096).toNat,by omega⟩
 have hpos:pos=(n:Int)*4096+(a:Int):=by omega
 have ha4:a<4096:=by omega
 have hn1:(n:Int)≤2251799813685248:=by omega
 have hq:pos.tdiv 4096=(n:Int):=by rw[Int.tdiv_eq_ediv_of_nonneg (by omega)];exact hn
 have hm:pos.tmod 4096=(a:Int):=by rw[Int.tmod_eq_emod_of_nonneg (by omega)];exact ha
 have HRL:=η31 (z2G (C:=C) hpos ha4);have hp0:decide (pos<0)=false:=by simpa using hneg
 have hsl:=q0b C;obtain ⟨sa,sk,hv0⟩:=q0J h1.l.row;rw[hsl] at hv0;subst hv0;have c3:=h1.l.c3;have HC3:=η31 c3;clear hpos;by_cases hnC:C.length≤n
 ·have HA:Hid (q5I C pos=([],4)):=η31 (by rw[HRL.out,List.getElem?_eq_none hnC])
  have hd:decide ((C.length:Int)≤(n:Int))=true:=by simp;omega
  have hx:=HC3.out;clear h1 h2 c3;go_enter Tryz.func167,Tryz.ntmps167;go_wp2_with fail;refine HRd.out.mono ?_;rintro e w1 ⟨rfl,hb⟩;have HB:=η31 hb;have c3:=q0A hb HC3.out;clear hb;go_wp2_with fail;go_ret2;exact ReadR.no HK.out HB.out HA.out
 have hnC':n<C.length:=by omega
 obtain ⟨ps,hps⟩: ∃ps,C[n]? =some ps:=⟨C[n],List.getElem?_eq_getElem hnC'⟩
 have hn200:n<200:=by have:=h2.ok.few;omega
 obtain ⟨b,sk',hv,hcz,_⟩:=h1.cellAt hps
 cases hv;have hz4:q0K ps≤4096:=h2.ok.size ps (List.mem_of_getElem? hps);have hlen:=q1I n ps;have hfind:=q3U h2.oth h2.ok.few hps;rw[hps] at HRL;have hd1:decide ((C.length:Int)≤(n:Int))=false:=by simp;omega
 have HCz:=η31 hcz;obtain ⟨z,hz⟩: ∃z:Int,(q0K ps:Int)=z:=⟨_,rfl⟩
 rw[hz] at HCz;have z0:0≤z:=by omega
 have z1:z≤4096:=by omega
 have a0:(0:Int)≤(a:Int):=by omega
 have a1:(a:Int)≤4095:=by omega
 by_cases hno:a<12∨q0K ps<a+12
 ·have HA:Hid (q5I C pos=([],4)):=η31 (by
   rw[HRL.out];rcases hno with h|h
   ·simp only[if_neg (show ¬12≤a by omega)]
   ·by_cases h12:12≤a
    ·simp only[if_pos h12,z6B (q0S n ps) a (by omega)]
    ·simp only[if_neg h12])
  by_cases h12:a<12
  ·have hd2:decide ((a:Int)<12)=true:=by simp;omega
   clear h1 h2 c3 hcz hfind hlen hps hno hz;go_enter Tryz.func167,Tryz.ntmps167;go_wp2_with fail;refine HRd.out.mono ?_;rintro e w1 ⟨rfl,hb⟩;have HB:=η31 hb;have c3:=q0A hb HC3.out;clear hb;go_wp2_with fail;go_ret2;exact ReadR.no HK.out HB.out HA.out
  ·have hd2:decide ((a:Int)<12)=false:=by simp;omega
   have hd3:decide (z-12<(a:Int))=true:=by simp;omega
   clear h1 h2 c3 hcz hfind hlen hps hno hz;go_enter Tryz.func167,Tryz.ntmps167;go_wp2_with fail;refine HRd.out.mono ?_;rintro e w1 ⟨rfl,hb⟩;have HB:=η31 hb;have c3:=q0A hb HC3.out;have cz:=q0A hb HCz.out;clear hb;go_wp2_with fail;go_ret2;exact ReadR.no HK.out HB.out HA.out
 have h12:12≤a:=by omega
 have hsz:a+12≤q0K ps:=by omega
 have hd2:decide ((a:Int)<12)=false:=by simp;omega
 have hd3:decide (z-12<(a:Int))=false:=by simp;omega
 obtain ⟨S,hS⟩: ∃S,q0S n ps=S:=⟨_,rfl⟩
 rw[hS] at hlen hfind;obtain ⟨lg,hlg⟩: ∃lg,q3x S a=lg:=⟨_,rfl⟩
 have hlgX:q1F (((S.drop a).take 4).take 8)=lg:=by rw[List.take_of_length_le (by simp;omega),←hlg];rfl
 have hlg4:lg<4294967296:=by
  rw[←hlgX];have:=q1p (((S.drop a).take 4).take 8);have h4:(((S.drop a).take 4).take 8).length=4:=by simp;omega
  rw[h4] at this;exact this
 have hnm:=q2n (n:Int);have HCH:=η31 (fun W=>q4J (n:Int) W);have HR1:=η31 (fun (W:World) (k:Ext w W)=>q5D (h1.grow k) h2.pl hfind hnm (a:Int) 4 a0 (by decide) (by rw[hlen];omega) (by rw[hlen];omega));have HG:=η31 (fun W=>q8S ((S.drop a).take 4) W (by simp;omega));rw[hlgX] at HG;have e4:(4:Int).toNat=4:=rfl;simp only[Int.toNat_natCast,e4] at HR1;have HH:=η31 h1;have HL:=η31 h2;have hSl:a+12≤S.length:=by omega
 have HZ:=η31 hz;have HLen:=η31 hlen;have HC0:=η31 h1.l.c0;have HRow:Hid (∀(W:World) (F':Nat→Prop) (τ:DM),LgF w0 W g gl F' (.slice (some ⟨b,0,none⟩) C.length sk) τ s (q0M C) sure K→W.cell? ⟨gl,0,none⟩=some (.pointer (some ⟨g,0,none⟩))∧W.cell? ⟨gl,3,none⟩=some (.slice (some ⟨b,0,none⟩) C.length sk)∧W.cell? ⟨b,n,none⟩=some (.int .i64 z)):=η31 fun W F' τ hW=>by
  obtain ⟨b2,k2,e1,e2,_⟩:=hW.cellAt hps
  cases e1;rw[hz] at e2;exact ⟨hW.l.c0,hW.l.c3,e2⟩
 by_cases hbig:2000<lg∨S.length<a+lg+12
 ·have HA:Hid (q5I C pos=([],4)):=η31 (by
   rw[HRL.out];have:q4z S a=none:=by
    unfold q4z isR;rw[hlg];rcases hbig with h|h
    ·rw[decide_eq_false (p:=lg≤2000) (by omega)];simp
    ·rw[decide_eq_false (p:=a+lg+12≤S.length) (by omega)];simp
   simp only[if_pos h12,hS,this])
  clear h1 h2 c3 hcz hfind hlen hps hno hz hlg hlgX hS hnm;by_cases hb2:2000<lg
  ·have hd4:decide ((2000:Int)<(lg:Int))=true:=by simp;omega
   clear hbig;go_enter Tryz.func167,Tryz.ntmps167;go_wp2_with fail;refine HRd.out.mono ?_;rintro e w1 ⟨rfl,hb⟩;have HB:=η31 hb;have c3:=q0A hb HC3.out;have cz:=q0A hb HCz.out;clear hb;go_wp2_with fail;refine (HCH.out _).mono ?_;rintro e wa ⟨rfl,hb⟩;have HBa:=η31 (HB.out.trans hb);clear hb c3 cz;have c0:=q0A HBa.out HC0.out;go_wp2_with fail;refine (HR1.out _ HBa.out).mono ?_;rintro e wb ⟨rfl,⟨F',σ',hb1,hb2⟩,hb3⟩;have HB1:=η31 hb1;have HB2:=η31 hb2;have HB3:=η31 ((HK.out.kExt HBa.out).trans hb3);clear hb1 hb2 hb3 c0;go_wp2_with fail;refine (HG.out _).mono ?_;rintro e wc ⟨rfl,hb⟩;have HBc:=η31 hb;obtain ⟨c0,c3,cz⟩:=HRow.out _ _ _ (HB1.out.grow hb);clear hb;go_wp2_with fail;go_ret2;exact ⟨by rw[HA.out];rfl,⟨_,_,σ',HB1.out.grow HBc.out,⟨HB2.out,HL.out.ok,HL.out.oth⟩⟩,HB3.out.trans (HB1.out.kExt HBc.out)⟩
  ·have hd4:decide ((2000:Int)<(lg:Int))=false:=by simp;omega
   have hd5:decide (z-12-(a:Int)<(lg:Int))=true:=by have:=HZ.out;have:=HLen.out;simp;omega
   clear hbig;go_enter Tryz.func167,Tryz.ntmps167;go_wp2_with fail;refine HRd.out.mono ?_;rintro e w1 ⟨rfl,hb⟩;have HB:=η31 hb;have c3:=q0A hb HC3.out;have cz:=q0A hb HCz.out;clear hb;go_wp2_with fail;refine (HCH.out _).mono ?_;rintro e wa ⟨rfl,hb⟩;have HBa:=η31 (HB.out.trans hb);clear hb c3 cz;have c0:=q0A HBa.out HC0.out;go_wp2_with fail;refine (HR1.out _ HBa.out).mono ?_;rintro e wb ⟨rfl,⟨F',σ',hb1,hb2⟩,hb3⟩;have HB1:=η31 hb1;have HB2:=η31 hb2;have HB3:=η31 ((HK.out.kExt HBa.out).trans hb3);clear hb1 hb2 hb3 c0;go_wp2_with fail;refine (HG.out _).mono ?_;rintro e wc ⟨rfl,hb⟩;have HBc:=η31 hb;obtain ⟨c0,c3,cz⟩:=HRow.out _ _ _ (HB1.out.grow hb);clear hb;go_wp2_with fail;go_ret2;exact ⟨by rw[HA.out];rfl,⟨_,_,σ',HB1.out.grow HBc.out,⟨HB2.out,HL.out.ok,HL.out.oth⟩⟩,HB3.out.trans (HB1.out.kExt HBc.out)⟩
 have hd4:decide ((2000:Int)<(lg:Int))=false:=by simp;omega
 have hd5:decide (z-12-(a:Int)<(lg:Int))=false:=by simp;omega
 have hlg2:(lg:Int)≤2000:=by omega
 have e12:((lg:Int)+12).toNat=lg+12:=by omega
 have HR2:=η31 (fun (W:World) (F':Nat→Prop) (τ:DM) (hW:LgF w0 W g gl F' (.slice (some ⟨b,0,none⟩) C.length sk) τ s (q0M C) sure K) (hp:Pl τ (c+(q2G E:Int)) s (q3D E C))=>q5D hW hp hfind hnm (a:Int) ((lg:Int)+12) a0 (by omega) (by rw[hlen];omega) (by rw[hlen];omega));simp only[Int.toNat_natCast,e12] at HR2;obtain ⟨T,hT⟩: ∃T,(S.drop a).take (lg+12)=T:=⟨_,rfl⟩
 have hTl:T.length=lg+12:=by rw[←hT];simp;omega
 rw[hT] at HR2;have HGr:=η31 (fun W=>q8r T 0 W (by omega) (by omega));have hcut:q4z T 0=(q4z S a).map fun r=>(r.1,r.2-a):=by
  have:=z8C (s:=S) (a:=a) (by rw[hlg];omega);rw[hlg,hT] at this;exact this
 rw[Int.natCast_zero] at HGr
 cases hg:q4z S a with
 | none=>
  have HA:Hid (q5I C pos=([],4)):=η31 (by rw[HRL.out];simp only[if_pos h12,hS,hg]);have hgv:q9U T 0= .tuple #[.string ⟨#[]⟩,.int .i64 0,.bool false]:=by unfold q9U;rw[hcut,hg];rfl
  rw[hgv] at HGr;clear h1 h2 c3 hcz hfind hlen hps hno hz hlg hlgX hS hnm hbig hT hcut hg hgv;go_enter Tryz.func167,Tryz.ntmps167;go_wp2_with fail;refine HRd.out.mono ?_;rintro e w1 ⟨rfl,hb⟩;have HB:=η31 hb;have c3:=q0A hb HC3.out;have cz:=q0A hb HCz.out;clear hb;go_wp2_with fail;refine (HCH.out _).mono ?_;rintro e wa ⟨rfl,hb⟩;have HBa:=η31 (HB.out.trans hb);clear hb c3 cz;have c0:=q0A HBa.out HC0.out;go_wp2_with fail;refine (HR1.out _ HBa.out).mono ?_;rintro e wb ⟨rfl,⟨F',σ',hb1,hb2⟩,hb3⟩;have HB1:=η31 hb1;have HB2:=η31 hb2;have HB3:=η31 ((HK.out.kExt HBa.out).trans hb3);clear hb1 hb2 hb3 c0;go_wp2_with fail;refine (HG.out _).mono ?_;rintro e wc ⟨rfl,hb⟩;have HBc:=η31 hb;obtain ⟨c0,c3,cz⟩:=HRow.out _ _ _ (HB1.out.grow hb);clear hb;go_wp2_with fail;refine (HR2.out _ _ _ (HB1.out.grow HBc.out) HB2.out).mono ?_;rintro e wd ⟨rfl,⟨F2,σ2,hb1,hb2⟩,hb3⟩;have HD1:=η31 hb1;have HD2:=η31 hb2;have HD3:=η31 ((HB3.out.trans (HB1.out.kExt HBc.out)).trans hb3)
  clear hb1 hb2 hb3 c0 c3 cz;go_wp2_with fail;refine (HGr.out _).mono ?_;rintro e we ⟨rfl,hb⟩;have HE:=η31 hb;clear hb;go_wp2_with fail;go_ret2;exact ⟨by rw[HA.out];rfl,⟨_,_,σ2,HD1.out.grow HE.out,⟨HD2.out,HL.out.ok,HL.out.oth⟩⟩,HD3.out.trans (HD1.out.kExt HE.out)⟩
 | some r=>
  obtain ⟨q,e⟩:=r;have HA:Hid (q5I C pos=(q,0)):=η31 (by rw[HRL.out];simp only[if_pos h12,hS,hg]);have hgv:q9U T 0= .tuple #[.string ⟨q.toArray⟩,.int .i64 ((e-a:Nat):Int),.bool true]:=by unfold q9U;rw[hcut,hg];rfl
  rw[hgv] at HGr;generalize ((e-a:Nat):Int)=ea at*;clear h1 h2 c3 hcz hfind hlen hps hno hz hlg hlgX hS hnm hbig hT hcut hg hgv;go_enter Tryz.func167,Tryz.ntmps167;go_wp2_with fail;refine HRd.out.mono ?_;rintro e w1 ⟨rfl,hb⟩;have HB:=η31 hb;have c3:=q0A hb HC3.out;have cz:=q0A hb HCz.out;clear hb;go_wp2_with fail;refine (HCH.out _).mono ?_;rintro e wa ⟨rfl,hb⟩;have HBa:=η31 (HB.out.trans hb);clear hb c3 cz;have c0:=q0A HBa.out HC0.out;go_wp2_with fail;refine (HR1.out _ HBa.out).mono ?_;rintro e wb ⟨rfl,⟨F',σ',hb1,hb2⟩,hb3⟩;have HB1:=η31 hb1;have HB2:=η31 hb2;have HB3:=η31 ((HK.out.kExt HBa.out).trans hb3);clear hb1 hb2 hb3 c0;go_wp2_with fail;refine (HG.out _).mono ?_;rintro e wc ⟨rfl,hb⟩;have HBc:=η31 hb;obtain ⟨c0,c3,cz⟩:=HRow.out _ _ _ (HB1.out.grow hb);clear hb;go_wp2_with fail;refine (HR2.out _ _ _ (HB1.out.grow HBc.out) HB2.out).mono ?_;rintro e wd ⟨rfl,⟨F2,σ2,hb1,hb2⟩,hb3⟩
  have HD1:=η31 hb1;have HD2:=η31 hb2;have HD3:=η31 ((HB3.out.trans (HB1.out.kExt HBc.out)).trans hb3);clear hb1 hb2 hb3 c0 c3 cz;go_wp2_with fail;refine (HGr.out _).mono ?_;rintro e we ⟨rfl,hb⟩;have HE:=η31 hb;clear hb;go_wp2_with fail;go_ret2;exact ⟨by rw[HA.out];rfl,⟨_,_,σ2,HD1.out.grow HE.out,⟨HD2.out,HL.out.ok,HL.out.oth⟩⟩,HD3.out.trans (HD1.out.kExt HE.out)⟩
end
end
section
open Go.RowKit
theorem q5l : ∀(ps:List (List UInt8)) (a:Nat) (p:List UInt8),q2a a (ps++[p])=q2a a ps++[(a+(ps.map fun p=>p.length+12).sum,p)]
 |[],a,p=>by simp[q2a]
 | q::t,a,p=>by
  rw[List.cons_append,q2a,q5l t,q2a,List.cons_append,List.map_cons,List.sum_cons]
  congr 4;omega
theorem q4Z (D:Cks) (ps:List (List UInt8)):q0y 0 (D++[ps])=q0y 0 D++q2a (4096*D.length+12) ps:=by
 rw[z0K,Nat.zero_add];simp[q0y]
theorem z1C {fr x:Int} {C C':Cks} {p:List UInt8} (hs: ∀ps∈C,q0K ps≤4096) (hp:p.length≤2000) (h:q1A fr C p=(x,0,C')):
  ∃pos:Nat,x=(pos:Int)∧q0y 0 C'=q0y 0 C++[(pos,p)]∧q4r C'=(pos:Int)+(p.length:Int)+12∧q4r C≤(pos:Int)∧q0l C'≤q0l C+(p.length+24)∧C'.length≤C.length+1∧pos≤4096*C.length+12:=by
 by_cases hf:q4A C p=true
 ·by_cases hC:C=[]
  ·subst hC;cases hf
  ·obtain ⟨D,ps,rfl⟩:=q8t hC
   by_cases hr:fr-((p.length:Int)+12)<6000
   ·rw[q5Z hp hf hr] at h;cases h
   ·rw [q7P hp hf (by omega)] at h
    cases h;refine ⟨4096*D.length+q0K ps,by omega,?_,?_,?_,?_,by simp,by have:=hs ps (by simp);rw[List.length_append];simp only[List.length_cons,List.length_nil];omega⟩
    ·rw[q4Z,q4Z,q5l,List.append_assoc]
     congr 4
     unfold q0K;omega
    ·rw[q2T,q2O];omega
    ·rw[q2T];omega
    ·have h1:q0l (D++[ps++[p]])=q0l D+q0K (ps++[p]):=by simp[q0l,List.sum_append]
     have h2:q0l (D++[ps])=q0l D+q0K ps:=by simp[q0l,List.sum_append]
     rw[h1,h2,q2O];omega
 ·have hf':q4A C p=false:=by simpa using hf
  by_cases hr:200≤C.length∨fr-((p.length:Int)+24)<6000
  ·rw[q5Q hp hf' hr] at h;cases h
  ·rw [q6o hp hf' hr] at h
   cases h;refine ⟨4096*C.length+12,by omega,?_,?_,?_,?_,by simp,Nat.le_refl _⟩
   ·rw[q4Z];rfl
   ·rw[q2T,q4F];omega
   ·by_cases hC:C=[]
    ·subst hC;show (0:Int)≤_;omega
    ·obtain ⟨D,ps,rfl⟩:=q8t hC
     have:=hs ps (by simp);rw[q2T,List.length_append];simp only[List.length_cons,List.length_nil];omega
   ·have h1:q0l (C++[[p]])=q0l C+q0K [p]:=by simp[q0l,List.sum_append]
    rw[h1,q4F];omega
def z7T (x y:Nat×List UInt8):Prop:=x.1+x.2.length+12≤y.1
theorem z2d : ∀(ps:List (List UInt8)) (a:Nat),(q2a a ps).Pairwise z7T
 |[],_=>List.Pairwise.nil
 |p::t,a=>List.pairwise_cons.2 ⟨fun r hr=>(q6L t _ r hr).1,z2d t _⟩
theorem q6Q : ∀(C:Cks) (b:Nat),(∀ps∈C,q0K ps≤4096)→(q0y b C).Pairwise z7T
 |[],_,_=>List.Pairwise.nil
 | ps::t,b,hs=>by
  rw[q0y,List.pairwise_append];refine ⟨z2d ps _,q6Q t _ fun q hq=>hs q (List.mem_cons_of_mem _ hq),fun x hx y hy=>?_⟩;have h1:=q6L ps _ x hx;have h2:=q5W t _ (fun q hq=>hs q (List.mem_cons_of_mem _ hq)) y hy;have h3:=hs ps (List.mem_cons_self);unfold q0K at h3;unfold z7T;omega
def z7L (A:List (Nat×List UInt8)):Nat:=match A.getLast? with|none=>0|some r=>r.1+r.2.length+12
theorem q7r (A:List (Nat×List UInt8)) (r:Nat×List UInt8):z7L (A++[r])=r.1+r.2.length+12:=by unfold z7L;simp
theorem z7D {A:List (Nat×List UInt8)} (h:A.Pairwise z7T): ∀r∈A,r.1<z7L A:=fun r hr=>by
 rcases List.eq_nil_or_concat A with rfl|⟨D,q,rfl⟩
 ·cases hr
 ·rw [List.concat_eq_append] at*
  rw[q7r];rcases List.mem_append.1 hr with h1|h1
  ·have:=(List.pairwise_append.1 h).2.2 r h1 q (by simp)
   unfold z7T at this;omega
  ·obtain rfl:=List.mem_singleton.1 h1;omega
theorem z3z {C:Cks} (h:okC C):(z7L (q0y 0 C):Int)=q4r C:=by
 rcases List.eq_nil_or_concat C with rfl|⟨D,ps,rfl⟩
 ·rfl
 ·rw [List.concat_eq_append] at*
  have hne:=h.full ps (by simp);rcases List.eq_nil_or_concat ps with rfl|⟨qs,p,rfl⟩
  ·exact absurd rfl hne
  ·rw[List.concat_eq_append] at*
   rw[q4Z,q5l,←List.append_assoc,q7r,q2T,q2O];unfold q0K;show ((4096*D.length+12+(qs.map fun p=>p.length+12).sum+p.length+12:Nat):Int)=_;omega
theorem z0V : ∀(ps:List (List UInt8)) (a:Nat) (r:Nat×List UInt8),r∈q2a a ps→ ∃k,ps[k]? =some r.2∧r.1=a+((ps.take k).map fun p=>p.length+12).sum
 |[],_,r,h=>by cases h
 | p ::t,a,r,h=>by
  rw[q2a] at h;rcases List.mem_cons.1 h with rfl|h
  ·exact ⟨0,rfl,by simp⟩
  ·obtain ⟨k,h1,h2⟩:=z0V t _ r h
   exact ⟨k+1,by rw[List.getElem?_cons_succ];exact h1,by rw[h2,List.take_succ_cons,List.map_cons,List.sum_cons];omega⟩
theorem z0J : ∀(C:Cks) (b:Nat) (r:Nat×List UInt8),r∈q0y b C→ ∃(n:Nat) (ps:List (List UInt8)) (k:Nat),C[n]? =some ps∧ps[k]? =some r.2∧r.1=b+4096*n+q0K (ps.take k)
 |[],_,r,h=>by cases h
 | ps ::t,b,r,h=>by
  rw[q0y] at h;rcases List.mem_append.1 h with h|h
  ·obtain ⟨k,h1,h2⟩:=z0V ps _ r h
   exact ⟨0,ps,k,rfl,h1,by rw[h2];unfold q0K;omega⟩
  ·obtain ⟨n,qs,k,h1,h2,h3⟩:=z0J t _ r h
   exact ⟨n+1,qs,k,by rw[List.getElem?_cons_succ];exact h1,h2,by rw[h3];omega⟩
theorem z5t {C:Cks} (h:okC C) {r:Nat×List UInt8} (hr:r∈q0y 0 C):q5I C (r.1:Int)=(r.2,0):=by
 obtain ⟨n,ps,k,h1,h2,h3⟩:=z0J C 0 r hr;have hps:=List.mem_of_getElem? h1;have hp:=h.pay ps hps r.2 (List.mem_of_getElem? h2);have hk:k<ps.length:=(List.getElem?_eq_some_iff.1 h2).1;have hsz:=h.size ps hps;have h4:q0K (ps.take (k+1))≤q0K ps:=by
  unfold q0K
  conv=>rhs;rw[←List.take_append_drop (k+1) ps,List.map_append,List.sum_append]
  omega
 have h5:ps.take (k+1)=ps.take k++[r.2]:=by
  obtain ⟨_,he⟩:=List.getElem?_eq_some_iff.1 h2;rw[List.take_succ_eq_append_getElem hk,he]
 rw[h5,q2O] at h4;rw[z2G (n:=n) (a:=q0K (ps.take k)) (by omega) (by omega),h1];show (match (if 12≤q0K (ps.take k) then q4z (q0S n ps) (q0K (ps.take k)) else none) with|none=>([],4)|some (p,_)=>(p,0))=(r.2,(0:Int));rw[if_pos (by unfold q0K;omega),z8P n ps k r.2 h2 hp]
theorem z7E {C:Cks} (h:okC C) {r:Nat×List UInt8} (hr:r∈q0y 0 C):r.1≤819200:=by
 have:=q5W C 0 h.size r hr;have:=h.few;omega
end
end Go.Proofs.YthdekbmdkpcooaaGreatDoor
