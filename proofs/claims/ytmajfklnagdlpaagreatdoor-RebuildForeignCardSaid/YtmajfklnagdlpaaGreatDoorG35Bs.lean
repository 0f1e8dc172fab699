/- Walks: the last chunk made sure. Walks: a record more in the last chunk. Walks: a new chunk, step by step. Walks: a new chunk. Walks: a record in a new chunk. Walks: a record put behind all others; all made sure. Walks: the record that stands at a place. Plain laws: the records of a log, one behind the other. -/
import Derived.Test.YtmajfklnagdlpaaGreatDoorG34Bs
import Derived.Test.YtmajfklnagdlpaaGreatDoorG29Bs
import Derived.Deep.RegionHeld3
import Derived.Laws.BitsLemmas
import Derived.Test.YtmajfklnagdlpaaGreatDoorG15Bs
import Derived.Deep.RegionLaw
import Derived.Test.YtmajfklnagdlpaaGreatDoorG10Bs
set_option linter.unusedVariables false
set_option linter.unusedSimpArgs false
namespace Go.Proofs.YtmajfklnagdlpaaGreatDoor
open Go.RowKit
set_option maxRecDepth 100000
set_option linter.unusedVariables false
set_option maxHeartbeats 3200000
section
variable {E :Oth} {w0 w:World} {g gl:Nat} {F K:Nat→Prop} {v:Value} {σ:DM} {c s sure:Int} {C:Cks}
theorem LgF.setSure {xs:List Int} {sure:Int} (h:LgF w0 w g gl F v σ s xs sure K) (z:Int):LgF w0 (w.setCell ⟨gl,4,none⟩ (.int .i64 z)) g gl F v σ s xs z K∧Stay K w (w.setCell ⟨gl,4,none⟩ (.int .i64 z)):=
  h.log ⟨h.l.blk.set 4 (.int .i64 z),q0o h.l.row _ h.l.apart⟩ (OffS.set w (.inl rfl) 4 _) fun i hi=> .inl hi
theorem z3z {C:Cks} (h:C≠[]): ∃D ps,C=D++[ps]:=by
  rcases List.eq_nil_or_concat C with h1|⟨D,ps,h1⟩
  · exact absurd h1 h
  · exact ⟨D,ps,by rw[h1,List.concat_eq_append]⟩
theorem q8D (D:Cks) (ps:List (List UInt8)):(D++[ps])[D.length]?=some ps:=by simp
def q0g (C:Cks) (sure:Int):Int:=if C=[] then sure else q3J C
def LgV (E:Oth) (w0 w:World) (g gl:Nat) (v:Value) (c s:Int) (C:Cks) (sure:Int) (K:Nat→Prop):Prop:= ∃F σ,LgF w0 w g gl F v σ s (q0K C) sure K∧Lgd E σ c s C
theorem LgV.toK (h:LgV E w0 w g gl v c s C sure K):LgK E w0 w g gl c s C sure K:=by obtain ⟨F,σ,h1,h2⟩:=h;exact ⟨F,v,σ,h1,h2⟩
theorem LgK.toV (h:LgK E w0 w g gl c s C sure K): ∃v,LgV E w0 w g gl v c s C sure K:=by obtain ⟨F,v,σ,h1,h2⟩:=h;exact ⟨v,F,σ,h1,h2⟩
theorem z1e (h:LgF w0 w g gl F v σ s (q0K C) sure K) (hl:Lgd E σ c s C):
    Calls Tryz.prog 122 #[.pointer (some ⟨gl,0,none⟩)] w fun e w'=>e= .returned (.int .i64 0)∧LgV E w0 w' g gl v c s C (q0g C sure) K∧Stay K w w':=by
  have c0:=h.l.c0;have c3:=h.l.c3
  obtain ⟨a,k,rfl,hx⟩:=h.l.slice
  by_cases hC:C=[]
  · subst hC
    have HK:Hid (LgV E w0 w g gl (.slice a (q0K []).length k) c s [] (q0g [] sure) K):=Lib.hid ⟨F,σ,h,hl⟩
    have e0:(q0K []).length=0:=rfl
    clear h hl hx
    go_enter Tryz.func122,Tryz.ntmps122
    go_wp2_with fail
    go_ret
    exact ⟨rfl,HK.out,Stay.refl _ _⟩
  have HIf:Hid (q0g C sure=q3J C):=Lib.hid (by unfold q0g;rw[if_neg hC])
  have hCl:1≤C.length:=by cases C with|nil=>exact absurd rfl hC|cons=>simp
  obtain ⟨D,ps,hD⟩:=z3z hC
  have hn:(q0K C).length=C.length:=q0d C
  have h200:=hl.ok.few
  rw[hn] at c3
  obtain ⟨σ',hm,hp'⟩:=hl.pl.sync (q3t hl.oth h200 (by rw[hD];exact q8D D ps))
  have hnm:=q2y (D.length:Int)
  have HSY:=Lib.hid (fun (wa:World) (k:Ext w wa)=>show Calls Tryz.prog 175 #[.pointer (some ⟨g,0,none⟩),.string ⟨(q0B 99 (D.length:Int)).toArray⟩] wa fun e w'=>e= .returned (.int .i64 0)∧DkS wa g F σ' w' by
    have:=z1c (h.d.ext k) (q0B 99 (D.length:Int)) hnm
    rw[hm] at this
    exact this)
  have hM:IntKind.i64.wrap ((C.length:Int)-1)=(D.length:Int):=by
    have:C.length=D.length+1:=by rw[hD];simp
    rw[IntKind.wrap_i64];omega
  have HCH:=Lib.hid (fun W=>q4L (D.length:Int) W)
  generalize q0B 99 (D.length:Int)=nm at*
  obtain ⟨M,hMM⟩: ∃M:Int,(D.length:Int)=M:=⟨_,rfl⟩
  rw[hMM] at hM HCH
  have HH:=Lib.hid h
  have HL:=Lib.hid hl
  have HP:=Lib.hid hp'
  have hw:Ext w w.drew:=(Ext.refl w).drew
  have HW:=Lib.hid hw
  have d0:=q0A hw c0;have d3:=q0A hw c3
  have hC0:((C.length:Int)==0)=false:=by simpa using hC
  clear h hl hp' hm hx hD hMM hC hn hw
  go_enter Tryz.func122,Tryz.ntmps122
  go_wp2_with fail
  go_region_held3 (fun W=>W.cell? ⟨gl,0,none⟩=some (.pointer (some ⟨g,0,none⟩))∧W.cell? ⟨gl,3,none⟩=some (.slice a C.length k))
    (first|exact HS2.out|exact HS1.out|exact ⟨d0,d3⟩)
    (first
      |(go_at_call 119;refine (HCH.out _).mono ?_;rintro e wa ⟨rfl,h1⟩;have H1:=Lib.hid (HW.out.trans h1);have HS1:=Lib.hid (And.intro (q0A h1 d0) (q0A h1 d3));clear h1)
      |(go_at_call 175;refine (HSY.out _ H1.out).mono ?_;rintro e wb ⟨rfl,h2⟩;have h3:=(HH.out.grow H1.out).disk h2;have H3:=Lib.hid h3;have HS2:=Lib.hid (And.intro h3.1.l.c0 (q0d C▸h3.1.l.c3));clear h2 h3))
  all_goals
    have HE:=Lib.hid (z5V H3.out.1.l HL.out.ok)
    have e4:=H3.out.1.l.c4
    have z4:=H3.out.1.l.blk.free 4
    have h4:=H3.out.1.setSure (q3J C)
    have HF:=Lib.hid (show LgV E w0 (wb.setCell ⟨gl,4,none⟩ (.int .i64 (q3J C))) g gl _ c s C (q0g C sure) K from ⟨_,σ',by rw[HIf.out];exact h4.1,⟨HP.out,HL.out.ok,HL.out.oth⟩⟩)
    have HSt:=Lib.hid ((HH.out.kExt H1.out).trans (H3.out.2.trans h4.2))
    clear h4
    go_wp2_with fail
    refine HE.out.mono ?_
    rintro e w' ⟨rfl,rfl⟩
    go_wp2_with fail
    go_ret
    exact ⟨rfl,HF.out,HSt.out⟩
theorem z7k (h:LgF w0 w g gl F v σ s (q0K C) sure K) (hl:Lgd E σ c s C):
    Calls Tryz.prog 122 #[.pointer (some ⟨gl,0,none⟩)] w fun e w'=>e= .returned (.int .i64 0)∧LgK E w0 w' g gl c s C (q0g C sure) K∧Stay K w w':=
  (z1e h hl).mono fun _ _ ⟨h1,h2,h3⟩=>⟨h1,h2.toK,h3⟩
end
end Go.Proofs.YtmajfklnagdlpaaGreatDoor
namespace Go.Proofs.YtmajfklnagdlpaaGreatDoor
open Go.RowKit
set_option maxRecDepth 100000
set_option linter.unusedVariables false
set_option maxHeartbeats 3200000
section
variable {E :Oth} {w0 w:World} {g gl:Nat} {F K:Nat→Prop} {v:Value} {σ:DM} {c s sure:Int} {C:Cks}
theorem Lgd.free (h:Lgd E σ c s C):q3M σ=c-(q0q C:Int):=by rw[h.pl.free,q6D];push_cast;omega
theorem Dk.okD {F:Nat→Prop} (h:Dk w g F σ):okD σ:=by obtain ⟨h1,_⟩:=h;exact h1
theorem LgF.room0 {xs:List Int} (h:LgF w0 w g gl F v σ s xs sure K) (hl:Lgd E σ c s C):0≤c-(q0q C:Int)∧c-(q0q C:Int)≤1048576:=by
  have ho:=h.d.okD
  have h1:=hl.free
  have h2:=ho.used;have h3:=ho.cap1
  unfold q3M at h1
  omega
theorem LgF.setRow {xs:List Int} (h:LgF w0 w g gl F v σ s xs sure K) {b k:Nat} (hv:v= .slice (some ⟨b,0,none⟩) xs.length k) (j:Nat) (z:Int):LgF w0 (w.setCell ⟨b,j,none⟩ (.int .i64 z)) g gl F v σ s (xs.set j z) sure K∧Stay K w (w.setCell ⟨b,j,none⟩ (.int .i64 z)):=by
  have hb:v.ownBlock=some b:=by rw[hv];rfl
  have hne:¬gl=b:=fun e=>h.l.apart (by rw[hb,e])
  refine h.log ⟨(OffS.set (F:=fun i=>i=b) w rfl j (.int .i64 z)).blk h.l.blk hne,?_⟩ (OffS.set w (.inr hb) j _) fun i hi=> .inl hi
  have:=z2W h.l.row hv (j:=j) (.int .i64 z)
  rw[List.length_set,List.map_set]
  exact this
theorem LgF.last {D:Cks} {ps:List (List UInt8)} (h:LgF w0 w g gl F v σ s (q0K (D++[ps])) sure K):
    ∃b k,v= .slice (some ⟨b,0,none⟩) (D.length+1) k∧w.cell? ⟨b,D.length,none⟩=some (.int .i64 (q0M ps:Int))∧w.frozen? ⟨b,D.length,none⟩=false:=by
  have hsl:(q0K (D++[ps])).length=D.length+1:=by rw[q0d];simp
  obtain ⟨b,k,h1,h2,h3,_⟩:=(Own.of_row h.l.row).cell (j:=D.length) (by rw[List.length_map,hsl];omega)
  have hlast:((q0K (D++[ps])).map (Value.int .i64))[D.length]'(by rw[List.length_map,hsl];omega)= .int .i64 (q0M ps:Int):=by
    rw[List.getElem_map]
    congr 1
    have:=q6F D ps
    rw[List.getD_eq_getElem?_getD,List.getElem?_eq_getElem (by rw[hsl];omega)] at this
    exact this
  rw[hlast] at h2
  rw[hsl] at h1
  exact ⟨b,k,h1,h2,h3⟩
theorem z3K (h:LgF w0 w g gl F v σ s (q0K C) sure K) (hl:Lgd E σ c s C) (n:Int) (R:List UInt8) (hR:R.length≤2012) (hr:c-(q0q C:Int)-(R.length:Int)<6000):
    Calls Tryz.prog 54 #[.pointer (some ⟨gl,0,none⟩),.int .i64 n,.string ⟨R.toArray⟩] w fun e w'=>e= .returned (.tuple #[.int .i64 0,.int .i64 60])∧Ext w w':=by
  obtain ⟨r0,r1⟩:=h.room0 hl
  have HR:=Lib.hid (z1i h hl.free r0 r1 (R.length:Int) (by omega) (by omega))
  have hd:decide ((6000:Int)≤c-(q0q C:Int)-(R.length:Int))=false:=by simp;omega
  rw[hd] at HR
  clear h hl hd r0 r1 hr
  go_enter Tryz.func54,Tryz.ntmps54
  go_wp2_with fail
  refine HR.out.mono ?_
  rintro e w1 ⟨rfl,hb⟩
  have HB:=Lib.hid hb;clear hb
  go_wp2_with fail
  go_ret2
  exact ⟨rfl,HB.out⟩
theorem z6Y {D:Cks} {ps:List (List UInt8)} {p:List UInt8} (h:LgF w0 w g gl F v σ s (q0K (D++[ps])) sure K) (hl:Lgd E σ c s (D++[ps])) (hp:p.length≤2000) (hs:q0M ps+(p.length+12)≤4096)
    (hr:6000≤c-(q0q (D++[ps]):Int)-((p.length:Int)+12)):
    Calls Tryz.prog 54 #[.pointer (some ⟨gl,0,none⟩),.int .i64 (D.length:Int),.string ⟨(q1t p).toArray⟩] w fun e w'=>
      e= .returned (.tuple #[.int .i64 ((D.length:Int)*4096+(q0M ps:Int)),.int .i64 0])∧LgK E w0 w' g gl c s (D++[ps++[p]]) sure K∧Stay K w w':=by
  obtain ⟨r0,r1⟩:=h.room0 hl
  have h200:=hl.ok.few
  have hD200:D.length+1≤200:=by simpa using h200
  have hRl:=q0v p
  have HR:=Lib.hid (z1i h hl.free r0 r1 ((q1t p).length:Int) (by omega) (by omega))
  have hd:decide ((6000:Int)≤c-(q0q (D++[ps]):Int)-((q1t p).length:Int))=true:=by simp;omega
  rw[hd] at HR
  obtain ⟨σ',hm,hp'⟩:=hl.pl.append (t:=q1t p) (q3t hl.oth h200 (q8D D ps)) (by rw[q6D];push_cast;omega)
  rw[z4X hl.oth p (by omega)] at hp'
  have HP:Hid (Lgd E σ' c s (D++[ps++[p]])):=Lib.hid ⟨hp',hl.ok.grow hp hs,hl.oth⟩
  have hnm:=q2y (D.length:Int)
  have HAP:=Lib.hid (fun (wa:World) (k:Ext w wa)=>show Calls Tryz.prog 118 #[.pointer (some ⟨g,0,none⟩),.string ⟨(q0B 99 (D.length:Int)).toArray⟩,.string ⟨(q1t p).toArray⟩] wa fun e w'=>e= .returned (.int .i64 0)∧DkS wa g F σ' w' by
    have:=q5y (h.d.ext k) (q0B 99 (D.length:Int)) (q1t p) hnm (by omega)
    rw[hm] at this
    exact this)
  have HCH:=Lib.hid (fun W=>q4L (D.length:Int) W)
  have c0:=h.l.c0
  have HC0:=Lib.hid c0
  have HH:=Lib.hid h
  have HSz:Hid ((q0K (D++[ps])).set D.length ((q0M ps:Int)+((q1t p).length:Int))=q0K (D++[ps++[p]])):=Lib.hid (by
    rw[←z3C D ps (ps++[p]),q5E,q0v];congr 1)
  have HRow:=Lib.hid (fun (W:World) (F':Nat→Prop) (τ:DM) (hW:LgF w0 W g gl F' v τ s (q0K (D++[ps])) sure K)=>hW.last)
  have hsl:(q0K (D++[ps])).length=D.length+1:=by rw[q0d];simp
  have HSl:=Lib.hid hsl
  have z0:(0:Int)≤(q0M ps:Int):=by omega
  have z1:(q0M ps:Int)≤4096:=by omega
  have hRl2:(q1t p).length≤2012:=by omega
  have hDl:D.length≤199:=by omega
  generalize q0B 99 (D.length:Int)=nm at*
  generalize q1t p=R at*
  generalize (q0M ps:Int)=z at*
  generalize D.length=n at*
  clear h hl hp' hm hd r0 r1 hr hs hRl h200 hD200 hp hnm hsl
  go_enter Tryz.func54,Tryz.ntmps54
  go_wp2_with fail
  refine HR.out.mono ?_
  rintro e w1 ⟨rfl,hb⟩
  have HB:=Lib.hid hb
  have d0:=q0A hb HC0.out
  have d0':=q0A (hb.drew) HC0.out
  have HB':=Lib.hid hb.drew
  clear hb c0
  go_wp2_with fail
  go_region_held3 (fun W=>W.cell? ⟨gl,0,none⟩=some (.pointer (some ⟨g,0,none⟩)))
    (first|exact HS2.out|exact HS1.out|exact d0')
    (first
      |(go_at_call 119;refine (HCH.out _).mono ?_;rintro e wa ⟨rfl,h1⟩;have H1:=Lib.hid (HB'.out.trans h1);have HS1:=Lib.hid (q0A h1 d0');clear h1)
      |(go_at_call 118;refine (HAP.out _ H1.out).mono ?_;rintro e wb ⟨rfl,h2⟩;have h3:=(HH.out.grow H1.out).disk h2;have H3:=Lib.hid h3;have HS2:=Lib.hid h3.1.l.c0;clear h2 h3))
  all_goals
    obtain ⟨b,k,rfl,e2,z2⟩:=HRow.out _ _ _ H3.out.1
    have e3:=H3.out.1.l.c3
    have h4:=H3.out.1.setRow (by rw[HSl.out]) n (z+(R.length:Int))
    rw[HSz.out] at h4
    have HF:=Lib.hid (show LgK E w0 (wb.setCell ⟨b,n,none⟩ (.int .i64 (z+(R.length:Int)))) g gl c s (D++[ps++[p]]) sure K from ⟨_,_,σ',h4.1,HP.out⟩)
    have HSt:=Lib.hid ((HH.out.kExt H1.out).trans (H3.out.2.trans h4.2))
    clear h4
    go_wp2_with fail
    go_ret2
    exact ⟨rfl,HF.out,HSt.out⟩
end
end Go.Proofs.YtmajfklnagdlpaaGreatDoor
namespace Go.Proofs.YtmajfklnagdlpaaGreatDoor
open Go.RowKit
set_option maxRecDepth 100000
set_option linter.unusedVariables false
set_option maxHeartbeats 3200000
def LgP (E:Oth) (w0 w:World) (g gl:Nat) (c s:Int) (l:List (List UInt8×List UInt8)) (xs:List Int) (sure:Int) (K:Nat→Prop):Prop:= ∃F v σ,LgF w0 w g gl F v σ s xs sure K∧okOth E∧Pl σ (c+(q2G E:Int)) s l
theorem z4g {w w':World} {b:Nat} (h:w'.heap[b]?=w.heap[b]?) (o:Nat):w'.cell? ⟨b,o,none⟩=w.cell? ⟨b,o,none⟩:=by simp only[World.cell?,h]
theorem q0m {K:Nat→Prop} {w w':World} (h:Stay K w w') {b o:Nat} (hK:K b) {u:Value} (hc:w.cell? ⟨b,o,none⟩=some u):w'.cell? ⟨b,o,none⟩=some u:=(z4g (h b hK) o).trans hc
section
variable {E :Oth} {w0 w:World} {g gl:Nat} {F K:Nat→Prop} {v:Value} {σ:DM} {c s sure:Int} {C:Cks} {xs:List Int}
theorem z5U (h:LgP E w0 w g gl c s (q2o E C) xs sure K) (hC:C.length<200) {bl bn:Nat} (kl:K bl) (kn:K bn) (hbl:w.cell? ⟨bl,0,none⟩=some (.pointer (some ⟨gl,0,none⟩))) (hbn:w.cell? ⟨bn,0,none⟩=some (.int .i64 (C.length:Int))):
    Calls Tryz.prog 123 #[.pointer (some ⟨bl,0,none⟩),.pointer (some ⟨bn,0,none⟩)] w fun e w'=>e= .returned (.int .i64 0)∧LgP E w0 w' g gl c s (z2O E C) xs sure K∧Stay K w w':=by
  obtain ⟨F,v,σ,h,hE,hp⟩:=h
  have c0:=h.l.c0
  have hok:q1l (q0B 99 (C.length:Int))=true:=by rw[q0P (by omega)];simp[q1l,q0X]
  obtain ⟨σ',hm,hp'⟩:=hp.create (z3o hE (by omega) (Nat.le_refl _) (by omega)) hok (by rw[q6W];have:=hE.few;omega)
  rw[z5x hE (by omega)] at hp'
  have hnm:=q2y (C.length:Int)
  have HCR:=Lib.hid (fun (wa:World) (k:Ext w wa)=>show Calls Tryz.prog 124 #[.pointer (some ⟨g,0,none⟩),.string ⟨(q0B 99 (C.length:Int)).toArray⟩] wa fun e w'=>e= .returned (.int .i64 0)∧DkS wa g F σ' w' by
    have:=q8c (h.d.ext k) (q0B 99 (C.length:Int)) hnm
    rw[hm] at this
    exact this)
  have HCH:=Lib.hid (fun W=>q4L (C.length:Int) W)
  have HP:=Lib.hid (And.intro hE hp')
  have HH:=Lib.hid h
  have hw:Ext w w.drew:=(Ext.refl w).drew
  have HW:=Lib.hid hw
  have d0:=q0A hw c0;have d1:=q0A hw hbl;have d2:=q0A hw hbn
  generalize q0B 99 (C.length:Int)=nm at*
  generalize C.length=n at*
  clear h hp hp' hE hm hok hnm hw c0 hbl hbn
  go_enter Tryz.func123,Tryz.ntmps123
  go_wp2_with fail
  go_region_held3 (fun W=>W.cell? ⟨gl,0,none⟩=some (.pointer (some ⟨g,0,none⟩))∧W.cell? ⟨bl,0,none⟩=some (.pointer (some ⟨gl,0,none⟩))∧W.cell? ⟨bn,0,none⟩=some (.int .i64 (n:Int)))
    (first|exact HS2.out|exact HS1.out|exact ⟨d0,d1,d2⟩)
    (first
      |(go_at_call 119;refine (HCH.out _).mono ?_;rintro e wa ⟨rfl,h1⟩;have H1:=Lib.hid (HW.out.trans h1);have HS1:=Lib.hid (And.intro (q0A h1 d0) (And.intro (q0A h1 d1) (q0A h1 d2)));clear h1)
      |(go_at_call 124;refine (HCR.out _ H1.out).mono ?_;rintro e wb ⟨rfl,h2⟩;have h3:=(HH.out.grow H1.out).disk h2;have H3:=Lib.hid h3;have HS2:=Lib.hid (And.intro h3.1.l.c0 (And.intro (q0m h3.2 kl HS1.out.2.1) (q0m h3.2 kn HS1.out.2.2)));clear h2 h3))
  all_goals
    go_wp2_with fail
    go_ret
    exact ⟨rfl,⟨_,_,σ',H3.out.1,HP.out⟩,(HH.out.kExt H1.out).trans H3.out.2⟩
theorem z6T {p:List UInt8} (h:LgP E w0 w g gl c s (z2O E C) xs sure K) (hC:C.length<200) (hp:p.length≤2000) (hr:(p.length:Int)+24≤c-(q0q C:Int)) {bl bn br:Nat} (kl:K bl) (kn:K bn) (kr:K br)
    (hbl:w.cell? ⟨bl,0,none⟩=some (.pointer (some ⟨gl,0,none⟩))) (hbn:w.cell? ⟨bn,0,none⟩=some (.int .i64 (C.length:Int))) (hbr:w.cell? ⟨br,0,none⟩=some (.string ⟨(q1t p).toArray⟩)):
    Calls Tryz.prog 125 #[.pointer (some ⟨bl,0,none⟩),.pointer (some ⟨bn,0,none⟩),.pointer (some ⟨br,0,none⟩)] w fun e w'=>e= .returned (.int .i64 0)∧LgP E w0 w' g gl c s (q2o E (C++[[p]])) xs sure K∧Stay K w w':=by
  obtain ⟨F,v,σ,h,hE,hpl⟩:=h
  have c0:=h.l.c0
  have hf:q0E Prod.fst (q0B 99 (C.length:Int)) (z2O E C)=some (q0B 99 (C.length:Int),[]):=by
    exact z4w hE (by omega)
  have hRl:=q0v p
  have hHl:=q2X C.length
  obtain ⟨σ',hm,hp'⟩:=hpl.append (t:=q2J C.length++q1t p) hf (by
    rw[z4d,List.length_append,hRl,hHl]
    push_cast
    omega)
  rw[z2a hE p (by omega)] at hp'
  have hnm:=q2y (C.length:Int)
  have HAP:=Lib.hid (fun (wa:World) (k:Ext w wa)=>show Calls Tryz.prog 118 #[.pointer (some ⟨g,0,none⟩),.string ⟨(q0B 99 (C.length:Int)).toArray⟩,.string (⟨(q2J C.length).toArray⟩++⟨(q1t p).toArray⟩)] wa fun e w'=>e= .returned (.int .i64 0)∧DkS wa g F σ' w' by
    have:=q5y (h.d.ext k) (q0B 99 (C.length:Int)) (q2J C.length++q1t p) hnm (by rw[List.length_append];omega)
    rw[hm] at this
    rw[q2g]
    exact this)
  have HCH:=Lib.hid (fun W=>q4L (C.length:Int) W)
  have HHD:=Lib.hid (fun W=>z1I C.length W hC)
  have HP:=Lib.hid (And.intro hE hp')
  have HH:=Lib.hid h
  have hw:Ext w w.drew:=(Ext.refl w).drew
  have HW:=Lib.hid hw
  have d0:=q0A hw c0;have d1:=q0A hw hbl;have d2:=q0A hw hbn;have d3:=q0A hw hbr
  have hcat:¬(9223372036854775807<(q2J C.length).length+(q1t p).length):=by omega
  clear h hpl hE hp' hm hf hnm hw c0 hbl hbn hbr hRl hHl hr hp
  generalize q1t p=R at*
  generalize q2J C.length=Hd at*
  generalize q0B 99 (C.length:Int)=nm at*
  generalize C.length=n at*
  go_enter Tryz.func125,Tryz.ntmps125
  go_wp2_with fail
  go_region_held3 (fun W=>W.cell? ⟨gl,0,none⟩=some (.pointer (some ⟨g,0,none⟩))∧W.cell? ⟨bl,0,none⟩=some (.pointer (some ⟨gl,0,none⟩))∧W.cell? ⟨bn,0,none⟩=some (.int .i64 (n:Int))∧W.cell? ⟨br,0,none⟩=some (.string ⟨R.toArray⟩))
    (first|exact HS3.out|exact HS2.out|exact HS1.out|exact ⟨d0,d1,d2,d3⟩)
    (first
      |(go_at_call 119;refine (HCH.out _).mono ?_;rintro e wa ⟨rfl,h1⟩;have H1:=Lib.hid (HW.out.trans h1);have HS1:=Lib.hid (And.intro (q0A h1 d0) (And.intro (q0A h1 d1) (And.intro (q0A h1 d2) (q0A h1 d3))));clear h1)
      |(go_at_call 126;refine (HHD.out _).mono ?_;rintro e wc ⟨rfl,h1⟩;have H2:=Lib.hid (H1.out.trans h1);have HS2:=Lib.hid (And.intro (q0A h1 HS1.out.1) (And.intro (q0A h1 HS1.out.2.1) (And.intro (q0A h1 HS1.out.2.2.1) (q0A h1 HS1.out.2.2.2))));clear h1)
      |(go_at_call 118;refine (HAP.out _ H2.out).mono ?_;rintro e wb ⟨rfl,h2⟩;have h3:=(HH.out.grow H2.out).disk h2;have H3:=Lib.hid h3;have HS3:=Lib.hid (And.intro h3.1.l.c0 (And.intro (q0m h3.2 kl HS2.out.2.1) (And.intro (q0m h3.2 kn HS2.out.2.2.1) (q0m h3.2 kr HS2.out.2.2.2))));clear h2 h3))
  all_goals
    go_wp2_with fail
    go_ret
    exact ⟨rfl,⟨_,_,σ',H3.out.1,HP.out⟩,(HH.out.kExt H2.out).trans H3.out.2⟩
end
end Go.Proofs.YtmajfklnagdlpaaGreatDoor
namespace Go.Proofs.YtmajfklnagdlpaaGreatDoor
open Go.RowKit
set_option maxRecDepth 100000
set_option linter.unusedVariables false
set_option maxHeartbeats 3200000
section
variable {E :Oth} {w0 w:World} {g gl:Nat} {F K:Nat→Prop} {v:Value} {σ:DM} {c s sure:Int} {C:Cks} {xs:List Int}
theorem LgK.toP (h:LgK E w0 w g gl c s C sure K):LgP E w0 w g gl c s (q2o E C) (q0K C) sure K∧okC C:=by
  obtain ⟨F,v,σ,h1,h2⟩:=h
  exact ⟨⟨F,v,σ,h1,h2.oth,h2.pl⟩,h2.ok⟩
def z1g (E:Oth) (w0:World) (g gl:Nat) (c s:Int) (C:Cks) (p:List UInt8) (sure:Int) (K:Nat→Prop):Nat→World→Prop
  |0,W=>LgK E w0 W g gl c s C sure K
  |1,W=>LgP E w0 W g gl c s (q2o E C) (q0K C) (q0g C sure) K
  |2,W=>LgP E w0 W g gl c s (z2O E C) (q0K C) (q0g C sure) K
  |_,W=>LgP E w0 W g gl c s (q2o E (C++[[p]])) (q0K C) (q0g C sure) K
theorem z8Z {p:List UInt8} (h:LgK E w0 w g gl c s C sure K) (hC:C.length<200) (hp:p.length≤2000) (hr:(p.length:Int)+24≤c-(q0q C:Int)) {b bl bn br:Nat} (kb:K b) (kl:K bl) (kn:K bn) (kr:K br)
    (hb0:w.cell? ⟨b,0,none⟩=some (.func (.func 122) #[.pointer (some ⟨gl,0,none⟩)] #[]))
    (hb1:w.cell? ⟨b,1,none⟩=some (.func (.func 123) #[] #[.pointer (some ⟨bl,0,none⟩),.pointer (some ⟨bn,0,none⟩)]))
    (hb2:w.cell? ⟨b,2,none⟩=some (.func (.func 125) #[] #[.pointer (some ⟨bl,0,none⟩),.pointer (some ⟨bn,0,none⟩),.pointer (some ⟨br,0,none⟩)]))
    (hbl:w.cell? ⟨bl,0,none⟩=some (.pointer (some ⟨gl,0,none⟩))) (hbn:w.cell? ⟨bn,0,none⟩=some (.int .i64 (C.length:Int))) (hbr:w.cell? ⟨br,0,none⟩=some (.string ⟨(q1t p).toArray⟩)):
    Calls Tryz.prog 121 #[.slice (some ⟨b,0,none⟩) 3 3] w fun e w'=>e= .returned (.int .i64 0)∧LgP E w0 w' g gl c s (q2o E (C++[[p]])) (q0K C) (q0g C sure) K∧Stay K w w':=by
  have H:=Lib.hid h
  have HB:=Lib.hid (show∀W,Stay K w W→W.cell? ⟨b,0,none⟩=_∧W.cell? ⟨b,1,none⟩=_∧W.cell? ⟨b,2,none⟩=_ from fun W k=>⟨q0m k kb hb0,q0m k kb hb1,q0m k kb hb2⟩)
  have HL:=Lib.hid (show∀W,Stay K w W→W.cell? ⟨bl,0,none⟩=_∧W.cell? ⟨bn,0,none⟩=_∧W.cell? ⟨br,0,none⟩=_ from fun W k=>⟨q0m k kl hbl,q0m k kn hbn,q0m k kr hbr⟩)
  have HKl:=Lib.hid kl;have HKn:=Lib.hid kn;have HKr:=Lib.hid kr
  have HC:=Lib.hid hC;have HPp:=Lib.hid hp;have HR:=Lib.hid hr
  clear h kb kl kn kr hb0 hb1 hb2 hbl hbn hbr hC hp hr
  go_enter Tryz.func121,Tryz.ntmps121
  go_wp2_with fail
  go_loopw [8] (fun i W=> ∃k:Nat,k≤3∧i= .int .i64 (k:Int)∧z1g E w0 g gl c s C p sure K k W∧Stay K w W) (fun i _=>3-(intOf i).toNat)
  case atStart=>exact ⟨0,by omega,rfl,H.out,Stay.refl _ _⟩
  case round=>
    obtain ⟨k,hk,rfl,hs,hst⟩:=hrel
    have HS:=Lib.hid hs
    have HSt:=Lib.hid hst
    obtain ⟨q0,q1,q2⟩:=HB.out wr hst
    have HLw:=Lib.hid (HL.out wr hst)
    clear hs hst
    obtain rfl|rfl|rfl|rfl:k=0∨k=1∨k=2∨k=3:=by omega
    · have HX:Hid (Calls Tryz.prog 122 #[.pointer (some ⟨gl,0,none⟩)] wr fun e w'=>e= .returned (.int .i64 0)∧LgK E w0 w' g gl c s C (q0g C sure) K∧Stay K wr w'):=Lib.hid (by
        obtain ⟨F,v,σ,h1,h2⟩:=HS.out
        exact z7k h1 h2)
      go_wp2_with fail
      refine HX.out.mono ?_
      rintro e w1 ⟨rfl,h1,h2⟩
      have H1:=Lib.hid (show z1g E w0 g gl c s C p sure K 1 w1 from h1.toP.1)
      have H2:=Lib.hid (HSt.out.trans h2)
      clear h1 h2
      go_wp2_with fail
      go_roundw
      case rel=>exact ⟨1,by omega,by go_num,H1.out,H2.out⟩
      case measure=>simp[intOf]
    · have HX:=Lib.hid (z5U HS.out HC.out HKl.out HKn.out HLw.out.1 HLw.out.2.1)
      go_wp2_with fail
      refine HX.out.mono ?_
      rintro e w1 ⟨rfl,h1,h2⟩
      have H1:=Lib.hid (show z1g E w0 g gl c s C p sure K 2 w1 from h1)
      have H2:=Lib.hid (HSt.out.trans h2)
      clear h1 h2
      go_wp2_with fail
      go_roundw
      case rel=>exact ⟨2,by omega,by go_num,H1.out,H2.out⟩
      case measure=>simp[intOf]
    · have HX:=Lib.hid (z6T HS.out HC.out HPp.out HR.out HKl.out HKn.out HKr.out HLw.out.1 HLw.out.2.1 HLw.out.2.2)
      go_wp2_with fail
      refine HX.out.mono ?_
      rintro e w1 ⟨rfl,h1,h2⟩
      have H1:=Lib.hid (show z1g E w0 g gl c s C p sure K 3 w1 from h1)
      have H2:=Lib.hid (HSt.out.trans h2)
      clear h1 h2
      go_wp2_with fail
      go_roundw
      case rel=>exact ⟨3,by omega,by go_num,H1.out,H2.out⟩
      case measure=>simp[intOf]
    · go_wp2_with fail
      go_ret
      exact ⟨rfl,HS.out,HSt.out⟩
end
end Go.Proofs.YtmajfklnagdlpaaGreatDoor
namespace Go.Proofs.YtmajfklnagdlpaaGreatDoor
open Go.RowKit
set_option maxRecDepth 100000
set_option linter.unusedVariables false
set_option maxHeartbeats 3200000
section
variable {E :Oth} {w0 w:World} {g gl:Nat} {F K:Nat→Prop} {v:Value} {σ:DM} {c s sure:Int} {C:Cks} {xs:List Int}
theorem LgF.push {w3 wl w':World} (h:LgF w0 w3 g gl F v σ s xs sure K) (hx:Ext w3 wl) {z:Int} {v':Value} (hown:w'.ownsRow 0 3 1 v' (xs.length+1) (xs.map (Value.int .i64)++[.int .i64 z])) (hgrow:wl.grownBy w' v.ownBlock)
    (hat:v'.ownBlock=v.ownBlock∨v'.ownBlock=some wl.heap.size):
    LgF w0 (w'.setCell ⟨gl,3,none⟩ v') g gl F v' σ s (xs++[z]) sure K∧Stay K w3 (w'.setCell ⟨gl,3,none⟩ v'):=by
  have hlt:=h.l.blk.lt
  have hs:=hx.size
  have hne:v'.ownBlock≠some gl:=fun e=>by
    rcases hat with h1|h1
    · exact h.l.apart (h1.symm.trans e)
    · rw[h1] at e;cases e;omega
  have hb:Blk w' gl 113 #[.pointer (some ⟨g,0,none⟩),.int .i64 s,.bool false,v,.int .i64 sure]:=(h.l.blk.ext hx).same (hgrow.block gl (by omega) fun e=>h.l.apart e.symm)
  refine h.log ⟨hb.set 3 v',?_⟩ (((OffS.of_ext hx).trans (OffS.grown hgrow fun i e=> .inr e)).trans (OffS.set w' (.inl rfl) 3 v')) fun i hi=>?_
  · rw[List.length_append,List.map_append]
    exact q0o hown v' hne
  · rcases hat with h1|h1
    · exact .inl (h1.symm.trans hi)
    · right;rw[h1] at hi;cases hi;exact hs
theorem LgF.pushed {w3 wl w':World} (h:LgF w0 w3 g gl F v σ s xs sure K) (hx:Ext w3 wl) (hgrow:wl.grownBy w' v.ownBlock):Stay K w3 w'∧w'.cell? ⟨gl,3,none⟩=some v∧w'.frozen? ⟨gl,3,none⟩=false:=by
  have hlt:=h.l.blk.lt
  have hs:=hx.size
  have hb:Blk w' gl 113 #[.pointer (some ⟨g,0,none⟩),.int .i64 s,.bool false,v,.int .i64 sure]:=(h.l.blk.ext hx).same (hgrow.block gl (by omega) fun e=>h.l.apart e.symm)
  refine ⟨fun i hi=>?_,hb.cell 3,hb.free 3⟩
  obtain ⟨h1,_,h2⟩:=h.k i hi
  exact (hgrow.block i (by omega) fun e=>h2 (.inr e.symm)).trans (hx.block i h1)
theorem z5q (h:LgF w0 w g gl F v σ s (q0K C) sure K) (hl:Lgd E σ c s C) (R:List UInt8) (hR:R.length≤2012) (hr:200≤C.length∨c-(q0q C:Int)-((R.length:Int)+12)<6000):
    Calls Tryz.prog 55 #[.pointer (some ⟨gl,0,none⟩),.int .i64 (C.length:Int),.string ⟨R.toArray⟩] w fun e w'=>e= .returned (.tuple #[.int .i64 0,.int .i64 60])∧Ext w w':=by
  obtain ⟨r0,r1⟩:=h.room0 hl
  have h200:=hl.ok.few
  have HR:=Lib.hid (fun (W:World) (k:Ext w W)=>z1i (h.grow k) hl.free r0 r1 (12+(R.length:Int)) (by omega) (by omega))
  by_cases hn:200≤C.length
  · have hd:decide ((200:Int)≤(C.length:Int))=true:=by simp;omega
    clear h hl HR r0 r1 hr
    go_enter Tryz.func55,Tryz.ntmps55
    go_wp2_with fail
    go_ret2
    exact ⟨rfl,q7c w _ _ _⟩
  · have hd:decide ((200:Int)≤(C.length:Int))=false:=by simp;omega
    have hd2:decide ((6000:Int)≤c-(q0q C:Int)-(12+(R.length:Int)))=false:=by simp;omega
    rw[hd2] at HR
    clear h hl r0 r1 hr hd2
    go_enter Tryz.func55,Tryz.ntmps55
    go_wp2_with fail
    refine (HR.out _ (q7c w _ _ _)).mono ?_
    rintro e w1 ⟨rfl,hb⟩
    have HB:=Lib.hid ((q7c w _ _ _).trans hb);clear hb
    go_wp2_with fail
    go_ret2
    exact ⟨rfl,HB.out⟩
theorem z7U {p :List UInt8} (h:LgF w0 w g gl F v σ s (q0K C) sure K) (hl:Lgd E σ c s C) (hp:p.length≤2000) (hn:C.length<200) (hr:6000≤c-(q0q C:Int)-((p.length:Int)+24)):
    Calls Tryz.prog 55 #[.pointer (some ⟨gl,0,none⟩),.int .i64 (C.length:Int),.string ⟨(q1t p).toArray⟩] w fun e w'=>
      e= .returned (.tuple #[.int .i64 ((C.length:Int)*4096+12),.int .i64 0])∧LgK E w0 w' g gl c s (C++[[p]]) (q0g C sure) K∧Stay K w w':=by
  obtain ⟨r0,r1⟩:=h.room0 hl
  have hRl:=q0v p
  have HR:=Lib.hid (fun (W:World) (k:Ext w W)=>z1i (h.grow k) hl.free r0 r1 (12+((q1t p).length:Int)) (by omega) (by omega))
  have hd:decide ((200:Int)≤(C.length:Int))=false:=by simp;omega
  have hd2:decide ((6000:Int)≤c-(q0q C:Int)-(12+((q1t p).length:Int)))=true:=by simp;omega
  rw[hd2] at HR
  obtain ⟨W0,hW0⟩: ∃W0,((w.alloc (.cells #[.pointer (some ⟨gl,0,none⟩)] 27)).alloc (.cells #[.int .i64 (C.length:Int)] 3)).alloc (.cells #[.string ⟨(q1t p).toArray⟩] 9)=W0:=⟨_,rfl⟩
  have HE0:Hid (Ext w W0):=Lib.hid (by rw[←hW0];exact q7c w _ _ _)
  have HCl:Hid (∀W,Ext W0 W→W.cell? ⟨w.heap.size,0,none⟩=some (.pointer (some ⟨gl,0,none⟩))∧W.cell? ⟨w.heap.size+1,0,none⟩=some (.int .i64 (C.length:Int))∧W.cell? ⟨w.heap.size+1+1,0,none⟩=some (.string ⟨(q1t p).toArray⟩)):=Lib.hid fun W hW=>by
    rw[←hW0] at hW
    have b1:=(((Blk.new w 27 #[.pointer (some ⟨gl,0,none⟩)]).ext (q2E _ (.cells #[.int .i64 (C.length:Int)] 3) (.cells #[.string ⟨(q1t p).toArray⟩] 9))).ext hW).cell 0
    have b2:=(((Blk.new (w.alloc (.cells #[.pointer (some ⟨gl,0,none⟩)] 27)) 3 #[.int .i64 (C.length:Int)]).ext (q0C _ (.cells #[.string ⟨(q1t p).toArray⟩] 9))).ext hW).cell 0
    have b3:=((Blk.new ((w.alloc (.cells #[.pointer (some ⟨gl,0,none⟩)] 27)).alloc (.cells #[.int .i64 (C.length:Int)] 3)) 9 #[.string ⟨(q1t p).toArray⟩]).ext hW).cell 0
    rw[World.size_alloc] at b2
    rw[World.size_alloc,World.size_alloc] at b3
    exact ⟨b1,b2,b3⟩
  have HS0:Hid (W0.heap.size=w.heap.size+1+1+1):=Lib.hid (by rw[←hW0];simp)
  have HK:=Lib.hid (show LgK E w0 w g gl c s C sure K from ⟨F,v,σ,h,hl⟩)
  have HHp:=Lib.hid hp;have HHn:=Lib.hid hn;have HHr:=Lib.hid hr;have HRl:=Lib.hid hRl
  have hmf: ∀(fn:Fn) (first cap:Array Value) (w:World),(Instr.makeFunc fn first cap).run Tryz.prog w= .ok (.func fn first cap) w:=fun _ _ _ _=>rfl
  have hRl2:(q1t p).length≤2012:=by omega
  clear h hl r0 r1 hr hd2 hp hRl
  obtain ⟨R,hR⟩: ∃R,q1t p=R:=⟨_,rfl⟩
  rw[hR] at HR hW0 HCl HRl hRl2⊢
  have HRe:=Lib.hid hR
  clear hR
  go_enter Tryz.func55,Tryz.ntmps55
  obtain ⟨a0,a1,a2⟩:=HCl.out W0 (Ext.refl _)
  go_wp2_with fail
  try rw[hW0]
  clear hW0 a0 a1 a2
  refine (HR.out _ HE0.out).mono ?_
  rintro e w1 ⟨rfl,hb⟩
  obtain ⟨q0,q1,q2⟩:=HCl.out _ hb
  have HB:=Lib.hid hb;clear hb
  go_wp2_with fail
  obtain ⟨cs, hcs⟩: ∃cs:Array Value,#[Value.func (Fn.func 122) #[Value.pointer (some ⟨gl,0,none⟩)] #[],Value.func (Fn.func 123) #[] #[Value.pointer (some ⟨w.heap.size,0,none⟩),Value.pointer (some ⟨w.heap.size+1,0,none⟩)],
              Value.func (Fn.func 125) #[] #[Value.pointer (some ⟨w.heap.size,0,none⟩),Value.pointer (some ⟨w.heap.size+1,0,none⟩),Value.pointer (some ⟨w.heap.size+1+1,0,none⟩)]]=cs:=⟨_,rfl⟩
  rw[hcs]
  obtain ⟨W2,hW2⟩: ∃W2,w1.alloc (.cells cs 93)=W2:=⟨_,rfl⟩
  have hk2:Ext w1 W2:=by rw[←hW2];exact q0C _ _
  have hs2:W2.heap.size=w1.heap.size+1:=by rw[←hW2];simp
  have hs1:=HB.out.size
  rw[HS0.out] at hs1
  have hbk:Blk W2 w1.heap.size 93 cs:=by rw[←hW2];exact Blk.new _ _ _
  rw[hW2]
  have HE2:=Lib.hid ((HE0.out.trans HB.out).trans hk2)
  have hK':=HK.out.more (K':=fun i=>K i∨(w.heap.size≤i∧i<W2.heap.size)) HE2.out (fun i hi=>hi)
  have HSK:=Lib.hid (HK.out.kExt HE2.out)
  obtain ⟨r0,r1,r2⟩:=HCl.out _ (HB.out.trans hk2)
  rw[←HRe.out] at r2
  have hal:=z8Z hK' HHn.out HHp.out (by have:=HHr.out;omega) (b:=w1.heap.size) (bl:=w.heap.size) (bn:=w.heap.size+1) (br:=w.heap.size+1+1) (.inr ⟨by omega,by omega⟩) (.inr ⟨by omega,by omega⟩) (.inr ⟨by omega,by omega⟩) (.inr ⟨by omega,by omega⟩)
    (by rw[hbk.cell 0,←hcs];rfl) (by rw[hbk.cell 1,←hcs];rfl) (by rw[hbk.cell 2,←hcs];rfl) r0 r1 r2
  have HKs:Hid (w.heap.size<W2.heap.size∧w.heap.size+1+1<W2.heap.size):=Lib.hid ⟨by omega,by omega⟩
  have hR2:=r2
  rw[HRe.out] at hR2
  have HR2:=Lib.hid hR2;have HR0:=Lib.hid r0;have HR1:=Lib.hid r1
  clear hcs hW2 hbk hk2 hs2 hs1 r0 r1 r2 hK' q0 q1 q2 hR2
  refine hal.mono ?_
  rintro e w3 ⟨rfl,h3,hst3⟩
  clear hal
  obtain ⟨F3,v3,σ3,h3,hp3⟩:=h3
  have e0:=q0m hst3 (.inr ⟨Nat.le_refl _,HKs.out.1⟩) HR0.out
  have e2:=q0m hst3 (.inr ⟨by omega,HKs.out.2⟩) HR2.out
  have e1:=Lib.hid (q0m hst3 (.inr ⟨by omega,by have:=HKs.out.2;omega⟩) HR1.out)
  have hrow:=h3.l.row
  obtain ⟨a,k,rfl⟩:=q0R hrow
  have e3:=h3.l.c3
  have z3:=h3.l.blk.free 3
  have hsl:=q0d C
  rw[hsl] at hrow e3 h3
  have hwz:IntKind.i64.wrap (12+(R.length:Int))=(q0M [p]:Int):=by
    rw[q4q,←HRl.out,IntKind.wrap_i64];omega
  obtain ⟨z,hz⟩: ∃z:Int,(q0M [p]:Int)=z:=⟨_,rfl⟩
  rw[hz] at hwz
  obtain ⟨wl,hwl⟩: ∃wl,(w3.alloc (.cells #[.int .i64 z] 3)).drew=wl:=⟨_,rfl⟩
  have HXl:Hid (Ext w3 wl):=Lib.hid (by rw[←hwl];exact (q0C w3 _).drew)
  have HLit:Hid (Rd wl (some ⟨w3.heap.size,0,none⟩) [.int .i64 z]):=Lib.hid (by rw[←hwl];exact Rd.lit w3 #[.int .i64 z] 3)
  have HRow:Hid (wl.ownsRow 0 3 1 (.slice a C.length k) C.length ((q0K C).map (Value.int .i64))):=Lib.hid (q0U hrow HXl.out)
  have HZ:=Lib.hid hz
  have H3:=Lib.hid h3
  have HP3:=Lib.hid hp3
  have HSt3:=Lib.hid hst3
  have HCn:=Lib.hid hsl
  have hn2:=HHn.out
  have f0:=q0A HXl.out e0;have f2:=q0A HXl.out e2;have f3:=q0A HXl.out e3
  clear hz h3 hp3 hst3 hsl hrow hd
  generalize hnn:C.length=n at*
  have HN:=Lib.hid hnn
  clear hnn
  have HPush:Hid (∀(w':World) (a':Option Addr) (k':Nat),w'.ownsRow 0 3 1 (.slice a' (n+1) k') (n+1) ((q0K C).map (Value.int .i64)++[.int .i64 z])→wl.grownBy w' (Value.slice a n k).ownBlock→((Value.slice a' (n+1) k').ownBlock=(Value.slice a n k).ownBlock∨(Value.slice a' (n+1) k').ownBlock=some wl.heap.size)→
      LgK E w0 (w'.setCell ⟨gl,3,none⟩ (.slice a' (n+1) k')) g gl c s (C++[[p]]) (q0g C sure) K∧Stay K w (w'.setCell ⟨gl,3,none⟩ (.slice a' (n+1) k'))∧(w'.setCell ⟨gl,3,none⟩ (.slice a' (n+1) k')).cell? ⟨w.heap.size+1,0,none⟩=some (.int .i64 (n:Int))):=Lib.hid fun w' a' k' h1 h2 h3=>by
    have hp:=H3.out.push HXl.out (by rw[HCn.out];exact h1) h2 h3
    refine ⟨⟨F3,.slice a' (n+1) k',σ3,?_,⟨HP3.out.2,HK.out.toP.2.more HHp.out (by rw[HN.out];exact hn2),HP3.out.1⟩⟩,HSK.out.trans (Stay.trans (K:=K) (fun i hi=>HSt3.out i (.inl hi)) fun i hi=>hp.2 i (.inl hi)),q0m hp.2 (.inr ⟨by omega,by have:=HKs.out.2;omega⟩) e1.out⟩
    rw[q1x,HZ.out]
    exact hp.1.beside fun i hi=> .inl hi
  go_wp2_with fail
  go_region_law
    (refine q1R rfl (.tmp 33) (.tmp 37) 80 rfl 0 3 _ 1 8 Tryz.underlying80 Tryz.infoI (by decide) (by decide) (.slice a n k) n ((q0K C).map (Value.int .i64)) rfl HRow.out (some ⟨w3.heap.size,0,none⟩) 1 1 [.int .i64 z] rfl rfl (fun h=>by cases h) HLit.out (by simp[Value.oneCell']) (by unfold maxLen;omega) (by omega) (Nat.zero_le _) ?_;intro v' w' hown hgrow hat;have HOw:=Lib.hid hown;have HGr:=Lib.hid hgrow;have HAt:=Lib.hid hat;obtain ⟨q1,q2,q3⟩:=H3.out.pushed HXl.out hgrow;have u0:=q0m q1 (.inr ⟨Nat.le_refl _,HKs.out.1⟩) e0;have u2:=q0m q1 (.inr ⟨by omega,HKs.out.2⟩) e2;obtain ⟨a',k',rfl⟩:=q0R hown;clear hown hgrow hat q1)
  all_goals
    have hpu:=HPush.out _ _ _ HOw.out HGr.out HAt.out
    have HFin:=Lib.hid hpu
    have u1:=hpu.2.2
    clear hpu
    go_wp2_with fail
    go_ret2
    exact ⟨by rw[HN.out];rfl,HFin.out.1,HFin.out.2.1⟩
end
end Go.Proofs.YtmajfklnagdlpaaGreatDoor
namespace Go.Proofs.YtmajfklnagdlpaaGreatDoor
open Go.RowKit
set_option maxRecDepth 100000
set_option linter.unusedVariables false
set_option maxHeartbeats 3200000
section
variable {E :Oth} {w0 w:World} {g gl:Nat} {F K:Nat→Prop} {v:Value} {σ:DM} {c s sure:Int} {C:Cks} {xs:List Int}
def AppR (E:Oth) (w0 w:World) (g gl:Nat) (c s:Int) (C:Cks) (sure:Int) (K:Nat→Prop) (p:List UInt8) (e:Ending) (w':World):Prop:=
  e= .returned (.tuple #[.int .i64 (q0n (c-(q0q C:Int)) C p).1,.int .i64 (q0n (c-(q0q C:Int)) C p).2.1])∧
  LgK E w0 w' g gl c s (q0n (c-(q0q C:Int)) C p).2.2 (q3B (c-(q0q C:Int)) sure C p) K∧Stay K w w'
theorem AppR.same {p:List UInt8} {w':World} {r:Int} (h:LgK E w0 w g gl c s C sure K) (k:Ext w w') (hr:q0n (c-(q0q C:Int)) C p=(0,r,C)) (h0:r≠0):AppR E w0 w g gl c s C sure K p (.returned (.tuple #[.int .i64 0,.int .i64 r])) w':=by
  unfold AppR q3B
  rw[hr,if_neg (fun h=>h0 h.1)]
  exact ⟨rfl,h.grow k,h.kExt k⟩
theorem AppR.pre {p:List UInt8} {w1 w':World} {e:Ending} (h:LgK E w0 w g gl c s C sure K) (k:Ext w w1) (h1:AppR E w0 w1 g gl c s C sure K p e w'):AppR E w0 w g gl c s C sure K p e w':=
  ⟨h1.1,h1.2.1,(h.kExt k).trans h1.2.2⟩
theorem q9a {fr:Int} {p:List UInt8} (h:2000<p.length):q0n fr C p=(0,3,C):=by unfold q0n;rw[if_pos h]
theorem q8U {fr:Int} {p:List UInt8} (h:p.length≤2000) (hf:q3g C p=true) (hr:fr-((p.length:Int)+12)<6000):q0n fr C p=(0,60,C):=by
  unfold q0n;rw[if_neg (by omega),if_pos hf,if_pos hr]
theorem z0w {fr:Int} {D:Cks} {ps:List (List UInt8)} {p:List UInt8} (h:p.length≤2000) (hf:q3g (D++[ps]) p=true) (hr:6000≤fr-((p.length:Int)+12)):q0n fr (D++[ps]) p=((D.length:Int)*4096+(q0M ps:Int),0,D++[ps++[p]]):=by
  unfold q0n;rw[if_neg (by omega),if_pos hf,if_neg (by omega),q6K];simp
theorem q8Y {fr:Int} {p:List UInt8} (h:p.length≤2000) (hf:q3g C p=false) (hr:200≤C.length∨fr-((p.length:Int)+24)<6000):q0n fr C p=(0,60,C):=by
  unfold q0n;rw[if_neg (by omega),if_neg (by rw[hf];decide),if_pos hr]
theorem z0S {fr:Int} {p:List UInt8} (h:p.length≤2000) (hf:q3g C p=false) (hr:¬(200≤C.length∨fr-((p.length:Int)+24)<6000)):q0n fr C p=((C.length:Int)*4096+12,0,C++[[p]]):=by
  unfold q0n;rw[if_neg (by omega),if_neg (by rw[hf];decide),if_neg hr]
theorem q7h (D:Cks) (ps:List (List UInt8)) (p:List UInt8):q3g (D++[ps]) p=decide (q0M ps+(p.length+12)≤4096):=by unfold q3g;simp
theorem z8M {p:List UInt8} (h:LgK E w0 w g gl c s C sure K) (hp:p.length≤2000) (hf:q3g C p=false):
    Calls Tryz.prog 55 #[.pointer (some ⟨gl,0,none⟩),.int .i64 (C.length:Int),.string ⟨(q1t p).toArray⟩] w (AppR E w0 w g gl c s C sure K p):=by
  obtain ⟨F,v,σ,h1,h2⟩:=h
  by_cases hr:200≤C.length∨c-(q0q C:Int)-((p.length:Int)+24)<6000
  · refine (z5q h1 h2 (q1t p) (by rw[q0v];omega) (by rw[q0v];omega)).mono ?_
    rintro e w' ⟨rfl,k⟩
    exact AppR.same ⟨F,v,σ,h1,h2⟩ k (q8Y hp hf hr) (by decide)
  · refine (z7U h1 h2 hp (by omega) (by omega)).mono ?_
    rintro e w' ⟨rfl,k1,k2⟩
    have ha:=z0S hp hf hr
    have hsu:q3B (c-(q0q C:Int)) sure C p=q0g C sure:=by
      unfold q3B q0g
      rw[ha]
      by_cases hC:C=[]
      · rw[if_pos hC,if_neg (fun h=>h.2.2 hC)]
      · rw[if_neg hC,if_pos ⟨rfl,hf,hC⟩]
    unfold AppR
    rw[hsu,ha]
    exact ⟨rfl,k1,k2⟩
theorem z7Z {p:List UInt8} {D:Cks} {ps:List (List UInt8)} (h:LgK E w0 w g gl c s (D++[ps]) sure K) (hp:p.length≤2000) (hf:q3g (D++[ps]) p=true):
    Calls Tryz.prog 54 #[.pointer (some ⟨gl,0,none⟩),.int .i64 (D.length:Int),.string ⟨(q1t p).toArray⟩] w (AppR E w0 w g gl c s (D++[ps]) sure K p):=by
  obtain ⟨F,v,σ,h1,h2⟩:=h
  by_cases hr:c-(q0q (D++[ps]):Int)-((p.length:Int)+12)<6000
  · refine (z3K h1 h2 (D.length:Int) (q1t p) (by rw[q0v];omega) (by rw[q0v];omega)).mono ?_
    rintro e w' ⟨rfl,k⟩
    exact AppR.same ⟨F,v,σ,h1,h2⟩ k (q8U hp hf hr) (by decide)
  · have hs:q0M ps+(p.length+12)≤4096:=by rw[q7h] at hf;exact of_decide_eq_true hf
    refine (z6Y h1 h2 hp hs (by omega)).mono ?_
    rintro e w' ⟨rfl,k1,k2⟩
    have ha:=z0w (fr:=c-(q0q (D++[ps]):Int)) hp hf (by omega)
    unfold AppR q3B
    rw[ha,if_neg (fun h=>by rw[hf] at h;exact absurd h.2.1 (by decide))]
    exact ⟨rfl,k1,k2⟩
theorem z6D (h:LgK E w0 w g gl c s C sure K) (p:List UInt8) (hp9:p.length≤9223372036854775807):
    Calls Tryz.prog 12 #[.pointer (some ⟨gl,0,none⟩),.string ⟨p.toArray⟩] w (AppR E w0 w g gl c s C sure K p):=by
  have HK:=Lib.hid h
  obtain ⟨F,v,σ,h1,h2⟩:=h
  have HRd:=Lib.hid (z0n h1 h2.pl.up h2.pl.st)
  by_cases hp:2000<p.length
  · have HPn:=Lib.hid (fun W=>z3T p W hp hp9)
    have HA:=Lib.hid (q9a (C:=C) (fr:=c-(q0q C:Int)) hp)
    clear h1 h2 hp
    go_enter Tryz.func12,Tryz.ntmps12
    go_wp2_with fail
    refine HRd.out.mono ?_
    rintro e w1 ⟨rfl,hb⟩
    have HB:=Lib.hid hb;clear hb
    go_wp2_with fail
    refine (HPn.out _).mono ?_
    rintro e w2 ⟨rfl,rfl⟩
    go_wp2_with fail
    go_ret2
    exact AppR.same HK.out HB.out HA.out (by decide)
  have hp2:p.length≤2000:=by omega
  have HPn:=Lib.hid (fun W=>z5r p W hp2)
  have h200:=h2.ok.few
  have HBg:=Lib.hid (fun (W:World) (k:Ext w W) (hf:q3g C p=false)=>(z8M (HK.out.grow k) hp2 hf).mono fun e w' h=>AppR.pre HK.out k h)
  by_cases hC:C=[]
  · subst hC
    have HB0:=Lib.hid (fun (W:World) (k:Ext w W)=>HBg.out W k rfl)
    have c3:=h1.l.c3
    obtain ⟨a,k,rfl⟩:=q0R h1.l.row
    have e0:(q0K ([]:Cks)).length=0:=rfl
    have HC3:=Lib.hid c3
    clear HBg h1 h2 hp c3
    generalize hRR:q1t p=R at*
    clear hRR
    unfold AppR at HB0⊢
    generalize (q0n (c-(q0q []:Int)) [] p)=X at*
    go_enter Tryz.func12,Tryz.ntmps12
    go_wp2_with fail
    refine HRd.out.mono ?_
    rintro e w1 ⟨rfl,hb⟩
    have HB:=Lib.hid hb;clear hb
    go_wp2_with fail
    refine (HPn.out _).mono ?_
    rintro e w2 ⟨rfl,hb⟩
    have HB2:=Lib.hid (HB.out.trans hb);clear hb
    have c3:=q0A HB2.out HC3.out
    rw[e0] at c3
    go_wp2_with fail
    refine (HB0.out _ HB2.out).mono ?_
    rintro e w3 ⟨rfl,h3⟩
    have H3:=Lib.hid h3
    clear h3
    go_wp2_with fail
    go_ret2
    exact ⟨rfl,H3.out⟩
  obtain ⟨D,ps,rfl⟩:=z3z hC
  clear hC
  obtain ⟨b,k,rfl,hcz,_⟩:=h1.last
  have hz4:q0M ps≤4096:=h2.ok.size ps (by simp)
  have hD200:D.length+1≤200:=by simpa using h200
  obtain ⟨z,hz⟩: ∃z:Int,(q0M ps:Int)=z:=⟨_,rfl⟩
  rw[hz] at hcz
  have z0:0≤z:=by omega
  have z1:z≤4096:=by omega
  have HC3:=Lib.hid h1.l.c3
  have HCz:=Lib.hid hcz
  have HF:=Lib.hid (fun W=>z8I z p W z0 z1 hp2)
  have hfit:decide ((p.length:Int)+12≤4096-z)=q3g (D++[ps]) p:=by rw[q7h,decide_eq_decide];omega
  rw[hfit] at HF
  have HBh:=Lib.hid (fun (W:World) (k:Ext w W) (hf:q3g (D++[ps]) p=true)=>(z7Z (HK.out.grow k) hp2 hf).mono fun e w' h=>AppR.pre HK.out k h)
  have hlen:(D++[ps]).length=D.length+1:=by simp
  rw[hlen] at HBg
  have hDl:(D.length:Int)≤199:=by omega
  have hcast:(((D.length+1:Nat)):Int)=(D.length:Int)+1:=by omega
  rw[hcast] at HBg
  generalize hRR:q1t p=R at*
  clear hRR h1 h2 hp hz hz4 hfit hcz h200 hD200 hlen hcast
  generalize (q0n (c-(q0q (D++[ps]):Int)) (D++[ps]) p)=X at*
  cases hf:q3g (D++[ps]) p with
  | true=>
    rw[hf] at HF
    have HB0:=Lib.hid (fun (W:World) (k:Ext w W)=>HBh.out W k hf)
    clear HBg HBh hf
    unfold AppR at HB0⊢
    go_enter Tryz.func12,Tryz.ntmps12
    go_wp2_with fail
    refine HRd.out.mono ?_
    rintro e w1 ⟨rfl,hb⟩
    have HB:=Lib.hid hb;clear hb
    go_wp2_with fail
    refine (HPn.out _).mono ?_
    rintro e w2 ⟨rfl,hb⟩
    have HB2:=Lib.hid (HB.out.trans hb);clear hb
    have c3:=q0A HB2.out HC3.out
    have cz:=q0A HB2.out HCz.out
    go_wp2_with fail
    refine (HF.out _).mono ?_
    rintro e w3 ⟨rfl,rfl⟩
    go_wp2_with fail
    refine (HB0.out _ HB2.out).mono ?_
    rintro e w3 ⟨rfl,h3⟩
    have H3:=Lib.hid h3
    clear h3
    go_wp2_with fail
    go_ret2
    exact ⟨rfl,H3.out⟩
  | false=>
    rw[hf] at HF
    have HB0:=Lib.hid (fun (W:World) (k:Ext w W)=>HBg.out W k hf)
    clear HBg HBh hf
    unfold AppR at HB0⊢
    go_enter Tryz.func12,Tryz.ntmps12
    go_wp2_with fail
    refine HRd.out.mono ?_
    rintro e w1 ⟨rfl,hb⟩
    have HB:=Lib.hid hb;clear hb
    go_wp2_with fail
    refine (HPn.out _).mono ?_
    rintro e w2 ⟨rfl,hb⟩
    have HB2:=Lib.hid (HB.out.trans hb);clear hb
    have c3:=q0A HB2.out HC3.out
    have cz:=q0A HB2.out HCz.out
    go_wp2_with fail
    refine (HF.out _).mono ?_
    rintro e w3 ⟨rfl,rfl⟩
    go_wp2_with fail
    refine (HB0.out _ HB2.out).mono ?_
    rintro e w3 ⟨rfl,h3⟩
    have H3:=Lib.hid h3
    clear h3
    go_wp2_with fail
    go_ret2
    exact ⟨rfl,H3.out⟩
theorem z5Z (h:LgV E w0 w g gl v c s C sure K):
    Calls Tryz.prog 64 #[.pointer (some ⟨gl,0,none⟩)] w fun e w'=>e= .returned (.int .i64 0)∧LgV E w0 w' g gl v c s C (q0g C sure) K∧Stay K w w':=by
  have HK:=Lib.hid h.toK
  obtain ⟨F,σ,h1,h2⟩:=h
  have HRd:=Lib.hid (z0n h1 h2.pl.up h2.pl.st)
  have HS:=Lib.hid (fun (W:World) (k:Ext w W)=>z1e (h1.grow k) h2)
  clear h1 h2
  go_enter Tryz.func64,Tryz.ntmps64
  go_wp2_with fail
  refine HRd.out.mono ?_
  rintro e w1 ⟨rfl,hb⟩
  have HB:=Lib.hid hb;clear hb
  go_wp2_with fail
  refine (HS.out _ HB.out).mono ?_
  rintro e w2 ⟨rfl,h3,h4⟩
  have H4:=Lib.hid ((HK.out.kExt HB.out).trans h4)
  obtain ⟨F3,σ3,h5,h6⟩:=h3
  have H6:=Lib.hid h6
  have HN:=Lib.hid (z8y h5)
  clear h4 h5 h6
  go_wp2_with fail
  refine HN.out.mono ?_
  rintro e w3 ⟨rfl,h7,h8⟩
  have H7:=Lib.hid h7;have H8:=Lib.hid h8
  clear h7 h8
  go_wp2_with fail
  go_ret
  exact ⟨rfl,⟨_,σ3,H7.out,H6.out⟩,H4.out.trans H8.out⟩
end
end Go.Proofs.YtmajfklnagdlpaaGreatDoor
namespace Go.Proofs.YtmajfklnagdlpaaGreatDoor
open Go.RowKit
set_option maxRecDepth 100000
set_option linter.unusedVariables false
set_option maxHeartbeats 3200000
section
variable {E :Oth} {w0 w:World} {g gl:Nat} {F K:Nat→Prop} {v:Value} {σ:DM} {c s sure:Int} {C:Cks} {xs:List Int} {l:List (List UInt8×List UInt8)} {nm:List UInt8} {x:List UInt8×List UInt8}
theorem q9u (h:LgF w0 w g gl F v σ s xs sure K) (hp:Pl σ c s l) (hf:q0E Prod.fst nm l=some x) (hnm:nm.length≤9223372036854775807) (a n:Int) (ha:0≤a) (hn:0≤n) (hl:a+n≤(x.2.length:Int)) (hx:(x.2.length:Int)≤1048576):
    Calls Tryz.prog 77 #[.pointer (some ⟨g,0,none⟩),.string ⟨nm.toArray⟩,.int .i64 a,.int .i64 n] w fun e w'=>
      e= .returned (.tuple #[.string ⟨((x.2.drop a.toNat).take n.toNat).toArray⟩,.int .i64 0])∧(∃F' σ',LgF w0 w' g gl F' v σ' s xs sure K∧Pl σ' c s l)∧Stay K w w':=by
  have h1:=z4S h.d nm a n hnm (by omega) (by omega) (by omega) (by omega)
  rw[hp.read hf a n ha hn hl] at h1
  refine h1.mono ?_
  rintro e w' ⟨rfl,k⟩
  obtain ⟨k1,k2⟩:=h.disk k
  exact ⟨rfl,⟨_,_,k1,hp.tell⟩,k2⟩
theorem LgF.cellAt (h:LgF w0 w g gl F v σ s (q0K C) sure K) {n:Nat} {ps:List (List UInt8)} (hps:C[n]?=some ps):
    ∃b k,v= .slice (some ⟨b,0,none⟩) C.length k∧w.cell? ⟨b,n,none⟩=some (.int .i64 (q0M ps:Int))∧w.frozen? ⟨b,n,none⟩=false:=by
  have hsl:(q0K C).length=C.length:=q0d C
  have hn:n<C.length:=(List.getElem?_eq_some_iff.1 hps).1
  obtain ⟨b,k,h1,h2,h3,_⟩:=(Own.of_row h.l.row).cell (j:=n) (by rw[List.length_map,hsl];omega)
  have hval:((q0K C).map (Value.int .i64))[n]'(by rw[List.length_map,hsl];omega)= .int .i64 (q0M ps:Int):=by
    rw[List.getElem_map]
    congr 1
    have:=q9w C n hps
    rw[List.getD_eq_getElem?_getD,List.getElem?_eq_getElem (by rw[hsl];omega)] at this
    exact this
  rw[hval] at h2
  rw[hsl] at h1
  exact ⟨b,k,h1,h2,h3⟩
end
end Go.Proofs.YtmajfklnagdlpaaGreatDoor
namespace Go.Proofs.YtmajfklnagdlpaaGreatDoor
open Go.RowKit
def z8D (x y:Nat×List UInt8):Prop:=x.1+x.2.length+12≤y.1
theorem z1d : ∀(ps:List (List UInt8)) (a:Nat),(q3d a ps).Pairwise z8D
  |[],_=>List.Pairwise.nil
  |p::t,a=>List.pairwise_cons.2 ⟨fun r hr=>(q5v t _ r hr).1,z1d t _⟩
theorem z1t : ∀(C:Cks) (b:Nat),(∀ps∈C,q0M ps≤4096)→(q1k b C).Pairwise z8D
  |[],_,_=>List.Pairwise.nil
  | ps::t,b,hs=>by
    rw[q1k,List.pairwise_append]
    refine ⟨z1d ps _,z1t t _ fun q hq=>hs q (List.mem_cons_of_mem _ hq),fun x hx y hy=>?_⟩
    have h1:=q5v ps _ x hx
    have h2:=q5r t _ (fun q hq=>hs q (List.mem_cons_of_mem _ hq)) y hy
    have h3:=hs ps (List.mem_cons_self)
    unfold q0M at h3
    unfold z8D
    omega
end Go.Proofs.YtmajfklnagdlpaaGreatDoor
