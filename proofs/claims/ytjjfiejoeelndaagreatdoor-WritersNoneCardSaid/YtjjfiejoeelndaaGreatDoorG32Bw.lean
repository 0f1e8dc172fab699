/- Walks: the last chunk made sure. Walks: a record more in the last chunk. Walks: a new chunk, step by step. Walks: a new chunk. Walks: a record in a new chunk. Walks: a record put behind all others; all made sure. Walks: the record that stands at a place. Plain laws: the records of a log, one behind the other. -/
import Derived.Test.YtjjfiejoeelndaaGreatDoorG31Bw
import Derived.Test.YtjjfiejoeelndaaGreatDoorG24Bw
import Derived.Deep.RegionHeld3
import Derived.Laws.BitsLemmas
import Derived.Test.YtjjfiejoeelndaaGreatDoorG13Bw
import Derived.Deep.RegionLaw
import Derived.Test.YtjjfiejoeelndaaGreatDoorG9Bw
set_option linter.unusedVariables false
set_option linter.unusedSimpArgs false
namespace Go.Proofs.YtjjfiejoeelndaaGreatDoor
open Go.RowKit
set_option maxRecDepth 100000
set_option linter.unusedVariables false
set_option maxHeartbeats 3200000
section
variable {E :Oth} {w0 w:World} {g gl:Nat} {F K:Nat→Prop} {v:Value} {σ:DM} {c s sure:Int} {C:Cks}
theorem LgF.setSure {xs:List Int} {sure:Int} (h:LgF w0 w g gl F v σ s xs sure K) (z:Int):LgF w0 (w.setCell ⟨gl,4,none⟩ (.int .i64 z)) g gl F v σ s xs z K∧Stay K w (w.setCell ⟨gl,4,none⟩ (.int .i64 z)):=
  h.log ⟨h.l.blk.set 4 (.int .i64 z),q0q h.l.row _ h.l.apart⟩ (OffS.set w (.inl rfl) 4 _) fun i hi=> .inl hi
theorem q8m {C:Cks} (h:C≠[]): ∃D ps,C=D++[ps]:=by
  rcases List.eq_nil_or_concat C with h1|⟨D,ps,h1⟩
  · exact absurd h1 h
  · exact ⟨D,ps,by rw[h1,List.concat_eq_append]⟩
theorem q9N (D:Cks) (ps:List (List UInt8)):(D++[ps])[D.length]? =some ps:=by simp
def q0x (C:Cks) (sure:Int):Int:=if C=[] then sure else q4k C
def LgV (E:Oth) (w0 w:World) (g gl:Nat) (v:Value) (c s:Int) (C:Cks) (sure:Int) (K:Nat→Prop):Prop:= ∃F σ,LgF w0 w g gl F v σ s (q0M C) sure K∧Lgd E σ c s C
theorem LgV.toK (h:LgV E w0 w g gl v c s C sure K):LgK E w0 w g gl c s C sure K:=by obtain ⟨F,σ,h1,h2⟩:=h;exact ⟨F,v,σ,h1,h2⟩
theorem LgK.toV (h:LgK E w0 w g gl c s C sure K): ∃v,LgV E w0 w g gl v c s C sure K:=by obtain ⟨F,v,σ,h1,h2⟩:=h;exact ⟨v,F,σ,h1,h2⟩
theorem z2x (h:LgF w0 w g gl F v σ s (q0M C) sure K) (hl:Lgd E σ c s C):
    Calls Tryz.prog 124 #[.pointer (some ⟨gl,0,none⟩)] w fun e w'=>e= .returned (.int .i64 0)∧LgV E w0 w' g gl v c s C (q0x C sure) K∧Stay K w w':=by
  have c0:=h.l.c0;have c3:=h.l.c3
  obtain ⟨a,k,rfl,hx⟩:=h.l.slice
  by_cases hC:C=[]
  · subst hC
    have HK:Hid (LgV E w0 w g gl (.slice a (q0M []).length k) c s [] (q0x [] sure) K):=Lib.hid ⟨F,σ,h,hl⟩
    have e0:(q0M []).length=0:=rfl
    clear h hl hx
    go_enter Tryz.func124,Tryz.ntmps124
    go_wp2_with fail
    go_ret
    exact ⟨rfl,HK.out,Stay.refl _ _⟩
  have HIf:Hid (q0x C sure=q4k C):=Lib.hid (by unfold q0x;rw[if_neg hC])
  have hCl:1≤C.length:=by cases C with|nil=>exact absurd rfl hC|cons=>simp
  obtain ⟨D,ps,hD⟩:=q8m hC
  have hn:(q0M C).length=C.length:=q0b C
  have h200:=hl.ok.few
  rw[hn] at c3
  obtain ⟨σ',hm,hp'⟩:=hl.pl.sync (q3U hl.oth h200 (by rw[hD];exact q9N D ps))
  have hnm:=q2i (D.length:Int)
  have HSY:=Lib.hid (fun (wa:World) (k:Ext w wa)=>show Calls Tryz.prog 182 #[.pointer (some ⟨g,0,none⟩),.string ⟨(q0F 99 (D.length:Int)).toArray⟩] wa fun e w'=>e= .returned (.int .i64 0)∧DkS wa g F σ' w' by
    have:=z8L (h.d.ext k) (q0F 99 (D.length:Int)) hnm
    rw[hm] at this
    exact this)
  have hM:IntKind.i64.wrap ((C.length:Int)-1)=(D.length:Int):=by
    have:C.length=D.length+1:=by rw[hD];simp
    rw[IntKind.wrap_i64];omega
  have HCH:=Lib.hid (fun W=>q4A (D.length:Int) W)
  generalize q0F 99 (D.length:Int)=nm at*
  obtain ⟨M,hMM⟩: ∃M:Int,(D.length:Int)=M:=⟨_,rfl⟩
  rw[hMM] at hM HCH
  have HH:=Lib.hid h
  have HL:=Lib.hid hl
  have HP:=Lib.hid hp'
  have hw:Ext w w.drew:=(Ext.refl w).drew
  have HW:=Lib.hid hw
  have d0:=q0A hw c0;have d3:=q0A hw c3
  have hC0:((C.length:Int)==0)=false:=by simpa using hC
  clear h hl hp' hm hx hD hMM hC hn hw
  go_enter Tryz.func124,Tryz.ntmps124
  go_wp2_with fail
  go_region_held3 (fun W=>W.cell? ⟨gl,0,none⟩=some (.pointer (some ⟨g,0,none⟩))∧W.cell? ⟨gl,3,none⟩=some (.slice a C.length k))
    (first|exact HS2.out|exact HS1.out|exact ⟨d0,d3⟩)
    (first
      |(go_at_call 96;refine (HCH.out _).mono ?_;rintro e wa ⟨rfl,h1⟩;have H1:=Lib.hid (HW.out.trans h1);have HS1:=Lib.hid (And.intro (q0A h1 d0) (q0A h1 d3));clear h1)
      |(go_at_call 182;refine (HSY.out _ H1.out).mono ?_;rintro e wb ⟨rfl,h2⟩;have h3:=(HH.out.grow H1.out).disk h2;have H3:=Lib.hid h3;have HS2:=Lib.hid (And.intro h3.1.l.c0 (q0b C▸h3.1.l.c3));clear h2 h3))
  all_goals
    have HE:=Lib.hid (z8W H3.out.1.l HL.out.ok)
    have e4:=H3.out.1.l.c4
    have z4:=H3.out.1.l.blk.free 4
    have h4:=H3.out.1.setSure (q4k C)
    have HF:=Lib.hid (show LgV E w0 (wb.setCell ⟨gl,4,none⟩ (.int .i64 (q4k C))) g gl _ c s C (q0x C sure) K from ⟨_,σ',by rw[HIf.out];exact h4.1,⟨HP.out,HL.out.ok,HL.out.oth⟩⟩)
    have HSt:=Lib.hid ((HH.out.kExt H1.out).trans (H3.out.2.trans h4.2))
    clear h4
    go_wp2_with fail
    refine HE.out.mono ?_
    rintro e w' ⟨rfl,rfl⟩
    go_wp2_with fail
    go_ret
    exact ⟨rfl,HF.out,HSt.out⟩
theorem z8T (h:LgF w0 w g gl F v σ s (q0M C) sure K) (hl:Lgd E σ c s C):
    Calls Tryz.prog 124 #[.pointer (some ⟨gl,0,none⟩)] w fun e w'=>e= .returned (.int .i64 0)∧LgK E w0 w' g gl c s C (q0x C sure) K∧Stay K w w':=
  (z2x h hl).mono fun _ _ ⟨h1,h2,h3⟩=>⟨h1,h2.toK,h3⟩
end
end Go.Proofs.YtjjfiejoeelndaaGreatDoor
namespace Go.Proofs.YtjjfiejoeelndaaGreatDoor
open Go.RowKit
set_option maxRecDepth 100000
set_option linter.unusedVariables false
set_option maxHeartbeats 3200000
section
variable {E :Oth} {w0 w:World} {g gl:Nat} {F K:Nat→Prop} {v:Value} {σ:DM} {c s sure:Int} {C:Cks}
theorem Lgd.free (h:Lgd E σ c s C):z1r σ=c-(q0j C:Int):=by rw[h.pl.free,q7Z];push_cast;omega
theorem Dk.okD {F:Nat→Prop} (h:Dk w g F σ):okD σ:=by obtain ⟨h1,_⟩:=h;exact h1
theorem LgF.room0 {xs:List Int} (h:LgF w0 w g gl F v σ s xs sure K) (hl:Lgd E σ c s C):0≤c-(q0j C:Int)∧c-(q0j C:Int)≤1048576:=by
  have ho:=h.d.okD
  have h1:=hl.free
  have h2:=ho.used;have h3:=ho.cap1
  unfold z1r at h1
  omega
theorem LgF.setRow {xs:List Int} (h:LgF w0 w g gl F v σ s xs sure K) {b k:Nat} (hv:v= .slice (some ⟨b,0,none⟩) xs.length k) (j:Nat) (z:Int):LgF w0 (w.setCell ⟨b,j,none⟩ (.int .i64 z)) g gl F v σ s (xs.set j z) sure K∧Stay K w (w.setCell ⟨b,j,none⟩ (.int .i64 z)):=by
  have hb:v.ownBlock=some b:=by rw[hv];rfl
  have hne:¬gl=b:=fun e=>h.l.apart (by rw[hb,e])
  refine h.log ⟨(OffS.set (F:=fun i=>i=b) w rfl j (.int .i64 z)).blk h.l.blk hne,?_⟩ (OffS.set w (.inr hb) j _) fun i hi=> .inl hi
  have:=z3r h.l.row hv (j:=j) (.int .i64 z)
  rw[List.length_set,List.map_set]
  exact this
theorem LgF.last {D:Cks} {ps:List (List UInt8)} (h:LgF w0 w g gl F v σ s (q0M (D++[ps])) sure K):
    ∃b k,v= .slice (some ⟨b,0,none⟩) (D.length+1) k∧w.cell? ⟨b,D.length,none⟩=some (.int .i64 (q0J ps:Int))∧w.frozen? ⟨b,D.length,none⟩=false:=by
  have hsl:(q0M (D++[ps])).length=D.length+1:=by rw[q0b];simp
  obtain ⟨b,k,h1,h2,h3,_⟩:=(Own.of_row h.l.row).cell (j:=D.length) (by rw[List.length_map,hsl];omega)
  have hlast:((q0M (D++[ps])).map (Value.int .i64))[D.length]'(by rw[List.length_map,hsl];omega)= .int .i64 (q0J ps:Int):=by
    rw[List.getElem_map]
    congr 1
    have:=q7G D ps
    rw[List.getD_eq_getElem?_getD,List.getElem?_eq_getElem (by rw[hsl];omega)] at this
    exact this
  rw[hlast] at h2
  rw[hsl] at h1
  exact ⟨b,k,h1,h2,h3⟩
theorem z5J (h:LgF w0 w g gl F v σ s (q0M C) sure K) (hl:Lgd E σ c s C) (n:Int) (R:List UInt8) (hR:R.length≤2012) (hr:c-(q0j C:Int)-(R.length:Int)<6000):
    Calls Tryz.prog 86 #[.pointer (some ⟨gl,0,none⟩),.int .i64 n,.string ⟨R.toArray⟩] w fun e w'=>e= .returned (.tuple #[.int .i64 0,.int .i64 60])∧Ext w w':=by
  obtain ⟨r0,r1⟩:=h.room0 hl
  have HR:=Lib.hid (z2I h hl.free r0 r1 (R.length:Int) (by omega) (by omega))
  have hd:decide ((6000:Int)≤c-(q0j C:Int)-(R.length:Int))=false:=by simp;omega
  rw[hd] at HR
  clear h hl hd r0 r1 hr
  go_enter Tryz.func86,Tryz.ntmps86
  go_wp2_with fail
  refine HR.out.mono ?_
  rintro e w1 ⟨rfl,hb⟩
  have HB:=Lib.hid hb;clear hb
  go_wp2_with fail
  go_ret2
  exact ⟨rfl,HB.out⟩
theorem z7u {D:Cks} {ps:List (List UInt8)} {p:List UInt8} (h:LgF w0 w g gl F v σ s (q0M (D++[ps])) sure K) (hl:Lgd E σ c s (D++[ps])) (hp:p.length≤2000) (hs:q0J ps+(p.length+12)≤4096)
    (hr:6000≤c-(q0j (D++[ps]):Int)-((p.length:Int)+12)):
    Calls Tryz.prog 86 #[.pointer (some ⟨gl,0,none⟩),.int .i64 (D.length:Int),.string ⟨(q2F p).toArray⟩] w fun e w'=>
      e= .returned (.tuple #[.int .i64 ((D.length:Int)*4096+(q0J ps:Int)),.int .i64 0])∧LgK E w0 w' g gl c s (D++[ps++[p]]) sure K∧Stay K w w':=by
  obtain ⟨r0,r1⟩:=h.room0 hl
  have h200:=hl.ok.few
  have hD200:D.length+1≤200:=by simpa using h200
  have hRl:=q1B p
  have HR:=Lib.hid (z2I h hl.free r0 r1 ((q2F p).length:Int) (by omega) (by omega))
  have hd:decide ((6000:Int)≤c-(q0j (D++[ps]):Int)-((q2F p).length:Int))=true:=by simp;omega
  rw[hd] at HR
  obtain ⟨σ',hm,hp'⟩:=hl.pl.append (t:=q2F p) (q3U hl.oth h200 (q9N D ps)) (by rw[q7Z];push_cast;omega)
  rw[z5F hl.oth p (by omega)] at hp'
  have HP:Hid (Lgd E σ' c s (D++[ps++[p]])):=Lib.hid ⟨hp',hl.ok.grow hp hs,hl.oth⟩
  have hnm:=q2i (D.length:Int)
  have HAP:=Lib.hid (fun (wa:World) (k:Ext w wa)=>show Calls Tryz.prog 141 #[.pointer (some ⟨g,0,none⟩),.string ⟨(q0F 99 (D.length:Int)).toArray⟩,.string ⟨(q2F p).toArray⟩] wa fun e w'=>e= .returned (.int .i64 0)∧DkS wa g F σ' w' by
    have:=z2k (h.d.ext k) (q0F 99 (D.length:Int)) (q2F p) hnm (by omega)
    rw[hm] at this
    exact this)
  have HCH:=Lib.hid (fun W=>q4A (D.length:Int) W)
  have c0:=h.l.c0
  have HC0:=Lib.hid c0
  have HH:=Lib.hid h
  have HSz:Hid ((q0M (D++[ps])).set D.length ((q0J ps:Int)+((q2F p).length:Int))=q0M (D++[ps++[p]])):=Lib.hid (by
    rw[←z4J D ps (ps++[p]),q2H,q1B];congr 1)
  have HRow:=Lib.hid (fun (W:World) (F':Nat→Prop) (τ:DM) (hW:LgF w0 W g gl F' v τ s (q0M (D++[ps])) sure K)=>hW.last)
  have hsl:(q0M (D++[ps])).length=D.length+1:=by rw[q0b];simp
  have HSl:=Lib.hid hsl
  have z0:(0:Int)≤(q0J ps:Int):=by omega
  have z1:(q0J ps:Int)≤4096:=by omega
  have hRl2:(q2F p).length≤2012:=by omega
  have hDl:D.length≤199:=by omega
  generalize q0F 99 (D.length:Int)=nm at*
  generalize q2F p=R at*
  generalize (q0J ps:Int)=z at*
  generalize D.length=n at*
  clear h hl hp' hm hd r0 r1 hr hs hRl h200 hD200 hp hnm hsl
  go_enter Tryz.func86,Tryz.ntmps86
  go_wp2_with fail
  refine HR.out.mono ?_
  rintro e w1 ⟨rfl,hb⟩
  have HB:=Lib.hid hb
  have d0:=q0A hb HC0.out
  have d0':=q0A (hb.drew) HC0.out
  have HB':=Lib.hid hb.drew
  clear hb c0
  go_wp2_with fail
  go_region_held3 (fun W=>W.cell? ⟨gl,0,none⟩=some (.pointer (some ⟨g,0,none⟩)))
    (first|exact HS2.out|exact HS1.out|exact d0')
    (first
      |(go_at_call 96;refine (HCH.out _).mono ?_;rintro e wa ⟨rfl,h1⟩;have H1:=Lib.hid (HB'.out.trans h1);have HS1:=Lib.hid (q0A h1 d0');clear h1)
      |(go_at_call 141;refine (HAP.out _ H1.out).mono ?_;rintro e wb ⟨rfl,h2⟩;have h3:=(HH.out.grow H1.out).disk h2;have H3:=Lib.hid h3;have HS2:=Lib.hid h3.1.l.c0;clear h2 h3))
  all_goals
    obtain ⟨b,k,rfl,e2,z2⟩:=HRow.out _ _ _ H3.out.1
    have e3:=H3.out.1.l.c3
    have h4:=H3.out.1.setRow (by rw[HSl.out]) n (z+(R.length:Int))
    rw[HSz.out] at h4
    have HF:=Lib.hid (show LgK E w0 (wb.setCell ⟨b,n,none⟩ (.int .i64 (z+(R.length:Int)))) g gl c s (D++[ps++[p]]) sure K from ⟨_,_,σ',h4.1,HP.out⟩)
    have HSt:=Lib.hid ((HH.out.kExt H1.out).trans (H3.out.2.trans h4.2))
    clear h4
    go_wp2_with fail
    go_ret2
    exact ⟨rfl,HF.out,HSt.out⟩
end
end Go.Proofs.YtjjfiejoeelndaaGreatDoor
namespace Go.Proofs.YtjjfiejoeelndaaGreatDoor
open Go.RowKit
set_option maxRecDepth 100000
set_option linter.unusedVariables false
set_option maxHeartbeats 3200000
def LgP (E:Oth) (w0 w:World) (g gl:Nat) (c s:Int) (l:List (List UInt8×List UInt8)) (xs:List Int) (sure:Int) (K:Nat→Prop):Prop:= ∃F v σ,LgF w0 w g gl F v σ s xs sure K∧okOth E∧Pl σ (c+(q2E E:Int)) s l
theorem z4n {w w':World} {b:Nat} (h:w'.heap[b]? =w.heap[b]?) (o:Nat):w'.cell? ⟨b,o,none⟩=w.cell? ⟨b,o,none⟩:=by simp only[World.cell?,h]
theorem q0p {K:Nat→Prop} {w w':World} (h:Stay K w w') {b o:Nat} (hK:K b) {u:Value} (hc:w.cell? ⟨b,o,none⟩=some u):w'.cell? ⟨b,o,none⟩=some u:=(z4n (h b hK) o).trans hc
section
variable {E :Oth} {w0 w:World} {g gl:Nat} {F K:Nat→Prop} {v:Value} {σ:DM} {c s sure:Int} {C:Cks} {xs:List Int}
theorem z7I (h:LgP E w0 w g gl c s (q3C E C) xs sure K) (hC:C.length<200) {bl bn:Nat} (kl:K bl) (kn:K bn) (hbl:w.cell? ⟨bl,0,none⟩=some (.pointer (some ⟨gl,0,none⟩))) (hbn:w.cell? ⟨bn,0,none⟩=some (.int .i64 (C.length:Int))):
    Calls Tryz.prog 143 #[.pointer (some ⟨bl,0,none⟩),.pointer (some ⟨bn,0,none⟩)] w fun e w'=>e= .returned (.int .i64 0)∧LgP E w0 w' g gl c s (z3N E C) xs sure K∧Stay K w w':=by
  obtain ⟨F,v,σ,h,hE,hp⟩:=h
  have c0:=h.l.c0
  have hok:q3n (q0F 99 (C.length:Int))=true:=by rw[q0V (by omega)];simp[q3n,q0d]
  obtain ⟨σ',hm,hp'⟩:=hp.create (z5U hE (by omega) (Nat.le_refl _) (by omega)) hok (by rw[q7L];have:=hE.few;omega)
  rw[z7k hE (by omega)] at hp'
  have hnm:=q2i (C.length:Int)
  have HCR:=Lib.hid (fun (wa:World) (k:Ext w wa)=>show Calls Tryz.prog 144 #[.pointer (some ⟨g,0,none⟩),.string ⟨(q0F 99 (C.length:Int)).toArray⟩] wa fun e w'=>e= .returned (.int .i64 0)∧DkS wa g F σ' w' by
    have:=z6X (h.d.ext k) (q0F 99 (C.length:Int)) hnm
    rw[hm] at this
    exact this)
  have HCH:=Lib.hid (fun W=>q4A (C.length:Int) W)
  have HP:=Lib.hid (And.intro hE hp')
  have HH:=Lib.hid h
  have hw:Ext w w.drew:=(Ext.refl w).drew
  have HW:=Lib.hid hw
  have d0:=q0A hw c0;have d1:=q0A hw hbl;have d2:=q0A hw hbn
  generalize q0F 99 (C.length:Int)=nm at*
  generalize C.length=n at*
  clear h hp hp' hE hm hok hnm hw c0 hbl hbn
  go_enter Tryz.func143,Tryz.ntmps143
  go_wp2_with fail
  go_region_held3 (fun W=>W.cell? ⟨gl,0,none⟩=some (.pointer (some ⟨g,0,none⟩))∧W.cell? ⟨bl,0,none⟩=some (.pointer (some ⟨gl,0,none⟩))∧W.cell? ⟨bn,0,none⟩=some (.int .i64 (n:Int)))
    (first|exact HS2.out|exact HS1.out|exact ⟨d0,d1,d2⟩)
    (first
      |(go_at_call 96;refine (HCH.out _).mono ?_;rintro e wa ⟨rfl,h1⟩;have H1:=Lib.hid (HW.out.trans h1);have HS1:=Lib.hid (And.intro (q0A h1 d0) (And.intro (q0A h1 d1) (q0A h1 d2)));clear h1)
      |(go_at_call 144;refine (HCR.out _ H1.out).mono ?_;rintro e wb ⟨rfl,h2⟩;have h3:=(HH.out.grow H1.out).disk h2;have H3:=Lib.hid h3;have HS2:=Lib.hid (And.intro h3.1.l.c0 (And.intro (q0p h3.2 kl HS1.out.2.1) (q0p h3.2 kn HS1.out.2.2)));clear h2 h3))
  all_goals
    go_wp2_with fail
    go_ret
    exact ⟨rfl,⟨_,_,σ',H3.out.1,HP.out⟩,(HH.out.kExt H1.out).trans H3.out.2⟩
theorem z6c {p:List UInt8} (h:LgP E w0 w g gl c s (z3N E C) xs sure K) (hC:C.length<200) (hp:p.length≤2000) (hr:(p.length:Int)+24≤c-(q0j C:Int)) {bl bn br:Nat} (kl:K bl) (kn:K bn) (kr:K br)
    (hbl:w.cell? ⟨bl,0,none⟩=some (.pointer (some ⟨gl,0,none⟩))) (hbn:w.cell? ⟨bn,0,none⟩=some (.int .i64 (C.length:Int))) (hbr:w.cell? ⟨br,0,none⟩=some (.string ⟨(q2F p).toArray⟩)):
    Calls Tryz.prog 145 #[.pointer (some ⟨bl,0,none⟩),.pointer (some ⟨bn,0,none⟩),.pointer (some ⟨br,0,none⟩)] w fun e w'=>e= .returned (.int .i64 0)∧LgP E w0 w' g gl c s (q3C E (C++[[p]])) xs sure K∧Stay K w w':=by
  obtain ⟨F,v,σ,h,hE,hpl⟩:=h
  have c0:=h.l.c0
  have hf:q0G Prod.fst (q0F 99 (C.length:Int)) (z3N E C)=some (q0F 99 (C.length:Int),[]):=by
    exact z6M hE (by omega)
  have hRl:=q1B p
  have hHl:=q2j C.length
  obtain ⟨σ',hm,hp'⟩:=hpl.append (t:=q2P C.length++q2F p) hf (by
    rw[z6C,List.length_append,hRl,hHl]
    push_cast
    omega)
  rw[z3W hE p (by omega)] at hp'
  have hnm:=q2i (C.length:Int)
  have HAP:=Lib.hid (fun (wa:World) (k:Ext w wa)=>show Calls Tryz.prog 141 #[.pointer (some ⟨g,0,none⟩),.string ⟨(q0F 99 (C.length:Int)).toArray⟩,.string (⟨(q2P C.length).toArray⟩++⟨(q2F p).toArray⟩)] wa fun e w'=>e= .returned (.int .i64 0)∧DkS wa g F σ' w' by
    have:=z2k (h.d.ext k) (q0F 99 (C.length:Int)) (q2P C.length++q2F p) hnm (by rw[List.length_append];omega)
    rw[hm] at this
    rw[q3I]
    exact this)
  have HCH:=Lib.hid (fun W=>q4A (C.length:Int) W)
  have HHD:=Lib.hid (fun W=>z1v C.length W hC)
  have HP:=Lib.hid (And.intro hE hp')
  have HH:=Lib.hid h
  have hw:Ext w w.drew:=(Ext.refl w).drew
  have HW:=Lib.hid hw
  have d0:=q0A hw c0;have d1:=q0A hw hbl;have d2:=q0A hw hbn;have d3:=q0A hw hbr
  have hcat:¬(9223372036854775807<(q2P C.length).length+(q2F p).length):=by omega
  clear h hpl hE hp' hm hf hnm hw c0 hbl hbn hbr hRl hHl hr hp
  generalize q2F p=R at*
  generalize q2P C.length=Hd at*
  generalize q0F 99 (C.length:Int)=nm at*
  generalize C.length=n at*
  go_enter Tryz.func145,Tryz.ntmps145
  go_wp2_with fail
  go_region_held3 (fun W=>W.cell? ⟨gl,0,none⟩=some (.pointer (some ⟨g,0,none⟩))∧W.cell? ⟨bl,0,none⟩=some (.pointer (some ⟨gl,0,none⟩))∧W.cell? ⟨bn,0,none⟩=some (.int .i64 (n:Int))∧W.cell? ⟨br,0,none⟩=some (.string ⟨R.toArray⟩))
    (first|exact HS3.out|exact HS2.out|exact HS1.out|exact ⟨d0,d1,d2,d3⟩)
    (first
      |(go_at_call 96;refine (HCH.out _).mono ?_;rintro e wa ⟨rfl,h1⟩;have H1:=Lib.hid (HW.out.trans h1);have HS1:=Lib.hid (And.intro (q0A h1 d0) (And.intro (q0A h1 d1) (And.intro (q0A h1 d2) (q0A h1 d3))));clear h1)
      |(go_at_call 146;refine (HHD.out _).mono ?_;rintro e wc ⟨rfl,h1⟩;have H2:=Lib.hid (H1.out.trans h1);have HS2:=Lib.hid (And.intro (q0A h1 HS1.out.1) (And.intro (q0A h1 HS1.out.2.1) (And.intro (q0A h1 HS1.out.2.2.1) (q0A h1 HS1.out.2.2.2))));clear h1)
      |(go_at_call 141;refine (HAP.out _ H2.out).mono ?_;rintro e wb ⟨rfl,h2⟩;have h3:=(HH.out.grow H2.out).disk h2;have H3:=Lib.hid h3;have HS3:=Lib.hid (And.intro h3.1.l.c0 (And.intro (q0p h3.2 kl HS2.out.2.1) (And.intro (q0p h3.2 kn HS2.out.2.2.1) (q0p h3.2 kr HS2.out.2.2.2))));clear h2 h3))
  all_goals
    go_wp2_with fail
    go_ret
    exact ⟨rfl,⟨_,_,σ',H3.out.1,HP.out⟩,(HH.out.kExt H2.out).trans H3.out.2⟩
end
end Go.Proofs.YtjjfiejoeelndaaGreatDoor
namespace Go.Proofs.YtjjfiejoeelndaaGreatDoor
open Go.RowKit
set_option maxRecDepth 100000
set_option linter.unusedVariables false
set_option maxHeartbeats 3200000
section
variable {E :Oth} {w0 w:World} {g gl:Nat} {F K:Nat→Prop} {v:Value} {σ:DM} {c s sure:Int} {C:Cks} {xs:List Int}
theorem LgK.toP (h:LgK E w0 w g gl c s C sure K):LgP E w0 w g gl c s (q3C E C) (q0M C) sure K∧okC C:=by
  obtain ⟨F,v,σ,h1,h2⟩:=h
  exact ⟨⟨F,v,σ,h1,h2.oth,h2.pl⟩,h2.ok⟩
def z2q (E:Oth) (w0:World) (g gl:Nat) (c s:Int) (C:Cks) (p:List UInt8) (sure:Int) (K:Nat→Prop):Nat→World→Prop
  |0,W=>LgK E w0 W g gl c s C sure K
  |1,W=>LgP E w0 W g gl c s (q3C E C) (q0M C) (q0x C sure) K
  |2,W=>LgP E w0 W g gl c s (z3N E C) (q0M C) (q0x C sure) K
  |_,W=>LgP E w0 W g gl c s (q3C E (C++[[p]])) (q0M C) (q0x C sure) K
theorem y0G {p:List UInt8} (h:LgK E w0 w g gl c s C sure K) (hC:C.length<200) (hp:p.length≤2000) (hr:(p.length:Int)+24≤c-(q0j C:Int)) {b bl bn br:Nat} (kb:K b) (kl:K bl) (kn:K bn) (kr:K br)
    (hb0:w.cell? ⟨b,0,none⟩=some (.func (.func 124) #[.pointer (some ⟨gl,0,none⟩)] #[]))
    (hb1:w.cell? ⟨b,1,none⟩=some (.func (.func 143) #[] #[.pointer (some ⟨bl,0,none⟩),.pointer (some ⟨bn,0,none⟩)]))
    (hb2:w.cell? ⟨b,2,none⟩=some (.func (.func 145) #[] #[.pointer (some ⟨bl,0,none⟩),.pointer (some ⟨bn,0,none⟩),.pointer (some ⟨br,0,none⟩)]))
    (hbl:w.cell? ⟨bl,0,none⟩=some (.pointer (some ⟨gl,0,none⟩))) (hbn:w.cell? ⟨bn,0,none⟩=some (.int .i64 (C.length:Int))) (hbr:w.cell? ⟨br,0,none⟩=some (.string ⟨(q2F p).toArray⟩)):
    Calls Tryz.prog 142 #[.slice (some ⟨b,0,none⟩) 3 3] w fun e w'=>e= .returned (.int .i64 0)∧LgP E w0 w' g gl c s (q3C E (C++[[p]])) (q0M C) (q0x C sure) K∧Stay K w w':=by
  have H:=Lib.hid h
  have HB:=Lib.hid (show∀W,Stay K w W→W.cell? ⟨b,0,none⟩=_∧W.cell? ⟨b,1,none⟩=_∧W.cell? ⟨b,2,none⟩=_ from fun W k=>⟨q0p k kb hb0,q0p k kb hb1,q0p k kb hb2⟩)
  have HL:=Lib.hid (show∀W,Stay K w W→W.cell? ⟨bl,0,none⟩=_∧W.cell? ⟨bn,0,none⟩=_∧W.cell? ⟨br,0,none⟩=_ from fun W k=>⟨q0p k kl hbl,q0p k kn hbn,q0p k kr hbr⟩)
  have HKl:=Lib.hid kl;have HKn:=Lib.hid kn;have HKr:=Lib.hid kr
  have HC:=Lib.hid hC;have HPp:=Lib.hid hp;have HR:=Lib.hid hr
  clear h kb kl kn kr hb0 hb1 hb2 hbl hbn hbr hC hp hr
  go_enter Tryz.func142,Tryz.ntmps142
  go_wp2_with fail
  go_loopw [8] (fun i W=> ∃k:Nat,k≤3∧i= .int .i64 (k:Int)∧z2q E w0 g gl c s C p sure K k W∧Stay K w W) (fun i _=>3-(intOf i).toNat)
  case atStart=>exact ⟨0,by omega,rfl,H.out,Stay.refl _ _⟩
  case round=>
    obtain ⟨k,hk,rfl,hs,hst⟩:=hrel
    have HS:=Lib.hid hs
    have HSt:=Lib.hid hst
    obtain ⟨q0,q1,q2⟩:=HB.out wr hst
    have HLw:=Lib.hid (HL.out wr hst)
    clear hs hst
    obtain rfl|rfl|rfl|rfl:k=0∨k=1∨k=2∨k=3:=by omega
    · have HX:Hid (Calls Tryz.prog 124 #[.pointer (some ⟨gl,0,none⟩)] wr fun e w'=>e= .returned (.int .i64 0)∧LgK E w0 w' g gl c s C (q0x C sure) K∧Stay K wr w'):=Lib.hid (by
        obtain ⟨F,v,σ,h1,h2⟩:=HS.out
        exact z8T h1 h2)
      go_wp2_with fail
      refine HX.out.mono ?_
      rintro e w1 ⟨rfl,h1,h2⟩
      have H1:=Lib.hid (show z2q E w0 g gl c s C p sure K 1 w1 from h1.toP.1)
      have H2:=Lib.hid (HSt.out.trans h2)
      clear h1 h2
      go_wp2_with fail
      go_roundw
      case rel=>exact ⟨1,by omega,by go_num,H1.out,H2.out⟩
      case measure=>simp[intOf]
    · have HX:=Lib.hid (z7I HS.out HC.out HKl.out HKn.out HLw.out.1 HLw.out.2.1)
      go_wp2_with fail
      refine HX.out.mono ?_
      rintro e w1 ⟨rfl,h1,h2⟩
      have H1:=Lib.hid (show z2q E w0 g gl c s C p sure K 2 w1 from h1)
      have H2:=Lib.hid (HSt.out.trans h2)
      clear h1 h2
      go_wp2_with fail
      go_roundw
      case rel=>exact ⟨2,by omega,by go_num,H1.out,H2.out⟩
      case measure=>simp[intOf]
    · have HX:=Lib.hid (z6c HS.out HC.out HPp.out HR.out HKl.out HKn.out HKr.out HLw.out.1 HLw.out.2.1 HLw.out.2.2)
      go_wp2_with fail
      refine HX.out.mono ?_
      rintro e w1 ⟨rfl,h1,h2⟩
      have H1:=Lib.hid (show z2q E w0 g gl c s C p sure K 3 w1 from h1)
      have H2:=Lib.hid (HSt.out.trans h2)
      clear h1 h2
      go_wp2_with fail
      go_roundw
      case rel=>exact ⟨3,by omega,by go_num,H1.out,H2.out⟩
      case measure=>simp[intOf]
    · go_wp2_with fail
      go_ret
      exact ⟨rfl,HS.out,HSt.out⟩
end
end Go.Proofs.YtjjfiejoeelndaaGreatDoor
namespace Go.Proofs.YtjjfiejoeelndaaGreatDoor
open Go.RowKit
set_option maxRecDepth 100000
set_option linter.unusedVariables false
set_option maxHeartbeats 3200000
section
variable {E :Oth} {w0 w:World} {g gl:Nat} {F K:Nat→Prop} {v:Value} {σ:DM} {c s sure:Int} {C:Cks} {xs:List Int}
theorem LgF.push {w3 wl w':World} (h:LgF w0 w3 g gl F v σ s xs sure K) (hx:Ext w3 wl) {z:Int} {v':Value} (hown:w'.ownsRow 0 3 1 v' (xs.length+1) (xs.map (Value.int .i64)++[.int .i64 z])) (hgrow:wl.grownBy w' v.ownBlock)
    (hat:v'.ownBlock=v.ownBlock∨v'.ownBlock=some wl.heap.size):
    LgF w0 (w'.setCell ⟨gl,3,none⟩ v') g gl F v' σ s (xs++[z]) sure K∧Stay K w3 (w'.setCell ⟨gl,3,none⟩ v'):=by
  have hlt:=h.l.blk.lt
  have hs:=hx.size
  have hne:v'.ownBlock≠some gl:=fun e=>by
    rcases hat with h1|h1
    · exact h.l.apart (h1.symm.trans e)
    · rw[h1] at e;cases e;omega
  have hb:Blk w' gl 161 #[.pointer (some ⟨g,0,none⟩),.int .i64 s,.bool false,v,.int .i64 sure]:=(h.l.blk.ext hx).same (hgrow.block gl (by omega) fun e=>h.l.apart e.symm)
  refine h.log ⟨hb.set 3 v',?_⟩ (((OffS.of_ext hx).trans (OffS.grown hgrow fun i e=> .inr e)).trans (OffS.set w' (.inl rfl) 3 v')) fun i hi=>?_
  · rw[List.length_append,List.map_append]
    exact q0q hown v' hne
  · rcases hat with h1|h1
    · exact .inl (h1.symm.trans hi)
    · right;rw[h1] at hi;cases hi;exact hs
theorem LgF.pushed {w3 wl w':World} (h:LgF w0 w3 g gl F v σ s xs sure K) (hx:Ext w3 wl) (hgrow:wl.grownBy w' v.ownBlock):Stay K w3 w'∧w'.cell? ⟨gl,3,none⟩=some v∧w'.frozen? ⟨gl,3,none⟩=false:=by
  have hlt:=h.l.blk.lt
  have hs:=hx.size
  have hb:Blk w' gl 161 #[.pointer (some ⟨g,0,none⟩),.int .i64 s,.bool false,v,.int .i64 sure]:=(h.l.blk.ext hx).same (hgrow.block gl (by omega) fun e=>h.l.apart e.symm)
  refine ⟨fun i hi=>?_,hb.cell 3,hb.free 3⟩
  obtain ⟨h1,_,h2⟩:=h.k i hi
  exact (hgrow.block i (by omega) fun e=>h2 (.inr e.symm)).trans (hx.block i h1)
theorem z6l (h:LgF w0 w g gl F v σ s (q0M C) sure K) (hl:Lgd E σ c s C) (R:List UInt8) (hR:R.length≤2012) (hr:200≤C.length∨c-(q0j C:Int)-((R.length:Int)+12)<6000):
    Calls Tryz.prog 87 #[.pointer (some ⟨gl,0,none⟩),.int .i64 (C.length:Int),.string ⟨R.toArray⟩] w fun e w'=>e= .returned (.tuple #[.int .i64 0,.int .i64 60])∧Ext w w':=by
  obtain ⟨r0,r1⟩:=h.room0 hl
  have h200:=hl.ok.few
  have HR:=Lib.hid (fun (W:World) (k:Ext w W)=>z2I (h.grow k) hl.free r0 r1 (12+(R.length:Int)) (by omega) (by omega))
  by_cases hn:200≤C.length
  · have hd:decide ((200:Int)≤(C.length:Int))=true:=by simp;omega
    clear h hl HR r0 r1 hr
    go_enter Tryz.func87,Tryz.ntmps87
    go_wp2_with fail
    go_ret2
    exact ⟨rfl,q6y w _ _ _⟩
  · have hd:decide ((200:Int)≤(C.length:Int))=false:=by simp;omega
    have hd2:decide ((6000:Int)≤c-(q0j C:Int)-(12+(R.length:Int)))=false:=by simp;omega
    rw[hd2] at HR
    clear h hl r0 r1 hr hd2
    go_enter Tryz.func87,Tryz.ntmps87
    go_wp2_with fail
    refine (HR.out _ (q6y w _ _ _)).mono ?_
    rintro e w1 ⟨rfl,hb⟩
    have HB:=Lib.hid ((q6y w _ _ _).trans hb);clear hb
    go_wp2_with fail
    go_ret2
    exact ⟨rfl,HB.out⟩
theorem z8i {p :List UInt8} (h:LgF w0 w g gl F v σ s (q0M C) sure K) (hl:Lgd E σ c s C) (hp:p.length≤2000) (hn:C.length<200) (hr:6000≤c-(q0j C:Int)-((p.length:Int)+24)):
    Calls Tryz.prog 87 #[.pointer (some ⟨gl,0,none⟩),.int .i64 (C.length:Int),.string ⟨(q2F p).toArray⟩] w fun e w'=>
      e= .returned (.tuple #[.int .i64 ((C.length:Int)*4096+12),.int .i64 0])∧LgK E w0 w' g gl c s (C++[[p]]) (q0x C sure) K∧Stay K w w':=by
  obtain ⟨r0,r1⟩:=h.room0 hl
  have hRl:=q1B p
  have HR:=Lib.hid (fun (W:World) (k:Ext w W)=>z2I (h.grow k) hl.free r0 r1 (12+((q2F p).length:Int)) (by omega) (by omega))
  have hd:decide ((200:Int)≤(C.length:Int))=false:=by simp;omega
  have hd2:decide ((6000:Int)≤c-(q0j C:Int)-(12+((q2F p).length:Int)))=true:=by simp;omega
  rw[hd2] at HR
  obtain ⟨W0,hW0⟩: ∃W0,((w.alloc (.cells #[.pointer (some ⟨gl,0,none⟩)] 83)).alloc (.cells #[.int .i64 (C.length:Int)] 3)).alloc (.cells #[.string ⟨(q2F p).toArray⟩] 9)=W0:=⟨_,rfl⟩
  have HE0:Hid (Ext w W0):=Lib.hid (by rw[←hW0];exact q6y w _ _ _)
  have HCl:Hid (∀W,Ext W0 W→W.cell? ⟨w.heap.size,0,none⟩=some (.pointer (some ⟨gl,0,none⟩))∧W.cell? ⟨w.heap.size+1,0,none⟩=some (.int .i64 (C.length:Int))∧W.cell? ⟨w.heap.size+1+1,0,none⟩=some (.string ⟨(q2F p).toArray⟩)):=Lib.hid fun W hW=>by
    rw[←hW0] at hW
    have b1:=(((Blk.new w 83 #[.pointer (some ⟨gl,0,none⟩)]).ext (q6B _ (.cells #[.int .i64 (C.length:Int)] 3) (.cells #[.string ⟨(q2F p).toArray⟩] 9))).ext hW).cell 0
    have b2:=(((Blk.new (w.alloc (.cells #[.pointer (some ⟨gl,0,none⟩)] 83)) 3 #[.int .i64 (C.length:Int)]).ext (q0B _ (.cells #[.string ⟨(q2F p).toArray⟩] 9))).ext hW).cell 0
    have b3:=((Blk.new ((w.alloc (.cells #[.pointer (some ⟨gl,0,none⟩)] 83)).alloc (.cells #[.int .i64 (C.length:Int)] 3)) 9 #[.string ⟨(q2F p).toArray⟩]).ext hW).cell 0
    rw[World.size_alloc] at b2
    rw[World.size_alloc,World.size_alloc] at b3
    exact ⟨b1,b2,b3⟩
  have HS0:Hid (W0.heap.size=w.heap.size+1+1+1):=Lib.hid (by rw[←hW0];simp)
  have HK:=Lib.hid (show LgK E w0 w g gl c s C sure K from ⟨F,v,σ,h,hl⟩)
  have HHp:=Lib.hid hp;have HHn:=Lib.hid hn;have HHr:=Lib.hid hr;have HRl:=Lib.hid hRl
  have hmf: ∀(fn:Fn) (first cap:Array Value) (w:World),(Instr.makeFunc fn first cap).run Tryz.prog w= .ok (.func fn first cap) w:=fun _ _ _ _=>rfl
  have hRl2:(q2F p).length≤2012:=by omega
  clear h hl r0 r1 hr hd2 hp hRl
  obtain ⟨R,hR⟩: ∃R,q2F p=R:=⟨_,rfl⟩
  rw[hR] at HR hW0 HCl HRl hRl2⊢
  have HRe:=Lib.hid hR
  clear hR
  go_enter Tryz.func87,Tryz.ntmps87
  obtain ⟨a0,a1,a2⟩:=HCl.out W0 (Ext.refl _)
  go_wp2_with fail
  try rw[hW0]
  clear hW0 a0 a1 a2
  refine (HR.out _ HE0.out).mono ?_
  rintro e w1 ⟨rfl,hb⟩
  obtain ⟨q0,q1,q2⟩:=HCl.out _ hb
  have HB:=Lib.hid hb;clear hb
  go_wp2_with fail
  obtain ⟨cs, hcs⟩: ∃cs:Array Value,#[Value.func (Fn.func 124) #[Value.pointer (some ⟨gl,0,none⟩)] #[],Value.func (Fn.func 143) #[] #[Value.pointer (some ⟨w.heap.size,0,none⟩),Value.pointer (some ⟨w.heap.size+1,0,none⟩)],
              Value.func (Fn.func 145) #[] #[Value.pointer (some ⟨w.heap.size,0,none⟩),Value.pointer (some ⟨w.heap.size+1,0,none⟩),Value.pointer (some ⟨w.heap.size+1+1,0,none⟩)]]=cs:=⟨_,rfl⟩
  rw[hcs]
  obtain ⟨W2,hW2⟩: ∃W2,w1.alloc (.cells cs 71)=W2:=⟨_,rfl⟩
  have hk2:Ext w1 W2:=by rw[←hW2];exact q0B _ _
  have hs2:W2.heap.size=w1.heap.size+1:=by rw[←hW2];simp
  have hs1:=HB.out.size
  rw[HS0.out] at hs1
  have hbk:Blk W2 w1.heap.size 71 cs:=by rw[←hW2];exact Blk.new _ _ _
  rw[hW2]
  have HE2:=Lib.hid ((HE0.out.trans HB.out).trans hk2)
  have hK':=HK.out.more (K':=fun i=>K i∨(w.heap.size≤i∧i<W2.heap.size)) HE2.out (fun i hi=>hi)
  have HSK:=Lib.hid (HK.out.kExt HE2.out)
  obtain ⟨r0,r1,r2⟩:=HCl.out _ (HB.out.trans hk2)
  rw[←HRe.out] at r2
  have hal:=y0G hK' HHn.out HHp.out (by have:=HHr.out;omega) (b:=w1.heap.size) (bl:=w.heap.size) (bn:=w.heap.size+1) (br:=w.heap.size+1+1) (.inr ⟨by omega,by omega⟩) (.inr ⟨by omega,by omega⟩) (.inr ⟨by omega,by omega⟩) (.inr ⟨by omega,by omega⟩)
    (by rw[hbk.cell 0,←hcs];rfl) (by rw[hbk.cell 1,←hcs];rfl) (by rw[hbk.cell 2,←hcs];rfl) r0 r1 r2
  have HKs:Hid (w.heap.size<W2.heap.size∧w.heap.size+1+1<W2.heap.size):=Lib.hid ⟨by omega,by omega⟩
  have hR2:=r2
  rw[HRe.out] at hR2
  have HR2:=Lib.hid hR2;have HR0:=Lib.hid r0;have HR1:=Lib.hid r1
  clear hcs hW2 hbk hk2 hs2 hs1 r0 r1 r2 hK' q0 q1 q2 hR2
  refine hal.mono ?_
  rintro e w3 ⟨rfl,h3,hst3⟩
  clear hal
  obtain ⟨F3,v3,σ3,h3,hp3⟩:=h3
  have e0:=q0p hst3 (.inr ⟨Nat.le_refl _,HKs.out.1⟩) HR0.out
  have e2:=q0p hst3 (.inr ⟨by omega,HKs.out.2⟩) HR2.out
  have e1:=Lib.hid (q0p hst3 (.inr ⟨by omega,by have:=HKs.out.2;omega⟩) HR1.out)
  have hrow:=h3.l.row
  obtain ⟨a,k,rfl⟩:=q0I hrow
  have e3:=h3.l.c3
  have z3:=h3.l.blk.free 3
  have hsl:=q0b C
  rw[hsl] at hrow e3 h3
  have hwz:IntKind.i64.wrap (12+(R.length:Int))=(q0J [p]:Int):=by
    rw[q4G,←HRl.out,IntKind.wrap_i64];omega
  obtain ⟨z,hz⟩: ∃z:Int,(q0J [p]:Int)=z:=⟨_,rfl⟩
  rw[hz] at hwz
  obtain ⟨wl,hwl⟩: ∃wl,(w3.alloc (.cells #[.int .i64 z] 3)).drew=wl:=⟨_,rfl⟩
  have HXl:Hid (Ext w3 wl):=Lib.hid (by rw[←hwl];exact (q0B w3 _).drew)
  have HLit:Hid (Rd wl (some ⟨w3.heap.size,0,none⟩) [.int .i64 z]):=Lib.hid (by rw[←hwl];exact Rd.lit w3 #[.int .i64 z] 3)
  have HRow:Hid (wl.ownsRow 0 3 1 (.slice a C.length k) C.length ((q0M C).map (Value.int .i64))):=Lib.hid (q0L hrow HXl.out)
  have HZ:=Lib.hid hz
  have H3:=Lib.hid h3
  have HP3:=Lib.hid hp3
  have HSt3:=Lib.hid hst3
  have HCn:=Lib.hid hsl
  have hn2:=HHn.out
  have f0:=q0A HXl.out e0;have f2:=q0A HXl.out e2;have f3:=q0A HXl.out e3
  clear hz h3 hp3 hst3 hsl hrow hd
  generalize hnn:C.length=n at*
  have HN:=Lib.hid hnn
  clear hnn
  have HPush:Hid (∀(w':World) (a':Option Addr) (k':Nat),w'.ownsRow 0 3 1 (.slice a' (n+1) k') (n+1) ((q0M C).map (Value.int .i64)++[.int .i64 z])→wl.grownBy w' (Value.slice a n k).ownBlock→((Value.slice a' (n+1) k').ownBlock=(Value.slice a n k).ownBlock∨(Value.slice a' (n+1) k').ownBlock=some wl.heap.size)→
      LgK E w0 (w'.setCell ⟨gl,3,none⟩ (.slice a' (n+1) k')) g gl c s (C++[[p]]) (q0x C sure) K∧Stay K w (w'.setCell ⟨gl,3,none⟩ (.slice a' (n+1) k'))∧(w'.setCell ⟨gl,3,none⟩ (.slice a' (n+1) k')).cell? ⟨w.heap.size+1,0,none⟩=some (.int .i64 (n:Int))):=Lib.hid fun w' a' k' h1 h2 h3=>by
    have hp:=H3.out.push HXl.out (by rw[HCn.out];exact h1) h2 h3
    refine ⟨⟨F3,.slice a' (n+1) k',σ3,?_,⟨HP3.out.2,HK.out.toP.2.more HHp.out (by rw[HN.out];exact hn2),HP3.out.1⟩⟩,HSK.out.trans (Stay.trans (K:=K) (fun i hi=>HSt3.out i (.inl hi)) fun i hi=>hp.2 i (.inl hi)),q0p hp.2 (.inr ⟨by omega,by have:=HKs.out.2;omega⟩) e1.out⟩
    rw[q2J,HZ.out]
    exact hp.1.beside fun i hi=> .inl hi
  go_wp2_with fail
  go_region_law
    (refine q1Z rfl (.tmp 33) (.tmp 37) 55 rfl 0 3 _ 1 8 Tryz.underlying55 Tryz.infoI (by decide) (by decide) (.slice a n k) n ((q0M C).map (Value.int .i64)) rfl HRow.out (some ⟨w3.heap.size,0,none⟩) 1 1 [.int .i64 z] rfl rfl (fun h=>by cases h) HLit.out (by simp[Value.oneCell']) (by unfold maxLen;omega) (by omega) (Nat.zero_le _) ?_;intro v' w' hown hgrow hat;have HOw:=Lib.hid hown;have HGr:=Lib.hid hgrow;have HAt:=Lib.hid hat;obtain ⟨q1,q2,q3⟩:=H3.out.pushed HXl.out hgrow;have u0:=q0p q1 (.inr ⟨Nat.le_refl _,HKs.out.1⟩) e0;have u2:=q0p q1 (.inr ⟨by omega,HKs.out.2⟩) e2;obtain ⟨a',k',rfl⟩:=q0I hown;clear hown hgrow hat q1)
  all_goals
    have hpu:=HPush.out _ _ _ HOw.out HGr.out HAt.out
    have HFin:=Lib.hid hpu
    have u1:=hpu.2.2
    clear hpu
    go_wp2_with fail
    go_ret2
    exact ⟨by rw[HN.out];rfl,HFin.out.1,HFin.out.2.1⟩
end
end Go.Proofs.YtjjfiejoeelndaaGreatDoor
namespace Go.Proofs.YtjjfiejoeelndaaGreatDoor
open Go.RowKit
set_option maxRecDepth 100000
set_option linter.unusedVariables false
set_option maxHeartbeats 3200000
section
variable {E :Oth} {w0 w:World} {g gl:Nat} {F K:Nat→Prop} {v:Value} {σ:DM} {c s sure:Int} {C:Cks} {xs:List Int}
def AppR (E:Oth) (w0 w:World) (g gl:Nat) (c s:Int) (C:Cks) (sure:Int) (K:Nat→Prop) (p:List UInt8) (e:Ending) (w':World):Prop:=
  e= .returned (.tuple #[.int .i64 (q0w (c-(q0j C:Int)) C p).1,.int .i64 (q0w (c-(q0j C:Int)) C p).2.1])∧
  LgK E w0 w' g gl c s (q0w (c-(q0j C:Int)) C p).2.2 (q4J (c-(q0j C:Int)) sure C p) K∧Stay K w w'
theorem AppR.same {p:List UInt8} {w':World} {r:Int} (h:LgK E w0 w g gl c s C sure K) (k:Ext w w') (hr:q0w (c-(q0j C:Int)) C p=(0,r,C)) (h0:r≠0):AppR E w0 w g gl c s C sure K p (.returned (.tuple #[.int .i64 0,.int .i64 r])) w':=by
  unfold AppR q4J
  rw[hr,if_neg (fun h=>h0 h.1)]
  exact ⟨rfl,h.grow k,h.kExt k⟩
theorem AppR.pre {p:List UInt8} {w1 w':World} {e:Ending} (h:LgK E w0 w g gl c s C sure K) (k:Ext w w1) (h1:AppR E w0 w1 g gl c s C sure K p e w'):AppR E w0 w g gl c s C sure K p e w':=
  ⟨h1.1,h1.2.1,(h.kExt k).trans h1.2.2⟩
theorem q9w {fr:Int} {p:List UInt8} (h:2000<p.length):q0w fr C p=(0,3,C):=by unfold q0w;rw[if_pos h]
theorem q5F {fr:Int} {p:List UInt8} (h:p.length≤2000) (hf:q3q C p=true) (hr:fr-((p.length:Int)+12)<6000):q0w fr C p=(0,60,C):=by
  unfold q0w;rw[if_neg (by omega),if_pos hf,if_pos hr]
theorem q6l {fr:Int} {D:Cks} {ps:List (List UInt8)} {p:List UInt8} (h:p.length≤2000) (hf:q3q (D++[ps]) p=true) (hr:6000≤fr-((p.length:Int)+12)):q0w fr (D++[ps]) p=((D.length:Int)*4096+(q0J ps:Int),0,D++[ps++[p]]):=by
  unfold q0w;rw[if_neg (by omega),if_pos hf,if_neg (by omega),q2S];simp
theorem q5A {fr:Int} {p:List UInt8} (h:p.length≤2000) (hf:q3q C p=false) (hr:200≤C.length∨fr-((p.length:Int)+24)<6000):q0w fr C p=(0,60,C):=by
  unfold q0w;rw[if_neg (by omega),if_neg (by rw[hf];decide),if_pos hr]
theorem q6v {fr:Int} {p:List UInt8} (h:p.length≤2000) (hf:q3q C p=false) (hr:¬(200≤C.length∨fr-((p.length:Int)+24)<6000)):q0w fr C p=((C.length:Int)*4096+12,0,C++[[p]]):=by
  unfold q0w;rw[if_neg (by omega),if_neg (by rw[hf];decide),if_neg hr]
theorem q8N (D:Cks) (ps:List (List UInt8)) (p:List UInt8):q3q (D++[ps]) p=decide (q0J ps+(p.length+12)≤4096):=by unfold q3q;simp
theorem y0L {p:List UInt8} (h:LgK E w0 w g gl c s C sure K) (hp:p.length≤2000) (hf:q3q C p=false):
    Calls Tryz.prog 87 #[.pointer (some ⟨gl,0,none⟩),.int .i64 (C.length:Int),.string ⟨(q2F p).toArray⟩] w (AppR E w0 w g gl c s C sure K p):=by
  obtain ⟨F,v,σ,h1,h2⟩:=h
  by_cases hr:200≤C.length∨c-(q0j C:Int)-((p.length:Int)+24)<6000
  · refine (z6l h1 h2 (q2F p) (by rw[q1B];omega) (by rw[q1B];omega)).mono ?_
    rintro e w' ⟨rfl,k⟩
    exact AppR.same ⟨F,v,σ,h1,h2⟩ k (q5A hp hf hr) (by decide)
  · refine (z8i h1 h2 hp (by omega) (by omega)).mono ?_
    rintro e w' ⟨rfl,k1,k2⟩
    have ha:=q6v hp hf hr
    have hsu:q4J (c-(q0j C:Int)) sure C p=q0x C sure:=by
      unfold q4J q0x
      rw[ha]
      by_cases hC:C=[]
      · rw[if_pos hC,if_neg (fun h=>h.2.2 hC)]
      · rw[if_neg hC,if_pos ⟨rfl,hf,hC⟩]
    unfold AppR
    rw[hsu,ha]
    exact ⟨rfl,k1,k2⟩
theorem z8c {p:List UInt8} {D:Cks} {ps:List (List UInt8)} (h:LgK E w0 w g gl c s (D++[ps]) sure K) (hp:p.length≤2000) (hf:q3q (D++[ps]) p=true):
    Calls Tryz.prog 86 #[.pointer (some ⟨gl,0,none⟩),.int .i64 (D.length:Int),.string ⟨(q2F p).toArray⟩] w (AppR E w0 w g gl c s (D++[ps]) sure K p):=by
  obtain ⟨F,v,σ,h1,h2⟩:=h
  by_cases hr:c-(q0j (D++[ps]):Int)-((p.length:Int)+12)<6000
  · refine (z5J h1 h2 (D.length:Int) (q2F p) (by rw[q1B];omega) (by rw[q1B];omega)).mono ?_
    rintro e w' ⟨rfl,k⟩
    exact AppR.same ⟨F,v,σ,h1,h2⟩ k (q5F hp hf hr) (by decide)
  · have hs:q0J ps+(p.length+12)≤4096:=by rw[q8N] at hf;exact of_decide_eq_true hf
    refine (z7u h1 h2 hp hs (by omega)).mono ?_
    rintro e w' ⟨rfl,k1,k2⟩
    have ha:=q6l (fr:=c-(q0j (D++[ps]):Int)) hp hf (by omega)
    unfold AppR q4J
    rw[ha,if_neg (fun h=>by rw[hf] at h;exact absurd h.2.1 (by decide))]
    exact ⟨rfl,k1,k2⟩
theorem z7P (h:LgK E w0 w g gl c s C sure K) (p:List UInt8) (hp9:p.length≤9223372036854775807):
    Calls Tryz.prog 46 #[.pointer (some ⟨gl,0,none⟩),.string ⟨p.toArray⟩] w (AppR E w0 w g gl c s C sure K p):=by
  have HK:=Lib.hid h
  obtain ⟨F,v,σ,h1,h2⟩:=h
  have HRd:=Lib.hid (q8f h1 h2.pl.up h2.pl.st)
  by_cases hp:2000<p.length
  · have HPn:=Lib.hid (fun W=>z4m p W hp hp9)
    have HA:=Lib.hid (q9w (C:=C) (fr:=c-(q0j C:Int)) hp)
    clear h1 h2 hp
    go_enter Tryz.func46,Tryz.ntmps46
    go_wp2_with fail
    refine HRd.out.mono ?_
    rintro e w1 ⟨rfl,hb⟩
    have HB:=Lib.hid hb;clear hb
    go_wp2_with fail
    refine (HPn.out _).mono ?_
    rintro e w2 ⟨rfl,rfl⟩
    go_wp2_with fail
    go_ret2
    exact AppR.same HK.out HB.out HA.out (by decide)
  have hp2:p.length≤2000:=by omega
  have HPn:=Lib.hid (fun W=>z7X p W hp2)
  have h200:=h2.ok.few
  have HBg:=Lib.hid (fun (W:World) (k:Ext w W) (hf:q3q C p=false)=>(y0L (HK.out.grow k) hp2 hf).mono fun e w' h=>AppR.pre HK.out k h)
  by_cases hC:C=[]
  · subst hC
    have HB0:=Lib.hid (fun (W:World) (k:Ext w W)=>HBg.out W k rfl)
    have c3:=h1.l.c3
    obtain ⟨a,k,rfl⟩:=q0I h1.l.row
    have e0:(q0M ([]:Cks)).length=0:=rfl
    have HC3:=Lib.hid c3
    clear HBg h1 h2 hp c3
    generalize hRR:q2F p=R at*
    clear hRR
    unfold AppR at HB0⊢
    generalize (q0w (c-(q0j []:Int)) [] p)=X at*
    go_enter Tryz.func46,Tryz.ntmps46
    go_wp2_with fail
    refine HRd.out.mono ?_
    rintro e w1 ⟨rfl,hb⟩
    have HB:=Lib.hid hb;clear hb
    go_wp2_with fail
    refine (HPn.out _).mono ?_
    rintro e w2 ⟨rfl,hb⟩
    have HB2:=Lib.hid (HB.out.trans hb);clear hb
    have c3:=q0A HB2.out HC3.out
    rw[e0] at c3
    go_wp2_with fail
    refine (HB0.out _ HB2.out).mono ?_
    rintro e w3 ⟨rfl,h3⟩
    have H3:=Lib.hid h3
    clear h3
    go_wp2_with fail
    go_ret2
    exact ⟨rfl,H3.out⟩
  obtain ⟨D,ps,rfl⟩:=q8m hC
  clear hC
  obtain ⟨b,k,rfl,hcz,_⟩:=h1.last
  have hz4:q0J ps≤4096:=h2.ok.size ps (by simp)
  have hD200:D.length+1≤200:=by simpa using h200
  obtain ⟨z,hz⟩: ∃z:Int,(q0J ps:Int)=z:=⟨_,rfl⟩
  rw[hz] at hcz
  have z0:0≤z:=by omega
  have z1:z≤4096:=by omega
  have HC3:=Lib.hid h1.l.c3
  have HCz:=Lib.hid hcz
  have HF:=Lib.hid (fun W=>y1J z p W z0 z1 hp2)
  have hfit:decide ((p.length:Int)+12≤4096-z)=q3q (D++[ps]) p:=by rw[q8N,decide_eq_decide];omega
  rw[hfit] at HF
  have HBh:=Lib.hid (fun (W:World) (k:Ext w W) (hf:q3q (D++[ps]) p=true)=>(z8c (HK.out.grow k) hp2 hf).mono fun e w' h=>AppR.pre HK.out k h)
  have hlen:(D++[ps]).length=D.length+1:=by simp
  rw[hlen] at HBg
  have hDl:(D.length:Int)≤199:=by omega
  have hcast:(((D.length+1:Nat)):Int)=(D.length:Int)+1:=by omega
  rw[hcast] at HBg
  generalize hRR:q2F p=R at*
  clear hRR h1 h2 hp hz hz4 hfit hcz h200 hD200 hlen hcast
  generalize (q0w (c-(q0j (D++[ps]):Int)) (D++[ps]) p)=X at*
  cases hf:q3q (D++[ps]) p with
  | true=>
    rw[hf] at HF
    have HB0:=Lib.hid (fun (W:World) (k:Ext w W)=>HBh.out W k hf)
    clear HBg HBh hf
    unfold AppR at HB0⊢
    go_enter Tryz.func46,Tryz.ntmps46
    go_wp2_with fail
    refine HRd.out.mono ?_
    rintro e w1 ⟨rfl,hb⟩
    have HB:=Lib.hid hb;clear hb
    go_wp2_with fail
    refine (HPn.out _).mono ?_
    rintro e w2 ⟨rfl,hb⟩
    have HB2:=Lib.hid (HB.out.trans hb);clear hb
    have c3:=q0A HB2.out HC3.out
    have cz:=q0A HB2.out HCz.out
    go_wp2_with fail
    refine (HF.out _).mono ?_
    rintro e w3 ⟨rfl,rfl⟩
    go_wp2_with fail
    refine (HB0.out _ HB2.out).mono ?_
    rintro e w3 ⟨rfl,h3⟩
    have H3:=Lib.hid h3
    clear h3
    go_wp2_with fail
    go_ret2
    exact ⟨rfl,H3.out⟩
  | false=>
    rw[hf] at HF
    have HB0:=Lib.hid (fun (W:World) (k:Ext w W)=>HBg.out W k hf)
    clear HBg HBh hf
    unfold AppR at HB0⊢
    go_enter Tryz.func46,Tryz.ntmps46
    go_wp2_with fail
    refine HRd.out.mono ?_
    rintro e w1 ⟨rfl,hb⟩
    have HB:=Lib.hid hb;clear hb
    go_wp2_with fail
    refine (HPn.out _).mono ?_
    rintro e w2 ⟨rfl,hb⟩
    have HB2:=Lib.hid (HB.out.trans hb);clear hb
    have c3:=q0A HB2.out HC3.out
    have cz:=q0A HB2.out HCz.out
    go_wp2_with fail
    refine (HF.out _).mono ?_
    rintro e w3 ⟨rfl,rfl⟩
    go_wp2_with fail
    refine (HB0.out _ HB2.out).mono ?_
    rintro e w3 ⟨rfl,h3⟩
    have H3:=Lib.hid h3
    clear h3
    go_wp2_with fail
    go_ret2
    exact ⟨rfl,H3.out⟩
theorem z7T (h:LgV E w0 w g gl v c s C sure K):
    Calls Tryz.prog 62 #[.pointer (some ⟨gl,0,none⟩)] w fun e w'=>e= .returned (.int .i64 0)∧LgV E w0 w' g gl v c s C (q0x C sure) K∧Stay K w w':=by
  have HK:=Lib.hid h.toK
  obtain ⟨F,σ,h1,h2⟩:=h
  have HRd:=Lib.hid (q8f h1 h2.pl.up h2.pl.st)
  have HS:=Lib.hid (fun (W:World) (k:Ext w W)=>z2x (h1.grow k) h2)
  clear h1 h2
  go_enter Tryz.func62,Tryz.ntmps62
  go_wp2_with fail
  refine HRd.out.mono ?_
  rintro e w1 ⟨rfl,hb⟩
  have HB:=Lib.hid hb;clear hb
  go_wp2_with fail
  refine (HS.out _ HB.out).mono ?_
  rintro e w2 ⟨rfl,h3,h4⟩
  have H4:=Lib.hid ((HK.out.kExt HB.out).trans h4)
  obtain ⟨F3,σ3,h5,h6⟩:=h3
  have H6:=Lib.hid h6
  have HN:=Lib.hid (y0D h5)
  clear h4 h5 h6
  go_wp2_with fail
  refine HN.out.mono ?_
  rintro e w3 ⟨rfl,h7,h8⟩
  have H7:=Lib.hid h7;have H8:=Lib.hid h8
  clear h7 h8
  go_wp2_with fail
  go_ret
  exact ⟨rfl,⟨_,σ3,H7.out,H6.out⟩,H4.out.trans H8.out⟩
theorem z9m (h:LgK E w0 w g gl c s C sure K):
    Calls Tryz.prog 62 #[.pointer (some ⟨gl,0,none⟩)] w fun e w'=>e= .returned (.int .i64 0)∧LgK E w0 w' g gl c s C (q0x C sure) K∧Stay K w w':=by
  obtain ⟨v,hv⟩:=h.toV
  exact (z7T hv).mono fun _ _ ⟨h1,h2,h3⟩=>⟨h1,h2.toK,h3⟩
end
end Go.Proofs.YtjjfiejoeelndaaGreatDoor
namespace Go.Proofs.YtjjfiejoeelndaaGreatDoor
open Go.RowKit
set_option maxRecDepth 100000
set_option linter.unusedVariables false
set_option maxHeartbeats 3200000
theorem z6z {s:List UInt8} {a:Nat} (h:a+q3s s a+12≤s.length):q4u ((s.drop a).take (q3s s a+12)) 0=(q4u s a).map fun r=>(r.1,r.2-a):=by
  obtain ⟨n,hn⟩: ∃n,q3s s a=n:=⟨_,rfl⟩
  rw[hn] at h⊢
  have e4:((s.drop a).take (n+12)).take 4=(s.drop a).take 4:=by rw[List.take_take,Nat.min_eq_left (by omega)]
  have hlen:((s.drop a).take (n+12)).length=n+12:=by simp;omega
  have hl0:q3s ((s.drop a).take (n+12)) 0=n:=by
    unfold q3s;rw[List.drop_zero,e4,←hn];first|done|rfl
  have hi:isR ((s.drop a).take (n+12)) 0=isR s a:=by
    unfold isR
    rw[hl0,hlen,hn,List.drop_zero,e4]
    have e8:((s.drop a).take (n+12)).take (n+8)=(s.drop a).take (n+8):=by rw[List.take_take,Nat.min_eq_left (by omega)]
    have ed:(((s.drop a).take (n+12)).drop (0+n+8)).take 4=(s.drop (a+n+8)).take 4:=by
      rw[List.drop_take,List.drop_drop,List.take_take]
      congr 1
      · omega
      · congr 1;omega
    rw[e8,ed,decide_eq_true (p:=0+12≤n+12) (by omega),decide_eq_true (p:=0+n+12≤n+12) (by omega),decide_eq_true (p:=a+12≤s.length) (by omega),decide_eq_true (p:=a+n+12≤s.length) h]
  unfold q4u
  rw[hi,hl0,hn]
  split
  · simp only[Option.map_some]
    congr 2
    · rw[List.drop_take,List.drop_drop,List.take_take]
      congr 1
      · omega
    · omega
  · rfl
section
variable {E :Oth} {w0 w:World} {g gl:Nat} {F K:Nat→Prop} {v:Value} {σ:DM} {c s sure:Int} {C:Cks} {xs:List Int} {l:List (List UInt8×List UInt8)} {nm:List UInt8} {x:List UInt8×List UInt8}
theorem q5N (h:LgF w0 w g gl F v σ s xs sure K) (hp:Pl σ c s l) (hf:q0G Prod.fst nm l=some x) (hnm:nm.length≤9223372036854775807) (a n:Int) (ha:0≤a) (hn:0≤n) (hl:a+n≤(x.2.length:Int)) (hx:(x.2.length:Int)≤1048576):
    Calls Tryz.prog 95 #[.pointer (some ⟨g,0,none⟩),.string ⟨nm.toArray⟩,.int .i64 a,.int .i64 n] w fun e w'=>
      e= .returned (.tuple #[.string ⟨((x.2.drop a.toNat).take n.toNat).toArray⟩,.int .i64 0])∧(∃F' σ',LgF w0 w' g gl F' v σ' s xs sure K∧Pl σ' c s l)∧Stay K w w':=by
  have h1:=z3C h.d nm a n hnm (by omega) (by omega) (by omega) (by omega)
  rw[hp.read hf a n ha hn hl] at h1
  refine h1.mono ?_
  rintro e w' ⟨rfl,k⟩
  obtain ⟨k1,k2⟩:=h.disk k
  exact ⟨rfl,⟨_,_,k1,hp.tell⟩,k2⟩
theorem LgF.cellAt (h:LgF w0 w g gl F v σ s (q0M C) sure K) {n:Nat} {ps:List (List UInt8)} (hps:C[n]? =some ps):
    ∃b k,v= .slice (some ⟨b,0,none⟩) C.length k∧w.cell? ⟨b,n,none⟩=some (.int .i64 (q0J ps:Int))∧w.frozen? ⟨b,n,none⟩=false:=by
  have hsl:(q0M C).length=C.length:=q0b C
  have hn:n<C.length:=(List.getElem?_eq_some_iff.1 hps).1
  obtain ⟨b,k,h1,h2,h3,_⟩:=(Own.of_row h.l.row).cell (j:=n) (by rw[List.length_map,hsl];omega)
  have hval:((q0M C).map (Value.int .i64))[n]'(by rw[List.length_map,hsl];omega)= .int .i64 (q0J ps:Int):=by
    rw[List.getElem_map]
    congr 1
    have:=z1k C n hps
    rw[List.getD_eq_getElem?_getD,List.getElem?_eq_getElem (by rw[hsl];omega)] at this
    exact this
  rw[hval] at h2
  rw[hsl] at h1
  exact ⟨b,k,h1,h2,h3⟩
theorem z5N {pos:Int} (h:pos<0):q5T C pos=([],4):=by unfold q5T;rw[if_pos h]
theorem z1u {n a:Nat} {pos:Int} (hpos:pos=(n:Int)*4096+(a:Int)) (ha:a<4096):q5T C pos=match C[n]? with
    |none=>([],4)
    | some ps=>match (if 12≤a then q4u (q0R n ps) a else none) with
      |none=>([],4)
      |some (p,_)=>(p,0):=by
  have h1:(pos/4096).toNat=n:=by omega
  have h2:(pos % 4096).toNat=a:=by omega
  unfold q5T
  rw[if_neg (by omega),h1,h2]
  cases C[n]? with
  |none=>rfl
  | some ps=>
    by_cases h12:12≤a
    · simp only[if_pos h12,if_pos (show 12≤pos % 4096 by omega)]
      cases q4u (q0R n ps) a with
      |none=>rfl
      |some r=>rfl
    · simp only[if_neg h12,if_neg (show ¬12≤pos % 4096 by omega)]
def ReadR (E:Oth) (w0 w:World) (g gl:Nat) (c s:Int) (C:Cks) (sure:Int) (K:Nat→Prop) (r:List UInt8×Int) (e:Ending) (w':World):Prop:=
  e= .returned (.tuple #[.string ⟨r.1.toArray⟩,.int .i64 r.2])∧LgK E w0 w' g gl c s C sure K∧Stay K w w'
theorem ReadR.no {w':World} {r:List UInt8×Int} (h:LgK E w0 w g gl c s C sure K) (k:Ext w w') (hr:r=([],4)):ReadR E w0 w g gl c s C sure K r (.returned (.tuple #[.string ⟨#[]⟩,.int .i64 4])) w':=by
  subst hr
  exact ⟨rfl,h.grow k,h.kExt k⟩
theorem y0d (h:LgK E w0 w g gl c s C sure K) (pos:Int) (p0: -9223372036854775808≤pos) (p1:pos≤9223372036854775807):
    Calls Tryz.prog 136 #[.pointer (some ⟨gl,0,none⟩),.int .i64 pos] w (ReadR E w0 w g gl c s C sure K (q5T C pos)):=by
  have HK:=Lib.hid h
  obtain ⟨F,v,σ,h1,h2⟩:=h
  have HRd:=Lib.hid (q8f h1 h2.pl.up h2.pl.st)
  by_cases hneg:pos<0
  · have HA:=Lib.hid (z5N (C:=C) hneg)
    have hd:decide (pos<0)=true:=by simpa using hneg
    clear h1 h2
    go_enter Tryz.func136,Tryz.ntmps136
    go_wp2_with fail
    refine HRd.out.mono ?_
    rintro e w1 ⟨rfl,hb⟩
    have HB:=Lib.hid hb;clear hb
    go_wp2_with fail
    go_ret2
    exact ReadR.no HK.out HB.out HA.out
  obtain ⟨n,hn⟩: ∃n:Nat,pos/4096=(n:Int):=⟨(pos/4096).toNat,by omega⟩
  obtain ⟨a,ha⟩: ∃a:Nat,pos % 4096=(a:Int):=⟨(pos % 4096).toNat,by omega⟩
  have hpos:pos=(n:Int)*4096+(a:Int):=by omega
  have ha4:a<4096:=by omega
  have hn1:(n:Int)≤2251799813685248:=by omega
  have hq:pos.tdiv 4096=(n:Int):=by rw[Int.tdiv_eq_ediv_of_nonneg (by omega)];exact hn
  have hm:pos.tmod 4096=(a:Int):=by rw[Int.tmod_eq_emod_of_nonneg (by omega)];exact ha
  have HRL:=Lib.hid (z1u (C:=C) hpos ha4)
  have hp0:decide (pos<0)=false:=by simpa using hneg
  have hsl:=q0b C
  obtain ⟨sa,sk,hv0⟩:=q0I h1.l.row
  rw[hsl] at hv0
  subst hv0
  have c3:=h1.l.c3
  have HC3:=Lib.hid c3
  clear hpos
  by_cases hnC:C.length≤n
  · have HA:Hid (q5T C pos=([],4)):=Lib.hid (by rw[HRL.out,List.getElem?_eq_none hnC])
    have hd:decide ((C.length:Int)≤(n:Int))=true:=by simp;omega
    have hx:=HC3.out
    clear h1 h2 c3
    go_enter Tryz.func136,Tryz.ntmps136
    go_wp2_with fail
    refine HRd.out.mono ?_
    rintro e w1 ⟨rfl,hb⟩
    have HB:=Lib.hid hb
    have c3:=q0A hb HC3.out
    clear hb
    go_wp2_with fail
    go_ret2
    exact ReadR.no HK.out HB.out HA.out
  have hnC':n<C.length:=by omega
  obtain ⟨ps,hps⟩: ∃ps,C[n]? =some ps:=⟨C[n],List.getElem?_eq_getElem hnC'⟩
  have hn200:n<200:=by have:=h2.ok.few;omega
  obtain ⟨b,sk',hv,hcz,_⟩:=h1.cellAt hps
  cases hv
  have hz4:q0J ps≤4096:=h2.ok.size ps (List.mem_of_getElem? hps)
  have hlen:=q1E n ps
  have hfind:=q3U h2.oth h2.ok.few hps
  rw[hps] at HRL
  have hd1:decide ((C.length:Int)≤(n:Int))=false:=by simp;omega
  have HCz:=Lib.hid hcz
  obtain ⟨z,hz⟩: ∃z:Int,(q0J ps:Int)=z:=⟨_,rfl⟩
  rw[hz] at HCz
  have z0:0≤z:=by omega
  have z1:z≤4096:=by omega
  have a0:(0:Int)≤(a:Int):=by omega
  have a1:(a:Int)≤4095:=by omega
  by_cases hno:a<12∨q0J ps<a+12
  · have HA:Hid (q5T C pos=([],4)):=Lib.hid (by
      rw[HRL.out]
      rcases hno with h|h
      · simp only[if_neg (show ¬12≤a by omega)]
      · by_cases h12:12≤a
        · simp only[if_pos h12,z6L (q0R n ps) a (by omega)]
        · simp only[if_neg h12])
    by_cases h12:a<12
    · have hd2:decide ((a:Int)<12)=true:=by simp;omega
      clear h1 h2 c3 hcz hfind hlen hps hno hz
      go_enter Tryz.func136,Tryz.ntmps136
      go_wp2_with fail
      refine HRd.out.mono ?_
      rintro e w1 ⟨rfl,hb⟩
      have HB:=Lib.hid hb
      have c3:=q0A hb HC3.out
      clear hb
      go_wp2_with fail
      go_ret2
      exact ReadR.no HK.out HB.out HA.out
    · have hd2:decide ((a:Int)<12)=false:=by simp;omega
      have hd3:decide (z-12<(a:Int))=true:=by simp;omega
      clear h1 h2 c3 hcz hfind hlen hps hno hz
      go_enter Tryz.func136,Tryz.ntmps136
      go_wp2_with fail
      refine HRd.out.mono ?_
      rintro e w1 ⟨rfl,hb⟩
      have HB:=Lib.hid hb
      have c3:=q0A hb HC3.out
      have cz:=q0A hb HCz.out
      clear hb
      go_wp2_with fail
      go_ret2
      exact ReadR.no HK.out HB.out HA.out
  have h12:12≤a:=by omega
  have hsz:a+12≤q0J ps:=by omega
  have hd2:decide ((a:Int)<12)=false:=by simp;omega
  have hd3:decide (z-12<(a:Int))=false:=by simp;omega
  obtain ⟨S,hS⟩: ∃S,q0R n ps=S:=⟨_,rfl⟩
  rw[hS] at hlen hfind
  obtain ⟨lg,hlg⟩: ∃lg,q3s S a=lg:=⟨_,rfl⟩
  have hlgX:q1C (((S.drop a).take 4).take 8)=lg:=by rw[List.take_of_length_le (by simp;omega),←hlg];rfl
  have hlg4:lg<4294967296:=by
    rw[←hlgX];have:=q1l (((S.drop a).take 4).take 8)
    have h4:(((S.drop a).take 4).take 8).length=4:=by simp;omega
    rw[h4] at this;exact this
  have hnm:=q2i (n:Int)
  have HCH:=Lib.hid (fun W=>q4A (n:Int) W)
  have HR1:=Lib.hid (fun (W:World) (k:Ext w W)=>q5N (h1.grow k) h2.pl hfind hnm (a:Int) 4 a0 (by decide) (by rw[hlen];omega) (by rw[hlen];omega))
  have HG:=Lib.hid (fun W=>q8u ((S.drop a).take 4) W (by simp;omega))
  rw[hlgX] at HG
  have e4:(4:Int).toNat=4:=rfl
  simp only[Int.toNat_natCast,e4] at HR1
  have HH:=Lib.hid h1;have HL:=Lib.hid h2
  have hSl:a+12≤S.length:=by omega
  have HZ:=Lib.hid hz;have HLen:=Lib.hid hlen
  have HC0:=Lib.hid h1.l.c0
  have HRow:Hid (∀(W:World) (F':Nat→Prop) (τ:DM),LgF w0 W g gl F' (.slice (some ⟨b,0,none⟩) C.length sk) τ s (q0M C) sure K→W.cell? ⟨gl,0,none⟩=some (.pointer (some ⟨g,0,none⟩))∧W.cell? ⟨gl,3,none⟩=some (.slice (some ⟨b,0,none⟩) C.length sk)∧W.cell? ⟨b,n,none⟩=some (.int .i64 z)):=Lib.hid fun W F' τ hW=>by
    obtain ⟨b2,k2,e1,e2,_⟩:=hW.cellAt hps
    cases e1
    rw[hz] at e2
    exact ⟨hW.l.c0,hW.l.c3,e2⟩
  by_cases hbig:2000<lg∨S.length<a+lg+12
  · have HA:Hid (q5T C pos=([],4)):=Lib.hid (by
      rw[HRL.out]
      have:q4u S a=none:=by
        unfold q4u isR;rw[hlg]
        rcases hbig with h|h
        · rw[decide_eq_false (p:=lg≤2000) (by omega)];simp
        · rw[decide_eq_false (p:=a+lg+12≤S.length) (by omega)];simp
      simp only[if_pos h12,hS,this])
    clear h1 h2 c3 hcz hfind hlen hps hno hz hlg hlgX hS hnm
    by_cases hb2:2000<lg
    · have hd4:decide ((2000:Int)<(lg:Int))=true:=by simp;omega
      clear hbig
      go_enter Tryz.func136,Tryz.ntmps136
      go_wp2_with fail
      refine HRd.out.mono ?_
      rintro e w1 ⟨rfl,hb⟩
      have HB:=Lib.hid hb
      have c3:=q0A hb HC3.out
      have cz:=q0A hb HCz.out
      clear hb
      go_wp2_with fail
      refine (HCH.out _).mono ?_
      rintro e wa ⟨rfl,hb⟩
      have HBa:=Lib.hid (HB.out.trans hb);clear hb c3 cz
      have c0:=q0A HBa.out HC0.out
      go_wp2_with fail
      refine (HR1.out _ HBa.out).mono ?_
      rintro e wb ⟨rfl,⟨F',σ',hb1,hb2⟩,hb3⟩
      have HB1:=Lib.hid hb1;have HB2:=Lib.hid hb2;have HB3:=Lib.hid ((HK.out.kExt HBa.out).trans hb3)
      clear hb1 hb2 hb3 c0
      go_wp2_with fail
      refine (HG.out _).mono ?_
      rintro e wc ⟨rfl,hb⟩
      have HBc:=Lib.hid hb
      obtain ⟨c0,c3,cz⟩:=HRow.out _ _ _ (HB1.out.grow hb)
      clear hb
      go_wp2_with fail
      go_ret2
      exact ⟨by rw[HA.out];rfl,⟨_,_,σ',HB1.out.grow HBc.out,⟨HB2.out,HL.out.ok,HL.out.oth⟩⟩,HB3.out.trans (HB1.out.kExt HBc.out)⟩
    · have hd4:decide ((2000:Int)<(lg:Int))=false:=by simp;omega
      have hd5:decide (z-12-(a:Int)<(lg:Int))=true:=by have:=HZ.out;have:=HLen.out;simp;omega
      clear hbig
      go_enter Tryz.func136,Tryz.ntmps136
      go_wp2_with fail
      refine HRd.out.mono ?_
      rintro e w1 ⟨rfl,hb⟩
      have HB:=Lib.hid hb
      have c3:=q0A hb HC3.out
      have cz:=q0A hb HCz.out
      clear hb
      go_wp2_with fail
      refine (HCH.out _).mono ?_
      rintro e wa ⟨rfl,hb⟩
      have HBa:=Lib.hid (HB.out.trans hb);clear hb c3 cz
      have c0:=q0A HBa.out HC0.out
      go_wp2_with fail
      refine (HR1.out _ HBa.out).mono ?_
      rintro e wb ⟨rfl,⟨F',σ',hb1,hb2⟩,hb3⟩
      have HB1:=Lib.hid hb1;have HB2:=Lib.hid hb2;have HB3:=Lib.hid ((HK.out.kExt HBa.out).trans hb3)
      clear hb1 hb2 hb3 c0
      go_wp2_with fail
      refine (HG.out _).mono ?_
      rintro e wc ⟨rfl,hb⟩
      have HBc:=Lib.hid hb
      obtain ⟨c0,c3,cz⟩:=HRow.out _ _ _ (HB1.out.grow hb)
      clear hb
      go_wp2_with fail
      go_ret2
      exact ⟨by rw[HA.out];rfl,⟨_,_,σ',HB1.out.grow HBc.out,⟨HB2.out,HL.out.ok,HL.out.oth⟩⟩,HB3.out.trans (HB1.out.kExt HBc.out)⟩
  have hd4:decide ((2000:Int)<(lg:Int))=false:=by simp;omega
  have hd5:decide (z-12-(a:Int)<(lg:Int))=false:=by simp;omega
  have hlg2:(lg:Int)≤2000:=by omega
  have e12:((lg:Int)+12).toNat=lg+12:=by omega
  have HR2:=Lib.hid (fun (W:World) (F':Nat→Prop) (τ:DM) (hW:LgF w0 W g gl F' (.slice (some ⟨b,0,none⟩) C.length sk) τ s (q0M C) sure K) (hp:Pl τ (c+(q2E E:Int)) s (q3C E C))=>q5N hW hp hfind hnm (a:Int) ((lg:Int)+12) a0 (by omega) (by rw[hlen];omega) (by rw[hlen];omega))
  simp only[Int.toNat_natCast,e12] at HR2
  obtain ⟨T,hT⟩: ∃T,(S.drop a).take (lg+12)=T:=⟨_,rfl⟩
  have hTl:T.length=lg+12:=by rw[←hT];simp;omega
  rw[hT] at HR2
  have HGr:=Lib.hid (fun W=>q8x T 0 W (by omega) (by omega))
  have hcut:q4u T 0=(q4u S a).map fun r=>(r.1,r.2-a):=by
    have:=z6z (s:=S) (a:=a) (by rw[hlg];omega)
    rw[hlg,hT] at this
    exact this
  rw[Int.natCast_zero] at HGr
  cases hg:q4u S a with
  | none=>
    have HA:Hid (q5T C pos=([],4)):=Lib.hid (by rw[HRL.out];simp only[if_pos h12,hS,hg])
    have hgv:z0g T 0= .tuple #[.string ⟨#[]⟩,.int .i64 0,.bool false]:=by unfold z0g;rw[hcut,hg];rfl
    rw[hgv] at HGr
    clear h1 h2 c3 hcz hfind hlen hps hno hz hlg hlgX hS hnm hbig hT hcut hg hgv
    go_enter Tryz.func136,Tryz.ntmps136
    go_wp2_with fail
    refine HRd.out.mono ?_
    rintro e w1 ⟨rfl,hb⟩
    have HB:=Lib.hid hb
    have c3:=q0A hb HC3.out
    have cz:=q0A hb HCz.out
    clear hb
    go_wp2_with fail
    refine (HCH.out _).mono ?_
    rintro e wa ⟨rfl,hb⟩
    have HBa:=Lib.hid (HB.out.trans hb);clear hb c3 cz
    have c0:=q0A HBa.out HC0.out
    go_wp2_with fail
    refine (HR1.out _ HBa.out).mono ?_
    rintro e wb ⟨rfl,⟨F',σ',hb1,hb2⟩,hb3⟩
    have HB1:=Lib.hid hb1;have HB2:=Lib.hid hb2;have HB3:=Lib.hid ((HK.out.kExt HBa.out).trans hb3)
    clear hb1 hb2 hb3 c0
    go_wp2_with fail
    refine (HG.out _).mono ?_
    rintro e wc ⟨rfl,hb⟩
    have HBc:=Lib.hid hb
    obtain ⟨c0,c3,cz⟩:=HRow.out _ _ _ (HB1.out.grow hb)
    clear hb
    go_wp2_with fail
    refine (HR2.out _ _ _ (HB1.out.grow HBc.out) HB2.out).mono ?_
    rintro e wd ⟨rfl,⟨F2,σ2,hb1,hb2⟩,hb3⟩
    have HD1:=Lib.hid hb1;have HD2:=Lib.hid hb2;have HD3:=Lib.hid ((HB3.out.trans (HB1.out.kExt HBc.out)).trans hb3)
    clear hb1 hb2 hb3 c0 c3 cz
    go_wp2_with fail
    refine (HGr.out _).mono ?_
    rintro e we ⟨rfl,hb⟩
    have HE:=Lib.hid hb;clear hb
    go_wp2_with fail
    go_ret2
    exact ⟨by rw[HA.out];rfl,⟨_,_,σ2,HD1.out.grow HE.out,⟨HD2.out,HL.out.ok,HL.out.oth⟩⟩,HD3.out.trans (HD1.out.kExt HE.out)⟩
  | some r=>
    obtain ⟨q,e⟩:=r
    have HA:Hid (q5T C pos=(q,0)):=Lib.hid (by rw[HRL.out];simp only[if_pos h12,hS,hg])
    have hgv:z0g T 0= .tuple #[.string ⟨q.toArray⟩,.int .i64 ((e-a:Nat):Int),.bool true]:=by unfold z0g;rw[hcut,hg];rfl
    rw[hgv] at HGr
    generalize ((e-a:Nat):Int)=ea at*
    clear h1 h2 c3 hcz hfind hlen hps hno hz hlg hlgX hS hnm hbig hT hcut hg hgv
    go_enter Tryz.func136,Tryz.ntmps136
    go_wp2_with fail
    refine HRd.out.mono ?_
    rintro e w1 ⟨rfl,hb⟩
    have HB:=Lib.hid hb
    have c3:=q0A hb HC3.out
    have cz:=q0A hb HCz.out
    clear hb
    go_wp2_with fail
    refine (HCH.out _).mono ?_
    rintro e wa ⟨rfl,hb⟩
    have HBa:=Lib.hid (HB.out.trans hb);clear hb c3 cz
    have c0:=q0A HBa.out HC0.out
    go_wp2_with fail
    refine (HR1.out _ HBa.out).mono ?_
    rintro e wb ⟨rfl,⟨F',σ',hb1,hb2⟩,hb3⟩
    have HB1:=Lib.hid hb1;have HB2:=Lib.hid hb2;have HB3:=Lib.hid ((HK.out.kExt HBa.out).trans hb3)
    clear hb1 hb2 hb3 c0
    go_wp2_with fail
    refine (HG.out _).mono ?_
    rintro e wc ⟨rfl,hb⟩
    have HBc:=Lib.hid hb
    obtain ⟨c0,c3,cz⟩:=HRow.out _ _ _ (HB1.out.grow hb)
    clear hb
    go_wp2_with fail
    refine (HR2.out _ _ _ (HB1.out.grow HBc.out) HB2.out).mono ?_
    rintro e wd ⟨rfl,⟨F2,σ2,hb1,hb2⟩,hb3⟩
    have HD1:=Lib.hid hb1;have HD2:=Lib.hid hb2;have HD3:=Lib.hid ((HB3.out.trans (HB1.out.kExt HBc.out)).trans hb3)
    clear hb1 hb2 hb3 c0 c3 cz
    go_wp2_with fail
    refine (HGr.out _).mono ?_
    rintro e we ⟨rfl,hb⟩
    have HE:=Lib.hid hb;clear hb
    go_wp2_with fail
    go_ret2
    exact ⟨by rw[HA.out];rfl,⟨_,_,σ2,HD1.out.grow HE.out,⟨HD2.out,HL.out.ok,HL.out.oth⟩⟩,HD3.out.trans (HD1.out.kExt HE.out)⟩
end
end Go.Proofs.YtjjfiejoeelndaaGreatDoor
namespace Go.Proofs.YtjjfiejoeelndaaGreatDoor
open Go.RowKit
theorem q5h : ∀(ps:List (List UInt8)) (a:Nat) (p:List UInt8),q2T a (ps++[p])=q2T a ps++[(a+(ps.map fun p=>p.length+12).sum,p)]
  |[],a,p=>by simp[q2T]
  | q::t,a,p=>by
    rw[List.cons_append,q2T,q5h t,q2T,List.cons_append,List.map_cons,List.sum_cons]
    congr 4;omega
theorem q4U (D:Cks) (ps:List (List UInt8)):q0v 0 (D++[ps])=q0v 0 D++q2T (4096*D.length+12) ps:=by
  rw[z0H,Nat.zero_add];simp[q0v]
theorem z1n {fr x:Int} {C C':Cks} {p:List UInt8} (hs: ∀ps∈C,q0J ps≤4096) (hp:p.length≤2000) (h:q0w fr C p=(x,0,C')):
    ∃pos:Nat,x=(pos:Int)∧q0v 0 C'=q0v 0 C++[(pos,p)]∧q4k C'=(pos:Int)+(p.length:Int)+12∧q4k C≤(pos:Int)∧q0j C'≤q0j C+(p.length+24)∧C'.length≤C.length+1∧pos≤4096*C.length+12:=by
  by_cases hf:q3q C p=true
  · by_cases hC:C=[]
    · subst hC;cases hf
    · obtain ⟨D,ps,rfl⟩:=q8m hC
      by_cases hr:fr-((p.length:Int)+12)<6000
      · rw[q5F hp hf hr] at h;cases h
      · rw [q6l hp hf (by omega)] at h
        cases h
        refine ⟨4096*D.length+q0J ps,by omega,?_,?_,?_,?_,by simp,by have:=hs ps (by simp);rw[List.length_append];simp only[List.length_cons,List.length_nil];omega⟩
        · rw[q4U,q4U,q5h,List.append_assoc]
          congr 4
          unfold q0J;omega
        · rw[q2S,q2H];omega
        · rw[q2S];omega
        · have h1:q0j (D++[ps++[p]])=q0j D+q0J (ps++[p]):=by simp[q0j,List.sum_append]
          have h2:q0j (D++[ps])=q0j D+q0J ps:=by simp[q0j,List.sum_append]
          rw[h1,h2,q2H];omega
  · have hf':q3q C p=false:=by simpa using hf
    by_cases hr:200≤C.length∨fr-((p.length:Int)+24)<6000
    · rw[q5A hp hf' hr] at h;cases h
    · rw [q6v hp hf' hr] at h
      cases h
      refine ⟨4096*C.length+12,by omega,?_,?_,?_,?_,by simp,Nat.le_refl _⟩
      · rw[q4U];rfl
      · rw[q2S,q4G];omega
      · by_cases hC:C=[]
        · subst hC;show (0:Int)≤_;omega
        · obtain ⟨D,ps,rfl⟩:=q8m hC
          have:=hs ps (by simp)
          rw[q2S,List.length_append]
          simp only[List.length_cons,List.length_nil]
          omega
      · have h1:q0j (C++[[p]])=q0j C+q0J [p]:=by simp[q0j,List.sum_append]
        rw[h1,q4G];omega
def z7F (x y:Nat×List UInt8):Prop:=x.1+x.2.length+12≤y.1
theorem z2o : ∀(ps:List (List UInt8)) (a:Nat),(q2T a ps).Pairwise z7F
  |[],_=>List.Pairwise.nil
  |p::t,a=>List.pairwise_cons.2 ⟨fun r hr=>(q6U t _ r hr).1,z2o t _⟩
theorem q6X : ∀(C:Cks) (b:Nat),(∀ps∈C,q0J ps≤4096)→(q0v b C).Pairwise z7F
  |[],_,_=>List.Pairwise.nil
  | ps::t,b,hs=>by
    rw[q0v,List.pairwise_append]
    refine ⟨z2o ps _,q6X t _ fun q hq=>hs q (List.mem_cons_of_mem _ hq),fun x hx y hy=>?_⟩
    have h1:=q6U ps _ x hx
    have h2:=q5O t _ (fun q hq=>hs q (List.mem_cons_of_mem _ hq)) y hy
    have h3:=hs ps (List.mem_cons_self)
    unfold q0J at h3
    unfold z7F
    omega
def z7j (A:List (Nat×List UInt8)):Nat:=match A.getLast? with|none=>0|some r=>r.1+r.2.length+12
theorem q8J (A:List (Nat×List UInt8)) (r:Nat×List UInt8):z7j (A++[r])=r.1+r.2.length+12:=by unfold z7j;simp
theorem z7r {A:List (Nat×List UInt8)} (h:A.Pairwise z7F): ∀r∈A,r.1<z7j A:=fun r hr=>by
  rcases List.eq_nil_or_concat A with rfl|⟨D,q,rfl⟩
  · cases hr
  · rw [List.concat_eq_append] at*
    rw[q8J]
    rcases List.mem_append.1 hr with h1|h1
    · have:=(List.pairwise_append.1 h).2.2 r h1 q (by simp)
      unfold z7F at this;omega
    · obtain rfl:=List.mem_singleton.1 h1;omega
theorem z3S {C:Cks} (h:okC C):(z7j (q0v 0 C):Int)=q4k C:=by
  rcases List.eq_nil_or_concat C with rfl|⟨D,ps,rfl⟩
  · rfl
  · rw [List.concat_eq_append] at*
    have hne:=h.full ps (by simp)
    rcases List.eq_nil_or_concat ps with rfl|⟨qs,p,rfl⟩
    · exact absurd rfl hne
    · rw[List.concat_eq_append] at*
      rw[q4U,q5h,←List.append_assoc,q8J,q2S,q2H]
      unfold q0J
      show ((4096*D.length+12+(qs.map fun p=>p.length+12).sum+p.length+12:Nat):Int)=_
      omega
theorem q9V : ∀(ps:List (List UInt8)) (a:Nat) (r:Nat×List UInt8),r∈q2T a ps→ ∃k,ps[k]? =some r.2∧r.1=a+((ps.take k).map fun p=>p.length+12).sum
  |[],_,r,h=>by cases h
  | p ::t,a,r,h=>by
    rw[q2T] at h
    rcases List.mem_cons.1 h with rfl|h
    · exact ⟨0,rfl,by simp⟩
    · obtain ⟨k,h1,h2⟩:=q9V t _ r h
      exact ⟨k+1,by rw[List.getElem?_cons_succ];exact h1,by rw[h2,List.take_succ_cons,List.map_cons,List.sum_cons];omega⟩
theorem z0X : ∀(C:Cks) (b:Nat) (r:Nat×List UInt8),r∈q0v b C→ ∃(n:Nat) (ps:List (List UInt8)) (k:Nat),C[n]? =some ps∧ps[k]? =some r.2∧r.1=b+4096*n+q0J (ps.take k)
  |[],_,r,h=>by cases h
  | ps ::t,b,r,h=>by
    rw[q0v] at h
    rcases List.mem_append.1 h with h|h
    · obtain ⟨k,h1,h2⟩:=q9V ps _ r h
      exact ⟨0,ps,k,rfl,h1,by rw[h2];unfold q0J;omega⟩
    · obtain ⟨n,qs,k,h1,h2,h3⟩:=z0X t _ r h
      exact ⟨n+1,qs,k,by rw[List.getElem?_cons_succ];exact h1,h2,by rw[h3];omega⟩
theorem z5r {C:Cks} (h:okC C) {r:Nat×List UInt8} (hr:r∈q0v 0 C):q5T C (r.1:Int)=(r.2,0):=by
  obtain ⟨n,ps,k,h1,h2,h3⟩:=z0X C 0 r hr
  have hps:=List.mem_of_getElem? h1
  have hp:=h.pay ps hps r.2 (List.mem_of_getElem? h2)
  have hk:k<ps.length:=(List.getElem?_eq_some_iff.1 h2).1
  have hsz:=h.size ps hps
  have h4:q0J (ps.take (k+1))≤q0J ps:=by
    unfold q0J
    conv=>rhs;rw[←List.take_append_drop (k+1) ps,List.map_append,List.sum_append]
    omega
  have h5:ps.take (k+1)=ps.take k++[r.2]:=by
    obtain ⟨_,he⟩:=List.getElem?_eq_some_iff.1 h2
    rw[List.take_succ_eq_append_getElem hk,he]
  rw[h5,q2H] at h4
  rw[z1u (n:=n) (a:=q0J (ps.take k)) (by omega) (by omega),h1]
  show (match (if 12≤q0J (ps.take k) then q4u (q0R n ps) (q0J (ps.take k)) else none) with|none=>([],4)|some (p,_)=>(p,0))=(r.2,(0:Int))
  rw[if_pos (by unfold q0J;omega),z8B n ps k r.2 h2 hp]
theorem z7Y {C:Cks} (h:okC C) {r:Nat×List UInt8} (hr:r∈q0v 0 C):r.1≤819200:=by
  have:=q5O C 0 h.size r hr
  have:=h.few
  omega
end Go.Proofs.YtjjfiejoeelndaaGreatDoor
