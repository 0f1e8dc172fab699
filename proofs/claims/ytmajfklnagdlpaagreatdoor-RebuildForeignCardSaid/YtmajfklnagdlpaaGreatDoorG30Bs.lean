/- Walks: a table's files are laid, and taken away; a file's bytes. Walks: a table is written to a disk; its files are taken away. Walks: a table's files are taken away. How a table that is open lies in memory; walks: a table is opened. Walks: an entry of a table is read. Walks: where the first entry stands that is not ahead of one. Walks: what a table tells of itself. Walks: the entries of a hash between two versions. Walks: the last entry of a hash up to a version; all entries. Walks: all entries of a table. Plain laws: what a table tells of a disk that has its file. Plain laws: a table is laid on a disk that is well, and opened. -/
import Derived.Test.YtmajfklnagdlpaaGreatDoorG23Bs
import Derived.Test.YtmajfklnagdlpaaGreatDoorG24Bs
import Derived.Test.YtmajfklnagdlpaaGreatDoorG28Bs
import Derived.Test.YtmajfklnagdlpaaGreatDoorG29Bs
import Derived.Test.YtmajfklnagdlpaaGreatDoorG19Bs
import Derived.Test.YtmajfklnagdlpaaGreatDoorG16Bs
import Derived.Test.YtmajfklnagdlpaaGreatDoorG4Bs
import Derived.Test.YtmajfklnagdlpaaGreatDoorG15Bs
import Derived.Test.YtmajfklnagdlpaaGreatDoorG9Bs
set_option linter.unusedVariables false
set_option linter.unusedSimpArgs false
namespace Go.Proofs.YtmajfklnagdlpaaGreatDoor
open Go.RowKit
set_option maxRecDepth 100000
set_option linter.unusedVariables false
set_option maxHeartbeats 6400000
def q2j (σ:DM) (nm s:List UInt8):Int×DM:=
  if (q0f σ nm).1≠0 then q0f σ nm
  else if (q0r (q0f σ nm).2 nm s).1≠0 then q0r (q0f σ nm).2 nm s
  else q3W (q0r (q0f σ nm).2 nm s).2 nm
def q0Y (σ:DM) (n:Int) (L:List En) (f:List UInt8):Int×DM:=
  if ¬(0≤n∧n≤999999)∨q1r L=false then (2,σ)
  else if σ.down then (61,σ)
  else if q3M σ-((q2r L).length:Int)-(f.length:Int)<6000 then (60,σ)
  else if (q2j σ (q0B 98 n) f).1≠0 then q2j σ (q0B 98 n) f
  else q2j (q2j σ (q0B 98 n) f).2 (q0B 116 n) (q2r L)
def q6y (c:Int):Prop:=c=0∨c=4∨c=2
instance (c :Int):Decidable (q6y c):=by unfold q6y;infer_instance
def q2h (σ:DM) (n:Int):Int×DM:=
  if q6y (q0O σ (q0B 116 n)).1 then
    if q6y (q0O (q0O σ (q0B 116 n)).2 (q0B 98 n)).1 then (0,(q0O (q0O σ (q0B 116 n)).2 (q0B 98 n)).2) else q0O (q0O σ (q0B 116 n)).2 (q0B 98 n)
  else q0O σ (q0B 116 n)
def q0a (σ:DM) (nm:List UInt8):List UInt8×Int×DM:=if (q1B σ nm).2≠0 then ([],(q1B σ nm).2,σ) else q3e σ nm 0 (q1B σ nm).1
def q3C (c:Int):Int:=if c=1∨c=61 then c else 90
theorem z1O {L:List FM} {f:FM} (h:f∈L):f.da.length≤q0L L:=by
  induction L with
  |nil=>cases h
  | cons a r ih=>
    unfold q0L q4I at*
    rw[List.map_cons,List.sum_cons]
    rcases List.mem_cons.1 h with rfl|h
    · omega
    · have:=ih h;omega
theorem z0u {σ:DM} (h:okD σ) (nm:List UInt8):0≤(q1B σ nm).1∧(q1B σ nm).1≤1048576:=by
  have h1:=h.used;have h2:=h.cap1
  unfold q1B
  split
  · exact ⟨Int.le_refl _,by show (0:Int)≤_;decide⟩
  · split
    · exact ⟨Int.le_refl _,by show (0:Int)≤_;decide⟩
    · rename_i f hf
      have:=z1O (q0H hf).1
      simp only;omega
section
variable {w :World} {g:Nat} {F:Nat→Prop} {σ:DM}
theorem z7l (h:Dk w g F σ):Calls Tryz.prog 192 #[.pointer (some ⟨g,0,none⟩)] w fun e w'=>e= .returned (.int .i64 (upM σ))∧w=w':=by
  have HS:=Lib.hid (q4b h [] (by decide))
  have hc: ∃z c,q1B σ []=(z,c)∧((c=61∧upM σ=61)∨(c=4∧upM σ=0)∨(c=0∧upM σ=0)):=by
    unfold q1B upM
    split
    · exact ⟨_,_,rfl,.inl ⟨rfl,rfl⟩⟩
    · split
      · exact ⟨_,_,rfl,.inr (.inl ⟨rfl,rfl⟩)⟩
      · exact ⟨_,_,rfl,.inr (.inr ⟨rfl,rfl⟩)⟩
  obtain ⟨z,c,hz,hc⟩:=hc
  rw[hz] at HS
  clear h hz
  rcases hc with ⟨rfl,ho⟩|⟨rfl,ho⟩|⟨rfl,ho⟩<;>rw[ho]<;>clear ho
  all_goals
    go_enter Tryz.func192,Tryz.ntmps192
    go_wp2_with fail
    refine HS.out.mono ?_
    rintro e w' ⟨rfl,rfl⟩
    go_wp2_with fail
    go_ret
    exact ⟨rfl,rfl⟩
theorem z9Q (h:Dk w g F σ) (nm s:List UInt8) (hl:nm.length≤9223372036854775807) (hs:s.length≤9223372036854775807):
    Calls Tryz.prog 194 #[.pointer (some ⟨g,0,none⟩),.string ⟨nm.toArray⟩,.string ⟨s.toArray⟩] w fun e w'=>e= .returned (.int .i64 (q2j σ nm s).1)∧DkS w g F (q2j σ nm s).2 w':=by
  have HC:=Lib.hid (q8c h nm hl)
  have HA:=Lib.hid (fun w' (hd:DkS w g F (q0f σ nm).2 w')=>q5y hd.dk nm s hl hs)
  have HSy:=Lib.hid (fun w1 w2 (hd:DkS w1 g (Gr F w w1) (q0r (q0f σ nm).2 nm s).2 w2)=>z1c hd.dk nm hl)
  have HM:Hid (q2j σ nm s=if (q0f σ nm).1≠0 then q0f σ nm else if (q0r (q0f σ nm).2 nm s).1≠0 then q0r (q0f σ nm).2 nm s else q3W (q0r (q0f σ nm).2 nm s).2 nm):=Lib.hid rfl
  clear h
  obtain ⟨r1,h1⟩: ∃r,q0f σ nm=r:=⟨_,rfl⟩
  rw[h1] at HC HA HSy HM
  obtain ⟨r2,h2⟩: ∃r,q0r r1.2 nm s=r:=⟨_,rfl⟩
  rw[h2] at HA HSy HM
  obtain ⟨r3,h3⟩: ∃r,q3W r2.2 nm=r:=⟨_,rfl⟩
  rw[h3] at HSy HM
  obtain ⟨c1,σ1⟩:=r1;obtain ⟨c2,σ2⟩:=r2;obtain ⟨c3,σ3⟩:=r3
  clear h1 h2 h3
  by_cases e1:c1=0
  · subst e1
    by_cases e2:c2=0
    · subst e2
      have HE:Hid (q2j σ nm s=(c3,σ3)):=Lib.hid (by rw[HM.out,if_neg (fun h=>h rfl),if_neg (fun h=>h rfl)])
      rw[HE.out]
      clear HM
      go_enter Tryz.func194,Tryz.ntmps194
      go_wp2_with fail
      refine HC.out.mono ?_
      rintro e w1 ⟨rfl,hd1⟩
      have HD1:=Lib.hid hd1;clear hd1
      go_wp2_with fail
      refine (HA.out _ HD1.out).mono ?_
      rintro e w2 ⟨rfl,hd2⟩
      have HD2:=Lib.hid hd2;clear hd2
      go_wp2_with fail
      refine (HSy.out _ _ HD2.out).mono ?_
      rintro e w3 ⟨rfl,hd3⟩
      have HD3:=Lib.hid hd3;clear hd3
      go_wp2_with fail
      go_ret
      exact ⟨rfl,HD1.out.trans (HD2.out.trans HD3.out)⟩
    · have HE:Hid (q2j σ nm s=(c2,σ2)):=Lib.hid (by rw[HM.out,if_neg (fun h=>h rfl),if_pos e2])
      rw[HE.out]
      have hb:(c2 !=0)=true:=by simpa using e2
      clear HM e2
      go_enter Tryz.func194,Tryz.ntmps194
      go_wp2_with fail
      refine HC.out.mono ?_
      rintro e w1 ⟨rfl,hd1⟩
      have HD1:=Lib.hid hd1;clear hd1
      go_wp2_with fail
      refine (HA.out _ HD1.out).mono ?_
      rintro e w2 ⟨rfl,hd2⟩
      have HD2:=Lib.hid hd2;clear hd2
      go_wp2_with fail
      go_ret
      exact ⟨rfl,HD1.out.trans HD2.out⟩
  · have HE:Hid (q2j σ nm s=(c1,σ1)):=Lib.hid (by rw[HM.out,if_pos e1])
    rw[HE.out]
    have hb:(c1 !=0)=true:=by simpa using e1
    clear HM e1
    go_enter Tryz.func194,Tryz.ntmps194
    go_wp2_with fail
    refine HC.out.mono ?_
    rintro e w1 ⟨rfl,hd1⟩
    have HD1:=Lib.hid hd1;clear hd1
    go_wp2_with fail
    go_ret
    exact ⟨rfl,HD1.out⟩
theorem z2A (h:Dk w g F σ) (nm:List UInt8) (hl:nm.length≤9223372036854775807):
    Calls Tryz.prog 143 #[.pointer (some ⟨g,0,none⟩),.string ⟨nm.toArray⟩] w fun e w'=>e= .returned (.tuple #[.string ⟨(q0a σ nm).1.toArray⟩,.int .i64 (q0a σ nm).2.1])∧DkS w g F (q0a σ nm).2.2 w':=by
  have HS:=Lib.hid (q4b h nm hl)
  have hb: -9223372036854775808≤(q1B σ nm).1∧(q1B σ nm).1≤9223372036854775807:=by have:=z0u h.1 nm;omega
  have HR:=Lib.hid (z4S h nm 0 (q1B σ nm).1 hl (by decide) (by decide) hb.1 hb.2)
  have HM:Hid (q0a σ nm=if (q1B σ nm).2≠0 then ([],(q1B σ nm).2,σ) else q3e σ nm 0 (q1B σ nm).1):=Lib.hid rfl
  have HD0:=Lib.hid (DkS.refl h)
  clear h hb
  obtain ⟨r1,h1⟩: ∃r,q1B σ nm=r:=⟨_,rfl⟩
  rw[h1] at HS HR HM
  obtain ⟨z,c⟩:=r1
  obtain ⟨r2,h2⟩: ∃r,q3e σ nm 0 z=r:=⟨_,rfl⟩
  simp only at HR HM
  rw[h2] at HR HM
  obtain ⟨t,c2,σ2⟩:=r2
  clear h1 h2
  by_cases e1:c=0
  · subst e1
    have HE:Hid (q0a σ nm=(t,c2,σ2)):=Lib.hid (by rw[HM.out,if_neg (fun h=>h rfl)])
    rw[HE.out]
    clear HM
    go_enter Tryz.func143,Tryz.ntmps143
    go_wp2_with fail
    refine HS.out.mono ?_
    rintro e w' ⟨rfl,rfl⟩
    go_wp2_with fail
    refine HR.out.mono ?_
    rintro e w1 ⟨rfl,hd1⟩
    have HD1:=Lib.hid hd1;clear hd1
    go_wp2_with fail
    go_ret2
    exact ⟨rfl,HD1.out⟩
  · have HE:Hid (q0a σ nm=([],c,σ)):=Lib.hid (by rw[HM.out,if_pos e1])
    rw[HE.out]
    have hb:(c !=0)=true:=by simpa using e1
    clear HM e1
    go_enter Tryz.func143,Tryz.ntmps143
    go_wp2_with fail
    refine HS.out.mono ?_
    rintro e w' ⟨rfl,rfl⟩
    go_wp2_with fail
    go_ret2
    exact ⟨rfl,HD0.out⟩
theorem z6L (c:Int) (w:World):Calls Tryz.prog 145 #[.int .i64 c] w fun e w'=>e= .returned (.int .i64 (q3C c))∧w=w':=by
  by_cases h1:c=1
  · subst h1
    go_enter Tryz.func145,Tryz.ntmps145
    go_wp2_with fail
    go_ret
    exact ⟨rfl,rfl⟩
  · by_cases h2:c=61
    · subst h2
      go_enter Tryz.func145,Tryz.ntmps145
      go_wp2_with fail
      go_ret
      exact ⟨rfl,rfl⟩
    · have HE:Hid (q3C c=90):=Lib.hid (by unfold q3C;rw[if_neg (by omega)])
      have b1:(c==1)=false:=by simpa using h1
      have b2:(c==61)=false:=by simpa using h2
      rw[HE.out]
      clear h1 h2
      go_enter Tryz.func145,Tryz.ntmps145
      go_wp2_with fail
      go_ret
      exact ⟨rfl,rfl⟩
end
end Go.Proofs.YtmajfklnagdlpaaGreatDoor
namespace Go.Proofs.YtmajfklnagdlpaaGreatDoor
open Go.RowKit
set_option maxRecDepth 100000
set_option linter.unusedVariables false
set_option maxHeartbeats 6400000
section
variable {w :World} {g:Nat} {F:Nat→Prop} {σ:DM}
def z1u (w:World) (g:Nat) (F:Nat→Prop) (σ:DM) (n:Int) (L:List En) (e:Ending) (w':World):Prop:=
  ∃f:List UInt8,128≤f.length∧f.length≤64*(L.length/20+2)∧e= .returned (.int .i64 (q0Y σ n L f).1)∧DkS w g F (q0Y σ n L f).2 w'
theorem DkS.from {w wa w':World} {g:Nat} {F:Nat→Prop} {σ τ:DM} (h:Dk w g F σ) (hx:Ext w wa) (k:DkS wa g F τ w'):DkS w g F τ w':=
  ((DkS.refl h).ext hx).trans ⟨k.dk.mono (fun i hi=>hi.elim (fun h=> .inl (.inl h)) .inr) (fun i hi=>by
    have hlt: ∀i,Gr F wa w' i→i<w'.heap.size:=by obtain ⟨_,_,_,_,_,_,h⟩:=k.dk;exact h
    rcases hi with (h1|h1)|h1
    · exact hlt i (.inl h1)
    · have:=k.off.size;omega
    · exact h1.2),k.off.mono fun i _ h=> .inl h⟩
theorem q8z (c:UInt8) (n:Int):(q0B c n==[])=!decide (0≤n∧n≤999999):=by
  by_cases h:0≤n∧n≤999999
  · rw[q0P h,decide_eq_true h];rfl
  · rw[q4w h,decide_eq_false h];rfl
theorem q3E (c:UInt8) (n:Int):(q0B c n).length≤9223372036854775807:=by
  by_cases h:0≤n∧n≤999999
  · rw[q0P h,List.length_cons,q0X];decide
  · rw[q4w h];decide
theorem z5O (h:Dk w g F σ) {ao:Option Addr} {k cap:Nat} {L:List En} (n:Int) (rate:Nat) (hx:Ens w ao k cap L) (hk:k≤1000) (hok: ∀e∈L,q4p e=true):
    Calls Tryz.prog 138 #[.pointer (some ⟨g,0,none⟩),.int .i64 n,.slice ao k cap,.float .f64 rate] w (z1u w g F σ n L):=by
  have HT:=Lib.hid (fun W=>z0V n W)
  have HB:=Lib.hid (fun W=>z0K n W)
  have HP:=Lib.hid (fun W (k:Ext w W)=>z9P W (hx.ext k) hk hok)
  have HD:=Lib.hid h
  have HO:=Lib.hid (fun W (k:Ext w W)=>z7l (h.ext k))
  have HF:=Lib.hid (fun W (k:Ext w W)=>z6I rate W (hx.ext k) hk)
  have HFr:=Lib.hid (fun W (k:Ext w W)=>z4V (h.ext k))
  have HLen:=Lib.hid hx.len
  have hfr0:0≤q3M σ∧q3M σ≤1048576:=by have h1:=h.1.used;have h2:=h.1.cap1;unfold q3M;omega
  have hn1:=q8z 116 n
  have hn2:=q8z 98 n
  have hl1:=q3E 116 n
  have hl2:=q3E 98 n
  have htl:=q3Y L
  have hfr1:=hx.len
  have hpl:=hl1;have hpl2:=hl2
  by_cases hbad:¬(0≤n∧n≤999999)∨q1r L=false
  · have HE:Hid (∀f,q0Y σ n L f=(2,σ)):=Lib.hid fun f=>by unfold q0Y;rw[if_pos hbad]
    have HW:Hid (∀W,DkS w g F σ W→z1u w g F σ n L (.returned (.int .i64 2)) W):=Lib.hid fun W hd=>⟨List.replicate 128 0,by simp,by rw[List.length_replicate];omega,by rw[HE.out],by rw[HE.out];exact hd⟩
    unfold z0Y at HP
    by_cases hn:0≤n∧n≤999999
    · have hs:q1r L=false:=by rcases hbad with h|h;exact absurd hn h;exact h
      rw[decide_eq_true hn] at hn1 hn2
      rw[hs] at HP
      clear hs hn
      generalize q0B 116 n=TN at*
      generalize q0B 98 n=BN at*
      clear hbad h hx hfr0 hfr1 hpl hpl2
      go_enter Tryz.func138,Tryz.ntmps138
      go_wp2_with fail
      refine (HT.out _).mono ?_
      rintro e w1 ⟨rfl,hb⟩
      have HX1:=Lib.hid hb;clear hb
      go_wp2_with fail
      refine (HB.out _).mono ?_
      rintro e w2 ⟨rfl,hb⟩
      have HX2:=Lib.hid (HX1.out.trans hb);clear hb
      go_wp2_with fail
      refine (HP.out _ HX2.out).mono ?_
      rintro e w3 ⟨rfl,hb⟩
      have HX3:=Lib.hid (HX2.out.trans hb);clear hb
      go_wp2_with fail
      go_ret
      exact HW.out _ ((DkS.refl HD.out).ext HX3.out)
    · rw [decide_eq_false hn] at hn1 hn2
      cases hs:q1r L
      all_goals
        rw[hs] at HP
        clear hn hs
        generalize q0B 116 n=TN at*
        generalize q0B 98 n=BN at*
        clear hbad h hx hfr0 hfr1 hpl hpl2
        go_enter Tryz.func138,Tryz.ntmps138
        go_wp2_with fail
        refine (HT.out _).mono ?_
        rintro e w1 ⟨rfl,hb⟩
        have HX1:=Lib.hid hb;clear hb
        go_wp2_with fail
        refine (HB.out _).mono ?_
        rintro e w2 ⟨rfl,hb⟩
        have HX2:=Lib.hid (HX1.out.trans hb);clear hb
        go_wp2_with fail
        refine (HP.out _ HX2.out).mono ?_
        rintro e w3 ⟨rfl,hb⟩
        have HX3:=Lib.hid (HX2.out.trans hb);clear hb
        go_wp2_with fail
        go_ret
        exact HW.out _ ((DkS.refl HD.out).ext HX3.out)
  · have hn:0≤n∧n≤999999:=by by_cases h:0≤n∧n≤999999;exact h;exact absurd (.inl h) hbad
    have hs:q1r L=true:=by cases h:q1r L;exact absurd (.inr h) hbad;rfl
    rw[decide_eq_true hn] at hn1 hn2
    unfold z0Y at HP
    rw[hs] at HP
    cases hdn:σ.down with
    | true=>
      have hup:upM σ=61:=by unfold upM;rw[if_pos hdn]
      have HE:Hid (∀f,q0Y σ n L f=(61,σ)):=Lib.hid fun f=>by unfold q0Y;rw[if_neg hbad,if_pos hdn]
      have HW:Hid (∀W,DkS w g F σ W→z1u w g F σ n L (.returned (.int .i64 61)) W):=Lib.hid fun W hd=>⟨List.replicate 128 0,by simp,by rw[List.length_replicate];omega,by rw[HE.out],by rw[HE.out];exact hd⟩
      rw[hup] at HO
      generalize q0B 116 n=TN at*
      generalize q0B 98 n=BN at*
      generalize q2r L=TB at*
      clear hbad h hx hfr0 hfr1 hpl hpl2 hn hs hdn hup
      go_enter Tryz.func138,Tryz.ntmps138
      go_wp2_with fail
      refine (HT.out _).mono ?_
      rintro e w1 ⟨rfl,hb⟩
      have HX1:=Lib.hid hb;clear hb
      go_wp2_with fail
      refine (HB.out _).mono ?_
      rintro e w2 ⟨rfl,hb⟩
      have HX2:=Lib.hid (HX1.out.trans hb);clear hb
      go_wp2_with fail
      refine (HP.out _ HX2.out).mono ?_
      rintro e w3 ⟨rfl,hb⟩
      have HX3:=Lib.hid (HX2.out.trans hb);clear hb
      go_wp2_with fail
      refine (HO.out _ HX3.out).mono ?_
      rintro e w4 ⟨rfl,rfl⟩
      go_wp2_with fail
      refine (HO.out _ HX3.out).mono ?_
      rintro e w4 ⟨rfl,rfl⟩
      go_wp2_with fail
      go_ret
      exact HW.out _ ((DkS.refl HD.out).ext HX3.out)
    | false=>
      have hup:upM σ=0:=by unfold upM;rw[if_neg (by rw[hdn];decide)]
      have HE:Hid (∀f,q0Y σ n L f=if q3M σ-((q2r L).length:Int)-(f.length:Int)<6000 then (60,σ) else if (q2j σ (q0B 98 n) f).1≠0 then q2j σ (q0B 98 n) f else q2j (q2j σ (q0B 98 n) f).2 (q0B 116 n) (q2r L)):=Lib.hid fun f=>by unfold q0Y;rw[if_neg hbad,if_neg (by rw[hdn];decide)]
      rw[hup] at HO
      have HW:Hid (∀f,128≤f.length→f.length≤64*(k/20+2)→ ∀c σ',q0Y σ n L f=(c,σ')→ ∀W,DkS w g F σ' W→z1u w g F σ n L (.returned (.int .i64 c)) W):=Lib.hid fun f h1 h2 c σ' h3 W hd=>⟨f,h1,by rw[hfr1];exact h2,by rw[h3],by rw[h3];exact hd⟩
      generalize q0B 116 n=TN at*
      generalize q0B 98 n=BN at*
      generalize q2r L=TB at*
      clear hbad h hx hpl hpl2 hn hs hdn hup
      go_enter Tryz.func138,Tryz.ntmps138
      go_wp2_with fail
      refine (HT.out _).mono ?_
      rintro e w1 ⟨rfl,hb⟩
      have HX1:=Lib.hid hb;clear hb
      go_wp2_with fail
      refine (HB.out _).mono ?_
      rintro e w2 ⟨rfl,hb⟩
      have HX2:=Lib.hid (HX1.out.trans hb);clear hb
      go_wp2_with fail
      refine (HP.out _ HX2.out).mono ?_
      rintro e w3 ⟨rfl,hb⟩
      have HX3:=Lib.hid (HX2.out.trans hb);clear hb
      go_wp2_with fail
      refine (HO.out _ HX3.out).mono ?_
      rintro e w4 ⟨rfl,rfl⟩
      go_wp2_with fail
      refine (HF.out _ HX3.out).mono ?_
      rintro e w4 ⟨f,rfl,hf1,hf2,hb⟩
      have HX4:=Lib.hid (HX3.out.trans hb);clear hb
      go_wp2_with fail
      refine (HFr.out _ HX4.out).mono ?_
      rintro e w5 ⟨rfl,hb⟩
      have HX5:=Lib.hid (HX4.out.trans hb);clear hb
      have HEf:=Lib.hid (HE.out f);have HWf:=Lib.hid (HW.out f hf1 hf2)
      obtain ⟨fr,hfr⟩: ∃fr,q3M σ=fr:=⟨_,rfl⟩
      rw[hfr] at HEf hfr0
      rw[hfr]
      have q1:IntKind.i64.wrap (fr-(TB.length:Int))=fr-(TB.length:Int):=by rw[IntKind.wrap_i64];omega
      have q2:IntKind.i64.wrap (fr-(TB.length:Int)-(f.length:Int))=fr-(TB.length:Int)-(f.length:Int):=by rw[IntKind.wrap_i64];omega
      by_cases hroom:fr-(TB.length:Int)-(f.length:Int)<6000
      · have hd:decide (fr-(TB.length:Int)-(f.length:Int)<6000)=true:=decide_eq_true hroom
        have HM:Hid (q0Y σ n L f=(60,σ)):=Lib.hid (by rw[HEf.out,if_pos hroom])
        clear hfr0 hfr1 hf1 hf2 htl hfr hroom
        go_wp2_with fail
        go_ret
        exact HWf.out _ _ HM.out _ ((DkS.refl HD.out).ext HX5.out)
      · have hd:decide (fr-(TB.length:Int)-(f.length:Int)<6000)=false:=decide_eq_false hroom
        have HM:Hid (q0Y σ n L f=if (q2j σ BN f).1≠0 then q2j σ BN f else q2j (q2j σ BN f).2 TN TB):=Lib.hid (by rw[HEf.out,if_neg hroom])
        have HL1:=Lib.hid (z9Q ((HD.out).ext HX5.out) BN f hl2 (by omega))
        have HL2:=Lib.hid (fun W (hd:DkS w g F (q2j σ BN f).2 W)=>z9Q hd.dk TN TB hl1 (by omega))
        have HXD:Hid (∀τ W,DkS w5 g F τ W→DkS w g F τ W):=Lib.hid fun τ W hd=>DkS.from HD.out HX5.out hd
        obtain ⟨r1,h1⟩: ∃r,q2j σ BN f=r:=⟨_,rfl⟩
        rw[h1] at HL1 HL2 HM
        obtain ⟨r2,h2⟩: ∃r,q2j r1.2 TN TB=r:=⟨_,rfl⟩
        rw[h2] at HL2 HM
        obtain ⟨c1,σ1⟩:=r1;obtain ⟨c2,σ2⟩:=r2
        clear h1 h2
        clear hfr0 hfr1 hf1 hf2 htl hfr hroom
        by_cases e1:c1=0
        · subst e1
          have HM2:Hid (q0Y σ n L f=(c2,σ2)):=Lib.hid (by rw[HM.out,if_neg (fun h=>h rfl)])
          clear HM
          go_wp2_with fail
          refine HL1.out.mono ?_
          rintro e w6 ⟨rfl,hd1⟩
          have HD1:=Lib.hid (HXD.out _ _ hd1);clear hd1
          go_wp2_with fail
          refine (HL2.out _ HD1.out).mono ?_
          rintro e w7 ⟨rfl,hd2⟩
          have HD2:=Lib.hid hd2;clear hd2
          go_wp2_with fail
          go_ret
          exact HWf.out _ _ HM2.out _ (HD1.out.trans HD2.out)
        · have HM2:Hid (q0Y σ n L f=(c1,σ1)):=Lib.hid (by rw[HM.out,if_pos e1])
          have hb:(c1 !=0)=true:=by simpa using e1
          clear HM e1
          go_wp2_with fail
          refine HL1.out.mono ?_
          rintro e w6 ⟨rfl,hd1⟩
          have HD1:=Lib.hid (HXD.out _ _ hd1);clear hd1
          go_wp2_with fail
          go_ret
          exact HWf.out _ _ HM2.out _ HD1.out
end
end Go.Proofs.YtmajfklnagdlpaaGreatDoor
namespace Go.Proofs.YtmajfklnagdlpaaGreatDoor
open Go.RowKit
set_option maxRecDepth 100000
set_option linter.unusedVariables false
set_option maxHeartbeats 6400000
section
variable {w :World} {g:Nat} {F:Nat→Prop} {σ:DM}
theorem z5F (h:Dk w g F σ) (n:Int):
    Calls Tryz.prog 75 #[.pointer (some ⟨g,0,none⟩),.int .i64 n] w fun e w'=>e= .returned (.int .i64 (q2h σ n).1)∧DkS w g F (q2h σ n).2 w':=by
  have HT:=Lib.hid (fun W=>z0V n W)
  have HB:=Lib.hid (fun W=>z0K n W)
  have HD:=Lib.hid h
  have hl1:=q3E 116 n
  have hl2:=q3E 98 n
  have HM:Hid (q2h σ n=if q6y (q0O σ (q0B 116 n)).1 then
    if q6y (q0O (q0O σ (q0B 116 n)).2 (q0B 98 n)).1 then (0,(q0O (q0O σ (q0B 116 n)).2 (q0B 98 n)).2) else q0O (q0O σ (q0B 116 n)).2 (q0B 98 n)
    else q0O σ (q0B 116 n)):=Lib.hid rfl
  generalize q0B 116 n=TN at*
  generalize q0B 98 n=BN at*
  have HD1:=Lib.hid (fun wa (h:Dk wa g F σ)=>q4e h TN hl1)
  have HD2:=Lib.hid (fun wa w' (hd:DkS wa g F (q0O σ TN).2 w')=>q4e hd.dk BN hl2)
  obtain ⟨r1,h1⟩: ∃r,q0O σ TN=r:=⟨_,rfl⟩
  rw[h1] at HD1 HD2 HM
  obtain ⟨r2,h2⟩: ∃r,q0O r1.2 BN=r:=⟨_,rfl⟩
  rw[h2] at HD2 HM
  obtain ⟨c1,σ1⟩:=r1;obtain ⟨c2,σ2⟩:=r2
  have hFlt: ∀i,F i→i<w.heap.size:=by obtain ⟨_,_,_,_,_,_,h⟩:=h;exact h
  clear h1 h2 h hl1 hl2
  go_enter Tryz.func75,Tryz.ntmps75
  go_wp2_with fail
  refine (HT.out _).mono ?_
  rintro e w1 ⟨rfl,hb⟩
  have HX1:=Lib.hid hb;clear hb
  go_wp2_with fail
  refine (HB.out _).mono ?_
  rintro e w2 ⟨rfl,hb⟩
  have HX2:=Lib.hid (HX1.out.trans hb);clear hb
  go_wp2_with fail
  have hbk:=Blk.new w2 9 #[.string ⟨TN.toArray⟩,.string ⟨BN.toArray⟩]
  have HX3:=Lib.hid (HX2.out.trans (q0C w2 (.cells #[.string ⟨TN.toArray⟩,.string ⟨BN.toArray⟩] 9)))
  have hnF:¬F w2.heap.size:=fun hf=>by have:=hFlt _ hf;have:=HX2.out.size;omega
  have HDa:=Lib.hid (HD.out.ext HX3.out)
  generalize w2.alloc (.cells #[.string ⟨TN.toArray⟩,.string ⟨BN.toArray⟩] 9)=wa at*
  generalize w2.heap.size=b at*
  have HFin:Hid (∀τ W,DkS wa g F τ W→DkS w g F τ W):=Lib.hid fun τ W hd=>DkS.from HD.out HX3.out hd
  have HBk:Hid (∀τ W,DkS wa g F τ W→Blk W b 9 #[.string ⟨TN.toArray⟩,.string ⟨BN.toArray⟩]):=Lib.hid fun τ W hd=>hd.off.blk hbk hnF
  clear hbk hnF hFlt HX1 HX2
  go_loopw [14] (fun i W=>(i= .int .i64 0∧DkS wa g F σ W∧W=wa)∨(i= .int .i64 1∧q6y c1∧DkS wa g F σ1 W)∨(i= .int .i64 2∧q6y c1∧q6y c2∧DkS wa g F σ2 W)) (fun i _=>2-(intOf i).toNat)
  case atStart=>exact .inl ⟨rfl,DkS.refl HDa.out,rfl⟩
  case round=>
    rcases hrel with ⟨rfl,hd,rfl⟩|⟨rfl,ho,hd⟩|⟨rfl,ho1,ho2,hd⟩
    · have b0:wr.cell? ⟨b,0,none⟩=some (.string ⟨TN.toArray⟩):=(HBk.out _ _ hd).cell 0
      clear hd
      go_wp2_with fail
      refine (HD1.out _ HDa.out).mono ?_
      rintro e w4 ⟨rfl,hd1⟩
      have HDD:=Lib.hid hd1;clear hd1 b0
      by_cases ho:q6y c1
      · have HO:=Lib.hid ho
        have hb:(c1 !=0)=false∨((c1 !=0)=true∧((c1 !=4)=false∨((c1 !=4)=true∧(c1 !=2)=false))):=by
          rcases ho with rfl|rfl|rfl
          · exact .inl rfl
          · exact .inr ⟨rfl,.inl rfl⟩
          · exact .inr ⟨rfl,.inr ⟨rfl,rfl⟩⟩
        clear ho
        rcases hb with hb|⟨hb,hb2|⟨hb2,hb3⟩⟩
        all_goals
          go_wp2_with fail
          go_roundw
          case rel=>exact .inr (.inl ⟨rfl,HO.out,HDD.out⟩)
          case measure=>decide
      · have HE:Hid (q2h σ n=(c1,σ1)):=Lib.hid (by rw[HM.out,if_neg ho])
        have q1:(c1 !=0)=true:=by simp;intro h;exact ho (.inl h)
        have q2:(c1 !=4)=true:=by simp;intro h;exact ho (.inr (.inl h))
        have q3:(c1 !=2)=true:=by simp;intro h;exact ho (.inr (.inr h))
        clear ho
        go_wp2_with fail
        go_ret
        rw[HE.out]
        exact ⟨rfl,HFin.out _ _ HDD.out⟩
    · have b0:wr.cell? ⟨b,1,none⟩=some (.string ⟨BN.toArray⟩):=(HBk.out _ _ hd).cell 1
      have HDD1:=Lib.hid hd
      have HO1:=Lib.hid ho
      clear hd ho
      go_wp2_with fail
      refine (HD2.out _ _ HDD1.out).mono ?_
      rintro e w4 ⟨rfl,hd1⟩
      have HDD:=Lib.hid (HDD1.out.trans hd1);clear hd1 b0
      by_cases ho:q6y c2
      · have HO:=Lib.hid ho
        have hb:(c2 !=0)=false∨((c2 !=0)=true∧((c2 !=4)=false∨((c2 !=4)=true∧(c2 !=2)=false))):=by
          rcases ho with rfl|rfl|rfl
          · exact .inl rfl
          · exact .inr ⟨rfl,.inl rfl⟩
          · exact .inr ⟨rfl,.inr ⟨rfl,rfl⟩⟩
        clear ho
        rcases hb with hb|⟨hb,hb2|⟨hb2,hb3⟩⟩
        all_goals
          go_wp2_with fail
          go_roundw
          case rel=>exact .inr (.inr ⟨rfl,HO1.out,HO.out,HDD.out⟩)
          case measure=>decide
      · have HE:Hid (q2h σ n=(c2,σ2)):=Lib.hid (by rw[HM.out,if_pos HO1.out,if_neg ho])
        have q1:(c2 !=0)=true:=by simp;intro h;exact ho (.inl h)
        have q2:(c2 !=4)=true:=by simp;intro h;exact ho (.inr (.inl h))
        have q3:(c2 !=2)=true:=by simp;intro h;exact ho (.inr (.inr h))
        clear ho
        go_wp2_with fail
        go_ret
        rw[HE.out]
        exact ⟨rfl,HFin.out _ _ HDD.out⟩
    · have HE:Hid (q2h σ n=(0,σ2)):=Lib.hid (by rw[HM.out,if_pos ho1,if_pos ho2])
      have HDD:=Lib.hid hd
      clear hd ho1 ho2
      go_wp2_with fail
      go_ret
      rw[HE.out]
      exact ⟨rfl,HFin.out _ _ HDD.out⟩
end
end Go.Proofs.YtmajfklnagdlpaaGreatDoor
namespace Go.Proofs.YtmajfklnagdlpaaGreatDoor
open Go.RowKit
set_option maxRecDepth 100000
set_option linter.unusedVariables false
set_option maxHeartbeats 6400000
def InT (t:Nat) (v mv:Value) (i:Nat):Prop:=i=t∨v.ownBlock=some i∨mv= .map (some i)
structure TbI (w:World) (t g:Nat) (n:Int) (L:List En) (v:Value) (p s:Nat) (mv:Value) (D:DataW Unit):Prop where
  blk:Blk w t 207 #[.pointer (some ⟨g,0,none⟩),.int .i64 n,.int .i64 (L.length:Int),v,.int .i64 (p:Int),.int .i64 (s:Int),mv]
  mids:w.ownsRow 0 289 4 v (q7K L).length (mcs (q7K L))
  fil:FilK w p s mv D
structure okT (L:List En):Prop where
  sort:q2R L
  ok: ∀x∈L,q4p x=true
  len:L.length≤50000
def Tb (w:World) (t g:Nat) (n:Int) (L:List En) (may:Int→Bool) (T:Nat→Prop):Prop:=
  ∃v p s mv D,TbI w t g n L v p s mv D∧may=z7M p s D∧(∀x∈L,may x.1=true)∧okT L∧(∀i,InT t v mv i→T i)∧ ∀i,T i→i<w.heap.size
section
variable {w w':World} {t g:Nat} {n:Int} {L:List En} {v:Value} {p s:Nat} {mv:Value} {D:DataW Unit} {may:Int→Bool} {T T' F:Nat→Prop} {σ:DM}
theorem FilK.same (h:FilK w p s mv D) (k: ∀i,mv= .map (some i)→w'.heap[i]?=w.heap[i]?):FilK w' p s mv D:=by
  obtain ⟨h0,h1|⟨h1,h2,h3,h4,m,n,h5,h6⟩⟩:=h
  · exact ⟨h0,.inl h1⟩
  · exact ⟨h0,.inr ⟨h1,h2,h3,h4,m,n,h5,q1V h6 (k m h5)⟩⟩
theorem FilK.lt (h:FilK w p s mv D) {i:Nat} (hi:mv= .map (some i)):i<w.heap.size:=by
  obtain ⟨h0,⟨h1,h2⟩|⟨h1,h2,h3,h4,m,n,h5,h6⟩⟩:=h
  · rw[h2] at hi;cases hi
  · rw[h5] at hi;cases hi;exact h6.lt
theorem TbI.same (h:TbI w t g n L v p s mv D) (k: ∀i,InT t v mv i→w'.heap[i]?=w.heap[i]?):TbI w' t g n L v p s mv D:=
  ⟨h.blk.same (k t (.inl rfl)),q2T h.mids fun i hi=>k i (.inr (.inl hi)),h.fil.same fun i hi=>k i (.inr (.inr hi))⟩
theorem Tb.same (h:Tb w t g n L may T) (hs:w.heap.size≤w'.heap.size) (k: ∀i,T i→w'.heap[i]?=w.heap[i]?):Tb w' t g n L may T:=by
  obtain ⟨v,p,s,mv,D,h1,h2,h3,h4,h5,h6⟩:=h
  exact ⟨v,p,s,mv,D,h1.same fun i hi=>k i (h5 i hi),h2,h3,h4,h5,fun i hi=>Nat.lt_of_lt_of_le (h6 i hi) hs⟩
theorem Tb.lt (h:Tb w t g n L may T): ∀i,T i→i<w.heap.size:=by
  obtain ⟨v,p,s,mv,D,h1,h2,h3,h4,h5,h6⟩:=h
  exact h6
theorem Tb.thru (h:Tb w t g n L may T): ∀x∈L,may x.1=true:=by
  obtain ⟨v,p,s,mv,D,h1,h2,h3,h4,h5,h6⟩:=h
  exact h3
theorem Tb.mono (h:Tb w t g n L may T) (k: ∀i,T i→T' i) (hl: ∀i,T' i→i<w.heap.size):Tb w t g n L may T':=by
  obtain ⟨v,p,s,mv,D,h1,h2,h3,h4,h5,h6⟩:=h
  exact ⟨v,p,s,mv,D,h1,h2,h3,h4,fun i hi=>k i (h5 i hi),hl⟩
end
def q3s (σ:DM) (n:Int):Option (List En)×Int×DM:=
  if (q0a σ (q0B 116 n)).2.1≠0 then (none,q3C (q0a σ (q0B 116 n)).2.1,(q0a σ (q0B 116 n)).2.2)
  else match q7o (q0a σ (q0B 116 n)).1 with
  |none=>(none,90,(q0a σ (q0B 116 n)).2.2)
  | some L=>if (q0a (q0a σ (q0B 116 n)).2.2 (q0B 98 n)).2.1=61 then (none,61,(q0a (q0a σ (q0B 116 n)).2.2 (q0B 98 n)).2.2)
    else (some L,0,(q0a (q0a σ (q0B 116 n)).2.2 (q0B 98 n)).2.2)
def z9p (w:World) (g:Nat) (F:Nat→Prop) (n:Int) (r:Option (List En)×Int×DM) (e:Ending) (w':World):Prop:=
  match r.1 with
  |none=>e= .returned (.tuple #[.pointer none,.int .i64 r.2.1])∧DkS w g F r.2.2 w'
  |some L=> ∃t may T w3,e= .returned (.tuple #[.pointer (some ⟨t,0,none⟩),.int .i64 0])∧DkS w g F r.2.2 w3∧Ext w3 w'∧Tb w' t g n L may T∧ ∀i,T i→w3.heap.size≤i
theorem q9s {σ:DM} (h:okD σ) (nm:List UInt8):(q0a σ nm).1.length≤1048576:=by
  have h1:=h.used;have h2:=h.cap1
  unfold q0a
  split
  · simp
  · unfold q3e
    split
    · simp
    · split
      · simp
      · rename_i f hf
        have:=z1O (q0H hf).1
        split<;>simp<;>omega
theorem z3E (c:Int):q3C c=c∨q3C c=90:=by unfold q3C;split;exact .inl rfl;exact .inr rfl
theorem z4b {w:World} {g:Nat} {F:Nat→Prop} {σ:DM} (h:Dk w g F σ) (n:Int):
    Calls Tryz.prog 130 #[.pointer (some ⟨g,0,none⟩),.int .i64 n] w (z9p w g F n (q3s σ n)):=by
  have HT:=Lib.hid (fun W=>z0V n W)
  have HB:=Lib.hid (fun W=>z0K n W)
  have HD:=Lib.hid h
  have hl1:=q3E 116 n
  have hl2:=q3E 98 n
  have hlen1:=q9s h.1 (q0B 116 n)
  have HM:Hid (q3s σ n=if (q0a σ (q0B 116 n)).2.1≠0 then (none,q3C (q0a σ (q0B 116 n)).2.1,(q0a σ (q0B 116 n)).2.2)
    else match q7o (q0a σ (q0B 116 n)).1 with
    |none=>(none,90,(q0a σ (q0B 116 n)).2.2)
    | some L=>if (q0a (q0a σ (q0B 116 n)).2.2 (q0B 98 n)).2.1=61 then (none,61,(q0a (q0a σ (q0B 116 n)).2.2 (q0B 98 n)).2.2)
      else (some L,0,(q0a (q0a σ (q0B 116 n)).2.2 (q0B 98 n)).2.2)):=Lib.hid rfl
  have HW1:=Lib.hid (fun W (k:Ext w W)=>z2A (h.ext k) (q0B 116 n) hl1)
  have HW2:=Lib.hid (fun W W' (hd:DkS w g F (q0a σ (q0B 116 n)).2.2 W) (k:Ext W W')=>z2A (hd.dk.ext k) (q0B 98 n) hl2)
  have hlen2:okD (q0a σ (q0B 116 n)).2.2→(q0a (q0a σ (q0B 116 n)).2.2 (q0B 98 n)).1.length≤1048576:=fun h=>q9s h (q0B 98 n)
  generalize q0B 116 n=TN at*
  generalize q0B 98 n=BN at*
  clear hl1 hl2 h
  obtain ⟨r1,h1⟩: ∃r,q0a σ TN=r:=⟨_,rfl⟩
  rw[h1] at HW1 HW2 HM hlen1 hlen2
  obtain ⟨r2,h2⟩: ∃r,q0a r1.2.2 BN=r:=⟨_,rfl⟩
  rw[h2] at HW2 HM hlen2
  obtain ⟨S1,c1,σ1⟩:=r1;obtain ⟨S2,c2,σ2⟩:=r2
  clear h1 h2
  simp only at HW1 HW2 HM hlen1 hlen2
  go_enter Tryz.func130,Tryz.ntmps130
  go_wp2_with fail
  refine (HT.out _).mono ?_
  rintro e w1 ⟨rfl,hb⟩
  have HX1:=Lib.hid hb;clear hb
  go_wp2_with fail
  refine (HW1.out _ HX1.out).mono ?_
  rintro e w2 ⟨rfl,hd⟩
  have HD2:=Lib.hid (DkS.from HD.out HX1.out hd);clear hd
  by_cases e1:c1=0
  case neg=>
    have HE:Hid (q3s σ n=(none,q3C c1,σ1)):=Lib.hid (by rw[HM.out,if_pos e1])
    have hb:(c1 !=0)=true:=by simpa using e1
    clear HM e1 hlen1 hlen2
    go_wp2_with fail
    refine (z6L c1 _).mono ?_
    rintro e w3 ⟨rfl,rfl⟩
    go_wp2_with fail
    go_ret2
    rw[HE.out]
    exact ⟨rfl,HD2.out⟩
  case pos=>
  subst e1
  have HGet:=Lib.hid (fun W=>z8b S1 W hlen1)
  have HGl:Hid (∀L,q7o S1=some L→okT L):=Lib.hid fun L h=>⟨(q6V h).2.1,(q6V h).2.2.1,z5b h hlen1⟩
  have hlen2':=hlen2 HD2.out.dk.1
  cases hg:q7o S1 with
  | none=>
    have HE:Hid (q3s σ n=(none,90,σ1)):=Lib.hid (by rw[HM.out,if_neg (fun h=>h rfl),hg])
    rw[hg] at HGet
    clear HM hlen1 hlen2 hlen2' hg
    go_wp2_with fail
    refine (HGet.out _).mono ?_
    rintro e w3 ⟨rfl,hb⟩
    have HX3:=Lib.hid hb;clear hb
    go_wp2_with fail
    go_ret2
    rw[HE.out]
    exact ⟨rfl,HD2.out.ext HX3.out⟩
  | some L=>
    rw[hg] at HGet
    have HLl:=Lib.hid (HGl.out L hg)
    have hLl:=HLl.out.len
    go_wp2_with fail
    refine (HGet.out _).mono ?_
    rintro e w3 ⟨v,rfl,hrow,hb⟩
    have HX3:=Lib.hid hb
    have HR3:=Lib.hid hrow
    obtain ⟨va,vc,rfl⟩:=q0R hrow
    clear hb hrow HGet
    go_wp2_with fail
    refine (HB.out _).mono ?_
    rintro e w4 ⟨rfl,hb⟩
    have HX4:=Lib.hid (HX3.out.trans hb)
    have HR4:=Lib.hid (q0U HR3.out hb)
    clear hb HR3
    go_wp2_with fail
    refine (HW2.out _ _ HD2.out HX4.out).mono ?_
    rintro e w5 ⟨rfl,hd⟩
    have hR5:w5.ownsRow w2.heap.size 66 3 (.slice va L.length vc) L.length (ecs L):=q2T HR4.out fun i hi=>hd.off.block i (q1P HR4.out i hi).2 (by
      have h1:=(q1P HR4.out i hi).1
      have hlt: ∀i,Gr F w w2 i→i<w2.heap.size:=by obtain ⟨_,_,_,_,_,_,h⟩:=HD2.out.dk;exact h
      intro hf
      have:=hlt i hf
      omega)
    have HD5:=Lib.hid (HD2.out.trans (DkS.from HD2.out.dk HX4.out hd))
    clear hd
    obtain ⟨_,_,e0,hens⟩:=Ens.of_own (Own.of_row hR5)
    cases e0
    have HEns:=Lib.hid hens
    clear hens hR5 HR4
    by_cases e2:c2=61
    · have HE:Hid (q3s σ n=(none,61,σ2)):=Lib.hid (by rw[HM.out,if_neg (fun h=>h rfl),hg];simp only;rw[if_pos e2])
      subst e2
      clear HM hlen1 hlen2 hlen2' hg
      go_wp2_with fail
      go_ret2
      rw[HE.out]
      exact ⟨rfl,HD5.out⟩
    · have HE:Hid (q3s σ n=(some L,0,σ2)):=Lib.hid (by rw[HM.out,if_neg (fun h=>h rfl),hg];simp only;rw[if_neg e2])
      have hb:(c2==61)=false:=by simpa using e2
      have HMid:=Lib.hid (z9K w5 HEns.out (by omega))
      have HLo:=Lib.hid (fun W=>z5G S2 W hlen2')
      clear HM hlen1 hlen2 hlen2' hg e2
      go_wp2_with fail
      refine HMid.out.mono ?_
      rintro e w6 ⟨vm,rfl,hrow,hb6⟩
      have HX6:=Lib.hid hb6
      have HRm:=Lib.hid hrow
      obtain ⟨ma,mc,rfl⟩:=q0R hrow
      clear hrow hb6 HMid
      go_wp2_with fail
      refine (HLo.out _).mono ?_
      rintro e w7 ⟨p,z,mv,D,rfl,hfil,hmb,_,hb7⟩
      have HX7:=Lib.hid (HX6.out.trans hb7)
      have HRm7:=Lib.hid (q0U HRm.out hb7)
      have HMB:Hid (z9W w6.heap.size mv):=Lib.hid hmb
      have HSo:=Lib.hid (z7p w7 hfil (HEns.out.ext HX7.out))
      clear hb7 HRm HLo hfil hmb
      go_wp2_with fail
      refine HSo.out.mono ?_
      rintro e w8 ⟨p',z',mv',D',rfl,hfil,hmb,hall,hb8⟩
      have HX8:=Lib.hid (HX7.out.trans hb8)
      have HRm8:=Lib.hid (q0U HRm7.out hb8)
      have HMB8:=Lib.hid (hmb _ HMB.out)
      have HF8:=Lib.hid hfil;have HAll:=Lib.hid hall
      clear hb8 hfil hmb hall HRm7 HMB HSo
      go_wp2_with fail
      go_ret2
      rw[HE.out]
      have hr5:w.heap.size≤w5.heap.size:=HD5.out.off.size
      refine ⟨w8.heap.size,z7M p' z' D',fun i=>InT w8.heap.size (.slice ma (q7K L).length mc) mv' i,w5,rfl,HD5.out,HX8.out.trans (q0C _ _),⟨_,p',z',mv',D',⟨Blk.new w8 _ _,q2B (q0U HRm8.out (q0C _ _)) (Nat.zero_le _),HF8.out.ext (q0C _ _)⟩,rfl,HAll.out,HLl.out,fun i hi=>hi,fun i hi=>?_⟩,fun i hi=>?_⟩
      · rw[World.size_alloc]
        rcases hi with rfl|hi|hi
        · omega
        · have:=(q1P HRm8.out i hi).2;omega
        · have:=HF8.out.lt hi;omega
      · have h8:=HX8.out.size
        have h6:=HX6.out.size
        rcases hi with rfl|hi|hi
        · exact h8
        · exact (q1P HRm8.out i hi).1
        · have:=HMB8.out i hi;omega
end Go.Proofs.YtmajfklnagdlpaaGreatDoor
namespace Go.Proofs.YtmajfklnagdlpaaGreatDoor
open Go.RowKit
set_option maxRecDepth 100000
set_option linter.unusedVariables false
set_option maxHeartbeats 6400000
structure TbD (w:World) (t g:Nat) (n:Int) (L:List En) (may:Int→Bool) (T F:Nat→Prop) (σ:DM):Prop where
  d:Dk w g F σ
  t:Tb w t g n L may T
  ap: ∀i,T i→¬F i
section
variable {w w':World} {t g:Nat} {n:Int} {L:List En} {v:Value} {p s:Nat} {mv:Value} {D:DataW Unit} {may:Int→Bool} {T T' F:Nat→Prop} {σ σ':DM}
theorem Dk.Flt (h:Dk w g F σ): ∀i,F i→i<w.heap.size:=by obtain ⟨_,_,_,_,_,_,h⟩:=h;exact h
end
end Go.Proofs.YtmajfklnagdlpaaGreatDoor
namespace Go.Proofs.YtmajfklnagdlpaaGreatDoor
open Go.RowKit
set_option maxRecDepth 100000
set_option linter.unusedVariables false
set_option maxHeartbeats 6400000
section
variable {w w':World} {t g:Nat} {n:Int} {L:List En} {may:Int→Bool} {T F:Nat→Prop} {σ:DM}
end
end Go.Proofs.YtmajfklnagdlpaaGreatDoor
namespace Go.Proofs.YtmajfklnagdlpaaGreatDoor
open Go.RowKit
set_option maxRecDepth 100000
set_option linter.unusedVariables false
set_option maxHeartbeats 6400000
section
variable {w w':World} {t g:Nat} {n:Int} {L:List En} {may:Int→Bool} {T F:Nat→Prop} {σ:DM}
end
end Go.Proofs.YtmajfklnagdlpaaGreatDoor
namespace Go.Proofs.YtmajfklnagdlpaaGreatDoor
open Go.RowKit
set_option maxRecDepth 100000
set_option linter.unusedVariables false
set_option maxHeartbeats 6400000
section
variable {w w' w1 w2:World} {t g:Nat} {n:Int} {L:List En} {may:Int→Bool} {T F V:Nat→Prop} {σ σ':DM} {row:Option Nat}
end
end Go.Proofs.YtmajfklnagdlpaaGreatDoor
namespace Go.Proofs.YtmajfklnagdlpaaGreatDoor
open Go.RowKit
set_option maxRecDepth 100000
set_option linter.unusedVariables false
set_option maxHeartbeats 6400000
theorem q1C {fn:Func} {p u v:Tmp} {ty:TypeId} (h:fn.results=#[.cell p ty,.tmp u,.tmp v]) (tmps:Array Value) (P:Program) (w:World):
    (results fn tmps).run P w=
      ((asAddr (tmps.getD p undef)).run P w).andThen fun a w₁=>((loadVar ty a).run P w₁).andThen fun x w₂=> .ok (.tuple #[x,tmps.getD u undef,tmps.getD v undef]) w₂:=by
  simp only[results,h]
  simp[Sem.run_bind,Result.andThen]
section
variable {w w' w1 w2:World} {t g:Nat} {n:Int} {L:List En} {may:Int→Bool} {T F V:Nat→Prop} {σ σ':DM}
end
end Go.Proofs.YtmajfklnagdlpaaGreatDoor
namespace Go.Proofs.YtmajfklnagdlpaaGreatDoor
open Go.RowKit
set_option maxRecDepth 100000
set_option linter.unusedVariables false
set_option maxHeartbeats 6400000
section
variable {w w' w1 w2:World} {t g:Nat} {n:Int} {L:List En} {may:Int→Bool} {T F V:Nat→Prop} {σ σ':DM}
end
end Go.Proofs.YtmajfklnagdlpaaGreatDoor
namespace Go.Proofs.YtmajfklnagdlpaaGreatDoor
open Go.RowKit
def tellN :Nat→DM→DM
  |0,σ=>σ
  |c+1,σ=>tellN c (q3H σ)
theorem q2Z (c:Nat) (σ:DM):tellN (c+1) σ=tellN c (q3H σ):=rfl
theorem z4B (a b:Nat) (σ:DM):tellN a (tellN b σ)=tellN (b+a) σ:=by
  induction b generalizing σ with
  |zero=>simp[tellN]
  |succ b ih=>rw[q2Z,ih,show b+1+a=(b+a)+1 by omega,q2Z]
theorem z7K (c:Nat): ∀σ:DM,(tellN c σ).L=σ.L:=by induction c with|zero=>intro σ;rfl|succ c ih=>intro σ;rw[q2Z,ih];rfl
theorem z2y (c:Nat): ∀σ:DM,(tellN c σ).down=σ.down:=by induction c with|zero=>intro σ;rfl|succ c ih=>intro σ;rw[q2Z,ih];rfl
structure Wl (σ:DM) (n:Int) (L:List En):Prop where
  up:σ.down=false
  file: ∃f,q0E FM.nm (q0B 116 n) σ.L=some f∧f.da=q2r L
theorem Wl.tellN {σ:DM} {n:Int} {L:List En} (h:Wl σ n L) (c:Nat):Wl (tellN c σ) n L:=⟨by rw[z2y];exact h.up,by rw[z7K];exact h.file⟩
end Go.Proofs.YtmajfklnagdlpaaGreatDoor
namespace Go.Proofs.YtmajfklnagdlpaaGreatDoor
open Go.RowKit
theorem q8v {σ:DM} {nm:List UInt8} {f:FM} (hup:σ.down=false) (hf:q0E FM.nm nm σ.L=some f):q0a σ nm=(f.da,0,q3H σ):=by
  have hs:q1B σ nm=((f.da.length:Int),0):=by unfold q1B;rw[if_neg (by rw[hup];decide),hf]
  unfold q0a
  rw[hs]
  simp only
  rw[if_neg (fun h=>h rfl)]
  unfold q3e
  rw[if_neg (by rw[hup];decide),hf]
  simp only
  rw[if_pos (by omega)]
  have e1:((f.da.length:Int)).toNat=f.da.length:=by omega
  rw[e1]
  simp
theorem z3f {σ:DM} {nm:List UInt8} (hup:σ.down=false) (hf:q0E FM.nm nm σ.L=none):q0a σ nm=([],4,σ):=by
  have hs:q1B σ nm=(0,4):=by unfold q1B;rw[if_neg (by rw[hup];decide),hf]
  unfold q0a
  rw[hs]
  simp only
  rw[if_pos (by decide)]
theorem z4e {σ:DM} (nm:List UInt8) (hup:σ.down=false): ∃s c k,q0a σ nm=(s,c,tellN k σ)∧c≠61∧k≤1:=by
  cases hf:q0E FM.nm nm σ.L with
  |none=>exact ⟨_,_,0,z3f hup hf,by decide,by omega⟩
  |some f=>exact ⟨_,_,1,q8v hup hf,by decide,by omega⟩
theorem z1q {σ:DM} {n:Int} {L:List En} (h:Wl σ n L) (hs:q2R L) (ho: ∀e∈L,q4p e=true) (hl:L.length<4294967296): ∃k,k≤2∧q3s σ n=(some L,0,tellN k σ):=by
  obtain ⟨f,hf,hd⟩:=h.file
  unfold q3s
  rw[q8v h.up hf]
  simp only
  rw[if_neg (fun h=>h rfl),hd,z6R hs ho hl]
  obtain ⟨s,c,k,e,hc,hk⟩:=z4e (σ:=q3H σ) (q0B 98 n) h.up
  rw[e]
  simp only
  rw[if_neg hc]
  exact ⟨k+1,by omega,by rw[q2Z]⟩
theorem q8I {nm t:List UInt8}: ∀{l:List (List UInt8×List UInt8)},(∀y∈l,y.1≠nm)→q0y Prod.fst nm (fun x=>(x.1,x.2++t)) (q1T Prod.fst (nm,[]) l)=q1T Prod.fst (nm,t) l
  |[],_=>by simp[q1T,q0y]
  | y ::r,h=>by
    have hy:(y.1==nm)=false:=by simpa using h y (by simp)
    unfold q1T
    split
    · rw[q0y,List.map_cons,if_pos (by simp)]
      have:=q1y (k:=Prod.fst) (f:=fun x:List UInt8×List UInt8=>(x.1,x.2++t)) (nm:=nm) (l:=y::r) h
      rw[q0y] at this
      rw[this];rfl
    · rw[q0y,List.map_cons,if_neg (by rw[hy];decide),←q0y,q8I fun z hz=>h z (by simp[hz])]
theorem Pl.lay {σ:DM} {c s:Int} {l:List (List UInt8×List UInt8)} {nm t:List UInt8} (h:Pl σ c s l) (hf:q0E Prod.fst nm l=none) (hk:q1l nm=true) (hm:l.length<400) (hr:(t.length:Int)≤c-(q1K l:Int)): ∃σ',q2j σ nm t=(0,σ')∧Pl σ' c s (q1T Prod.fst (nm,t) l):=by
  obtain ⟨σ1,e1,p1⟩:=h.create hf hk hm
  have hne:=q0W hf
  have hf1: ∃x,q0E Prod.fst nm (q1T Prod.fst (nm,[]) l)=some x:=by
    cases hh:q0E Prod.fst nm (q1T Prod.fst (nm,[]) l) with
    |some x=>exact ⟨x,rfl⟩
    |none=>exact absurd rfl (q0W hh (nm,[]) (mem_insN.2 (.inl rfl)))
  obtain ⟨x1,hx1⟩:=hf1
  have hu:q1K (q1T Prod.fst (nm,([]:List UInt8)) l)=q1K l:=by
    unfold q1K q4I
    rw[((q2d (k:=Prod.fst) (nm,([]:List UInt8)) l).map _).sum_nat]
    simp
  obtain ⟨σ2,e2,p2⟩:=p1.append (t:=t) hx1 (by rw[hu];exact hr)
  rw[q8I hne] at p2
  have hf2: ∃x,q0E Prod.fst nm (q1T Prod.fst (nm,t) l)=some x:=by
    cases hh:q0E Prod.fst nm (q1T Prod.fst (nm,t) l) with
    |some x=>exact ⟨x,rfl⟩
    |none=>exact absurd rfl (q0W hh (nm,t) (mem_insN.2 (.inl rfl)))
  obtain ⟨x2,hx2⟩:=hf2
  obtain ⟨σ3,e3,p3⟩:=p2.sync hx2
  refine ⟨σ3,?_,p3⟩
  unfold q2j
  rw[e1]
  simp only
  rw[if_neg (fun h=>h rfl),e2]
  simp only
  rw[if_neg (fun h=>h rfl),e3]
theorem q4V (n m:Int) (hn:0≤n∧n≤999999) (hm:0≤m∧m≤999999):q0B 116 n≠q0B 98 m:=by
  rw[q0P hn,q0P hm]
  intro h
  cases (List.cons.inj h).1
theorem z1H (c:UInt8) {n:Int} (hn:0≤n∧n≤999999):q1l (q0B c n)=true:=by rw[q0P hn];simp[q1l,q0X]
theorem q4d {α:Type} {k:α→List UInt8} {x:α}: ∀{l:List α},(∀y∈l,k y≠k x)→q0E k (k x) (q1T k x l)=some x
  |[],_=>by simp[q1T,q0E]
  | y ::r,h=>by
    unfold q1T
    split
    · simp[q0E]
    · have hy:(k y==k x)=false:=by simpa using h y (by simp)
      have:=q4d (k:=k) (x:=x) (l:=r) fun z hz=>h z (by simp[hz])
      unfold q0E at this⊢
      rw[List.find?_cons,hy,this]
theorem q2f {α:Type} {k:α→List UInt8} {x:α} {nm:List UInt8} (hne:k x≠nm): ∀{l:List α},q0E k nm (q1T k x l)=q0E k nm l
  | []=>by
    have:(k x==nm)=false:=by simpa using hne
    simp[q1T,q0E,this]
  | y ::r=>by
    have hx:(k x==nm)=false:=by simpa using hne
    unfold q1T
    split
    · simp[q0E,hx]
    · have:=q2f (k:=k) (x:=x) (nm:=nm) hne (l:=r)
      unfold q0E at this⊢
      rw[List.find?_cons,List.find?_cons,this]
theorem q3q (x:List UInt8×List UInt8) (l:List (List UInt8×List UInt8)):q1K (q1T Prod.fst x l)=q1K l+x.2.length:=by
  unfold q1K q4I
  rw[((q2d (k:=Prod.fst) x l).map _).sum_nat]
  simp;omega
theorem Pl.write {σ:DM} {c s:Int} {l:List (List UInt8×List UInt8)} (h:Pl σ c s l) {n:Int} (hn:0≤n∧n≤999999) {L:List En} (hs:q1r L=true) {f:List UInt8}
    (h1:q0E Prod.fst (q0B 116 n) l=none) (h2:q0E Prod.fst (q0B 98 n) l=none) (hm:l.length<398) (hr:6000≤c-(q1K l:Int)-((q2r L).length:Int)-(f.length:Int)):
    ∃σ',q0Y σ n L f=(0,σ')∧Pl σ' c s (q1T Prod.fst (q0B 116 n,q2r L) (q1T Prod.fst (q0B 98 n,f) l)):=by
  obtain ⟨σ1,e1,p1⟩:=h.lay (t:=f) h2 (z1H 98 hn) (by omega) (by omega)
  obtain ⟨σ2,e2,p2⟩:=p1.lay (t:=q2r L) (nm:=q0B 116 n) (by rw[q2f (by exact (q4V n n hn hn).symm)];exact h1) (z1H 116 hn) (by rw[q1w];omega) (by rw[q3q];simp only;omega)
  refine ⟨σ2,?_,p2⟩
  unfold q0Y
  rw[if_neg (by rw[hs];simp;omega),if_neg (by rw[h.up];decide),h.free,if_neg (by omega),e1]
  simp only
  rw[if_neg (fun h=>h rfl),e2]
theorem Pl.wl {σ:DM} {c s:Int} {l:List (List UInt8×List UInt8)} {n:Int} {L:List En} {x:List UInt8} (h:Pl σ c s l) (hf:q0E Prod.fst (q0B 116 n) l=some (x,q2r L)):Wl σ n L:=by
  obtain ⟨f,h1,h2⟩:=h.find_some hf
  refine ⟨h.up,f,h1,?_⟩
  have:=congrArg Prod.snd h2
  exact this
end Go.Proofs.YtmajfklnagdlpaaGreatDoor
