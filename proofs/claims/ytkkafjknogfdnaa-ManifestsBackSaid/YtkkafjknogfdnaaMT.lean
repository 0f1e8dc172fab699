/- Walks: what is put of a manifest is got. -/
import Derived.Test.YtkkafjknogfdnaaChecked
import Derived.Test.YtkkafjknogfdnaaMS
namespace Go.Proofs.Ytkkafjknogfdnaa
open Go.RowKit

/-- levels, and so many empty ones -/
def padL (T : List (List Int)) (k : Nat) : List (List Int) := T ++ List.replicate k []

theorem padL_zero (T : List (List Int)) : padL T 0 = T := by simp [padL]
theorem padL_succ (T : List (List Int)) (k : Nat) : padL T k ++ [[]] = padL T (k + 1) := by unfold padL; rw [List.append_assoc, List.replicate_succ']
theorem padL_length (T : List (List Int)) (k : Nat) : (padL T k).length = T.length + k := by simp [padL]
theorem padL_flatten (T : List (List Int)) (k : Nat) : (padL T k).flatten = T.flatten := flatten_pad T k
theorem padL_getD (T : List (List Int)) (k i : Nat) : (padL T k).getD i [] = T.getD i [] := by
  unfold padL
  simp only [List.getD_eq_getElem?_getD, List.getElem?_append]
  split
  · rfl
  · rename_i h
    rw [List.getElem?_eq_none (l := T) (by omega), List.getElem?_replicate]
    split <;> rfl
theorem trim_pad (L : List (List Int)) (k : Nat) : trimL (padL (trimL L) k) = trimL L := by
  rw [← trimL_trimL L]
  exact trimL_congr _ _ fun i => by rw [padL_getD, trimL_trimL]

theorem mvalid_pad {nx ck : Int} {L : List (List Int)} {k : Nat} (h : mvalid nx ck L = true) (h5 : (trimL L).length + k ≤ 5) : mvalid nx ck (padL (trimL L) k) = true := by
  have hp := mvalid_parts h
  have hv := validB_parts hp.2.1
  have hf : (padL (trimL L) k).flatten = L.flatten := by rw [padL_flatten, trimL_flatten]
  rw [mvalid_all hp.1 (validB_ok _ (by rw [padL_length]; exact h5) (by rw [hf]; exact hv.2.1) (by rw [hf]; exact hv.2.2.1) (by rw [hf]; exact hv.2.2.2)), hf, List.all_eq_true]
  intro x hx
  simpa using hp.2.2 x hx

theorem mput_pad {nx ck sd : Int} {L : List (List Int)} {k : Nat} (h : mvalid nx ck L = true) (h5 : (trimL L).length + k ≤ 5) : mputS nx ck sd (padL (trimL L) k) = (sealS (manBody nx ck sd L), 0) := by
  rw [mput_bytes (mvalid_pad h h5)]
  unfold manBody
  rw [trim_pad]

theorem msame_pad (nx ck sd : Int) (L : List (List Int)) (k : Nat) : msame nx ck sd L nx ck sd (padL (trimL L) k) = true := by
  rw [msame_yes, trim_pad]; simp

theorem wf_valid {nx ck : Int} {L : List (List Int)} (h : mvalid nx ck L = true) : ∀ x ∈ L.flatten, okInt x := fun x hx => by
  have hp := mvalid_parts h
  have h1 := hp.2.2 x hx
  have h2 := (validB_parts hp.2.1).2.2.1 x hx
  exact ⟨h2, by omega⟩

theorem Mbx.apart {w : World} {g : Nat} {a b c : Int} {v : Value} (h : Mbx w g a b c v) {B : Nat} {e : TypeId} {size : Nat} {v' : Value} {n : Nat} {cs : List Value} (o : Own w B e size v' n cs) (hne : e ≠ 41) : v'.ownBlock ≠ some g := fun hh => by
  obtain ⟨cur, hc⟩ := o.etype hh
  unfold Mbx at h
  rw [h] at hc
  cases hc
  exact hne rfl

/-- behind a store into the manifest's box -/
theorem OGr.setBox {w : World} {g : Nat} {a b c : Int} {u : Value} (hm : Mbx w g a b c u) {B : Nat} {v : Value} {vs : List Value} {L : List (List Int)} (h : OGr w B 25 3 v vs L) (k : Nat) (x : Value) : OGr (w.setCell ⟨g, k, none⟩ x) B 25 3 v vs L :=
  ⟨h.own.setOther x (hm.apart h.own (by decide)), fun i => (h.row i).setOther x (hm.apart (h.row i) (by decide)), h.sep⟩

set_option maxRecDepth 100000 in
set_option maxHeartbeats 6400000 in
theorem mback_c (nx ck sd : Int) (ao : Option Addr) (n cap : Nat) (L : List (List Int)) (em : Int) (w : World) (hx : Grid w ao n cap L)
    (hwf : ∀ x ∈ L.flatten, (Lit.int .i64 x).wf = true) (hs0 : 0 ≤ sd) (hs1 : sd < 18446744073709551616) (he0 : 0 ≤ em) (he1 : em ≤ 255) :
    Calls Try.prog 8 #[.agg #[.int .i64 nx, .int .i64 ck, .int .u64 sd, .slice ao n cap], .int .u8 em] w fun e w' => e = .returned (.bool true) ∧ Ext w w' := by
  have Hx := Lib.hid hx
  have HWF := Lib.hid hwf
  have S1 := Lib.hid hs1
  have hmb0 := Mbx.mk w nx ck sd (.slice ao n cap)
  obtain ⟨f0, f1, f2, f3, _⟩ := hmb0.cs
  have HMB0 := Lib.hid hmb0; clear hmb0
  have E0 := Lib.hid (ext_a1 w (.cells #[.int .i64 nx, .int .i64 ck, .int .u64 sd, .slice ao n cap] 41))
  obtain ⟨m5, hm5⟩ : ∃ m : Nat, (m : Int) = em % 5 := ⟨(em % 5).toNat, by omega⟩
  have hmod : em % 5 = (m5 : Int) := hm5.symm
  have HMod := Lib.hid hmod
  have h5 : m5 ≤ 4 := by omega
  clear hx hwf hs1 hm5 hmod
  go_enter Try.func8, Try.ntmps8
  go_wp2_with fail
  refine (great_c _ _ _ L _ (Hx.out.ext E0.out)).mono ?_
  rintro e w1 ⟨rfl, hb1⟩
  have HB1 := Lib.hid hb1; clear hb1
  by_cases hgr : greatB L = true
  · go_wp2_with fail
    refine (sealed_c _).mono ?_
    rintro e w2 ⟨rfl, hb2⟩
    have HB2 := Lib.hid ((E0.out.trans HB1.out).trans hb2)
    clear hb2
    go_wp2_with fail
    go_ret
    exact ⟨rfl, HB2.out⟩
  have hgr' : greatB L = false := by simpa using hgr
  obtain ⟨l1, l2, l3⟩ := great_len L hgr'
  have LL3 : Hid (L.flatten.length ≤ 17592186044416) := Lib.hid (by omega)
  clear l1 l2 l3 hgr
  have r0 := cell_ext HB1.out f0; have r1 := cell_ext HB1.out f1; have r2 := cell_ext HB1.out f2; have r3 := cell_ext HB1.out f3
  by_cases hv : mvalid nx ck L = false
  · have HPP : Hid (mputS nx ck sd L = ([], 2)) := Lib.hid (by unfold mputS; rw [hv]; rfl)
    have HV := Lib.hid hv; clear hv
    go_wp2_with fail
    refine (mput_c nx ck sd _ _ _ L _ ((Hx.out.ext E0.out).ext HB1.out) LL3.out HWF.out (by omega) S1.out).mono ?_
    rw [HPP.out]
    rintro e w2 ⟨rfl, hb2⟩
    have HB2 := Lib.hid (HB1.out.trans hb2)
    clear hb2 r0 r1 r2 r3
    have r0 := cell_ext HB2.out f0; have r1 := cell_ext HB2.out f1; have r2 := cell_ext HB2.out f2; have r3 := cell_ext HB2.out f3
    go_wp2_with fail
    refine (mvalid_c nx ck sd _ _ _ L _ ((Hx.out.ext E0.out).ext HB2.out) LL3.out HWF.out).mono ?_
    rw [HV.out]
    rintro e w3 ⟨rfl, hb3⟩
    have HB3 := Lib.hid (HB2.out.trans hb3)
    clear hb3 r0 r1 r2 r3
    go_wp2_with fail
    refine (sealed_c _).mono ?_
    rintro e w4 ⟨rfl, hb4⟩
    have HB4 := Lib.hid ((E0.out.trans HB3.out).trans hb4)
    clear hb4
    go_wp2_with fail
    go_ret
    exact ⟨rfl, HB4.out⟩
  have hv' : mvalid nx ck L = true := by simpa using hv
  clear hv
  obtain ⟨P, hP⟩ : ∃ P, sealS (manBody nx ck sd L) = P := ⟨_, rfl⟩
  have HP1 : Hid (mputS nx ck sd L = (P, 0)) := Lib.hid (by rw [mput_bytes hv', hP])
  have HP2 : Hid (∀ k, (trimL L).length + k ≤ 5 → mputS nx ck sd (padL (trimL L) k) = (P, 0)) := Lib.hid (fun k hk => by rw [mput_pad hv' hk, hP])
  have HG : Hid (mgetS P = ⟨nx, ck, sd, trimL L, 0⟩) := Lib.hid (by rw [← hP]; exact mget_put hv' hs0 S1.out)
  have HSm := Lib.hid (msame_pad nx ck sd L)
  have HVt : Hid (mvalid nx ck (trimL L) = true) := Lib.hid (mvalid_trim hv')
  have HOkT : Hid (∀ x ∈ (trimL L).flatten, okInt x) := Lib.hid (wf_valid (mvalid_trim hv'))
  have HT5 := (rows_ok hv').1
  have HTl : Hid ((trimL L).flatten.length ≤ 17592186044416) := Lib.hid (by rw [trimL_flatten]; exact LL3.out)
  have HPl : Hid (P.length ≤ 4611686018427387903) := Lib.hid (by
    rw [← hP, sealS_length]
    unfold manBody
    rw [List.length_append, manHead_length, levs_length, trimL_flatten]
    have := LL3.out; omega)
  have HV := Lib.hid hv'
  clear hP hv'
  generalize hT : trimL L = T at *
  clear hT
  go_wp2_with fail
  refine (mput_c nx ck sd _ _ _ L _ ((Hx.out.ext E0.out).ext HB1.out) LL3.out HWF.out (by omega) S1.out).mono ?_
  rw [HP1.out]
  rintro e w2 ⟨rfl, hb2⟩
  have HB2 := Lib.hid (HB1.out.trans hb2)
  clear hb2 r0 r1 r2 r3
  go_wp2_with fail
  refine (mget_c P _ HPl.out).mono ?_
  rw [HG.out]
  intro e w3 hret
  obtain ⟨a3, c3, vs3, rfl, hog3, hb3⟩ := hret.out
  have hx3 := hb3.trans (ext_a1 w3 (.cells #[.int .i64 nx, .int .i64 ck, .int .u64 sd, .slice a3 T.length c3] 41))
  have HO3 := Lib.hid (hog3.ext (ext_a1 w3 (.cells #[.int .i64 nx, .int .i64 ck, .int .u64 sd, .slice a3 T.length c3] 41)))
  have HX3 := Lib.hid hx3
  have HM3 := Lib.hid (Mbx.mk w3 nx ck sd (.slice a3 T.length c3))
  have HS3 : Hid (w2.heap.size ≤ w3.heap.size) := Lib.hid hb3.size
  have HB3 := Lib.hid (HB2.out.trans hx3)
  obtain ⟨p0, p1, p2, p3, _⟩ := HM3.out.cs
  clear hret hog3 hb3 hx3
  have r0 := cell_ext HB3.out f0; have r1 := cell_ext HB3.out f1; have r2 := cell_ext HB3.out f2; have r3 := cell_ext HB3.out f3
  obtain ⟨_, _, hx3', hg3⟩ := HO3.out.grid
  cases hx3'
  have HG3 := Lib.hid hg3; clear hg3
  have HSm0 : Hid (msame nx ck sd L nx ck sd T = true) := Lib.hid (by have := HSm.out 0; rw [padL_zero] at this; exact this)
  go_wp2_with fail
  refine (msame_c _ _ _ _ _ _ L _ _ _ _ _ _ T _ ((Hx.out.ext E0.out).ext HB3.out) HG3.out).mono ?_
  rw [HSm0.out]
  rintro e w4 ⟨rfl, hb4⟩
  have s0 := cell_ext hb4 p0; have s1 := cell_ext hb4 p1; have s2 := cell_ext hb4 p2; have s3 := cell_ext hb4 p3
  have HB4 := Lib.hid hb4
  clear hb4 p0 p1 p2 p3 r0 r1 r2 r3
  go_wp2_with fail
  refine (mvalid_c nx ck sd _ _ _ T _ (HG3.out.ext HB4.out) HTl.out (fun x hx => wf_ok (HOkT.out x hx))).mono ?_
  rw [HVt.out]
  rintro e w5 ⟨rfl, hb5⟩
  have HB5 := Lib.hid (HB4.out.trans hb5)
  clear hb5 s0 s1 s2 s3
  go_wp2_with fail
  have HX0 := HX3
  go_loopw [9] (fun i w' => ∃ (k : Nat) (v : Value) (vs : List Value), k ≤ 4 ∧ i = .int .i64 k ∧ T.length + k ≤ 5 ∧ Mbx w' w3.heap.size nx ck sd v ∧ OGr w' w2.heap.size 25 3 v vs (padL T k) ∧ Below w2.heap.size w2 w' ∧ w3.heap.size < w'.heap.size) (fun i _ => 5 - (intOf i).toNat)
  case atStart => exact ⟨0, _, _, by omega, rfl, by omega, HM3.out.ext HB5.out, by rw [padL_zero]; exact HO3.out.ext HB5.out, HX3.out.trans HB5.out, by have := HB5.out.size; simp at this; omega⟩
  case round =>
    obtain ⟨k, v, vs, hk, rfl, hk5, hmb, hog, hbl, hsz⟩ := hrel
    have HMb := Lib.hid hmb; have HOg := Lib.hid hog; have HBl := Lib.hid hbl
    have hol := Lib.hid hog.own
    rw [padL_length] at hol
    obtain ⟨ak, ck', rfl⟩ := hol.out.slice
    obtain ⟨m0, m1, m2, m3, m4⟩ := hmb.cs
    clear hmb hog hbl
    by_cases hin : k < m5 ∧ T.length + k < 5
    · obtain ⟨hkm, hk5'⟩ := hin
      have hmod := HMod.out
      clear hk5
      have HOwn := Lib.hid (hol.out.ext (ext_a1 _ (.cells #[.slice none 0 0] 25)))
      have hsz2 : w2.heap.size ≤ wr.heap.size := HBl.out.size
      go_wp2_with (at_builtin; refine wpList_append_any rfl _ _ 22 rfl w2.heap.size 25 _ 1 24 Try.underlying22 Try.infoInts rfl (by decide) _ _ _ rfl HOwn.out _ _ _ [.slice none 0 0] rfl rfl (fun h => by cases h) (Rd.lit _ _ _) (by intro u hu; rw [List.mem_singleton.1 hu]; rfl) (by omega) (by omega) (by simp; omega) ?_; intro v' w8 hown' hg _; obtain ⟨ap, cp, rfl⟩ := hown'.slice; have HMb8 := Lib.hid ((HMb.out.ext (ext_a1 _ _)).same (hg.block _ (HMb.out.ext (ext_a1 _ _)).lt (by intro e; exact (HMb.out.ext (ext_a1 _ _)).apart HOwn.out (by decide) e.symm))); have ⟨_, _, _, m5', m6'⟩ := HMb8.out.cs)
      have hown2 : Own w8 w2.heap.size 25 1 (.slice ap (T.length + k + 1) cp) ((padL T k).length + 1) (vs ++ [.slice none 0 0]) := by rw [padL_length]; exact hown'
      have hgr := (HOg.out.ext (ext_a1 _ (.cells #[.slice none 0 0] 25))).push (B' := wr.heap.size) (l := []) (by decide) (Own.nil _ _ _ _) hsz2 (fun j g hh => HOg.out.lt j g hh) hown2 hg
      have hb8 := below_own (Ext.alloc (a := w2) HBl.out (.cells #[.slice none 0 0] 25)) HOwn.out hg (Nat.le_trans hsz2 (ext_a1 _ _).size)
      have hs8 := hg.size
      have HS8 : Hid (w3.heap.size < w8.heap.size) := Lib.hid (by simp at hs8; omega)
      have HGr := Lib.hid hgr; have HB8 := Lib.hid hb8; have HS8' := Lib.hid hs8
      clear hown2 hgr hb8 hown' hg hs8 hmod
      go_wp2_with fail
      go_roundw
      case rel =>
        refine ⟨k + 1, .slice ap (T.length + k + 1) cp, vs ++ [.slice none 0 0], by omega, by go_num, by omega, HMb8.out.set _, ?_, Below.setCell HB8.out (p := ⟨w3.heap.size, 3, none⟩) HS3.out _, by have := (Off.set (g := w3.heap.size) w8 3 (.slice ap (T.length + k + 1) cp)).size; have := HS8.out; omega⟩
        rw [← padL_succ]
        exact OGr.setBox HMb8.out HGr.out _ _
      case measure => simp [intOf]; omega
    · have hp5 := HP2.out k hk5
      have HPk := Lib.hid hp5
      have hsk := HSm.out k
      have HSk := Lib.hid hsk
      have hmod := HMod.out
      clear hp5 hsk
      have hlen := padL_length T k
      have HLp := Lib.hid hlen
      have hflat : (padL T k).flatten = T.flatten := padL_flatten T k
      have HFp := Lib.hid hflat
      obtain ⟨a9, c9, hx9, hg9⟩ := HOg.out.grid
      rw [hlen] at hx9 hg9
      cases hx9
      have HG9 := Lib.hid hg9
      clear hlen hflat hg9
      generalize hPL : padL T k = TK at *
      clear hPL
      have hcases : ((k < m5) ∧ ¬ ((T.length : Int) + (k : Int) < 5)) ∨ ¬ k < m5 := by omega
      have HK5 := Lib.hid hk5
      clear hin hk5
      rcases hcases with ⟨hc1, hc2⟩ | hc1
      all_goals
        go_wp2_with fail
        refine (mput_c nx ck sd _ _ _ TK _ HG9.out (by rw [HFp.out]; exact HTl.out) (fun x hx => wf_ok (HOkT.out x (by rw [← HFp.out]; exact hx))) (by omega) S1.out).mono ?_
        rw [HPk.out]
        rintro e w7 ⟨rfl, hb7⟩
        have hx7 : Ext w2 w7 := Ext.trans (a := w2) HBl.out hb7
        have HX7 := Lib.hid hx7
        have n0 := cell_ext hb7 m0; have n1 := cell_ext hb7 m1; have n2 := cell_ext hb7 m2; have n3 := cell_ext hb7 m3
        have r0 := cell_ext (HB2.out.trans hx7) f0; have r1 := cell_ext (HB2.out.trans hx7) f1; have r2 := cell_ext (HB2.out.trans hx7) f2; have r3 := cell_ext (HB2.out.trans hx7) f3
        have HG9' := Lib.hid (HG9.out.ext hb7)
        clear hb7 hx7 m0 m1 m2 m3 m4 f0 f1 f2 f3
        go_wp2_with fail
        refine (msame_c _ _ _ _ _ _ L _ _ _ _ _ _ TK _ ((Hx.out.ext E0.out).ext (HB2.out.trans HX7.out)) HG9'.out).mono ?_
        rw [HSk.out]
        rintro e w8 ⟨rfl, hb8⟩
        have HX8 := Lib.hid (HX7.out.trans hb8)
        clear hb8 n0 n1 n2 n3 r0 r1 r2 r3
        go_wp2_with fail
        refine (sealed_c _).mono ?_
        rintro e w9 ⟨rfl, hb9⟩
        have HX9 := Lib.hid (E0.out.trans (HB2.out.trans (HX8.out.trans hb9)))
        clear hb9
        go_wp2_with fail
        go_ret
        exact ⟨rfl, HX9.out⟩

end Go.Proofs.Ytkkafjknogfdnaa
