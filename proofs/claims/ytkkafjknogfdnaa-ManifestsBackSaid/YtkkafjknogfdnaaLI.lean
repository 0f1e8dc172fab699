/- Walks: the document's way to add; what is picked. -/
import Derived.Test.YtkkafjknogfdnaaChecked
import Derived.Test.YtkkafjknogfdnaaLD
import Derived.Test.YtkkafjknogfdnaaLE
import Derived.Test.YtkkafjknogfdnaaLF
import Derived.Test.YtkkafjknogfdnaaLG
namespace Go.Proofs.Ytkkafjknogfdnaa
open Go.RowKit

set_option maxRecDepth 100000 in
set_option maxHeartbeats 1600000 in
theorem refadd_c (ao : Option Addr) (n cap : Nat) (L : List (List Int)) (x : Int) (w : World) (hx : Grid w ao n cap L) (hsum : L.flatten.length ≤ 1000000000) :
    Calls Try.prog 15 #[.slice ao n cap, .int .i64 x] w (RetGE 25 3 w (addS L x)) := by
  have Hx := Lib.hid hx
  have b1 := hx.fits; have b2 := hx.bound
  have HLen := Lib.hid hx.len
  clear hx
  go_enter Try.func15, Try.ntmps15
  go_wp2_with fail
  refine (refvalid_c _ _ _ L _ Hx.out (by omega)).mono ?_
  rintro e w1 ⟨rfl, hb1⟩
  have HB1 := Lib.hid hb1
  clear hb1
  have S1 := Lib.hid (addS_arg L x); have S2 := Lib.hid (addS_full L x); have S3 := Lib.hid (addS_ok L x)
  have HRL := Lib.hid (row_le_flatten L)
  have HVL := Lib.hid (validB_len L)
  generalize hF : L.flatten = xs at *
  have HF := Lib.hid hF; clear hF
  by_cases hv : validB L = false
  · go_wp2_with fail
    go_ret2
    exact RetGE.err (S1.out (.inl hv)) HB1.out
  have hv' : validB L = true := by simpa using hv
  by_cases h0 : x < 0
  · go_wp2_with fail
    go_ret2
    exact RetGE.err (S1.out (.inr (.inl h0))) HB1.out
  go_wp2_with fail
  refine (refall_c _ _ _ L _ (Hx.out.ext HB1.out) (by rw [HF.out]; omega)).mono ?_
  rintro e w2 ⟨v2, rfl, hown, hb2⟩
  obtain ⟨a1, c1, rfl, hi⟩ := own_ints hown
  have HB2 := Lib.hid (HB1.out.trans hb2)
  rw [HF.out] at hi ⊢
  have HI := Lib.hid hi
  have f1 := hi.fits; have f2 := hi.bound
  clear hown hb2 hi
  go_wp2_with fail
  refine (has_c _ _ _ xs x _ HI.out).mono ?_
  rintro e w3 ⟨rfl, hb3⟩
  have HB3 := Lib.hid (HB2.out.trans hb3)
  clear hb3 HB2 HI
  by_cases hin : x ∈ xs
  · have hd : decide (x ∈ xs) = true := decide_eq_true hin
    have HIN := Lib.hid hin; clear hin
    go_wp2_with fail
    go_ret2
    exact RetGE.err (S1.out (.inr (.inr HIN.out))) HB3.out
  have hd : decide (x ∈ xs) = false := decide_eq_false hin
  have hno : ¬ (validB L = false ∨ x < 0 ∨ x ∈ xs) := by rintro (h | h | h); exact hv h; exact absurd h (by omega); exact hin h
  have HNO := Lib.hid hno; clear hno hin
  go_wp2_with fail
  refine (refall_c _ _ _ L _ (Hx.out.ext HB3.out) (by rw [HF.out]; omega)).mono ?_
  rintro e w4 ⟨v4, rfl, hown4, hb4⟩
  obtain ⟨a4, c4, rfl, hi4⟩ := own_ints hown4
  have HB4 := Lib.hid (HB3.out.trans hb4)
  rw [HF.out]
  have g1 := (HVL.out hv').2
  have g2 : n ≤ 5 := by have := (HVL.out hv').1; have := HLen.out; omega
  clear hown4 hb4 hi4 HB3
  by_cases h40 : xs.length = 40
  · go_wp2_with fail
    go_ret2
    exact RetGE.err (S2.out HNO.out (by omega)) HB4.out
  have hz : ((xs.length : Int) == 40) = false := by rw [beq_eq_false_iff_ne]; omega
  go_wp2_with fail
  refine (wide_c _ _ _ L _ (Hx.out.ext HB4.out) (fun i => by have := HRL.out i; omega) g2).mono ?_
  rintro e w5 ⟨v5, vs, rfl, hgr0, hb5⟩
  have HB5' := Lib.hid (HB4.out.trans hb5)
  have hgr := hgr0.base HB4.out.size
  have hM5 := wideL_length L (by have := HLen.out; omega)
  have S3' := Lib.hid (S3.out HNO.out (by omega))
  have hAR := addL_ref L x (by have := HLen.out; omega)
  have HW0 := wideL_getD L 0
  have hrow0 := HRL.out 0
  rw [← HW0] at hrow0
  generalize wideL L = M at *
  have HAR := Lib.hid hAR
  clear hgr0 hb5 HB4 S1 S2 S3 HNO HRL HW0 hAR
  obtain ⟨ag, cg, rfl⟩ := hgr.own.slice
  have hlt : 0 < M.length := by omega
  obtain ⟨G, ai, ci, e0, k1, k2, k3, k4⟩ := hgr.head (i := 0) hlt
  cases e0
  have HBel := HB5'
  have HLt := Lib.hid hlt
  obtain ⟨_, _, e, m1, m2, _⟩ := hgr.own.rd
  cases e
  have HOWN1 := Lib.hid (hgr.ext ((Ext.refl _).alloc (.cells #[.int .i64 x] 3)))
  generalize M.getD 0 [] = R at *
  have HRow := Lib.hid k3
  have HVs := Lib.hid k2
  have HM5 := Lib.hid hM5
  clear hgr k2 k3 hM5
  go_wp2_with (at_builtin; refine wpList_append_any rfl _ _ 25 rfl w.heap.size 3 _ 1 8 Try.underlying25 Try.infoInt rfl (by decide) _ _ _ rfl (HRow.out.ext ((Ext.refl _).alloc _)) _ _ _ [.int .i64 x] rfl rfl (fun h => by cases h) (Rd.lit _ _ _) (by intro u hu; rw [List.mem_singleton.1 hu]; rfl) (by omega) (by omega) (by have := HBel.out.size; simp; omega) ?_; intro v' w9 hown' hg hfr; obtain ⟨a', c', e2⟩ := hown'.slice; subst e2; obtain ⟨g', e1, d0, d1, d2, d3⟩ := HOWN1.out.cell (i := 0) (by decide) HLt.out hg (.inr (by rw [HVs.out]; rfl)); cases e1)
  have hput := HOWN1.out.put (i := 0) (by decide) rfl HLt.out (l := R ++ [x]) (by simpa using hown') hg (.inr (by rw [HVs.out]; rfl)) hfr
  have hb5 := (below_own (HBel.out.alloc (.cells #[.int .i64 x] 3)) (HRow.out.ext ((Ext.refl _).alloc _)) hg (by have := HBel.out.size; simp; omega)).setCell (p := ⟨G, 0, none⟩) k4 (.slice a' (R.length + 1) c')
  have HP := Lib.hid hput
  have HB5 := Lib.hid hb5
  clear hput hb5 hown' hg hfr
  have hgd := HP.out.grid
  obtain ⟨_, _, e, hgd⟩ := hgd
  have hlen : (M.set 0 (R ++ [x])).length = 5 := by simp [HM5.out]
  rw [List.length_set] at e
  cases e
  have HGD := Lib.hid hgd
  have HLEN := Lib.hid hlen
  clear hgd hlen
  go_wp2_with fail
  refine (reftrim_c _ _ _ (M.set 0 (R ++ [x])) _ (by have := HGD.out; rwa [List.length_set] at this)).mono ?_
  rintro e w10 ⟨rfl, hb10⟩
  have HB10 := Lib.hid hb10; clear hb10
  go_wp2_with fail
  go_ret2
  have hfin := (HP.out.ext HB10.out).cut (m := trimN (M.set 0 (R ++ [x])) M.length) (c := cg) (by simp) (by have := trimN_le (M.set 0 (R ++ [x])) M.length; omega) (trimN_le _ _) (Nat.le_refl _)
  have hT : (M.set 0 (R ++ [x])).take (trimN (M.set 0 (R ++ [x])) M.length) = addL L x := by
    rw [← HAR.out, trimL, List.length_set]
  rw [hT] at hfin
  exact RetGE.mk S3'.out hfin (HB5.out.trans (HB10.out.mono HB5.out.size))

set_option maxRecDepth 100000 in
set_option maxHeartbeats 1600000 in
theorem pick_c (ao : Option Addr) (n cap : Nat) (L : List (List Int)) (k : Int) (w : World) (hx : Grid w ao n cap L) (hsum : L.flatten.length ≤ 1000000000) (hwf : ∀ x ∈ L.flatten, (Lit.int .i64 x).wf = true) :
    Calls Try.prog 16 #[.slice ao n cap, .int .i64 k] w (RetIE 3 w (pickS L k)) := by
  have Hx := Lib.hid hx
  have b1 := hx.fits; have b2 := hx.bound
  have HLen := Lib.hid hx.len
  clear hx
  go_enter Try.func16, Try.ntmps16
  go_wp2_with fail
  refine (valid_c _ _ _ L _ Hx.out (by omega) hwf).mono ?_
  rintro e w1 ⟨rfl, hb1⟩
  have HB1 := Lib.hid hb1
  clear hb1 hwf
  have S1 := Lib.hid (pickS_arg L k); have S2 := Lib.hid (pickS_none L k); have S3 := Lib.hid (pickS_ok L k)
  have HRL := Lib.hid (row_le_flatten L)
  generalize hF : L.flatten = xs at *
  by_cases hv : validB L = false
  · go_wp2_with fail
    go_ret2
    exact RetIE.err (S1.out (.inl hv)) HB1.out
  have hv' : validB L = true := by simpa using hv
  by_cases h0 : k < 0
  · go_wp2_with fail
    go_ret2
    exact RetIE.err (S1.out (.inr (.inl h0))) HB1.out
  by_cases h5 : 5 ≤ k
  · go_wp2_with fail
    go_ret2
    exact RetIE.err (S1.out (.inr (.inr h5))) HB1.out
  have hno : ¬ (validB L = false ∨ k < 0 ∨ 5 ≤ k) := by rintro (h | h | h); exact hv h; exact absurd h (by omega); exact absurd h (by omega)
  have HNO := Lib.hid hno; clear hno
  obtain ⟨j, rfl⟩ := Int.eq_ofNat_of_zero_le (show 0 ≤ k by omega)
  rw [Int.toNat_natCast] at S2 S3
  by_cases hlt : j < n
  · obtain ⟨b, off, ai, ni, ci, rfl, c1, r1⟩ := (Hx.out.ext HB1.out).at hlt
    have hR := r1.len
    have hrl := HRL.out j
    have m1 := r1.fits; have m2 := r1.bound
    generalize L.getD j [] = R at *
    have R1 := Lib.hid r1; clear r1
    by_cases hz : ni = 0
    · have hRn : R = [] := List.eq_nil_of_length_eq_zero (by omega)
      have HRN := Lib.hid hRn; clear hRn
      subst hz
      clear hR
      go_wp2_with fail
      go_ret2
      exact RetIE.err (S2.out HNO.out HRN.out) HB1.out
    · have hRn : ¬ R = [] := by intro h; rw [h] at hR; simp at hR; omega
      have hzz : ((ni : Int) == 0) = false := by rw [beq_eq_false_iff_ne]; omega
      have HRN := Lib.hid hRn; clear hRn
      have hni : ni ≤ 1000000000 := by omega
      have HR := Lib.hid hR; clear hR
      go_wp2_with fail
      refine (clone_c _ _ _ R _ R1.out (by omega)).mono ?_
      rintro e w2 ⟨v2, rfl, hown, hb2⟩
      have HO := Lib.hid hown; have HB2 := Lib.hid hb2
      clear hown hb2
      go_wp2_with fail
      go_ret2
      refine ⟨v2, ?_, ?_, HB1.out.trans HB2.out⟩
      · rw [S3.out HNO.out HRN.out]; rfl
      · rw [S3.out HNO.out HRN.out]; exact HO.out.base HB1.out.size
  · have hRn : L.getD j [] = [] := getD_ge _ _ _ (by have := HLen.out; omega)
    have HRN := Lib.hid hRn; clear hRn
    go_wp2_with fail
    go_ret2
    exact RetIE.err (S2.out HNO.out HRN.out) HB1.out

set_option maxRecDepth 100000 in
set_option maxHeartbeats 1600000 in
theorem refpick_c (ao : Option Addr) (n cap : Nat) (L : List (List Int)) (k : Int) (w : World) (hx : Grid w ao n cap L) (hsum : L.flatten.length ≤ 1000000000) :
    Calls Try.prog 17 #[.slice ao n cap, .int .i64 k] w (RetIE 3 w (pickS L k)) := by
  have Hx := Lib.hid hx
  have b1 := hx.fits; have b2 := hx.bound
  have HLen := Lib.hid hx.len
  clear hx
  go_enter Try.func17, Try.ntmps17
  go_wp2_with fail
  refine (refvalid_c _ _ _ L _ Hx.out (by omega)).mono ?_
  rintro e w1 ⟨rfl, hb1⟩
  have HB1 := Lib.hid hb1
  clear hb1
  have S1 := Lib.hid (pickS_arg L k); have S2 := Lib.hid (pickS_none L k); have S3 := Lib.hid (pickS_ok L k)
  have HRL := Lib.hid (row_le_flatten L)
  have HVL := Lib.hid (validB_len L)
  generalize hF : L.flatten = xs at *
  by_cases hv : validB L = false
  · go_wp2_with fail
    go_ret2
    exact RetIE.err (S1.out (.inl hv)) HB1.out
  have hv' : validB L = true := by simpa using hv
  by_cases h0 : k < 0
  · go_wp2_with fail
    go_ret2
    exact RetIE.err (S1.out (.inr (.inl h0))) HB1.out
  by_cases h5 : 4 < k
  · go_wp2_with fail
    go_ret2
    exact RetIE.err (S1.out (.inr (.inr (by omega)))) HB1.out
  have hno : ¬ (validB L = false ∨ k < 0 ∨ 5 ≤ k) := by rintro (h | h | h); exact hv h; exact absurd h (by omega); exact absurd h (by omega)
  have HNO := Lib.hid hno; clear hno
  obtain ⟨j, rfl⟩ := Int.eq_ofNat_of_zero_le (show 0 ≤ k by omega)
  rw [Int.toNat_natCast] at S2 S3
  have g2 : n ≤ 5 := by have := (HVL.out hv').1; have := HLen.out; omega
  go_wp2_with fail
  refine (wide_c _ _ _ L _ (Hx.out.ext HB1.out) (fun i => by have := HRL.out i; omega) g2).mono ?_
  rintro e w5 ⟨v5, vs, rfl, hgr0, hb5⟩
  have HB5 := Lib.hid (HB1.out.trans hb5)
  have hgr := hgr0.base HB1.out.size
  have hM5 := wideL_length L (by have := HLen.out; omega)
  have HW0 := wideL_getD L j
  have hrl := HRL.out j
  obtain ⟨ag, cg, rfl⟩ := hgr.own.slice
  obtain ⟨G, ai, ci, e0, k1, k2, k3, k4⟩ := hgr.head (i := j) (by omega)
  cases e0
  obtain ⟨_, _, e, m1, m2, _⟩ := hgr.own.rd
  cases e
  rw [HW0] at k1 k2 k3
  rw [hM5] at m1 ⊢
  generalize L.getD j [] = R at *
  have HRow := Lib.hid k3
  clear hgr0 hgr hb5 HW0 k2 k3
  by_cases hz : R = []
  · have HRN := Lib.hid hz
    subst hz
    go_wp2_with fail
    go_ret2
    exact RetIE.err (S2.out HNO.out HRN.out) HB5.out
  · have hp := List.length_pos_iff.2 hz
    have hzz : ((R.length : Int) == 0) = false := by rw [beq_eq_false_iff_ne]; omega
    have HRN := Lib.hid hz; clear hz
    go_wp2_with fail
    go_ret2
    refine ⟨.slice ai R.length ci, ?_, ?_, HB5.out⟩
    · rw [S3.out HNO.out HRN.out]; rfl
    · rw [S3.out HNO.out HRN.out]; exact HRow.out

end Go.Proofs.Ytkkafjknogfdnaa
