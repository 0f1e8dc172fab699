/- Walks: a table is put behind those of the level 0. Walks: the document's way to add; what is picked. Walks: one table in the place of a level's. Walks: the document's way to put one table in the place of a level's. -/
import Derived.Test.YtmgpffknmmoggaaGreatDoorChecked
import Derived.Test.YtmgpffknmmoggaaGreatDoorG20PIndexPlay
import Derived.Test.YtmgpffknmmoggaaGreatDoorG21PIndexPlay
import Derived.Test.YtmgpffknmmoggaaGreatDoorG19PIndexPlay
set_option linter.unusedVariables false
set_option linter.unusedSimpArgs false
namespace Go.Proofs.YtmgpffknmmoggaaGreatDoor
open Go.RowKit
set_option maxRecDepth 100000 in
set_option maxHeartbeats 1600000 in
theorem add_c (ao : Option Addr) (n cap : Nat) (L : List (List Int)) (x : Int) (w : World) (hx : Grid w ao n cap L) (hsum : L.flatten.length ≤ 1000000000) (hn : n ≤ 1000000000) (hwf : ∀ x ∈ L.flatten, (Lit.int .i64 x).wf = true) :
    Calls Tryz.prog 51 #[.slice ao n cap, .int .i64 x] w (RetGE 88 3 w (addS L x)) := by
  have Hx := Lib.hid hx
  have b1 := hx.fits; have b2 := hx.bound
  have HWF := Lib.hid hwf
  clear hx hwf
  go_enter Tryz.func51, Tryz.ntmps51
  go_wp2_with fail
  refine (all_c _ _ _ L _ Hx.out (by omega)).mono ?_
  rintro e w1 ⟨v1, rfl, hown, hb1⟩
  obtain ⟨a1, c1, rfl, hi⟩ := own_ints hown
  have HB1 := Lib.hid hb1
  have HI := Lib.hid hi
  have f1 := hi.fits; have f2 := hi.bound
  clear hown hb1 hi
  have S1 := Lib.hid (addS_arg L x); have S2 := Lib.hid (addS_full L x); have S3 := Lib.hid (addS_ok L x)
  have HRL := Lib.hid (row_le_flatten L)
  have HTG := Lib.hid (trimL_getD L)
  have HAL : Hid (addL L x = (if trimL L = [] then [[]] else trimL L).set 0 (L.getD 0 [] ++ [x])) := Lib.hid rfl
  generalize hF : L.flatten = xs at *
  have HF := Lib.hid hF; clear hF
  go_wp2_with fail
  refine (valid_c _ _ _ L _ (Hx.out.ext HB1.out) (by rw [HF.out]; omega) (by rw [HF.out]; exact HWF.out)).mono ?_
  rintro e w2 ⟨rfl, hb2⟩
  have HB2 := Lib.hid (HB1.out.trans hb2)
  have HI2 := Lib.hid (HI.out.ext hb2)
  clear hb2 HI
  by_cases hv : validB L = false
  · go_wp2_with fail
    go_ret2
    exact ⟨.slice none 0 0, [], by rw [S1.out (.inl hv)]; rfl, by rw [S1.out (.inl hv)]; exact OGr.nil _ _ _ _, HB2.out⟩
  have hv' : validB L = true := by simpa using hv
  by_cases h0 : x < 0
  · go_wp2_with fail
    go_ret2
    exact ⟨.slice none 0 0, [], by rw [S1.out (.inr (.inl h0))]; rfl, by rw [S1.out (.inr (.inl h0))]; exact OGr.nil _ _ _ _, HB2.out⟩
  go_wp2_with fail
  refine (contains_c _ _ _ xs x _ HI2.out).mono ?_
  rintro e w3 ⟨rfl, hb3⟩
  have HB3 := Lib.hid (HB2.out.trans hb3)
  clear hb3 HB2
  by_cases hin : x ∈ xs
  · have hd : decide (x ∈ xs) = true := decide_eq_true hin
    have HIN := Lib.hid hin; clear hin
    go_wp2_with fail
    go_ret2
    exact ⟨.slice none 0 0, [], by rw [S1.out (.inr (.inr HIN.out))]; rfl, by rw [S1.out (.inr (.inr HIN.out))]; exact OGr.nil _ _ _ _, HB3.out⟩
  have hd : decide (x ∈ xs) = false := decide_eq_false hin
  have hno : ¬ (validB L = false ∨ x < 0 ∨ x ∈ xs) := by rintro (h | h | h); exact hv h; exact absurd h (by omega); exact hin h
  have HNO := Lib.hid hno; clear hno hin
  by_cases h40 : 40 ≤ xs.length
  · go_wp2_with fail
    go_ret2
    exact ⟨.slice none 0 0, [], by rw [S2.out HNO.out h40]; rfl, by rw [S2.out HNO.out h40]; exact OGr.nil _ _ _ _, HB3.out⟩
  go_wp2_with fail
  refine (ltrim_c _ _ _ L _ (Hx.out.ext HB3.out) (fun i => by have := HRL.out i; omega) hn).mono ?_
  rintro e w4 ⟨v4, vs4, rfl, hgr, hb4⟩
  obtain ⟨a4, c4, rfl, hgd⟩ := hgr.grid
  have HGD := Lib.hid hgd
  have HB4 := Lib.hid (HB3.out.trans hb4)
  have hgr' := hgr.base HB3.out.size
  clear hb4 hgr HB3
  have q1 := hgd.fits; have q2 := hgd.bound
  clear hgd
  have hrow0 := HRL.out 0
  have S3' := Lib.hid (S3.out HNO.out h40)
  clear S1 S2 S3 HNO HI2 HRL
  have HGR := Lib.hid hgr'; clear hgr'
  go_upto_if 31 with fail
  go_cut [7] (fun v w' => ∃ (M : List (List Int)) (vs : List Value) (G c : Nat), v = .slice (some ⟨G, 0, none⟩) M.length c ∧ OGr w' w.heap.size 88 3 v vs M ∧ 0 < M.length ∧ M.set 0 (M.getD 0 [] ++ [x]) = addL L x ∧ (M.getD 0 []).length ≤ xs.length ∧ Ext w w')
  case first =>
    by_cases ht : trimL L = []
    · have hal : [[]].set 0 ([[]].getD 0 [] ++ [x]) = addL L x := by rw [HAL.out, if_pos ht, ← HTG.out, ht]; rfl
      have HFIN := Lib.hid hal; clear hal HAL
      rw [ht]
      clear ht
      go_wp2_with fail
      go_meet
      exact ⟨[[]], _, _, _, rfl, OGr.one _ HB4.out.size, by decide, HFIN.out, by simp, HB4.out.alloc _⟩
    · have hpos : 0 < (trimL L).length := List.length_pos_iff.2 ht
      have hal : (trimL L).set 0 (L.getD 0 [] ++ [x]) = addL L x := by rw [HAL.out, if_neg ht]
      have hz : (((trimL L).length : Int) == 0) = false := by rw [beq_eq_false_iff_ne]; omega
      obtain ⟨G, ai, ci, e0, _⟩ := HGR.out.head (i := 0) hpos
      cases e0
      have HFIN := Lib.hid hal; clear hal HAL ht
      have HPOS := Lib.hid hpos; clear hpos
      go_wp2_with fail
      go_meet
      exact ⟨trimL L, _, _, _, rfl, HGR.out, HPOS.out, by rw [HTG.out]; exact HFIN.out, by rw [HTG.out]; exact hrow0, HB4.out⟩
  case rest =>
    obtain ⟨M, vs, G, c, rfl, hgr, hlt, hfin, hrow, hbel⟩ := hcut
    have HFIN := Lib.hid hfin
    have HBel := Lib.hid hbel
    have HLt := Lib.hid hlt
    obtain ⟨g, ai, ci, e0, k1, k2, k3, k4⟩ := hgr.head (i := 0) hlt
    cases e0
    have h1 := hgr.own.rd
    obtain ⟨_, _, e, m1, m2, _⟩ := h1
    cases e
    have HOWN1 := Lib.hid (hgr.ext ((Ext.refl _).alloc (.cells #[.int .i64 x] 3)))
    generalize M.getD 0 [] = R at *
    have HRow := Lib.hid k3
    have HVs := Lib.hid k2
    clear HGR HGD HAL HTG hfin hbel hgr k2 k3 HB4 hrow0
    go_wp2_with (at_builtin; refine wpList_append_any rfl _ _ 88 rfl w.heap.size 3 _ 1 8 Tryz.underlying88 Tryz.infoInt rfl (by decide) _ _ _ rfl (HRow.out.ext ((Ext.refl _).alloc _)) _ _ _ [.int .i64 x] rfl rfl (fun h => by cases h) (Rd.lit _ _ _) (by intro u hu; rw [List.mem_singleton.1 hu]; rfl) (by omega) (by omega) (by have := HBel.out.size; simp; omega) ?_; intro v' w5 hown' hg hfr; obtain ⟨a', c', e2⟩ := hown'.slice; subst e2; obtain ⟨g', e1, d0, d1, d2, d3⟩ := HOWN1.out.cell (i := 0) (by decide) HLt.out hg (.inr (by rw [HVs.out]; rfl)); cases e1)
    have hput := HOWN1.out.put (i := 0) (by decide) rfl HLt.out (l := R ++ [x]) (by simpa using hown') hg (.inr (by rw [HVs.out]; rfl)) hfr
    have hb5 := (below_own (HBel.out.alloc (.cells #[.int .i64 x] 3)) (HRow.out.ext ((Ext.refl _).alloc _)) hg (by have := HBel.out.size; simp; omega)).setCell (p := ⟨G, 0, none⟩) k4 (.slice a' (R.length + 1) c')
    have HP := Lib.hid hput
    have HB5 := Lib.hid hb5
    clear hput hb5 hown' hg hfr
    go_wp2_with fail
    go_ret2
    refine ⟨.slice (some ⟨G, 0, none⟩) M.length c, vs.set 0 (.slice a' (R.length + 1) c'), ?_, ?_, HB5.out⟩
    · rw [S3'.out]; rfl
    · rw [S3'.out]; exact HFIN.out ▸ HP.out
end Go.Proofs.YtmgpffknmmoggaaGreatDoor
namespace Go.Proofs.YtmgpffknmmoggaaGreatDoor
open Go.RowKit
set_option maxRecDepth 100000 in
set_option maxHeartbeats 1600000 in
theorem refadd_c (ao : Option Addr) (n cap : Nat) (L : List (List Int)) (x : Int) (w : World) (hx : Grid w ao n cap L) (hsum : L.flatten.length ≤ 1000000000) :
    Calls Tryz.prog 55 #[.slice ao n cap, .int .i64 x] w (RetGE 88 3 w (addS L x)) := by
  have Hx := Lib.hid hx
  have b1 := hx.fits; have b2 := hx.bound
  have HLen := Lib.hid hx.len
  clear hx
  go_enter Tryz.func55, Tryz.ntmps55
  go_wp2_with fail
  refine (refvalid_c _ _ _ L _ Hx.out (by omega)).mono ?_
  rintro e w1 ⟨rfl, hb1⟩
  have HB1 := Lib.hid hb1
  clear hb1
  have S1 := Lib.hid (addS_arg L x); have S2 := Lib.hid (addS_full L x); have S3 := Lib.hid (addS_ok L x)
  have HRL := Lib.hid (row_le_flatten L)
  have HVL := Lib.hid (validB_len L)
  generalize hF : L.flatten = xs at *
  have HF := Lib.hid hF; clear hF
  by_cases hv : validB L = false
  · go_wp2_with fail
    go_ret2
    exact RetGE.err (S1.out (.inl hv)) HB1.out
  have hv' : validB L = true := by simpa using hv
  by_cases h0 : x < 0
  · go_wp2_with fail
    go_ret2
    exact RetGE.err (S1.out (.inr (.inl h0))) HB1.out
  go_wp2_with fail
  refine (refall_c _ _ _ L _ (Hx.out.ext HB1.out) (by rw [HF.out]; omega)).mono ?_
  rintro e w2 ⟨v2, rfl, hown, hb2⟩
  obtain ⟨a1, c1, rfl, hi⟩ := own_ints hown
  have HB2 := Lib.hid (HB1.out.trans hb2)
  rw [HF.out] at hi ⊢
  have HI := Lib.hid hi
  have f1 := hi.fits; have f2 := hi.bound
  clear hown hb2 hi
  go_wp2_with fail
  refine (has_c _ _ _ xs x _ HI.out).mono ?_
  rintro e w3 ⟨rfl, hb3⟩
  have HB3 := Lib.hid (HB2.out.trans hb3)
  clear hb3 HB2 HI
  by_cases hin : x ∈ xs
  · have hd : decide (x ∈ xs) = true := decide_eq_true hin
    have HIN := Lib.hid hin; clear hin
    go_wp2_with fail
    go_ret2
    exact RetGE.err (S1.out (.inr (.inr HIN.out))) HB3.out
  have hd : decide (x ∈ xs) = false := decide_eq_false hin
  have hno : ¬ (validB L = false ∨ x < 0 ∨ x ∈ xs) := by rintro (h | h | h); exact hv h; exact absurd h (by omega); exact hin h
  have HNO := Lib.hid hno; clear hno hin
  go_wp2_with fail
  refine (refall_c _ _ _ L _ (Hx.out.ext HB3.out) (by rw [HF.out]; omega)).mono ?_
  rintro e w4 ⟨v4, rfl, hown4, hb4⟩
  obtain ⟨a4, c4, rfl, hi4⟩ := own_ints hown4
  have HB4 := Lib.hid (HB3.out.trans hb4)
  rw [HF.out]
  have g1 := (HVL.out hv').2
  have g2 : n ≤ 5 := by have := (HVL.out hv').1; have := HLen.out; omega
  clear hown4 hb4 hi4 HB3
  by_cases h40 : xs.length = 40
  · go_wp2_with fail
    go_ret2
    exact RetGE.err (S2.out HNO.out (by omega)) HB4.out
  have hz : ((xs.length : Int) == 40) = false := by rw [beq_eq_false_iff_ne]; omega
  go_wp2_with fail
  refine (wide_c _ _ _ L _ (Hx.out.ext HB4.out) (fun i => by have := HRL.out i; omega) g2).mono ?_
  rintro e w5 ⟨v5, vs, rfl, hgr0, hb5⟩
  have HB5' := Lib.hid (HB4.out.trans hb5)
  have hgr := hgr0.base HB4.out.size
  have hM5 := wideL_length L (by have := HLen.out; omega)
  have S3' := Lib.hid (S3.out HNO.out (by omega))
  have hAR := addL_ref L x (by have := HLen.out; omega)
  have HW0 := wideL_getD L 0
  have hrow0 := HRL.out 0
  rw [← HW0] at hrow0
  generalize wideL L = M at *
  have HAR := Lib.hid hAR
  clear hgr0 hb5 HB4 S1 S2 S3 HNO HRL HW0 hAR
  obtain ⟨ag, cg, rfl⟩ := hgr.own.slice
  have hlt : 0 < M.length := by omega
  obtain ⟨G, ai, ci, e0, k1, k2, k3, k4⟩ := hgr.head (i := 0) hlt
  cases e0
  have HBel := HB5'
  have HLt := Lib.hid hlt
  obtain ⟨_, _, e, m1, m2, _⟩ := hgr.own.rd
  cases e
  have HOWN1 := Lib.hid (hgr.ext ((Ext.refl _).alloc (.cells #[.int .i64 x] 3)))
  generalize M.getD 0 [] = R at *
  have HRow := Lib.hid k3
  have HVs := Lib.hid k2
  have HM5 := Lib.hid hM5
  clear hgr k2 k3 hM5
  go_wp2_with (at_builtin; refine wpList_append_any rfl _ _ 88 rfl w.heap.size 3 _ 1 8 Tryz.underlying88 Tryz.infoInt rfl (by decide) _ _ _ rfl (HRow.out.ext ((Ext.refl _).alloc _)) _ _ _ [.int .i64 x] rfl rfl (fun h => by cases h) (Rd.lit _ _ _) (by intro u hu; rw [List.mem_singleton.1 hu]; rfl) (by omega) (by omega) (by have := HBel.out.size; simp; omega) ?_; intro v' w9 hown' hg hfr; obtain ⟨a', c', e2⟩ := hown'.slice; subst e2; obtain ⟨g', e1, d0, d1, d2, d3⟩ := HOWN1.out.cell (i := 0) (by decide) HLt.out hg (.inr (by rw [HVs.out]; rfl)); cases e1)
  have hput := HOWN1.out.put (i := 0) (by decide) rfl HLt.out (l := R ++ [x]) (by simpa using hown') hg (.inr (by rw [HVs.out]; rfl)) hfr
  have hb5 := (below_own (HBel.out.alloc (.cells #[.int .i64 x] 3)) (HRow.out.ext ((Ext.refl _).alloc _)) hg (by have := HBel.out.size; simp; omega)).setCell (p := ⟨G, 0, none⟩) k4 (.slice a' (R.length + 1) c')
  have HP := Lib.hid hput
  have HB5 := Lib.hid hb5
  clear hput hb5 hown' hg hfr
  have hgd := HP.out.grid
  obtain ⟨_, _, e, hgd⟩ := hgd
  have hlen : (M.set 0 (R ++ [x])).length = 5 := by simp [HM5.out]
  rw [List.length_set] at e
  cases e
  have HGD := Lib.hid hgd
  have HLEN := Lib.hid hlen
  clear hgd hlen
  go_wp2_with fail
  refine (reftrim_c _ _ _ (M.set 0 (R ++ [x])) _ (by have := HGD.out; rwa [List.length_set] at this)).mono ?_
  rintro e w10 ⟨rfl, hb10⟩
  have HB10 := Lib.hid hb10; clear hb10
  go_wp2_with fail
  go_ret2
  have hfin := (HP.out.ext HB10.out).cut (m := trimN (M.set 0 (R ++ [x])) M.length) (c := cg) (by simp) (by have := trimN_le (M.set 0 (R ++ [x])) M.length; omega) (trimN_le _ _) (Nat.le_refl _)
  have hT : (M.set 0 (R ++ [x])).take (trimN (M.set 0 (R ++ [x])) M.length) = addL L x := by
    rw [← HAR.out, trimL, List.length_set]
  rw [hT] at hfin
  exact RetGE.mk S3'.out hfin (HB5.out.trans (HB10.out.mono HB5.out.size))
set_option maxRecDepth 100000 in
set_option maxHeartbeats 1600000 in
theorem pick_c (ao : Option Addr) (n cap : Nat) (L : List (List Int)) (k : Int) (w : World) (hx : Grid w ao n cap L) (hsum : L.flatten.length ≤ 1000000000) (hwf : ∀ x ∈ L.flatten, (Lit.int .i64 x).wf = true) :
    Calls Tryz.prog 56 #[.slice ao n cap, .int .i64 k] w (RetIE 3 w (pickS L k)) := by
  have Hx := Lib.hid hx
  have b1 := hx.fits; have b2 := hx.bound
  have HLen := Lib.hid hx.len
  clear hx
  go_enter Tryz.func56, Tryz.ntmps56
  go_wp2_with fail
  refine (valid_c _ _ _ L _ Hx.out (by omega) hwf).mono ?_
  rintro e w1 ⟨rfl, hb1⟩
  have HB1 := Lib.hid hb1
  clear hb1 hwf
  have S1 := Lib.hid (pickS_arg L k); have S2 := Lib.hid (pickS_none L k); have S3 := Lib.hid (pickS_ok L k)
  have HRL := Lib.hid (row_le_flatten L)
  generalize hF : L.flatten = xs at *
  by_cases hv : validB L = false
  · go_wp2_with fail
    go_ret2
    exact RetIE.err (S1.out (.inl hv)) HB1.out
  have hv' : validB L = true := by simpa using hv
  by_cases h0 : k < 0
  · go_wp2_with fail
    go_ret2
    exact RetIE.err (S1.out (.inr (.inl h0))) HB1.out
  by_cases h5 : 5 ≤ k
  · go_wp2_with fail
    go_ret2
    exact RetIE.err (S1.out (.inr (.inr h5))) HB1.out
  have hno : ¬ (validB L = false ∨ k < 0 ∨ 5 ≤ k) := by rintro (h | h | h); exact hv h; exact absurd h (by omega); exact absurd h (by omega)
  have HNO := Lib.hid hno; clear hno
  obtain ⟨j, rfl⟩ := Int.eq_ofNat_of_zero_le (show 0 ≤ k by omega)
  rw [Int.toNat_natCast] at S2 S3
  by_cases hlt : j < n
  · obtain ⟨b, off, ai, ni, ci, rfl, c1, r1⟩ := (Hx.out.ext HB1.out).at hlt
    have hR := r1.len
    have hrl := HRL.out j
    have m1 := r1.fits; have m2 := r1.bound
    generalize L.getD j [] = R at *
    have R1 := Lib.hid r1; clear r1
    by_cases hz : ni = 0
    · have hRn : R = [] := List.eq_nil_of_length_eq_zero (by omega)
      have HRN := Lib.hid hRn; clear hRn
      subst hz
      clear hR
      go_wp2_with fail
      go_ret2
      exact RetIE.err (S2.out HNO.out HRN.out) HB1.out
    · have hRn : ¬ R = [] := by intro h; rw [h] at hR; simp at hR; omega
      have hzz : ((ni : Int) == 0) = false := by rw [beq_eq_false_iff_ne]; omega
      have HRN := Lib.hid hRn; clear hRn
      have hni : ni ≤ 1000000000 := by omega
      have HR := Lib.hid hR; clear hR
      go_wp2_with fail
      refine (clone_c _ _ _ R _ R1.out (by omega)).mono ?_
      rintro e w2 ⟨v2, rfl, hown, hb2⟩
      have HO := Lib.hid hown; have HB2 := Lib.hid hb2
      clear hown hb2
      go_wp2_with fail
      go_ret2
      refine ⟨v2, ?_, ?_, HB1.out.trans HB2.out⟩
      · rw [S3.out HNO.out HRN.out]; rfl
      · rw [S3.out HNO.out HRN.out]; exact HO.out.base HB1.out.size
  · have hRn : L.getD j [] = [] := getD_ge _ _ _ (by have := HLen.out; omega)
    have HRN := Lib.hid hRn; clear hRn
    go_wp2_with fail
    go_ret2
    exact RetIE.err (S2.out HNO.out HRN.out) HB1.out
set_option maxRecDepth 100000 in
set_option maxHeartbeats 1600000 in
theorem refpick_c (ao : Option Addr) (n cap : Nat) (L : List (List Int)) (k : Int) (w : World) (hx : Grid w ao n cap L) (hsum : L.flatten.length ≤ 1000000000) :
    Calls Tryz.prog 127 #[.slice ao n cap, .int .i64 k] w (RetIE 3 w (pickS L k)) := by
  have Hx := Lib.hid hx
  have b1 := hx.fits; have b2 := hx.bound
  have HLen := Lib.hid hx.len
  clear hx
  go_enter Tryz.func127, Tryz.ntmps127
  go_wp2_with fail
  refine (refvalid_c _ _ _ L _ Hx.out (by omega)).mono ?_
  rintro e w1 ⟨rfl, hb1⟩
  have HB1 := Lib.hid hb1
  clear hb1
  have S1 := Lib.hid (pickS_arg L k); have S2 := Lib.hid (pickS_none L k); have S3 := Lib.hid (pickS_ok L k)
  have HRL := Lib.hid (row_le_flatten L)
  have HVL := Lib.hid (validB_len L)
  generalize hF : L.flatten = xs at *
  by_cases hv : validB L = false
  · go_wp2_with fail
    go_ret2
    exact RetIE.err (S1.out (.inl hv)) HB1.out
  have hv' : validB L = true := by simpa using hv
  by_cases h0 : k < 0
  · go_wp2_with fail
    go_ret2
    exact RetIE.err (S1.out (.inr (.inl h0))) HB1.out
  by_cases h5 : 4 < k
  · go_wp2_with fail
    go_ret2
    exact RetIE.err (S1.out (.inr (.inr (by omega)))) HB1.out
  have hno : ¬ (validB L = false ∨ k < 0 ∨ 5 ≤ k) := by rintro (h | h | h); exact hv h; exact absurd h (by omega); exact absurd h (by omega)
  have HNO := Lib.hid hno; clear hno
  obtain ⟨j, rfl⟩ := Int.eq_ofNat_of_zero_le (show 0 ≤ k by omega)
  rw [Int.toNat_natCast] at S2 S3
  have g2 : n ≤ 5 := by have := (HVL.out hv').1; have := HLen.out; omega
  go_wp2_with fail
  refine (wide_c _ _ _ L _ (Hx.out.ext HB1.out) (fun i => by have := HRL.out i; omega) g2).mono ?_
  rintro e w5 ⟨v5, vs, rfl, hgr0, hb5⟩
  have HB5 := Lib.hid (HB1.out.trans hb5)
  have hgr := hgr0.base HB1.out.size
  have hM5 := wideL_length L (by have := HLen.out; omega)
  have HW0 := wideL_getD L j
  have hrl := HRL.out j
  obtain ⟨ag, cg, rfl⟩ := hgr.own.slice
  obtain ⟨G, ai, ci, e0, k1, k2, k3, k4⟩ := hgr.head (i := j) (by omega)
  cases e0
  obtain ⟨_, _, e, m1, m2, _⟩ := hgr.own.rd
  cases e
  rw [HW0] at k1 k2 k3
  rw [hM5] at m1 ⊢
  generalize L.getD j [] = R at *
  have HRow := Lib.hid k3
  clear hgr0 hgr hb5 HW0 k2 k3
  by_cases hz : R = []
  · have HRN := Lib.hid hz
    subst hz
    go_wp2_with fail
    go_ret2
    exact RetIE.err (S2.out HNO.out HRN.out) HB5.out
  · have hp := List.length_pos_iff.2 hz
    have hzz : ((R.length : Int) == 0) = false := by rw [beq_eq_false_iff_ne]; omega
    have HRN := Lib.hid hz; clear hz
    go_wp2_with fail
    go_ret2
    refine ⟨.slice ai R.length ci, ?_, ?_, HB5.out⟩
    · rw [S3.out HNO.out HRN.out]; rfl
    · rw [S3.out HNO.out HRN.out]; exact HRow.out
end Go.Proofs.YtmgpffknmmoggaaGreatDoor
namespace Go.Proofs.YtmgpffknmmoggaaGreatDoor
open Go.RowKit
theorem OGr.cell0 {w : World} {B : Nat} {tO tI : TypeId} {vs : List Value} {L : List (List Int)} {i n cap : Nat} {ao : Option Addr} (h : OGr w B tO tI (.slice ao n cap) vs L) (hne : tO ≠ tI) (hi : i < L.length) :
    ∃ g, ao = some ⟨g, 0, none⟩ ∧ w.cell? ⟨g, i, none⟩ = some (vs.getD i (.slice none 0 0)) ∧ w.frozen? ⟨g, i, none⟩ = false ∧ B ≤ g := by
  obtain ⟨g, h1, h2, _, h3, h4⟩ := h.cell hne hi (World.grownBy.refl w none) (.inl rfl)
  exact ⟨g, h1, h2, h3, h4⟩
theorem OGr.addr {w : World} {B : Nat} {tO tI : TypeId} {v : Value} {vs : List Value} {L : List (List Int)} (h : OGr w B tO tI v vs L) (hi : 0 < L.length) : ∃ G c, v = .slice (some ⟨G, 0, none⟩) L.length c := by
  obtain ⟨a, c, rfl⟩ := h.own.slice
  obtain ⟨g, _, _, rfl, _⟩ := h.head hi
  exact ⟨g, c, rfl⟩
theorem OGr.strike {w : World} {B : Nat} {tO tI : TypeId} {vs : List Value} {L : List (List Int)} {i g n cap : Nat} (h : OGr w B tO tI (.slice (some ⟨g, 0, none⟩) n cap) vs L) (hne : tO ≠ tI) (hi : i < L.length) :
    OGr (w.setCell ⟨g, i, none⟩ (.slice none 0 0)) B tO tI (.slice (some ⟨g, 0, none⟩) n cap) (vs.set i (.slice none 0 0)) (L.set i []) :=
  h.put (l := []) hne rfl hi (Own.nil _ _ _ _) (World.grownBy.refl w none) (.inl rfl) (.inl rfl)
set_option maxRecDepth 100000 in
set_option maxHeartbeats 3200000 in
theorem replace_c (ao : Option Addr) (n cap : Nat) (L : List (List Int)) (k x : Int) (w : World) (hx : Grid w ao n cap L) (hsum : L.flatten.length ≤ 1000000000) (hn : n ≤ 1000000000) (hwf : ∀ x ∈ L.flatten, (Lit.int .i64 x).wf = true) :
    Calls Tryz.prog 58 #[.slice ao n cap, .int .i64 k, .int .i64 x] w (RetGE 88 3 w (replaceS L k x)) := by
  have Hx := Lib.hid hx
  have b1 := hx.fits; have b2 := hx.bound
  have HLen := Lib.hid hx.len
  clear hx
  go_enter Tryz.func58, Tryz.ntmps58
  go_wp2_with fail
  refine (pick_c _ _ _ L k _ Hx.out (by omega) hwf).mono ?_
  rintro e w1 ⟨v1, rfl, hown, hb1⟩
  obtain ⟨a1, c1, rfl⟩ := hown.slice
  have HB1 := Lib.hid hb1
  clear hb1 hown hwf
  have S1 := Lib.hid (replaceS_err L k x); have S2 := Lib.hid (replaceS_arg L k x); have S3 := Lib.hid (replaceS_ok L k x)
  have HPZ := Lib.hid (pickS_zero L k)
  have HRL := Lib.hid (row_le_flatten L)
  have HVL := Lib.hid (validB_len L)
  generalize hF : L.flatten = xs at *
  have HF := Lib.hid hF; clear hF
  generalize (pickS L k).1.length = pl at *
  generalize (pickS L k).2 = pe at *
  by_cases hp : pe ≠ 0
  · have hp1 : (pe != 0) = true := by simpa using hp
    have HPP := Lib.hid hp; clear hp
    go_wp2_with fail
    go_ret2
    exact RetGE.err (S1.out HPP.out) HB1.out
  have hp : pe = 0 := by omega
  obtain ⟨z1, z2, z3, z4⟩ := HPZ.out (by omega)
  have S2' := Lib.hid (S2.out (by omega)); have S3' := Lib.hid (S3.out (by omega))
  subst hp
  obtain ⟨j, rfl⟩ := Int.eq_ofNat_of_zero_le z2
  rw [Int.toNat_natCast] at z4 S3'
  have hj : j < 5 := by omega
  have h5 := (HVL.out z1).1
  have hrepP := repP_eq L j x h5 hj z4
  have hjt := lt_trimL L j z4
  have htl : (trimL L).length ≤ 5 := by have := trimN_le L L.length; rw [trimL_length]; omega
  have HRP := Lib.hid hrepP; have HJT := Lib.hid hjt
  clear S1 S2 S3 HPZ HVL z1 z2 z3 z4 hrepP hjt h5
  by_cases h0 : x < 0
  · go_wp2_with fail
    go_ret2
    exact RetGE.err (S2'.out (.inl h0)) HB1.out
  go_wp2_with fail
  refine (all_c _ _ _ L _ (Hx.out.ext HB1.out) (by rw [HF.out]; omega)).mono ?_
  rintro e w2 ⟨v2, rfl, hown, hb2⟩
  obtain ⟨a2, c2, rfl, hi⟩ := own_ints hown
  have HB2 := Lib.hid (HB1.out.trans hb2)
  rw [HF.out] at hi ⊢
  have HI := Lib.hid hi
  have f1 := hi.fits; have f2 := hi.bound
  clear hown hb2 hi
  go_wp2_with fail
  refine (contains_c _ _ _ xs x _ HI.out).mono ?_
  rintro e w3 ⟨rfl, hb3⟩
  have HB3 := Lib.hid (HB2.out.trans hb3)
  clear hb3 HB2 HI
  by_cases hin : x ∈ xs
  · have hd : decide (x ∈ xs) = true := decide_eq_true hin
    have HIN := Lib.hid hin; clear hin
    go_wp2_with fail
    go_ret2
    exact RetGE.err (S2'.out (.inr HIN.out)) HB3.out
  have hd : decide (x ∈ xs) = false := decide_eq_false hin
  have hno : ¬ (x < 0 ∨ x ∈ xs) := by rintro (h | h); exact absurd h (by omega); exact hin h
  have S3 := Lib.hid (S3'.out hno); clear hno hin S2' S3'
  go_wp2_with fail
  refine (ltrim_c _ _ _ L _ (Hx.out.ext HB3.out) (fun i => by have := HRL.out i; omega) hn).mono ?_
  rintro e w4 ⟨v4, vs4, rfl, hgr0, hb4⟩
  have HB4 := Lib.hid (HB3.out.trans hb4)
  have hgr := hgr0.base HB3.out.size
  clear hgr0 hb4 HB3
  obtain ⟨a4, c4, rfl⟩ := hgr.own.slice
  have hTR : ∀ i, ((trimL L).getD i []).length ≤ xs.length := fun i => by rw [trimL_getD]; exact HRL.out i
  have HTR := Lib.hid hTR
  have hRPe : repL L j x = (if ((trimL L).set j []).length ≤ min (j + 1) 4 then (trimL L).set j [] ++ [[]] else (trimL L).set j []).set (min (j + 1) 4) ((if ((trimL L).set j []).length ≤ min (j + 1) 4 then (trimL L).set j [] ++ [[]] else (trimL L).set j []).getD (min (j + 1) 4) [] ++ [x]) := HRP.out.symm
  have HRPE := Lib.hid hRPe
  clear hTR hRPe HRP
  generalize trimL L = T at *
  obtain ⟨G, e0, d0, d1, d2⟩ := hgr.cell0 (by decide) HJT.out
  cases e0
  have hst := hgr.strike (by decide) HJT.out
  have hbs : Ext w (w4.setCell ⟨G, j, none⟩ (.slice none 0 0)) := HB4.out.setCell (p := ⟨G, j, none⟩) d2 _
  obtain ⟨_, _, e, m1, m2, _⟩ := hgr.own.rd
  cases e
  have HST := Lib.hid hst; have HBS := Lib.hid hbs
  have hM1 : (T.set j []).length = T.length := List.length_set
  have hjt := HJT.out
  have hM1r : ∀ i, ((T.set j []).getD i []).length ≤ xs.length := by
    intro i; rw [getD_set _ _ _ _ _ hjt]; split
    · simp
    · exact HTR.out i
  have HM1R := Lib.hid hM1r
  clear hgr hst hbs hM1r HTR
  obtain ⟨t, ht⟩ : ∃ t : Nat, t = min (j + 1) 4 := ⟨_, rfl⟩
  have hmin : (if (4 : Int) < (j : Int) + 1 then (4 : Int) else (j : Int) + 1) = (t : Int) := by split <;> omega
  have t1 : t ≤ 4 := by omega
  have t2 : T.length ≤ t → t = T.length := by omega
  have HT2 := Lib.hid t2
  rw [← ht, hM1] at HRPE
  have HM1 := Lib.hid hM1
  have HT := Lib.hid ht
  clear t2 hM1 hjt ht
  go_upto_if 42 with fail
  generalize w4.setCell ⟨G, j, none⟩ (.slice none 0 0) = W at *
  go_cut [10] (fun v w' => ∃ (M : List (List Int)) (vs : List Value) (G c : Nat), v = .slice (some ⟨G, 0, none⟩) M.length c ∧ OGr w' w.heap.size 88 3 v vs M ∧ t < M.length ∧ M.set t (M.getD t [] ++ [x]) = repL L j x ∧ (M.getD t []).length ≤ xs.length ∧ Ext w w')
  case first =>
    by_cases hle : T.length ≤ t
    · have hfin : (T.set j [] ++ [[]]).set t ((T.set j [] ++ [[]]).getD t [] ++ [x]) = repL L j x := by rw [HRPE.out, if_pos hle]
      have HFIN := Lib.hid hfin; clear hfin HRPE
      have HTE := Lib.hid (HT2.out hle)
      have hout := HST.out.ext ((Ext.refl _).alloc (.cells #[.slice none 0 0] 88))
      have HOut := Lib.hid hout
      clear hout
      go_wp2_with (at_builtin; refine wpList_append_any rfl _ _ 36 rfl w.heap.size 88 _ 1 24 Tryz.underlying36 Tryz.infoInts rfl (by decide) _ _ _ rfl HOut.out.own _ _ _ [.slice none 0 0] rfl rfl (fun h => by cases h) (Rd.lit _ _ _) (by intro u hu; rw [List.mem_singleton.1 hu]; rfl) (by rw [HM1.out]; omega) (by rw [HM1.out]; omega) (by have := HBS.out.size; simp; omega) ?_; intro v' w6 hown' hg _)
      have hb6 := below_own (HBS.out.alloc (.cells #[.slice none 0 0] 88)) HOut.out.own hg (by have := HBS.out.size; simp; omega)
      have hgr6 := HOut.out.push (l := []) (B' := (W.alloc (.cells #[.slice none 0 0] 88)).heap.size) (by decide) (Own.nil _ _ _ _) (by have := HBS.out.size; simp; omega) HOut.out.lt hown' hg
      obtain ⟨G6, c6, e6⟩ := hgr6.addr (by simp)
      subst e6
      have HG6 := Lib.hid hgr6; have HB6 := Lib.hid hb6
      clear hgr6 hb6 hown' hg
      go_wp2_with fail
      go_meet
      exact ⟨T.set j [] ++ [[]], _, G6, c6, by simp, HG6.out, by have := HTE.out; have := HM1.out; simp; omega, HFIN.out, by rw [getD_snoc]; split; exact HM1R.out _; split <;> simp, HB6.out⟩
    · have hfin : (T.set j []).set t ((T.set j []).getD t [] ++ [x]) = repL L j x := by rw [HRPE.out, if_neg hle]
      have HFIN := Lib.hid hfin; clear hfin HRPE
      go_wp2_with fail
      go_meet
      exact ⟨_, _, _, _, by rw [HM1.out], HST.out, by rw [HM1.out]; omega, HFIN.out, HM1R.out _, HBS.out⟩
  case rest =>
    obtain ⟨M, vs, G, c, rfl, hgr, hlt, hfin, hrow, hbel⟩ := hcut
    have HFIN := Lib.hid hfin
    have HBel := Lib.hid hbel
    have HLt := Lib.hid hlt
    obtain ⟨g, ai, ci, e0, k1, k2, k3, k4⟩ := hgr.head (i := t) hlt
    cases e0
    obtain ⟨_, _, e, m3, m4, _⟩ := hgr.own.rd
    cases e
    have HOWN1 := Lib.hid (hgr.ext ((Ext.refl _).alloc (.cells #[.int .i64 x] 3)))
    generalize M.getD t [] = R at *
    have HRow := Lib.hid k3
    have HVs := Lib.hid k2
    clear HRPE hfin hbel hgr k2 k3 HB4 HST HBS HM1R HM1
    go_wp2_with (at_builtin; refine wpList_append_any rfl _ _ 88 rfl w.heap.size 3 _ 1 8 Tryz.underlying88 Tryz.infoInt rfl (by decide) _ _ _ rfl (HRow.out.ext ((Ext.refl _).alloc _)) _ _ _ [.int .i64 x] rfl rfl (fun h => by cases h) (Rd.lit _ _ _) (by intro u hu; rw [List.mem_singleton.1 hu]; rfl) (by omega) (by omega) (by have := HBel.out.size; simp; omega) ?_; intro v' w9 hown' hg hfr; obtain ⟨a', c', e2⟩ := hown'.slice; subst e2; obtain ⟨g', e1, d0, d1, d2, d3⟩ := HOWN1.out.cell (i := t) (by decide) HLt.out hg (.inr (by rw [HVs.out]; rfl)); cases e1)
    have hput := HOWN1.out.put (i := t) (by decide) rfl HLt.out (l := R ++ [x]) (by simpa using hown') hg (.inr (by rw [HVs.out]; rfl)) hfr
    have hb5 := (below_own (HBel.out.alloc (.cells #[.int .i64 x] 3)) (HRow.out.ext ((Ext.refl _).alloc _)) hg (by have := HBel.out.size; simp; omega)).setCell (p := ⟨G, t, none⟩) k4 (.slice a' (R.length + 1) c')
    have HP := Lib.hid hput
    have HB5 := Lib.hid hb5
    clear hput hb5 hown' hg hfr
    go_wp2_with fail
    go_ret2
    exact RetGE.mk S3.out (HFIN.out ▸ HP.out) HB5.out
end Go.Proofs.YtmgpffknmmoggaaGreatDoor
namespace Go.Proofs.YtmgpffknmmoggaaGreatDoor
open Go.RowKit
set_option maxRecDepth 100000 in
set_option maxHeartbeats 3200000 in
theorem refreplace_c (ao : Option Addr) (n cap : Nat) (L : List (List Int)) (k x : Int) (w : World) (hx : Grid w ao n cap L) (hsum : L.flatten.length ≤ 1000000000) :
    Calls Tryz.prog 61 #[.slice ao n cap, .int .i64 k, .int .i64 x] w (RetGE 88 3 w (replaceS L k x)) := by
  have Hx := Lib.hid hx
  have b1 := hx.fits; have b2 := hx.bound
  have HLen := Lib.hid hx.len
  clear hx
  go_enter Tryz.func61, Tryz.ntmps61
  go_wp2_with fail
  refine (refpick_c _ _ _ L k _ Hx.out (by omega)).mono ?_
  rintro e w1 ⟨v1, rfl, hown, hb1⟩
  obtain ⟨a1, c1, rfl⟩ := hown.slice
  have HB1 := Lib.hid hb1
  clear hb1 hown
  have S1 := Lib.hid (replaceS_err L k x); have S2 := Lib.hid (replaceS_arg L k x); have S3 := Lib.hid (replaceS_ok L k x)
  have HPZ := Lib.hid (pickS_zero L k)
  have HRL := Lib.hid (row_le_flatten L)
  have HVL := Lib.hid (validB_len L)
  generalize hF : L.flatten = xs at *
  have HF := Lib.hid hF; clear hF
  generalize (pickS L k).1.length = pl at *
  generalize (pickS L k).2 = pe at *
  by_cases hp : pe ≠ 0
  · have hp1 : (pe != 0) = true := by simpa using hp
    have HPP := Lib.hid hp; clear hp
    go_wp2_with fail
    go_ret2
    exact RetGE.err (S1.out HPP.out) HB1.out
  have hp : pe = 0 := by omega
  obtain ⟨z1, z2, z3, z4⟩ := HPZ.out (by omega)
  have S2' := Lib.hid (S2.out (by omega)); have S3' := Lib.hid (S3.out (by omega))
  subst hp
  obtain ⟨j, rfl⟩ := Int.eq_ofNat_of_zero_le z2
  rw [Int.toNat_natCast] at z4 S3'
  have hj : j < 5 := by omega
  have h5 := (HVL.out z1).1
  have hw5 := wideL_length L h5
  have g2 : n ≤ 5 := by have := HLen.out; omega
  clear S1 S2 S3 HPZ HVL z1 z2 z3 z4 h5
  by_cases h0 : x < 0
  · go_wp2_with fail
    go_ret2
    exact RetGE.err (S2'.out (.inl h0)) HB1.out
  go_wp2_with fail
  refine (refall_c _ _ _ L _ (Hx.out.ext HB1.out) (by rw [HF.out]; omega)).mono ?_
  rintro e w2 ⟨v2, rfl, hown, hb2⟩
  obtain ⟨a2, c2, rfl, hi⟩ := own_ints hown
  have HB2 := Lib.hid (HB1.out.trans hb2)
  rw [HF.out] at hi ⊢
  have HI := Lib.hid hi
  have f1 := hi.fits; have f2 := hi.bound
  clear hown hb2 hi
  go_wp2_with fail
  refine (has_c _ _ _ xs x _ HI.out).mono ?_
  rintro e w3 ⟨rfl, hb3⟩
  have HB3 := Lib.hid (HB2.out.trans hb3)
  clear hb3 HB2 HI
  by_cases hin : x ∈ xs
  · have hd : decide (x ∈ xs) = true := decide_eq_true hin
    have HIN := Lib.hid hin; clear hin
    go_wp2_with fail
    go_ret2
    exact RetGE.err (S2'.out (.inr HIN.out)) HB3.out
  have hd : decide (x ∈ xs) = false := decide_eq_false hin
  have hno : ¬ (x < 0 ∨ x ∈ xs) := by rintro (h | h); exact absurd h (by omega); exact hin h
  have S3 := Lib.hid (S3'.out hno); clear hno hin S2' S3'
  go_wp2_with fail
  refine (wide_c _ _ _ L _ (Hx.out.ext HB3.out) (fun i => by have := HRL.out i; omega) g2).mono ?_
  rintro e w4 ⟨v4, vs4, rfl, hgr0, hb4⟩
  have HB4 := Lib.hid (HB3.out.trans hb4)
  have hgr := hgr0.base HB3.out.size
  clear hgr0 hb4 HB3
  obtain ⟨a4, c4, rfl⟩ := hgr.own.slice
  have hTR : ∀ i, ((wideL L).getD i []).length ≤ xs.length := fun i => by rw [wideL_getD]; exact HRL.out i
  have HTR := Lib.hid hTR
  have hRPe : repL L j x = trimL (((wideL L).set j []).set (min (j + 1) 4) ((((wideL L).set j []).getD (min (j + 1) 4) []) ++ [x])) := rfl
  have HRPE := Lib.hid hRPe
  clear hTR hRPe
  generalize wideL L = T at *
  have hjt : j < T.length := by omega
  obtain ⟨G, e0, d0, d1, d2⟩ := hgr.cell0 (by decide) hjt
  cases e0
  have hst := hgr.strike (by decide) hjt
  have hbs : Ext w (w4.setCell ⟨G, j, none⟩ (.slice none 0 0)) := HB4.out.setCell (p := ⟨G, j, none⟩) d2 _
  obtain ⟨_, _, e, m1, m2, _⟩ := hgr.own.rd
  cases e
  have hM1 : (T.set j []).length = T.length := List.length_set
  have hM1r : ∀ i, ((T.set j []).getD i []).length ≤ xs.length := by
    intro i; rw [getD_set _ _ _ _ _ hjt]; split
    · simp
    · exact HTR.out i
  obtain ⟨t, ht⟩ : ∃ t : Nat, t = min (j + 1) 4 := ⟨_, rfl⟩
  have hmin : (if (4 : Int) < (j : Int) + 1 then (4 : Int) else (j : Int) + 1) = (t : Int) := by split <;> omega
  have t1 : t ≤ 4 := by omega
  rw [← ht] at HRPE
  generalize T.set j [] = M at *
  rw [← hM1] at hst m1 hw5 ⊢
  obtain ⟨g, ai, ci, e0, k1, k2, k3, _⟩ := hst.head (i := t) (by omega)
  cases e0
  have k4 := d2
  have hr1 := hM1r t
  have HLt : Hid (t < M.length) := Lib.hid (by omega)
  have HOWN1 := Lib.hid (hst.ext ((Ext.refl _).alloc (.cells #[.int .i64 x] 3)))
  have HM5 := Lib.hid hw5
  have hlt5 : t < M.length := by omega
  have hle5 : M.length ≤ 5 := by omega
  clear hw5
  have HBel := Lib.hid hbs
  generalize M.getD t [] = R at *
  have HRow := Lib.hid k3
  generalize hvs : vs4.set j (.slice none 0 0) = vs at *
  have HVs := Lib.hid k2
  clear hgr hst hbs hM1r HTR hM1 hjt ht k2 k3 HB4 hvs
  go_upto_region 9 with fail
  generalize w4.setCell ⟨G, j, none⟩ (.slice none 0 0) = W at *
  go_wp2_with (at_builtin; refine wpList_append_any rfl _ _ 88 rfl w.heap.size 3 _ 1 8 Tryz.underlying88 Tryz.infoInt rfl (by decide) _ _ _ rfl (HRow.out.ext ((Ext.refl _).alloc _)) _ _ _ [.int .i64 x] rfl rfl (fun h => by cases h) (Rd.lit _ _ _) (by intro u hu; rw [List.mem_singleton.1 hu]; rfl) (by omega) (by omega) (by have := HBel.out.size; simp; omega) ?_; intro v' w9 hown' hg hfr; obtain ⟨a', c', e2⟩ := hown'.slice; subst e2; obtain ⟨g', e1, d0, d1, d2, d3⟩ := HOWN1.out.cell (i := t) (by decide) HLt.out hg (.inr (by rw [HVs.out]; rfl)); cases e1)
  have hput := HOWN1.out.put (i := t) (by decide) rfl HLt.out (l := R ++ [x]) (by simpa using hown') hg (.inr (by rw [HVs.out]; rfl)) hfr
  have hb5 := (below_own (HBel.out.alloc (.cells #[.int .i64 x] 3)) (HRow.out.ext ((Ext.refl _).alloc _)) hg (by have := HBel.out.size; simp; omega)).setCell (p := ⟨G, t, none⟩) k4 (.slice a' (R.length + 1) c')
  have HP := Lib.hid hput
  have HB5 := Lib.hid hb5
  clear hput hb5 hown' hg hfr
  have hgd := HP.out.grid
  obtain ⟨_, _, e, hgd⟩ := hgd
  rw [List.length_set] at e
  cases e
  have HGD := Lib.hid hgd
  clear hgd
  go_wp2_with fail
  refine (reftrim_c _ _ _ (M.set t (R ++ [x])) _ (by have := HGD.out; rwa [List.length_set] at this)).mono ?_
  rintro e w10 ⟨rfl, hb10⟩
  have HB10 := Lib.hid hb10; clear hb10
  go_wp2_with fail
  go_ret2
  have hfin := (HP.out.ext HB10.out).cut (m := trimN (M.set t (R ++ [x])) M.length) (c := c4) (by simp) (by have := trimN_le (M.set t (R ++ [x])) M.length; omega) (trimN_le _ _) (Nat.le_refl _)
  have hT : (M.set t (R ++ [x])).take (trimN (M.set t (R ++ [x])) M.length) = repL L j x := by
    rw [HRPE.out, trimL, List.length_set]
  rw [hT] at hfin
  exact RetGE.mk S3.out hfin (HB5.out.trans (HB10.out.mono HB5.out.size))
end Go.Proofs.YtmgpffknmmoggaaGreatDoor
