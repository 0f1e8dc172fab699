/- Walks: a table is put behind those of the level 0. -/
import Derived.Test.YtkkafjknogfdnaaChecked
import Derived.Test.YtkkafjknogfdnaaLD
import Derived.Test.YtkkafjknogfdnaaLF
namespace Go.Proofs.Ytkkafjknogfdnaa
open Go.RowKit

set_option maxRecDepth 100000 in
set_option maxHeartbeats 1600000 in
theorem add_c (ao : Option Addr) (n cap : Nat) (L : List (List Int)) (x : Int) (w : World) (hx : Grid w ao n cap L) (hsum : L.flatten.length ≤ 1000000000) (hn : n ≤ 1000000000) (hwf : ∀ x ∈ L.flatten, (Lit.int .i64 x).wf = true) :
    Calls Try.prog 14 #[.slice ao n cap, .int .i64 x] w (RetGE 25 3 w (addS L x)) := by
  have Hx := Lib.hid hx
  have b1 := hx.fits; have b2 := hx.bound
  have HWF := Lib.hid hwf
  clear hx hwf
  go_enter Try.func14, Try.ntmps14
  go_wp2_with fail
  refine (all_c _ _ _ L _ Hx.out (by omega)).mono ?_
  rintro e w1 ⟨v1, rfl, hown, hb1⟩
  obtain ⟨a1, c1, rfl, hi⟩ := own_ints hown
  have HB1 := Lib.hid hb1
  have HI := Lib.hid hi
  have f1 := hi.fits; have f2 := hi.bound
  clear hown hb1 hi
  have S1 := Lib.hid (addS_arg L x); have S2 := Lib.hid (addS_full L x); have S3 := Lib.hid (addS_ok L x)
  have HRL := Lib.hid (row_le_flatten L)
  have HTG := Lib.hid (trimL_getD L)
  have HAL : Hid (addL L x = (if trimL L = [] then [[]] else trimL L).set 0 (L.getD 0 [] ++ [x])) := Lib.hid rfl
  generalize hF : L.flatten = xs at *
  have HF := Lib.hid hF; clear hF
  go_wp2_with fail
  refine (valid_c _ _ _ L _ (Hx.out.ext HB1.out) (by rw [HF.out]; omega) (by rw [HF.out]; exact HWF.out)).mono ?_
  rintro e w2 ⟨rfl, hb2⟩
  have HB2 := Lib.hid (HB1.out.trans hb2)
  have HI2 := Lib.hid (HI.out.ext hb2)
  clear hb2 HI
  by_cases hv : validB L = false
  · go_wp2_with fail
    go_ret2
    exact ⟨.slice none 0 0, [], by rw [S1.out (.inl hv)]; rfl, by rw [S1.out (.inl hv)]; exact OGr.nil _ _ _ _, HB2.out⟩
  have hv' : validB L = true := by simpa using hv
  by_cases h0 : x < 0
  · go_wp2_with fail
    go_ret2
    exact ⟨.slice none 0 0, [], by rw [S1.out (.inr (.inl h0))]; rfl, by rw [S1.out (.inr (.inl h0))]; exact OGr.nil _ _ _ _, HB2.out⟩
  go_wp2_with fail
  refine (contains_c _ _ _ xs x _ HI2.out).mono ?_
  rintro e w3 ⟨rfl, hb3⟩
  have HB3 := Lib.hid (HB2.out.trans hb3)
  clear hb3 HB2
  by_cases hin : x ∈ xs
  · have hd : decide (x ∈ xs) = true := decide_eq_true hin
    have HIN := Lib.hid hin; clear hin
    go_wp2_with fail
    go_ret2
    exact ⟨.slice none 0 0, [], by rw [S1.out (.inr (.inr HIN.out))]; rfl, by rw [S1.out (.inr (.inr HIN.out))]; exact OGr.nil _ _ _ _, HB3.out⟩
  have hd : decide (x ∈ xs) = false := decide_eq_false hin
  have hno : ¬ (validB L = false ∨ x < 0 ∨ x ∈ xs) := by rintro (h | h | h); exact hv h; exact absurd h (by omega); exact hin h
  have HNO := Lib.hid hno; clear hno hin
  by_cases h40 : 40 ≤ xs.length
  · go_wp2_with fail
    go_ret2
    exact ⟨.slice none 0 0, [], by rw [S2.out HNO.out h40]; rfl, by rw [S2.out HNO.out h40]; exact OGr.nil _ _ _ _, HB3.out⟩
  go_wp2_with fail
  refine (trim_c _ _ _ L _ (Hx.out.ext HB3.out) (fun i => by have := HRL.out i; omega) hn).mono ?_
  rintro e w4 ⟨v4, vs4, rfl, hgr, hb4⟩
  obtain ⟨a4, c4, rfl, hgd⟩ := hgr.grid
  have HGD := Lib.hid hgd
  have HB4 := Lib.hid (HB3.out.trans hb4)
  have hgr' := hgr.base HB3.out.size
  clear hb4 hgr HB3
  have q1 := hgd.fits; have q2 := hgd.bound
  clear hgd
  have hrow0 := HRL.out 0
  have S3' := Lib.hid (S3.out HNO.out h40)
  clear S1 S2 S3 HNO HI2 HRL
  have HGR := Lib.hid hgr'; clear hgr'
  go_upto_if 31 with fail
  go_cut [7] (fun v w' => ∃ (M : List (List Int)) (vs : List Value) (G c : Nat), v = .slice (some ⟨G, 0, none⟩) M.length c ∧ OGr w' w.heap.size 25 3 v vs M ∧ 0 < M.length ∧ M.set 0 (M.getD 0 [] ++ [x]) = addL L x ∧ (M.getD 0 []).length ≤ xs.length ∧ Ext w w')
  case first =>
    by_cases ht : trimL L = []
    · have hal : [[]].set 0 ([[]].getD 0 [] ++ [x]) = addL L x := by rw [HAL.out, if_pos ht, ← HTG.out, ht]; rfl
      have HFIN := Lib.hid hal; clear hal HAL
      rw [ht]
      clear ht
      go_wp2_with fail
      go_meet
      exact ⟨[[]], _, _, _, rfl, OGr.one _ HB4.out.size, by decide, HFIN.out, by simp, HB4.out.alloc _⟩
    · have hpos : 0 < (trimL L).length := List.length_pos_iff.2 ht
      have hal : (trimL L).set 0 (L.getD 0 [] ++ [x]) = addL L x := by rw [HAL.out, if_neg ht]
      have hz : (((trimL L).length : Int) == 0) = false := by rw [beq_eq_false_iff_ne]; omega
      obtain ⟨G, ai, ci, e0, _⟩ := HGR.out.head (i := 0) hpos
      cases e0
      have HFIN := Lib.hid hal; clear hal HAL ht
      have HPOS := Lib.hid hpos; clear hpos
      go_wp2_with fail
      go_meet
      exact ⟨trimL L, _, _, _, rfl, HGR.out, HPOS.out, by rw [HTG.out]; exact HFIN.out, by rw [HTG.out]; exact hrow0, HB4.out⟩
  case rest =>
    obtain ⟨M, vs, G, c, rfl, hgr, hlt, hfin, hrow, hbel⟩ := hcut
    have HFIN := Lib.hid hfin
    have HBel := Lib.hid hbel
    have HLt := Lib.hid hlt
    obtain ⟨g, ai, ci, e0, k1, k2, k3, k4⟩ := hgr.head (i := 0) hlt
    cases e0
    have h1 := hgr.own.rd
    obtain ⟨_, _, e, m1, m2, _⟩ := h1
    cases e
    have HOWN1 := Lib.hid (hgr.ext ((Ext.refl _).alloc (.cells #[.int .i64 x] 3)))
    generalize M.getD 0 [] = R at *
    have HRow := Lib.hid k3
    have HVs := Lib.hid k2
    clear HGR HGD HAL HTG hfin hbel hgr k2 k3 HB4 hrow0
    go_wp2_with (at_builtin; refine wpList_append_any rfl _ _ 25 rfl w.heap.size 3 _ 1 8 Try.underlying25 Try.infoInt rfl (by decide) _ _ _ rfl (HRow.out.ext ((Ext.refl _).alloc _)) _ _ _ [.int .i64 x] rfl rfl (fun h => by cases h) (Rd.lit _ _ _) (by intro u hu; rw [List.mem_singleton.1 hu]; rfl) (by omega) (by omega) (by have := HBel.out.size; simp; omega) ?_; intro v' w5 hown' hg hfr; obtain ⟨a', c', e2⟩ := hown'.slice; subst e2; obtain ⟨g', e1, d0, d1, d2, d3⟩ := HOWN1.out.cell (i := 0) (by decide) HLt.out hg (.inr (by rw [HVs.out]; rfl)); cases e1)
    have hput := HOWN1.out.put (i := 0) (by decide) rfl HLt.out (l := R ++ [x]) (by simpa using hown') hg (.inr (by rw [HVs.out]; rfl)) hfr
    have hb5 := (below_own (HBel.out.alloc (.cells #[.int .i64 x] 3)) (HRow.out.ext ((Ext.refl _).alloc _)) hg (by have := HBel.out.size; simp; omega)).setCell (p := ⟨G, 0, none⟩) k4 (.slice a' (R.length + 1) c')
    have HP := Lib.hid hput
    have HB5 := Lib.hid hb5
    clear hput hb5 hown' hg hfr
    go_wp2_with fail
    go_ret2
    refine ⟨.slice (some ⟨G, 0, none⟩) M.length c, vs.set 0 (.slice a' (R.length + 1) c'), ?_, ?_, HB5.out⟩
    · rw [S3'.out]; rfl
    · rw [S3'.out]; exact HFIN.out ▸ HP.out

end Go.Proofs.Ytkkafjknogfdnaa
