/- Walks: the document's way to put one table in the place of a level's. -/
import Derived.Test.YtkkafjknogfdnaaChecked
import Derived.Test.YtkkafjknogfdnaaLJ
namespace Go.Proofs.Ytkkafjknogfdnaa
open Go.RowKit

set_option maxRecDepth 100000 in
set_option maxHeartbeats 3200000 in
theorem refreplace_c (ao : Option Addr) (n cap : Nat) (L : List (List Int)) (k x : Int) (w : World) (hx : Grid w ao n cap L) (hsum : L.flatten.length ≤ 1000000000) :
    Calls Try.prog 19 #[.slice ao n cap, .int .i64 k, .int .i64 x] w (RetGE 25 3 w (replaceS L k x)) := by
  have Hx := Lib.hid hx
  have b1 := hx.fits; have b2 := hx.bound
  have HLen := Lib.hid hx.len
  clear hx
  go_enter Try.func19, Try.ntmps19
  go_wp2_with fail
  refine (refpick_c _ _ _ L k _ Hx.out (by omega)).mono ?_
  rintro e w1 ⟨v1, rfl, hown, hb1⟩
  obtain ⟨a1, c1, rfl⟩ := hown.slice
  have HB1 := Lib.hid hb1
  clear hb1 hown
  have S1 := Lib.hid (replaceS_err L k x); have S2 := Lib.hid (replaceS_arg L k x); have S3 := Lib.hid (replaceS_ok L k x)
  have HPZ := Lib.hid (pickS_zero L k)
  have HRL := Lib.hid (row_le_flatten L)
  have HVL := Lib.hid (validB_len L)
  generalize hF : L.flatten = xs at *
  have HF := Lib.hid hF; clear hF
  generalize (pickS L k).1.length = pl at *
  generalize (pickS L k).2 = pe at *
  by_cases hp : pe ≠ 0
  · have hp1 : (pe != 0) = true := by simpa using hp
    have HPP := Lib.hid hp; clear hp
    go_wp2_with fail
    go_ret2
    exact RetGE.err (S1.out HPP.out) HB1.out
  have hp : pe = 0 := by omega
  obtain ⟨z1, z2, z3, z4⟩ := HPZ.out (by omega)
  have S2' := Lib.hid (S2.out (by omega)); have S3' := Lib.hid (S3.out (by omega))
  subst hp
  obtain ⟨j, rfl⟩ := Int.eq_ofNat_of_zero_le z2
  rw [Int.toNat_natCast] at z4 S3'
  have hj : j < 5 := by omega
  have h5 := (HVL.out z1).1
  have hw5 := wideL_length L h5
  have g2 : n ≤ 5 := by have := HLen.out; omega
  clear S1 S2 S3 HPZ HVL z1 z2 z3 z4 h5
  by_cases h0 : x < 0
  · go_wp2_with fail
    go_ret2
    exact RetGE.err (S2'.out (.inl h0)) HB1.out
  go_wp2_with fail
  refine (refall_c _ _ _ L _ (Hx.out.ext HB1.out) (by rw [HF.out]; omega)).mono ?_
  rintro e w2 ⟨v2, rfl, hown, hb2⟩
  obtain ⟨a2, c2, rfl, hi⟩ := own_ints hown
  have HB2 := Lib.hid (HB1.out.trans hb2)
  rw [HF.out] at hi ⊢
  have HI := Lib.hid hi
  have f1 := hi.fits; have f2 := hi.bound
  clear hown hb2 hi
  go_wp2_with fail
  refine (has_c _ _ _ xs x _ HI.out).mono ?_
  rintro e w3 ⟨rfl, hb3⟩
  have HB3 := Lib.hid (HB2.out.trans hb3)
  clear hb3 HB2 HI
  by_cases hin : x ∈ xs
  · have hd : decide (x ∈ xs) = true := decide_eq_true hin
    have HIN := Lib.hid hin; clear hin
    go_wp2_with fail
    go_ret2
    exact RetGE.err (S2'.out (.inr HIN.out)) HB3.out
  have hd : decide (x ∈ xs) = false := decide_eq_false hin
  have hno : ¬ (x < 0 ∨ x ∈ xs) := by rintro (h | h); exact absurd h (by omega); exact hin h
  have S3 := Lib.hid (S3'.out hno); clear hno hin S2' S3'
  go_wp2_with fail
  refine (wide_c _ _ _ L _ (Hx.out.ext HB3.out) (fun i => by have := HRL.out i; omega) g2).mono ?_
  rintro e w4 ⟨v4, vs4, rfl, hgr0, hb4⟩
  have HB4 := Lib.hid (HB3.out.trans hb4)
  have hgr := hgr0.base HB3.out.size
  clear hgr0 hb4 HB3
  obtain ⟨a4, c4, rfl⟩ := hgr.own.slice
  have hTR : ∀ i, ((wideL L).getD i []).length ≤ xs.length := fun i => by rw [wideL_getD]; exact HRL.out i
  have HTR := Lib.hid hTR
  have hRPe : repL L j x = trimL (((wideL L).set j []).set (min (j + 1) 4) ((((wideL L).set j []).getD (min (j + 1) 4) []) ++ [x])) := rfl
  have HRPE := Lib.hid hRPe
  clear hTR hRPe
  generalize wideL L = T at *
  have hjt : j < T.length := by omega
  obtain ⟨G, e0, d0, d1, d2⟩ := hgr.cell0 (by decide) hjt
  cases e0
  have hst := hgr.strike (by decide) hjt
  have hbs : Ext w (w4.setCell ⟨G, j, none⟩ (.slice none 0 0)) := HB4.out.setCell (p := ⟨G, j, none⟩) d2 _
  obtain ⟨_, _, e, m1, m2, _⟩ := hgr.own.rd
  cases e
  have hM1 : (T.set j []).length = T.length := List.length_set
  have hM1r : ∀ i, ((T.set j []).getD i []).length ≤ xs.length := by
    intro i; rw [getD_set _ _ _ _ _ hjt]; split
    · simp
    · exact HTR.out i
  obtain ⟨t, ht⟩ : ∃ t : Nat, t = min (j + 1) 4 := ⟨_, rfl⟩
  have hmin : (if (4 : Int) < (j : Int) + 1 then (4 : Int) else (j : Int) + 1) = (t : Int) := by split <;> omega
  have t1 : t ≤ 4 := by omega
  rw [← ht] at HRPE
  generalize T.set j [] = M at *
  rw [← hM1] at hst m1 hw5 ⊢
  obtain ⟨g, ai, ci, e0, k1, k2, k3, _⟩ := hst.head (i := t) (by omega)
  cases e0
  have k4 := d2
  have hr1 := hM1r t
  have HLt : Hid (t < M.length) := Lib.hid (by omega)
  have HOWN1 := Lib.hid (hst.ext ((Ext.refl _).alloc (.cells #[.int .i64 x] 3)))
  have HM5 := Lib.hid hw5
  have hlt5 : t < M.length := by omega
  have hle5 : M.length ≤ 5 := by omega
  clear hw5
  have HBel := Lib.hid hbs
  generalize M.getD t [] = R at *
  have HRow := Lib.hid k3
  generalize hvs : vs4.set j (.slice none 0 0) = vs at *
  have HVs := Lib.hid k2
  clear hgr hst hbs hM1r HTR hM1 hjt ht k2 k3 HB4 hvs
  go_upto_region 9 with fail
  generalize w4.setCell ⟨G, j, none⟩ (.slice none 0 0) = W at *
  go_wp2_with (at_builtin; refine wpList_append_any rfl _ _ 25 rfl w.heap.size 3 _ 1 8 Try.underlying25 Try.infoInt rfl (by decide) _ _ _ rfl (HRow.out.ext ((Ext.refl _).alloc _)) _ _ _ [.int .i64 x] rfl rfl (fun h => by cases h) (Rd.lit _ _ _) (by intro u hu; rw [List.mem_singleton.1 hu]; rfl) (by omega) (by omega) (by have := HBel.out.size; simp; omega) ?_; intro v' w9 hown' hg hfr; obtain ⟨a', c', e2⟩ := hown'.slice; subst e2; obtain ⟨g', e1, d0, d1, d2, d3⟩ := HOWN1.out.cell (i := t) (by decide) HLt.out hg (.inr (by rw [HVs.out]; rfl)); cases e1)
  have hput := HOWN1.out.put (i := t) (by decide) rfl HLt.out (l := R ++ [x]) (by simpa using hown') hg (.inr (by rw [HVs.out]; rfl)) hfr
  have hb5 := (below_own (HBel.out.alloc (.cells #[.int .i64 x] 3)) (HRow.out.ext ((Ext.refl _).alloc _)) hg (by have := HBel.out.size; simp; omega)).setCell (p := ⟨G, t, none⟩) k4 (.slice a' (R.length + 1) c')
  have HP := Lib.hid hput
  have HB5 := Lib.hid hb5
  clear hput hb5 hown' hg hfr
  have hgd := HP.out.grid
  obtain ⟨_, _, e, hgd⟩ := hgd
  rw [List.length_set] at e
  cases e
  have HGD := Lib.hid hgd
  clear hgd
  go_wp2_with fail
  refine (reftrim_c _ _ _ (M.set t (R ++ [x])) _ (by have := HGD.out; rwa [List.length_set] at this)).mono ?_
  rintro e w10 ⟨rfl, hb10⟩
  have HB10 := Lib.hid hb10; clear hb10
  go_wp2_with fail
  go_ret2
  have hfin := (HP.out.ext HB10.out).cut (m := trimN (M.set t (R ++ [x])) M.length) (c := c4) (by simp) (by have := trimN_le (M.set t (R ++ [x])) M.length; omega) (trimN_le _ _) (Nat.le_refl _)
  have hT : (M.set t (R ++ [x])).take (trimN (M.set t (R ++ [x])) M.length) = repL L j x := by
    rw [HRPE.out, trimL, List.length_set]
  rw [hT] at hfin
  exact RetGE.mk S3.out hfin (HB5.out.trans (HB10.out.mono HB5.out.size))

end Go.Proofs.Ytkkafjknogfdnaa
