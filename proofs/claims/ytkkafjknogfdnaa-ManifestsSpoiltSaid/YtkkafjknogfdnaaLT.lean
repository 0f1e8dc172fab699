/- Walks: whatever levels there are, what is told of them is the document's. -/
import Derived.Test.YtkkafjknogfdnaaChecked
import Derived.Test.YtkkafjknogfdnaaLM
import Derived.Test.YtkkafjknogfdnaaLL
import Derived.Test.YtkkafjknogfdnaaLI
import Derived.Test.YtkkafjknogfdnaaKP
namespace Go.Proofs.Ytkkafjknogfdnaa
open Go.RowKit

theorem great_len (L : List (List Int)) (h : greatB L = false) : L.length ≤ 10 ∧ (∀ i, (L.getD i []).length ≤ 60) ∧ L.flatten.length ≤ 600 := by
  unfold greatB at h
  rw [Bool.or_eq_false_iff] at h
  have h1 : L.length ≤ 10 := by have := of_decide_eq_false h.2; omega
  have h2 : ∀ r ∈ L, r.length ≤ 60 := by
    intro r hr
    have := h.1
    rw [List.any_eq_false] at this
    have := this r hr
    simpa using this
  refine ⟨h1, fun i => ?_, ?_⟩
  · rcases Nat.lt_or_ge i L.length with hi | hi
    · rw [List.getD_eq_getElem?_getD, List.getElem?_eq_getElem hi]; exact h2 _ (List.getElem_mem hi)
    · rw [getD_ge _ _ _ hi]; simp
  · have : ∀ M : List (List Int), (∀ r ∈ M, r.length ≤ 60) → M.flatten.length ≤ 60 * M.length := by
      intro M
      induction M with
      | nil => intro _; simp
      | cons r M ih =>
        intro h
        have a1 := h r (by simp)
        have a2 := ih fun r hr => h r (by simp [hr])
        rw [List.flatten_cons, List.length_append, List.length_cons]
        omega
    have := this L h2
    omega

theorem replicate_getD {α : Type} (d : α) (n i : Nat) : (List.replicate n d).getD i d = d := by
  simp only [List.getD_eq_getElem?_getD, List.getElem?_replicate]
  split <;> rfl

/-- n rows just made -/
theorem OGr.made' {w : World} {B : Nat} {tO tI : TypeId} {v : Value} {n : Nat} (h : Own w B tO 1 v n (List.replicate n (.slice none 0 0))) : OGr w B tO tI v (List.replicate n (.slice none 0 0)) (List.replicate n []) := by
  refine ⟨by simpa using h, fun i => ?_, fun i j g _ hg => ?_⟩
  · rw [replicate_getD, replicate_getD]; exact Own.nil _ _ _ _
  · rw [replicate_getD] at hg; cases hg

/-- copies behind k rounds -/
def copyK (L : List (List Int)) (k : Nat) : List (List Int) := L.take k ++ List.replicate (L.length - k) []

theorem copyK_zero (L : List (List Int)) : copyK L 0 = List.replicate L.length [] := by simp [copyK]
theorem copyK_all (L : List (List Int)) : copyK L L.length = L := by simp [copyK]
theorem copyK_length (L : List (List Int)) (k : Nat) (h : k ≤ L.length) : (copyK L k).length = L.length := by simp [copyK]; omega
theorem copyK_succ (L : List (List Int)) (k : Nat) (h : k < L.length) : (copyK L k).set k (L.getD k []) = copyK L (k + 1) := by
  refine ext_getD _ _ [] (by rw [List.length_set, copyK_length _ _ (by omega), copyK_length _ _ (by omega)]) fun i hi => ?_
  have g : ∀ m, m ≤ L.length → (copyK L m).getD i [] = if i < m then L.getD i [] else [] := by
    intro m hm
    unfold copyK
    simp only [List.getD_eq_getElem?_getD, List.getElem?_append, List.length_take, Nat.min_eq_left hm, List.getElem?_take]
    split
    · rfl
    · rw [← List.getD_eq_getElem?_getD, replicate_getD]
  rw [getD_set _ _ _ _ _ (by rw [copyK_length _ _ (by omega)]; exact h), g k (by omega), g (k + 1) (by omega)]
  by_cases hik : i = k
  · subst hik; rw [if_pos rfl, if_pos (by omega)]
  · rw [if_neg hik]
    by_cases h2 : i < k
    · rw [if_pos h2, if_pos (by omega)]
    · rw [if_neg h2, if_neg (by omega)]

set_option maxRecDepth 100000 in
set_option maxHeartbeats 12800000 in
theorem tell_c (ao : Option Addr) (n cap : Nat) (L : List (List Int)) (lv x : Int) (w : World) (hx : Grid w ao n cap L) (hwf : ∀ x ∈ L.flatten, (Lit.int .i64 x).wf = true) :
    Calls Try.prog 3 #[.slice ao n cap, .int .i64 lv, .int .i64 x] w fun e w' => e = .returned (.bool true) ∧ Ext w w' := by
  have Hx := Lib.hid hx
  have b1 := hx.fits; have b2 := hx.bound
  have HLen := Lib.hid hx.len
  have HWF := Lib.hid hwf
  clear hx hwf
  go_enter Try.func3, Try.ntmps3
  go_wp2_with fail
  refine (great_c _ _ _ L _ Hx.out).mono ?_
  rintro e w1 ⟨rfl, hb1⟩
  have HB1 := Lib.hid hb1
  clear hb1
  by_cases hgr : greatB L = true
  · go_wp2_with fail
    refine (stand_c _).mono ?_
    rintro e w2 ⟨rfl, hb2⟩
    have HB2 := Lib.hid (HB1.out.trans hb2)
    clear hb2
    go_wp2_with fail
    go_ret
    exact ⟨rfl, HB2.out⟩
  have hgr' : greatB L = false := by simpa using hgr
  obtain ⟨l1, l2, l3⟩ := great_len L hgr'
  have L2 := Lib.hid l2; have L3 := Lib.hid l3
  clear l2 l3 hgr
  have hn10 : n ≤ 10 := by have := HLen.out; omega
  clear l1
  obtain ⟨i, hi, hz, hsize, hby⟩ := info_parts Try.infoInts
  go_wp2_with (at_make; refine wpList_make_full _ rfl _ _ 22 rfl w1.heap.size 25 i (.slice none 0 0) 1 Try.underlying22 hi hz hsize .i64 .i64 _ _ n rfl rfl rfl rfl (by rw [hby]; omega) (by unfold maxLen; omega) (Nat.le_refl _) ?_; intro w2 hown hg)
  clear hi hz hsize hby
  have h0 : OGr w2 w1.heap.size 25 3 (.slice (some ⟨w1.heap.size, 0, none⟩) n n) (List.replicate n (.slice none 0 0)) (copyK L 0) := by
    have := Own.of_row hown
    have e : (madeCells (Value.cells (.slice none 0 0)) (n * 1)).toList = List.replicate n (.slice none 0 0) := by rw [Nat.mul_one]; exact toList_madeCells_one _ _
    rw [e] at this
    rw [copyK_zero, HLen.out]
    exact OGr.made' this
  have H0 := Lib.hid h0
  have hb0 : Ext w1 w2 := (Ext.refl w1).grown hg (Nat.le_refl _) (fun k hk => by cases hk)
  have HB0 := Lib.hid hb0
  clear h0 hown hg hb0
  go_wp2_with fail
  go_loopw [8] (fun i w' => ∃ k : Nat, k ≤ n ∧ i = .int .i64 k ∧ (∃ vs, OGr w' w1.heap.size 25 3 (.slice (some ⟨w1.heap.size, 0, none⟩) n n) vs (copyK L k)) ∧ Ext w1 w') (fun i _ => n - (intOf i).toNat)
  case atStart => exact ⟨0, Nat.zero_le _, rfl, ⟨_, H0.out⟩, HB0.out⟩
  case round =>
    clear H0 HB0
    obtain ⟨k, hk, rfl, ⟨vs, hown⟩, hb⟩ := hrel
    have Hb := Lib.hid hb; clear hb
    have Hown := Lib.hid hown; clear hown
    by_cases hlt : k < n
    · obtain ⟨b, off, ai, ni, ci, rfl, c1, r1⟩ := ((Hx.out.ext HB1.out).ext Hb.out).at hlt
      have hkl : k < L.length := by rw [HLen.out]; exact hlt
      have hwl : (copyK L k).length = n := by rw [copyK_length _ _ (by omega), HLen.out]
      have hni : ni ≤ 60 := by have := r1.len; have := L2.out k; omega
      have hws := copyK_succ L k hkl
      generalize L.getD k [] = R at *
      have R1 := Lib.hid r1; clear r1
      have HWS := Lib.hid hws; clear hws
      have HWL := Lib.hid hwl; clear hwl
      go_wp2_with (at_builtin; refine wpList_append_any rfl _ _ 25 rfl w1.heap.size 3 _ 1 8 Try.underlying25 Try.infoInt rfl (by decide) _ _ _ rfl (Own.nil _ _ _ _) _ _ _ (R.map (Value.int .i64)) rfl (by rw [List.length_map, R1.out.len]; omega) R1.out.nil R1.out.rd (ints_oneCell _ _) (by omega) (by omega) Hb.out.size ?_; intro v' w3 hown' hg hfr; simp only [Nat.zero_add, List.nil_append] at hown'; obtain ⟨a', c', e2⟩ := hown'.slice; subst e2; obtain ⟨g, e1, d0, d1, d2, d3⟩ := Hown.out.cell (i := k) (by decide) (by rw [HWL.out]; omega) hg (.inl rfl); cases e1)
      have hput := Hown.out.put (i := k) (by decide) rfl (by rw [HWL.out]; omega) (l := R) (by have := hown'; rw [R1.out.len]; simpa using this) hg (.inl rfl) hfr
      have hb2 := (below_own Hb.out (Own.nil _ w1.heap.size 3 1) hg Hb.out.size).setCell (p := ⟨w1.heap.size, k, none⟩) (Nat.le_refl _) (.slice a' ni c')
      rw [HWS.out] at hput
      have HP := Lib.hid hput
      have HB2 := Lib.hid hb2
      clear hput hb2 hown' hg hfr
      go_wp2_with fail
      go_roundw
      case rel => exact ⟨k + 1, by omega, by go_num, ⟨_, HP.out⟩, HB2.out⟩
      case measure => simp [intOf]; omega
    · have hkn : copyK L k = L := by have : k = L.length := by have := HLen.out; omega
                                     rw [this, copyK_all]
      have hog := Hown.out
      rw [hkn] at hog
      have hgo := hog.grid
      obtain ⟨_, _, e, hgo⟩ := hgo
      cases e
      have HGO := Lib.hid hgo
      have HBo := Lib.hid (HB1.out.trans Hb.out)
      have HGL := Lib.hid ((Hx.out.ext HB1.out).ext Hb.out)
      clear hkn hog hgo Hown
      obtain ⟨wS, rfl⟩ : ∃ wS : World, wS = wr := ⟨_, rfl⟩
      go_wp2_with fail
      generalize hr1 : addS L x = r1
      generalize hr2 : pickS L lv = r2
      generalize hr3 : replaceS L lv x = r3
      have ca := add_c _ _ _ L x _ HGO.out (by have := L3.out; omega) (by omega) HWF.out
      rw [hr1] at ca
      refine ca.mono ?_
      clear ca
      rintro e x1 ⟨v1, vs1, rfl, hv1, hb⟩
      obtain ⟨a1, c1, rfl, hg1⟩ := hv1.grid
      have X1 := Lib.hid hb
      have G1 := Lib.hid hg1
      have f1a := hg1.fits; have f1b := hg1.bound
      have P1 := Lib.hid (PkG.of hv1)
      clear hb hg1 hv1
      go_wp2_with fail
      have ca := refadd_c _ _ _ L x _ (HGL.out.ext X1.out) (by have := L3.out; omega)
      rw [hr1] at ca
      refine ca.mono ?_
      clear ca hr1
      rintro e x2 ⟨v2, vs2, rfl, hv2, hb⟩
      obtain ⟨a2, c2, rfl, hg2⟩ := hv2.grid
      have X2 := Lib.hid (X1.out.trans hb)
      have G1' := Lib.hid (G1.out.ext hb)
      have P1' := Lib.hid (P1.out.ext hb)
      have G2 := Lib.hid hg2
      clear hb hg2 hv2 G1 P1 X1
      go_wp2_with fail
      have ca := pick_c _ _ _ L lv _ (HGO.out.ext X2.out) (by have := L3.out; omega) HWF.out
      rw [hr2] at ca
      refine ca.mono ?_
      clear ca
      rintro e x3 ⟨v3, rfl, hv3, hb⟩
      obtain ⟨a3, c3, rfl, hg3⟩ := own_ints hv3
      have X3 := Lib.hid (X2.out.trans hb)
      have G1 := Lib.hid (G1'.out.ext hb)
      have P1 := Lib.hid (P1'.out.ext hb)
      have G2' := Lib.hid (G2.out.ext hb)
      have G3 := Lib.hid hg3
      have f3a := hg3.fits; have f3b := hg3.bound
      have P3 := Lib.hid (Pk.of (hv3.base X2.out.size))
      clear hb hg3 hv3 G1' P1' G2 X2
      go_wp2_with fail
      have ca := refpick_c _ _ _ L lv _ (HGL.out.ext X3.out) (by have := L3.out; omega)
      rw [hr2] at ca
      refine ca.mono ?_
      clear ca hr2
      rintro e x4 ⟨v4, rfl, hv4, hb⟩
      obtain ⟨a4, c4, rfl, hg4⟩ := own_ints hv4
      have X4 := Lib.hid (X3.out.trans hb)
      have G1' := Lib.hid (G1.out.ext hb)
      have P1' := Lib.hid (P1.out.ext hb)
      have G2 := Lib.hid (G2'.out.ext hb)
      have G3' := Lib.hid (G3.out.ext hb)
      have P3' := Lib.hid (P3.out.ext hb)
      have G4 := Lib.hid hg4
      clear hb hg4 hv4 G1 P1 G2' G3 P3 X3
      go_wp2_with fail
      have ca := replace_c _ _ _ L lv x _ (HGO.out.ext X4.out) (by have := L3.out; omega) (by omega) HWF.out
      rw [hr3] at ca
      refine ca.mono ?_
      clear ca
      rintro e x5 ⟨v5, vs5, rfl, hv5, hb⟩
      obtain ⟨a5, c5, rfl, hg5⟩ := hv5.grid
      have X5 := Lib.hid (X4.out.trans hb)
      have G1 := Lib.hid (G1'.out.ext hb)
      have P1 := Lib.hid (P1'.out.ext hb)
      have G2' := Lib.hid (G2.out.ext hb)
      have G3 := Lib.hid (G3'.out.ext hb)
      have P3 := Lib.hid (P3'.out.ext hb)
      have G4' := Lib.hid (G4.out.ext hb)
      have G5 := Lib.hid hg5
      have f5a := hg5.fits; have f5b := hg5.bound
      have P5 := Lib.hid (PkG.of (hv5.base X4.out.size))
      clear hb hg5 hv5 G1' P1' G2 G3' P3' G4 X4
      go_wp2_with fail
      have ca := refreplace_c _ _ _ L lv x _ (HGL.out.ext X5.out) (by have := L3.out; omega)
      rw [hr3] at ca
      refine ca.mono ?_
      clear ca hr3
      rintro e x6 ⟨v6, vs6, rfl, hv6, hb⟩
      obtain ⟨a6, c6, rfl, hg6⟩ := hv6.grid
      have X6 := Lib.hid (X5.out.trans hb)
      have G1' := Lib.hid (G1.out.ext hb)
      have P1' := Lib.hid (P1.out.ext hb)
      have G2 := Lib.hid (G2'.out.ext hb)
      have G3' := Lib.hid (G3.out.ext hb)
      have P3' := Lib.hid (P3.out.ext hb)
      have G4 := Lib.hid (G4'.out.ext hb)
      have G5' := Lib.hid (G5.out.ext hb)
      have P5' := Lib.hid (P5.out.ext hb)
      have G6 := Lib.hid hg6
      have GO := Lib.hid (HGO.out.ext X6.out)
      have GL := Lib.hid (HGL.out.ext X6.out)
      clear hb hg6 hv6 G1 P1 G2' G3 P3 G4' G5 P5 X5
      obtain ⟨A1, E1⟩ := r1
      obtain ⟨A2, E2⟩ := r2
      obtain ⟨A3, E3⟩ := r3
      have EE1 : (E1 != E1) = false := by simp
      have EE2 : (E2 != E2) = false := by simp
      have EE3 : (E3 != E3) = false := by simp
      go_wp2_with fail
      refine (same_c _ _ _ _ _ _ A1 A1 _ G1'.out G2.out).mono ?_
      rw [decide_eq_true (rfl : A1 = A1)]
      rintro e y1 ⟨rfl, hb⟩
      have Y1 := Lib.hid hb; clear hb
      go_wp2_with fail
      refine (ints_c _ _ _ _ _ _ A2 A2 _ (G3'.out.ext Y1.out) (G4.out.ext Y1.out)).mono ?_
      rw [decide_eq_true (rfl : A2 = A2)]
      rintro e y2 ⟨rfl, hb⟩
      have Y2 := Lib.hid (Y1.out.trans hb); clear hb Y1
      go_wp2_with fail
      refine (same_c _ _ _ _ _ _ A3 A3 _ (G5'.out.ext Y2.out) (G6.out.ext Y2.out)).mono ?_
      rw [decide_eq_true (rfl : A3 = A3)]
      rintro e y3 ⟨rfl, hb⟩
      have Y3 := Lib.hid (Y2.out.trans hb); clear hb Y2
      go_wp2_with fail
      refine (valid_c _ _ _ L _ (GO.out.ext Y3.out) (by have := L3.out; omega) HWF.out).mono ?_
      rintro e y4 ⟨rfl, hb⟩
      have Y4 := Lib.hid (Y3.out.trans hb); clear hb Y3
      go_wp2_with fail
      refine (refvalid_c _ _ _ L _ (GL.out.ext Y4.out) (by have := L3.out; omega)).mono ?_
      rintro e y5 ⟨rfl, hb⟩
      have Y5 := Lib.hid (Y4.out.trans hb); clear hb Y4
      have VV : (validB L != validB L) = false := by simp
      go_wp2_with fail
      refine (all_c _ _ _ L _ (GO.out.ext Y5.out) (by have := L3.out; omega)).mono ?_
      rintro e y6 ⟨v7, rfl, hv7, hb⟩
      obtain ⟨a7, c7, rfl, hg7⟩ := own_ints hv7
      have Y6 := Lib.hid (Y5.out.trans hb)
      have G7 := Lib.hid hg7
      clear hb hg7 hv7 Y5
      generalize hF : L.flatten = F at *
      have HF := Lib.hid hF; clear hF
      go_wp2_with fail
      refine (refall_c _ _ _ L _ (GL.out.ext Y6.out) (by rw [HF.out]; have := L3.out; omega)).mono ?_
      rw [HF.out]
      rintro e y7 ⟨v8, rfl, hv8, hb⟩
      obtain ⟨a8, c8, rfl, hg8⟩ := own_ints hv8
      have Y7 := Lib.hid (Y6.out.trans hb)
      have G7' := Lib.hid (G7.out.ext hb)
      have G8 := Lib.hid hg8
      clear hb hg8 hv8 Y6 G7
      go_wp2_with fail
      refine (ints_c _ _ _ _ _ _ F F _ G7'.out G8.out).mono ?_
      rw [decide_eq_true (rfl : F = F)]
      rintro e y8 ⟨rfl, hb⟩
      have Y8 := Lib.hid (Y7.out.trans hb); clear hb Y7 G7' G8
      have PA := Lib.hid (P1'.out.ext Y8.out)
      have PC := Lib.hid (P3'.out.ext Y8.out)
      have PX := Lib.hid (P5'.out.ext Y8.out)
      have BZ := Lib.hid (X6.out.trans Y8.out)
      clear G1' P1' G2 G3' P3' G4 G5' P5' G6 GO GL X6 Y8
      go_wp2_with fail
      have BE := Lib.hid (BZ.out : Below wS.heap.size wS _)
      clear BZ
      go_loopw [21] (fun i w' => ∃ k : Nat, k ≤ A1.length ∧ i = .int .i64 k ∧ PkG w' wS.heap.size 25 3 (.slice a1 A1.length c1) A1.length vs1 ∧ Pk w' wS.heap.size 3 (.slice a3 A2.length c3) ∧ PkG w' wS.heap.size 25 3 (.slice a5 A3.length c5) A3.length vs5 ∧ Below wS.heap.size wS w') (fun i _ => A1.length - (intOf i).toNat)
      case atStart => exact ⟨0, Nat.zero_le _, rfl, PA.out, PC.out, PX.out, BE.out⟩
      case round =>
        clear PA PC PX BE
        obtain ⟨i, hi, rfl, hpa, hpc, hpx, hbe⟩ := hrel
        have PA := Lib.hid hpa; have PC := Lib.hid hpc; have PX := Lib.hid hpx; have BE := Lib.hid hbe
        clear hpa hpc hpx hbe
        by_cases hilt : i < A1.length
        · obtain ⟨ai, ni, ci, hrow, hnb⟩ := PA.out.row i
          have HROW := Lib.hid hrow; clear hrow
          obtain ⟨wo, rfl⟩ : ∃ wo : World, wo = wr := ⟨_, rfl⟩
          go_wp2_with fail
          go_loopw [22] (fun j w' => ∃ k : Nat, k ≤ ni ∧ j = .int .i64 k ∧ PkG w' wS.heap.size 25 3 (.slice a1 A1.length c1) A1.length vs1 ∧ Pk w' wS.heap.size 3 (.slice a3 A2.length c3) ∧ PkG w' wS.heap.size 25 3 (.slice a5 A3.length c5) A3.length vs5 ∧ Below wS.heap.size wS w') (fun j _ => ni - (intOf j).toNat)
          case atStart => exact ⟨0, Nat.zero_le _, rfl, PA.out, PC.out, PX.out, BE.out⟩
          case round =>
            clear PA PC PX BE
            obtain ⟨j, hj, rfl, hpa, hpc, hpx, hbe⟩ := hrel
            have PA := Lib.hid hpa; have PC := Lib.hid hpc; have PX := Lib.hid hpx; have BE := Lib.hid hbe
            clear hpa hpc hpx hbe
            obtain ⟨g, e0, d0, hpk⟩ := PA.out.cell hilt HROW.out
            cases e0
            by_cases hjlt : j < ni
            · obtain ⟨g2, u, cur, e0, hB, d1, d2, d3⟩ := hpk.at hjlt
              cases e0
              have qa := Lib.hid (PA.out.poke (by decide) d3 j (.int .i64 (-9))); have qc := Lib.hid (PC.out.poke g2 j (.int .i64 (-9))); have qx := Lib.hid (PX.out.poke (by decide) d3 j (.int .i64 (-9)))
              have qb := Lib.hid (BE.out.setCell (p := ⟨g2, j, none⟩) hB (.int .i64 (-9)))
              clear d3 hpk
              go_wp2_with fail
              go_roundw
              case rel => exact ⟨j + 1, by omega, by go_num, qa.out, qc.out, qx.out, qb.out⟩
              case measure => simp [intOf]; omega
            · clear hpk
              go_wp2_with fail
              go_roundw
              case rel => exact ⟨i + 1, by omega, by go_num, PA.out, PC.out, PX.out, BE.out⟩
              case measure => simp [intOf]; omega
        · go_wp2_with fail
          go_loopw [23] (fun i w' => ∃ k : Nat, k ≤ A2.length ∧ i = .int .i64 k ∧ Pk w' wS.heap.size 3 (.slice a3 A2.length c3) ∧ PkG w' wS.heap.size 25 3 (.slice a5 A3.length c5) A3.length vs5 ∧ Below wS.heap.size wS w') (fun i _ => A2.length - (intOf i).toNat)
          case atStart => exact ⟨0, Nat.zero_le _, rfl, PC.out, PX.out, BE.out⟩
          case round =>
            clear PA PC PX BE
            obtain ⟨j, hj, rfl, hpc, hpx, hbe⟩ := hrel
            have PC := Lib.hid hpc; have PX := Lib.hid hpx; have BE := Lib.hid hbe
            clear hpx hbe
            by_cases hjlt : j < A2.length
            · obtain ⟨g2, u, cur, e0, hB, d1, d2, d3⟩ := hpc.at hjlt
              cases e0
              have qc := Lib.hid (PC.out.poke g2 j (.int .i64 (-9))); have qx := Lib.hid (PX.out.poke (by decide) d3 j (.int .i64 (-9)))
              have qb := Lib.hid (BE.out.setCell (p := ⟨g2, j, none⟩) hB (.int .i64 (-9)))
              clear d3 hpc
              go_wp2_with fail
              go_roundw
              case rel => exact ⟨j + 1, by omega, by go_num, qc.out, qx.out, qb.out⟩
              case measure => simp [intOf]; omega
            · clear hpc
              go_wp2_with fail
              go_loopw [24] (fun i w' => ∃ k : Nat, k ≤ A3.length ∧ i = .int .i64 k ∧ PkG w' wS.heap.size 25 3 (.slice a5 A3.length c5) A3.length vs5 ∧ Below wS.heap.size wS w') (fun i _ => A3.length - (intOf i).toNat)
              case atStart => exact ⟨0, Nat.zero_le _, rfl, PX.out, BE.out⟩
              case round =>
                clear PC PX BE
                obtain ⟨i3, hi3, rfl, hpx, hbe⟩ := hrel
                have PX := Lib.hid hpx; have BE := Lib.hid hbe
                clear hpx hbe
                by_cases hilt3 : i3 < A3.length
                · obtain ⟨ai, ni, ci, hrow, hnb⟩ := PX.out.row i3
                  have HROW := Lib.hid hrow; clear hrow
                  obtain ⟨wo, rfl⟩ : ∃ wo : World, wo = wr := ⟨_, rfl⟩
                  go_wp2_with fail
                  go_loopw [25] (fun j w' => ∃ k : Nat, k ≤ ni ∧ j = .int .i64 k ∧ PkG w' wS.heap.size 25 3 (.slice a5 A3.length c5) A3.length vs5 ∧ Below wS.heap.size wS w') (fun j _ => ni - (intOf j).toNat)
                  case atStart => exact ⟨0, Nat.zero_le _, rfl, PX.out, BE.out⟩
                  case round =>
                    clear PX BE
                    obtain ⟨j3, hj3, rfl, hpx, hbe⟩ := hrel
                    have PX := Lib.hid hpx; have BE := Lib.hid hbe
                    clear hpx hbe
                    obtain ⟨g, e0, d0, hpk⟩ := PX.out.cell hilt3 HROW.out
                    cases e0
                    by_cases hjlt3 : j3 < ni
                    · obtain ⟨g2, u, cur, e0, hB, d1, d2, d3⟩ := hpk.at hjlt3
                      cases e0
                      have qx := Lib.hid (PX.out.poke (by decide) d3 j3 (.int .i64 (-9)))
                      have qb := Lib.hid (BE.out.setCell (p := ⟨g2, j3, none⟩) hB (.int .i64 (-9)))
                      clear d3 hpk
                      go_wp2_with fail
                      go_roundw
                      case rel => exact ⟨j3 + 1, by omega, by go_num, qx.out, qb.out⟩
                      case measure => simp [intOf]; omega
                    · clear hpk
                      go_wp2_with fail
                      go_roundw
                      case rel => exact ⟨i3 + 1, by omega, by go_num, PX.out, BE.out⟩
                      case measure => simp [intOf]; omega
                · go_wp2_with fail
                  refine (same_c _ _ _ _ _ _ L L _ (HGO.out.ext BE.out) (HGL.out.ext BE.out)).mono ?_
                  rw [decide_eq_true (rfl : L = L)]
                  rintro e z1 ⟨rfl, hb⟩
                  have Z1 := Lib.hid ((HBo.out.trans BE.out).trans hb); clear hb
                  go_wp2_with fail
                  refine (stand_c _).mono ?_
                  rintro e z2 ⟨rfl, hb⟩
                  have Z2 := Lib.hid (Z1.out.trans hb); clear hb
                  go_wp2_with fail
                  go_ret
                  exact ⟨rfl, Z2.out⟩

end Go.Proofs.Ytkkafjknogfdnaa
