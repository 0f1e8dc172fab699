/- Walks: whatever is added and replaced, the levels may be. -/
import Derived.Test.YtkkafjknogfdnaaChecked
import Derived.Test.YtkkafjknogfdnaaLM
import Derived.Test.YtkkafjknogfdnaaLQ
import Derived.Test.YtkkafjknogfdnaaKS
namespace Go.Proofs.Ytkkafjknogfdnaa
open Go.RowKit

set_option maxRecDepth 100000 in
set_option maxHeartbeats 12800000 in
theorem grow_law_c (ao : Option Addr) (n cap : Nat) (bs : List Int) (w : World) (hx : U8s w ao n cap bs) (hwf : ∀ x ∈ bs, (Lit.int .u8 x).wf = true) :
    Calls Try.prog 4 #[.slice ao n cap] w fun e w' => e = .returned (.bool true) ∧ Ext w w' := by
  have Hx := Lib.hid hx
  have b1 := hx.fits; have b2 := hx.bound
  have HWF := Lib.hid hwf
  clear hx hwf
  by_cases h200 : 200 < n
  · go_enter Try.func4, Try.ntmps4
    go_wp2_with fail
    refine (stand_c _).mono ?_
    rintro e w2 ⟨rfl, hb2⟩
    have HB2 := Lib.hid hb2
    clear hb2
    go_wp2_with fail
    go_ret
    exact ⟨rfl, HB2.out⟩
  go_enter Try.func4, Try.ntmps4
  go_wp2_with fail
  go_loopw [3, 4, 5] (fun v m i w' => ∃ (k : Nat) (L : List (List Int)), k ≤ n ∧ i = .int .i64 k ∧ m = .int .i64 L.flatten.length ∧ GrowI L k ∧ (∃ ao c, v = .slice ao L.length c ∧ Grid w' ao L.length c L) ∧ Ext w w') (fun _ _ i _ => n - (intOf i).toNat)
  case atStart => exact ⟨0, [], Nat.zero_le _, rfl, rfl, GrowI.nil, ⟨_, _, rfl, Grid.empty _⟩, Ext.refl _⟩
  case round =>
    obtain ⟨k, L, hk, rfl, rfl, hI, ⟨al, cl, rfl, hg⟩, hb⟩ := hrel
    have Hb := Lib.hid hb; have HG := Lib.hid hg; have HI := Lib.hid hI
    have f1 := hg.fits; have f2 := hg.bound
    obtain ⟨l1, l2, _, _⟩ := validB_parts hI.1
    have HWL := Lib.hid (hI.wf (by omega))
    clear hb hg hI
    by_cases hlt : k < n
    · obtain ⟨b, off, rfl, c1⟩ := (Hx.out.ext Hb.out).at 0 hlt
      have hwx := wf_getD HWF.out k (by decide)
      generalize bs.getD k 0 = X at *
      have hX := bounds_u8 hwx
      clear hwx
      generalize hF0 : L.flatten.length = F at *
      have HF0 := Lib.hid hF0; clear hF0
      have L2 := Lib.hid l2
      by_cases h5 : 5 ≤ X % 12
      · have hS := HI.out.addS
        rw [HF0.out] at hS
        by_cases h40 : 40 ≤ F
        · rw [if_pos h40] at hS
          have HS := Lib.hid hS; clear hS
          have hz : ((F : Int) == 40) = true := by rw [beq_iff_eq]; omega
          clear l2 h40
          go_wp2_with fail
          refine (add_c _ _ _ L k _ HG.out (by rw [HF0.out]; have := L2.out; omega) (by omega) HWL.out).mono ?_
          rw [HS.out]
          rintro e w1 ⟨v1, vs1, rfl, hv1, hb1⟩
          obtain ⟨a1, c1', rfl⟩ := hv1.own.slice
          have HB1 := Lib.hid (Hb.out.trans hb1)
          have HG1 := Lib.hid (HG.out.ext hb1)
          clear hv1 hb1
          go_wp2_with fail
          go_roundw
          case rel => exact ⟨k + 1, L, by omega, by go_num, by rw [HF0.out], HI.out.le, ⟨_, _, rfl, HG1.out⟩, HB1.out⟩
          case measure => simp [intOf]; omega
        · rw [if_neg h40] at hS
          have HS := Lib.hid hS; clear hS
          have hz : ((F : Int) == 40) = false := by rw [beq_eq_false_iff_ne]; omega
          have hA := HI.out.add (by rw [HF0.out]; omega)
          have HA := Lib.hid hA; clear hA
          clear l2
          go_wp2_with fail
          refine (add_c _ _ _ L k _ HG.out (by rw [HF0.out]; have := L2.out; omega) (by omega) HWL.out).mono ?_
          rw [HS.out]
          rintro e w1 ⟨v1, vs1, rfl, hv1, hb1⟩
          obtain ⟨a1, c1', rfl, hg1⟩ := hv1.grid
          have HB1 := Lib.hid (Hb.out.trans hb1)
          have HG1 := Lib.hid hg1
          clear hv1 hb1 hg1
          go_wp2_with fail
          go_roundw
          case rel => exact ⟨k + 1, addL L k, by omega, by go_num, by rw [HA.out.2, HF0.out]; go_num, HA.out.1, ⟨_, _, rfl, HG1.out⟩, HB1.out⟩
          case measure => simp [intOf]; omega
      · obtain ⟨lv, hlv⟩ : ∃ lv : Nat, X % 12 = (lv : Int) := ⟨(X % 12).toNat, by omega⟩
        have hlv5 : lv < 5 := by omega
        have hP := HI.out.pickS hlv5
        have hR := HI.out.replaceS hlv5
        by_cases he : L.getD lv [] = []
        · rw [if_pos he] at hP hR
          have HP := Lib.hid hP; have HR := Lib.hid hR
          clear hP hR he l2
          go_wp2_with fail
          refine (pick_c _ _ _ L lv _ HG.out (by rw [HF0.out]; have := L2.out; omega) HWL.out).mono ?_
          rw [HP.out]
          rintro e w1 ⟨v1, rfl, hv1, hb1⟩
          obtain ⟨a1, c1', rfl⟩ := hv1.slice
          have HB1 := Lib.hid (Hb.out.trans hb1)
          have HG1 := Lib.hid (HG.out.ext hb1)
          clear hv1 hb1
          go_wp2_with fail
          refine (replace_c _ _ _ L lv k _ HG1.out (by rw [HF0.out]; have := L2.out; omega) (by omega) HWL.out).mono ?_
          rw [HR.out]
          rintro e w2 ⟨v2, vs2, rfl, hv2, hb2⟩
          obtain ⟨a2, c2', rfl⟩ := hv2.own.slice
          have HB2 := Lib.hid (HB1.out.trans hb2)
          have HG2 := Lib.hid (HG1.out.ext hb2)
          clear hv2 hb2
          go_wp2_with fail
          go_roundw
          case rel => exact ⟨k + 1, L, by omega, by go_num, by rw [HF0.out], HI.out.le, ⟨_, _, rfl, HG2.out⟩, HB2.out⟩
          case measure => simp [intOf]; omega
        · rw [if_neg he] at hP hR
          have HP := Lib.hid hP; have HR := Lib.hid hR
          have hA := HI.out.rep hlv5 he
          have hrl := row_le_flatten L lv
          rw [HF0.out] at hA hrl
          have HA := Lib.hid hA
          have hrp := hA.2
          clear hP hR he hA
          generalize hRr : L.getD lv [] = R at *
          have HRP := Lib.hid hrp; clear hrp hRr
          go_wp2_with fail
          refine (pick_c _ _ _ L lv _ HG.out (by rw [HF0.out]; have := L2.out; omega) HWL.out).mono ?_
          rw [HP.out]
          rintro e w1 ⟨v1, rfl, hv1, hb1⟩
          obtain ⟨a1, c1', rfl⟩ := hv1.slice
          have HB1 := Lib.hid (Hb.out.trans hb1)
          have HG1 := Lib.hid (HG.out.ext hb1)
          clear hv1 hb1
          go_wp2_with fail
          refine (replace_c _ _ _ L lv k _ HG1.out (by rw [HF0.out]; have := L2.out; omega) (by omega) HWL.out).mono ?_
          rw [HR.out]
          rintro e w2 ⟨v2, vs2, rfl, hv2, hb2⟩
          obtain ⟨a2, c2', rfl, hg2⟩ := hv2.grid
          have HB2 := Lib.hid (HB1.out.trans hb2)
          have HG2 := Lib.hid hg2
          clear hv2 hb2 hg2
          go_wp2_with fail
          go_roundw
          case rel => exact ⟨k + 1, repL L lv k, by omega, by go_num, by have := HRP.out; go_num, HA.out.1, ⟨_, _, rfl, HG2.out⟩, HB2.out⟩
          case measure => simp [intOf]; omega
    · have hkn : k = n := by omega
      have HKN := Lib.hid hkn; clear hkn
      go_wp2_with fail
      refine (all_c _ _ _ L _ HG.out (by omega)).mono ?_
      rintro e w1 ⟨v1, rfl, hv1, hb1⟩
      obtain ⟨a1, c1, rfl, hi1⟩ := own_ints hv1
      have HB1 := Lib.hid (Hb.out.trans hb1)
      have HG1 := Lib.hid (HG.out.ext hb1)
      have HI1 := Lib.hid hi1
      have q1 := hi1.fits; have q2 := hi1.bound
      have HV := Lib.hid HI.out.1
      have HM := Lib.hid HI.out.2
      clear hv1 hb1 hi1 HI Hb HG
      generalize hF : L.flatten = F at *
      have HF := Lib.hid hF; clear hF
      go_wp2_with fail
      go_loopw [14] (fun i w' => ∃ j : Nat, j ≤ F.length ∧ i = .int .i64 j ∧ Ext w1 w') (fun i _ => F.length - (intOf i).toNat)
      case atStart => exact ⟨0, Nat.zero_le _, rfl, Ext.refl _⟩
      case round =>
        obtain ⟨j, hj, rfl, hb2⟩ := hrel
        have HB2 := Lib.hid hb2; clear hb2
        by_cases hjl : j < F.length
        · obtain ⟨b, off, rfl, d1⟩ := (HI1.out.ext HB2.out).at hjl
          have hm := HM.out _ (getD_mem F j hjl)
          generalize F.getD j 0 = Y at *
          have hY : Y < n := by have := HKN.out; omega
          clear hm
          go_wp2_with fail
          go_roundw
          case rel => exact ⟨j + 1, by omega, by go_num, HB2.out⟩
          case measure => simp [intOf]; omega
        · go_wp2_with fail
          refine (valid_c _ _ _ L _ (HG1.out.ext HB2.out) (by rw [HF.out]; omega) (by rw [HF.out]; exact HWL.out)).mono ?_
          rw [HV.out]
          rintro e w3 ⟨rfl, hb3⟩
          have HB3 := Lib.hid ((HB1.out.trans HB2.out).trans hb3); clear hb3
          go_wp2_with fail
          refine (stand_c _).mono ?_
          rintro e w4 ⟨rfl, hb4⟩
          have HB4 := Lib.hid (HB3.out.trans hb4); clear hb4
          go_wp2_with fail
          go_ret
          exact ⟨rfl, HB4.out⟩

end Go.Proofs.Ytkkafjknogfdnaa
