/- Walks: whether levels may be, by the document. -/
import Derived.Test.YtoibjhoebjcfeaaChecked
import Derived.Test.YtoibjhoebjcfeaaLB
import Derived.Test.YtoibjhoebjcfeaaLC
import Derived.Test.YtoibjhoebjcfeaaLS
namespace Go.Proofs.Ytoibjhoebjcfeaa
open Go.RowKit

set_option maxRecDepth 100000 in
set_option maxHeartbeats 1600000 in
theorem refvalid_c (ao : Option Addr) (n cap : Nat) (L : List (List Int)) (w : World) (hx : Grid w ao n cap L) (hsum : L.flatten.length ≤ 17592186044416) :
    Calls Try.prog 109 #[.slice ao n cap] w fun e w' => e = .returned (.bool (validB L)) ∧ Ext w w' := by
  have Hx := Lib.hid hx
  have b1 := hx.fits; have b2 := hx.bound; have hl := hx.len
  have HL := Lib.hid hl
  clear hx hl
  go_enter Try.func109, Try.ntmps109
  go_wp2_with fail
  refine (refall_c _ _ _ L _ Hx.out hsum).mono ?_
  rintro e w1 ⟨v1, rfl, hown, hb1⟩
  obtain ⟨a1, c1, rfl, hi⟩ := own_ints hown
  have HB1 := Lib.hid hb1
  have HI := Lib.hid hi
  have f1 := hi.fits; have f2 := hi.bound
  clear hown hb1 hi
  have V1 := Lib.hid (validB_many L); have V2 := Lib.hid (validB_great L); have V3 := Lib.hid (validB_neg L); have V4 := Lib.hid (validB_dup L); have V5 := Lib.hid (validB_ok L)
  generalize L.flatten = xs at *
  by_cases h5 : 5 < n
  · go_wp2_with fail
    go_ret
    exact ⟨rb (V1.out (by rw [HL.out]; exact h5)), HB1.out⟩
  by_cases h40 : 40 < xs.length
  · go_wp2_with fail
    go_ret
    exact ⟨rb (V2.out h40), HB1.out⟩
  go_wp2_with fail
  go_loopw [4] (fun i w' => ∃ k : Nat, k ≤ xs.length ∧ i = .int .i64 k ∧ (∀ x ∈ xs.take k, 0 ≤ x) ∧ (xs.take k).Nodup ∧ Ext w1 w') (fun i _ => xs.length - (intOf i).toNat)
  case atStart => exact ⟨0, Nat.zero_le _, rfl, by simp, by simp, Ext.refl _⟩
  case round =>
    obtain ⟨k, hk, rfl, hpos, hnd, hb⟩ := hrel
    have HP := Lib.hid hpos; have HN := Lib.hid hnd; have Hb := Lib.hid hb
    clear hpos hnd hb
    by_cases hlt : k < xs.length
    · obtain ⟨b, off, rfl, d1⟩ := (HI.out.ext Hb.out).at hlt
      have d2 := cell_of d1
      have v3 := V3.out k hlt
      have v4 := V4.out k hlt
      have n1 := nonneg_take_succ xs k hlt HP.out
      have n2 := nodup_take_succ xs k hlt HN.out
      generalize xs.getD k 0 = X at *
      have V3' := Lib.hid v3; have V4' := Lib.hid v4; have N1 := Lib.hid n1; have N2 := Lib.hid n2
      clear v3 v4 n1 n2
      go_wp2_with fail
      by_cases hneg : X < 0
      · have hd : decide (X < 0) = true := decide_eq_true hneg
        refine wp_region_ext (by kernel_rfl) (by kernel_rfl) ?_
        repeat (go_big_quiet_step (fail))
        refine wpQuiet_nil ?_
        intro w2 hw2
        have HW := Lib.hid hw2; clear hw2
        go_wp2_with fail
        go_ret
        exact ⟨rb (V3'.out hneg), HB1.out.trans (Hb.out.trans HW.out)⟩
      · have hd : decide (X < 0) = false := decide_eq_false hneg
        by_cases hin : X ∈ xs.take k
        · have hm := Lib.hid (decide_eq_true hin)
          have HIN := Lib.hid hin; clear hin
          refine wp_region_ext (by kernel_rfl) (by kernel_rfl) ?_
          repeat (go_big_quiet_step (exact Calls.quiet_ext (Calls.to (congrArg Value.bool hm.out) (has_c _ _ _ _ _ _ (((HI.out.ext Hb.out).ext (ExtOf.h _)).cut (by omega))))))
          refine wpQuiet_nil ?_
          intro w2 hw2
          have HW := Lib.hid hw2; clear hw2
          go_wp2_with fail
          go_ret
          exact ⟨rb (V4'.out HIN.out), HB1.out.trans (Hb.out.trans HW.out)⟩
        · have hm := Lib.hid (decide_eq_false hin)
          have HIN := Lib.hid hin; clear hin
          refine wp_region_ext (by kernel_rfl) (by kernel_rfl) ?_
          repeat (go_big_quiet_step (exact Calls.quiet_ext (Calls.to (congrArg Value.bool hm.out) (has_c _ _ _ _ _ _ (((HI.out.ext Hb.out).ext (ExtOf.h _)).cut (by omega))))))
          refine wpQuiet_nil ?_
          intro w2 hw2
          have HW := Lib.hid hw2; clear hw2
          go_wp2_with fail
          go_roundw
          case rel => exact ⟨k + 1, by omega, by go_num, N1.out (by omega), N2.out HIN.out, Hb.out.trans HW.out⟩
          case measure => simp [intOf]; omega
    · have hk2 : xs.take k = xs := List.take_of_length_le (by omega)
      have HK := Lib.hid hk2; clear hk2
      go_wp2_with fail
      go_ret
      exact ⟨rb (V5.out (by rw [HL.out]; omega) (by omega) (by have := HP.out; rwa [HK.out] at this) (by have := HN.out; rwa [HK.out] at this)), HB1.out.trans Hb.out⟩

end Go.Proofs.Ytoibjhoebjcfeaa
