/- Walks: the small helpers of the statements on levels. -/
import Derived.Test.YtoibjhoebjcfeaaChecked
import Derived.Test.YtoibjhoebjcfeaaK
namespace Go.Proofs.Ytoibjhoebjcfeaa
open Go.RowKit

theorem take_eq_succ (xs ys : List Int) (k : Nat) (h1 : k < xs.length) (h2 : k < ys.length) (h : xs.take k = ys.take k) (he : xs.getD k 0 = ys.getD k 0) : xs.take (k + 1) = ys.take (k + 1) := by
  rw [take_succ_getD xs 0 k h1, take_succ_getD ys 0 k h2, h, he]

theorem decide_ne_of_getD (xs ys : List Int) (k : Nat) (he : xs.getD k 0 ≠ ys.getD k 0) : decide (xs = ys) = false := by
  rw [decide_eq_false_iff_not]; intro h; exact he (by rw [h])

theorem decide_ne_of_len (xs ys : List Int) (he : xs.length ≠ ys.length) : decide (xs = ys) = false := by
  rw [decide_eq_false_iff_not]; intro h; exact he (by rw [h])

theorem decide_eq_of_take (xs ys : List Int) (n k : Nat) (h1 : xs.length = n) (h2 : ys.length = n) (hk : n ≤ k) (he : xs.take k = ys.take k) : decide (xs = ys) = true := by
  rw [decide_eq_true_iff]
  rwa [List.take_of_length_le (by omega), List.take_of_length_le (by omega)] at he

set_option maxHeartbeats 400000 in
theorem ints_c (ao bo : Option Addr) (n m cap cap2 : Nat) (xs ys : List Int) (w : World) (hx : Ints w ao n cap xs) (hy : Ints w bo m cap2 ys) :
    Calls Try.prog 87 #[.slice ao n cap, .slice bo m cap2] w fun e w' => e = .returned (.bool (decide (xs = ys))) ∧ Ext w w' := by
  have Hx := Lib.hid hx; have Hy := Lib.hid hy
  have b1 := hx.fits; have b2 := hx.bound; have b3 := hy.fits; have b4 := hy.bound
  clear hx hy
  by_cases hlen : (n : Int) = m
  · have hlen1 : ((n : Int) != m) = false := by simp [hlen]
    have Hl := Lib.hid hlen; clear hlen
    go_enter Try.func87, Try.ntmps87
    go_wp2_with fail
    go_loopw [5] (fun i w' => ∃ k : Nat, k ≤ n ∧ i = .int .i64 k ∧ xs.take k = ys.take k ∧ Ext w w') (fun i _ => n - (intOf i).toNat)
    case atStart => exact ⟨0, Nat.zero_le _, rfl, rfl, Ext.refl _⟩
    case round =>
      obtain ⟨k, hk, rfl, heq, hb⟩ := hrel
      have Heq := Lib.hid heq; clear heq
      have Hb := Lib.hid hb; clear hb
      by_cases hlt : k < n
      · have hk2 : k < m := by have := Hl.out; omega
        obtain ⟨b, off, rfl, c1⟩ := (Hx.out.ext Hb.out).at hlt
        obtain ⟨b', off', rfl, c2⟩ := (Hy.out.ext Hb.out).at hk2
        generalize hX : xs.getD k 0 = X at *
        generalize hY : ys.getD k 0 = Y at *
        have HX := Lib.hid hX; clear hX
        have HY := Lib.hid hY; clear hY
        go_wp2_with fail
        go_quiet (fail)
        go_wp2_with fail
        · have hne : (X != Y) = true := by assumption
          go_ret
          exact ⟨rb (decide_ne_of_getD xs ys k (by rw [HX.out, HY.out]; simpa using hne)), Hb.out.drewN _⟩
        · have hne : (X != Y) = false := by assumption
          go_roundw
          case rel => exact ⟨k + 1, by omega, by go_num, take_eq_succ xs ys k (by have := Hx.out.len; omega) (by have := Hy.out.len; omega) Heq.out (by rw [HX.out, HY.out]; simpa using hne), Hb.out.drewN _⟩
          case measure => simp [intOf]; omega
      · go_wp2_with fail
        go_ret
        exact ⟨rb (decide_eq_of_take xs ys n k Hx.out.len (by have := Hy.out.len; have := Hl.out; omega) (by omega) Heq.out), Hb.out⟩
  · have hlen1 : ((n : Int) != m) = true := by simpa using hlen
    have Hl := Lib.hid hlen; clear hlen
    go_enter Try.func87, Try.ntmps87
    go_wp2_with fail
    go_ret
    exact ⟨rb (decide_ne_of_len xs ys (by have := Hx.out.len; have := Hy.out.len; have := Hl.out; omega)), Ext.refl _⟩

theorem gtake_eq_succ (xs ys : List (List Int)) (k : Nat) (h1 : k < xs.length) (h2 : k < ys.length) (h : xs.take k = ys.take k) (he : xs.getD k [] = ys.getD k []) : xs.take (k + 1) = ys.take (k + 1) := by
  rw [take_succ_getD xs [] k h1, take_succ_getD ys [] k h2, h, he]
theorem gdecide_ne_of_getD (xs ys : List (List Int)) (k : Nat) (he : xs.getD k [] ≠ ys.getD k []) : decide (xs = ys) = false := by
  rw [decide_eq_false_iff_not]; intro h; exact he (by rw [h])
theorem gdecide_ne_of_len (xs ys : List (List Int)) (he : xs.length ≠ ys.length) : decide (xs = ys) = false := by
  rw [decide_eq_false_iff_not]; intro h; exact he (by rw [h])
theorem gdecide_eq_of_take (xs ys : List (List Int)) (n k : Nat) (h1 : xs.length = n) (h2 : ys.length = n) (hk : n ≤ k) (he : xs.take k = ys.take k) : decide (xs = ys) = true := by
  rw [decide_eq_true_iff]
  rwa [List.take_of_length_le (by omega), List.take_of_length_le (by omega)] at he

set_option maxHeartbeats 400000 in
theorem same_c (ao bo : Option Addr) (n m cap cap2 : Nat) (xs ys : List (List Int)) (w : World) (hx : Grid w ao n cap xs) (hy : Grid w bo m cap2 ys) :
    Calls Try.prog 67 #[.slice ao n cap, .slice bo m cap2] w fun e w' => e = .returned (.bool (decide (xs = ys))) ∧ Ext w w' := by
  have Hx := Lib.hid hx; have Hy := Lib.hid hy
  have b1 := hx.fits; have b2 := hx.bound; have b3 := hy.fits; have b4 := hy.bound
  clear hx hy
  by_cases hlen : (n : Int) = m
  · have hlen1 : ((n : Int) != m) = false := by simp [hlen]
    have Hl := Lib.hid hlen; clear hlen
    go_enter Try.func67, Try.ntmps67
    go_wp2_with fail
    go_loopw [5] (fun i w' => ∃ k : Nat, k ≤ n ∧ i = .int .i64 k ∧ xs.take k = ys.take k ∧ Ext w w') (fun i _ => n - (intOf i).toNat)
    case atStart => exact ⟨0, Nat.zero_le _, rfl, rfl, Ext.refl _⟩
    case round =>
      obtain ⟨k, hk, rfl, heq, hb⟩ := hrel
      have Heq := Lib.hid heq; clear heq
      have Hb := Lib.hid hb; clear hb
      by_cases hlt : k < n
      · have hk2 : k < m := by have := Hl.out; omega
        obtain ⟨b, off, ai, ni, ci, rfl, c1, r1⟩ := (Hx.out.ext Hb.out).at hlt
        obtain ⟨b', off', ai', ni', ci', rfl, c2, r2⟩ := (Hy.out.ext Hb.out).at hk2
        have d1 := cell_of c1; have d2 := cell_of c2
        have R1 := Lib.hid r1; have R2 := Lib.hid r2; clear r1 r2
        go_wp2_with fail
        by_cases hne : xs.getD k [] = ys.getD k []
        · have hd : decide (xs.getD k [] = ys.getD k []) = true := decide_eq_true hne
          have Hd := Lib.hid hd; have Hne := Lib.hid hne; clear hd hne
          refine wp_region_ext (by kernel_rfl) (by kernel_rfl) ?_
          repeat (go_big_quiet_step (exact Calls.quiet_ext (Calls.to (congrArg Value.bool Hd.out) (ints_c _ _ _ _ _ _ _ _ _ (R1.out.ext (ExtOf.h _)) (R2.out.ext (ExtOf.h _))))))
          refine wpQuiet_nil ?_
          intro w2 hw2
          have HW := Lib.hid hw2; clear hw2
          go_wp2_with fail
          go_roundw
          case rel => exact ⟨k + 1, by omega, by go_num, gtake_eq_succ xs ys k (by have := Hx.out.len; omega) (by have := Hy.out.len; omega) Heq.out Hne.out, Hb.out.trans HW.out⟩
          case measure => simp [intOf]; omega
        · have hd : decide (xs.getD k [] = ys.getD k []) = false := decide_eq_false hne
          have Hd := Lib.hid hd; have Hne := Lib.hid hne; clear hd hne
          refine wp_region_ext (by kernel_rfl) (by kernel_rfl) ?_
          repeat (go_big_quiet_step (exact Calls.quiet_ext (Calls.to (congrArg Value.bool Hd.out) (ints_c _ _ _ _ _ _ _ _ _ (R1.out.ext (ExtOf.h _)) (R2.out.ext (ExtOf.h _))))))
          refine wpQuiet_nil ?_
          intro w2 hw2
          have HW := Lib.hid hw2; clear hw2
          go_wp2_with fail
          go_ret
          exact ⟨rb (gdecide_ne_of_getD xs ys k Hne.out), Hb.out.trans HW.out⟩
      · go_wp2_with fail
        go_ret
        exact ⟨rb (gdecide_eq_of_take xs ys n k Hx.out.len (by have := Hy.out.len; have := Hl.out; omega) (by omega) Heq.out), Hb.out⟩
  · have hlen1 : ((n : Int) != m) = true := by simpa using hlen
    have Hl := Lib.hid hlen; clear hlen
    go_enter Try.func67, Try.ntmps67
    go_wp2_with fail
    go_ret
    exact ⟨rb (gdecide_ne_of_len xs ys (by have := Hx.out.len; have := Hy.out.len; have := Hl.out; omega)), Ext.refl _⟩

end Go.Proofs.Ytoibjhoebjcfeaa
