/- Walks: whether a state may be. -/
import Derived.Test.YtkkafjknogfdnaaChecked
import Derived.Test.YtkkafjknogfdnaaFS
namespace Go.Proofs.Ytkkafjknogfdnaa
open Go.RowKit

theorem box2 {w w1 : World} {a b : Value} {t : TypeId} (h : Ext (w.alloc (.cells #[a, b] t)) w1) : w1.cell? ⟨w.heap.size, 0, none⟩ = some a ∧ w1.cell? ⟨w.heap.size, 1, none⟩ = some b :=
  ⟨cell_ext h (by simp), cell_ext h (by simp)⟩

set_option maxRecDepth 100000 in
set_option maxHeartbeats 3200000 in
theorem fcheck_c (nx : Int) (ao : Option Addr) (n cap : Nat) (K : List Kd) (w : World) (hx : Kds w ao n cap K) :
    Calls Try.prog 41 #[.agg #[.int .i64 nx, .slice ao n cap]] w fun e w' => e = .returned (.int .i64 (checkN nx K)) ∧ Ext w w' := by
  have Hx := Lib.hid hx
  have b1 := hx.fits; have b2 := hx.bound
  have HLen := Lib.hid hx.len
  clear hx
  by_cases hnum : 0 ≤ nx ∧ nx ≤ 1073741824 ∧ n ≤ 256
  case neg =>
    have HN := Lib.hid (checkN_no (nx := nx) (K := K) (fun h => hnum ⟨h.1, h.2.1, by have := HLen.out; have := h.2.2.1; omega⟩))
    have hcase : nx < 0 ∨ (0 ≤ nx ∧ 1073741824 < nx) ∨ (0 ≤ nx ∧ nx ≤ 1073741824 ∧ 256 < (n : Int)) := by omega
    clear hnum
    go_enter Try.func41, Try.ntmps41
    rcases hcase with h | ⟨h0, h⟩ | ⟨h0, h1, h⟩
    all_goals
      go_wp2_with fail
      go_ret
      exact ⟨rn HN.out, ext_a1 _ _⟩
  obtain ⟨n0, n1, n2⟩ := hnum
  go_enter Try.func41, Try.ntmps41
  go_wp2_with fail
  go_loopw [3, 25] (fun l i w' => ∃ (k : Nat) (left : Int), k ≤ n ∧ i = .int .i64 k ∧ l = .int .i64 left ∧ 0 ≤ left ∧ left = nx - sumM (K.take k) ∧ (∀ j, j < k → okAt K j) ∧ Ext (w.alloc (.cells #[.int .i64 nx, .slice ao n cap] 55)) w') (fun _ i _ => n - (intOf i).toNat)
  case atStart => exact ⟨0, nx, Nat.zero_le _, rfl, rfl, n0, by simp [sumM_nil], by omega, Ext.refl _⟩
  case round =>
    obtain ⟨k, left, hk, rfl, rfl, hl0, hl, hok, hb⟩ := hrel
    have HL := Lib.hid hl; have HOk := Lib.hid hok; have Hb := Lib.hid hb
    have hl1 : left ≤ 1073741824 := by
      have : 0 ≤ sumM (K.take k) := sumM_nonneg _ fun x hx => by
        obtain ⟨j, hj, rfl⟩ := List.mem_iff_getElem.1 hx
        rw [List.length_take] at hj
        have := (hok j (by omega)).2.2.1
        rw [List.getElem_take]
        rwa [List.getD_eq_getElem?_getD, List.getElem?_eq_getElem (by omega)] at this
      omega
    clear hl hok hb
    by_cases hlt : k < n
    · obtain ⟨b, off, rfl, c0, c1, c2⟩ := (Hx.out.ext ((ext_a1 _ _).trans Hb.out)).at hlt
      obtain ⟨q, hq⟩ : ∃ q, K.getD k kd0 = q := ⟨_, rfl⟩
      rw [hq] at c0 c1 c2
      have HQ := Lib.hid hq; clear hq
      obtain ⟨t, mm, bb⟩ := q
      have HNo : Hid (¬ (okK (prevT K k) ⟨t, mm, bb⟩ ∧ mm ≤ left) → checkN nx K = 2) := Lib.hid (fun h => checkN_no fun ho => h (by
        have h1 := ho.2.2.2.1 k (by rw [HLen.out]; exact hlt)
        unfold okAt at h1
        rw [HQ.out] at h1
        refine ⟨h1, ?_⟩
        have h2 := sumM_take_le K (k + 1) ho.2.2.2.1
        rw [sumM_take_succ K k (by rw [HLen.out]; exact hlt), HQ.out, ho.2.2.2.2] at h2
        have := HL.out
        have h3 : ({ t := t, m := mm, b := bb } : Kd).m = mm := rfl
        omega))
      have e0 : (wr.alloc (.cells #[.string ⟨t.toArray⟩, .int .i64 mm, .int .i64 bb] 103)).cell? ⟨wr.heap.size, 0, none⟩ = some (.string ⟨t.toArray⟩) := by simp
      have e1 : (wr.alloc (.cells #[.string ⟨t.toArray⟩, .int .i64 mm, .int .i64 bb] 103)).cell? ⟨wr.heap.size, 1, none⟩ = some (.int .i64 mm) := by simp
      have e2 : (wr.alloc (.cells #[.string ⟨t.toArray⟩, .int .i64 mm, .int .i64 bb] 103)).cell? ⟨wr.heap.size, 2, none⟩ = some (.int .i64 bb) := by simp
      have s1 := cell_ext (ext_a1 wr (.cells #[.string ⟨t.toArray⟩, .int .i64 mm, .int .i64 bb] 103)) (box2 Hb.out).2
      have u0 := cell_of e0; have u1 := cell_of e1; have u2' := cell_of e2; have y1 := cell_of s1
      have htl : t.length ≤ 9223372036854775807 ∨ True := .inr trivial
      clear htl
      go_wp2_with fail
      clear c0 c1 c2
      by_cases hbase : 1 ≤ (t.length : Int) ∧ (t.length : Int) ≤ 16 ∧ 1 ≤ mm ∧ mm ≤ left ∧ 0 ≤ bb ∧ bb ≤ 200 * mm
      case neg =>
        have HN := Lib.hid (HNo.out (fun h => hbase (by
          obtain ⟨⟨a1, a2, a3, a4, a5, _⟩, a6⟩ := h
          have a1' : 1 ≤ t.length := a1
          have a2' : t.length ≤ 16 := a2
          have a3' : 1 ≤ mm := a3
          have a4' : 0 ≤ bb := a4
          have a5' : bb ≤ 200 * mm := a5
          omega)))
        have hcase : ((t.length : Int) < 1) ∨ (¬ (t.length : Int) < 1 ∧ 16 < (t.length : Int)) ∨ (¬ (t.length : Int) < 1 ∧ ¬ 16 < (t.length : Int) ∧ mm < 1) ∨ (¬ (t.length : Int) < 1 ∧ ¬ 16 < (t.length : Int) ∧ ¬ mm < 1 ∧ left < mm) ∨ (¬ (t.length : Int) < 1 ∧ ¬ 16 < (t.length : Int) ∧ ¬ mm < 1 ∧ ¬ left < mm ∧ bb < 0) ∨ (¬ (t.length : Int) < 1 ∧ ¬ 16 < (t.length : Int) ∧ ¬ mm < 1 ∧ ¬ left < mm ∧ ¬ bb < 0 ∧ 200 * mm < bb) := by omega
        clear hbase HNo
        rcases hcase with h1 | ⟨h1, h2⟩ | ⟨h1, h2, h3⟩ | ⟨h1, h2, h3, h4⟩ | ⟨h1, h2, h3, h4, h5⟩ | ⟨h1, h2, h3, h4, h5, h6⟩
        · have d1 := decide_eq_true h1
          refine wp_region_ext (by kernel_rfl) (by kernel_rfl) ?_
          repeat (go_big_quiet_step (fail))
          refine wpQuiet_nil ?_
          intro w4 hw4
          have HW := Lib.hid (((ext_a1 _ _).trans Hb.out).trans ((ext_a1 _ _).trans hw4)); have HW4 := Lib.hid hw4; clear hw4
          go_wp2_with fail
          go_ret
          exact ⟨rn HN.out, HW.out⟩
        · have d1 := decide_eq_false h1
          have d2 := decide_eq_true h2
          refine wp_region_ext (by kernel_rfl) (by kernel_rfl) ?_
          repeat (go_big_quiet_step (fail))
          refine wpQuiet_nil ?_
          intro w4 hw4
          have HW := Lib.hid (((ext_a1 _ _).trans Hb.out).trans ((ext_a1 _ _).trans hw4)); have HW4 := Lib.hid hw4; clear hw4
          go_wp2_with fail
          go_ret
          exact ⟨rn HN.out, HW.out⟩
        · have d1 := decide_eq_false h1
          have d2 := decide_eq_false h2
          have d3 := decide_eq_true h3
          refine wp_region_ext (by kernel_rfl) (by kernel_rfl) ?_
          repeat (go_big_quiet_step (fail))
          refine wpQuiet_nil ?_
          intro w4 hw4
          have HW := Lib.hid (((ext_a1 _ _).trans Hb.out).trans ((ext_a1 _ _).trans hw4)); have HW4 := Lib.hid hw4; clear hw4
          go_wp2_with fail
          go_ret
          exact ⟨rn HN.out, HW.out⟩
        · have d1 := decide_eq_false h1
          have d2 := decide_eq_false h2
          have d3 := decide_eq_false h3
          have d4 := decide_eq_true h4
          refine wp_region_ext (by kernel_rfl) (by kernel_rfl) ?_
          repeat (go_big_quiet_step (fail))
          refine wpQuiet_nil ?_
          intro w4 hw4
          have HW := Lib.hid (((ext_a1 _ _).trans Hb.out).trans ((ext_a1 _ _).trans hw4)); have HW4 := Lib.hid hw4; clear hw4
          go_wp2_with fail
          go_ret
          exact ⟨rn HN.out, HW.out⟩
        · have d1 := decide_eq_false h1
          have d2 := decide_eq_false h2
          have d3 := decide_eq_false h3
          have d4 := decide_eq_false h4
          have d5 := decide_eq_true h5
          refine wp_region_ext (by kernel_rfl) (by kernel_rfl) ?_
          repeat (go_big_quiet_step (fail))
          refine wpQuiet_nil ?_
          intro w4 hw4
          have HW := Lib.hid (((ext_a1 _ _).trans Hb.out).trans ((ext_a1 _ _).trans hw4)); have HW4 := Lib.hid hw4; clear hw4
          go_wp2_with fail
          go_ret
          exact ⟨rn HN.out, HW.out⟩
        · have d1 := decide_eq_false h1
          have d2 := decide_eq_false h2
          have d3 := decide_eq_false h3
          have d4 := decide_eq_false h4
          have d5 := decide_eq_false h5
          have d6 := decide_eq_true h6
          refine wp_region_ext (by kernel_rfl) (by kernel_rfl) ?_
          repeat (go_big_quiet_step (fail))
          refine wpQuiet_nil ?_
          intro w4 hw4
          have HW := Lib.hid (((ext_a1 _ _).trans Hb.out).trans ((ext_a1 _ _).trans hw4)); have HW4 := Lib.hid hw4; clear hw4
          go_wp2_with fail
          go_ret
          exact ⟨rn HN.out, HW.out⟩
      obtain ⟨h1, h2, h3, h4, h5, h6⟩ := hbase
      have d1 := decide_eq_false (show ¬ (t.length : Int) < 1 by omega)
      have d2 := decide_eq_false (show ¬ 16 < (t.length : Int) by omega)
      have d3 := decide_eq_false (show ¬ mm < 1 by omega)
      have d4 := decide_eq_false (show ¬ left < mm by omega)
      have d5 := decide_eq_false (show ¬ bb < 0 by omega)
      have d6 := decide_eq_false (show ¬ 200 * mm < bb by omega)
      cases k with
      | zero =>
        have dk : decide ((0 : Int) < ((0 : Nat) : Int)) = false := by decide
        have HRel : Hid (∀ j, j < 0 + 1 → okAt K j) := Lib.hid (fun j hj => by
          obtain rfl : j = 0 := by omega
          unfold okAt
          rw [HQ.out]
          exact ⟨by show 1 ≤ t.length; omega, by show t.length ≤ 16; omega, h3, h5, h6, fun q hq => by simp [prevT] at hq⟩)
        refine wp_region_ext (by kernel_rfl) (by kernel_rfl) ?_
        repeat (go_big_quiet_step (fail))
        refine wpQuiet_nil ?_
        intro w4 hw4
        have HW := Lib.hid (((ext_a1 _ _).trans Hb.out).trans ((ext_a1 _ _).trans hw4)); have HW4 := Lib.hid hw4; clear hw4
        have m1 := cell_ext HW4.out e1
        go_wp2_with fail
        go_roundw
        case rel => exact ⟨1, left - mm, by omega, rfl, rfl, by omega, by rw [sumM_take_succ K 0 (by rw [HLen.out]; exact hlt), HQ.out, HL.out]; show _ = nx - (_ + mm); omega, HRel.out, Hb.out.trans ((ext_a1 _ _).trans HW4.out)⟩
        case measure => simp [intOf]; omega
      | succ k =>
        have dk : decide ((0 : Int) < ((k + 1 : Nat) : Int)) = true := decide_eq_true (by omega)
        have dk2 : decide (0 < (k : Int) + 1) = true := decide_eq_true (by omega)
        have hpk : prevT K (k + 1) = some (K.getD k kd0).t := by unfold prevT; rw [if_neg (by omega)]; rfl
        obtain ⟨b2, off2, eb, c0, _, _⟩ := (Hx.out.ext ((ext_a1 _ _).trans Hb.out)).at (i := k) (by omega)
        cases eb
        have g0 := cell_of (cell_ext (ext_a1 wr (.cells #[.string ⟨t.toArray⟩, .int .i64 mm, .int .i64 bb] 103)) c0)
        obtain ⟨pt, hpt⟩ : ∃ p, (K.getD k kd0).t = p := ⟨_, rfl⟩
        rw [hpt] at g0 hpk
        have HPk := Lib.hid hpk
        have hidx : (k : Int) + 1 - 1 = (k : Int) := by omega
        clear hpk hpt c0
        cases hle : Op.bytesLess pt t with
        | true =>
          have HRel : Hid (∀ j, j < k + 1 + 1 → okAt K j) := Lib.hid (fun j hj => by
            by_cases hjk : j < k + 1
            · exact HOk.out j hjk
            obtain rfl : j = k + 1 := by omega
            unfold okAt
            rw [HQ.out]
            exact ⟨by show 1 ≤ t.length; omega, by show t.length ≤ 16; omega, h3, h5, h6, fun q hq => by rw [HPk.out] at hq; cases hq; exact hle⟩)
          refine wp_region_ext (by kernel_rfl) (by kernel_rfl) ?_
          repeat (go_big_quiet_step (fail))
          refine wpQuiet_nil ?_
          intro w4 hw4
          have HW := Lib.hid (((ext_a1 _ _).trans Hb.out).trans ((ext_a1 _ _).trans hw4)); have HW4 := Lib.hid hw4; clear hw4
          have m1 := cell_ext HW4.out e1
          have HLe := Lib.hid hle
          clear hle
          go_wp2_with fail
          go_roundw
          case rel => exact ⟨k + 1 + 1, left - mm, by omega, by go_num, rfl, by omega, by rw [sumM_take_succ K (k + 1) (by rw [HLen.out]; exact hlt), HQ.out, HL.out]; show _ = nx - (_ + mm); omega, HRel.out, Hb.out.trans ((ext_a1 _ _).trans HW4.out)⟩
          case measure => simp [intOf]; omega
        | false =>
          have HN := Lib.hid (HNo.out (fun h => by
            have := h.1.2.2.2.2.2 pt HPk.out
            have h2 : Op.bytesLess pt t = true := this
            rw [hle] at h2; cases h2))
          refine wp_region_ext (by kernel_rfl) (by kernel_rfl) ?_
          repeat (go_big_quiet_step (fail))
          refine wpQuiet_nil ?_
          intro w4 hw4
          have HW := Lib.hid (((ext_a1 _ _).trans Hb.out).trans ((ext_a1 _ _).trans hw4)); have HW4 := Lib.hid hw4; clear hw4
          clear hle
          go_wp2_with fail
          go_ret
          exact ⟨rn HN.out, HW.out⟩
    · have hkn : k = n := by omega
      have ht : K.take k = K := List.take_of_length_le (by rw [HLen.out]; omega)
      rw [ht] at HL
      have hokn : ∀ j, j < K.length → okAt K j := fun j hj => HOk.out j (by rw [HLen.out] at hj; omega)
      by_cases hz : left = 0
      · have HN := Lib.hid (checkN_yes (nx := nx) (K := K) ⟨n0, n1, by rw [HLen.out]; exact n2, hokn, by have := HL.out; omega⟩)
        subst hz
        clear ht hkn hokn
        go_wp2_with fail
        go_ret
        exact ⟨rn HN.out, (ext_a1 _ _).trans Hb.out⟩
      · have HN := Lib.hid (checkN_no (nx := nx) (K := K) (fun h => hz (by have := HL.out; have := h.2.2.2.2; omega)))
        have hz' : (left != 0) = true := by simpa using hz
        clear ht hkn hokn hz
        go_wp2_with fail
        go_ret
        exact ⟨rn HN.out, (ext_a1 _ _).trans Hb.out⟩

end Go.Proofs.Ytkkafjknogfdnaa
