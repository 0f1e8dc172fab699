/- Walks: whether a state may be, by the document. -/
import Derived.Test.YtkkafjknogfdnaaChecked
import Derived.Test.YtkkafjknogfdnaaFA
namespace Go.Proofs.Ytkkafjknogfdnaa
open Go.RowKit

/-- what the document's loop holds -/
def RefSt (nx : Int) (K : List Kd) (k : Nat) (al : Int) (ok : Bool) : Prop :=
  (ok = true → al = sumM (K.take k) ∧ (∀ j, j < k → okAt K j) ∧ 0 ≤ al ∧ al ≤ k * 1073741824) ∧ (ok = false → checkN nx K = 2)

set_option maxRecDepth 100000 in
set_option maxHeartbeats 6400000 in
theorem reffcheck_c (nx : Int) (ao : Option Addr) (n cap : Nat) (K : List Kd) (w : World) (hx : Kds w ao n cap K) :
    Calls Try.prog 42 #[.agg #[.int .i64 nx, .slice ao n cap]] w fun e w' => e = .returned (.int .i64 (checkN nx K)) ∧ Ext w w' := by
  have Hx := Lib.hid hx
  have b1 := hx.fits; have b2 := hx.bound
  have HLen := Lib.hid hx.len
  clear hx
  by_cases hnum : 0 ≤ nx ∧ nx ≤ 1073741824 ∧ (n : Int) ≤ 256
  case neg =>
    have HN := Lib.hid (checkN_no (nx := nx) (K := K) (fun h => hnum ⟨h.1, h.2.1, by have := HLen.out; have := h.2.2.1; omega⟩))
    have hcase : (¬ 0 ≤ nx) ∨ (0 ≤ nx ∧ ¬ nx ≤ 1073741824) ∨ (0 ≤ nx ∧ nx ≤ 1073741824 ∧ ¬ (n : Int) ≤ 256) := by omega
    clear hnum
    have s1 := (box2 (Ext.refl (w.alloc (.cells #[.int .i64 nx, .slice ao n cap] 61)))).2
    go_enter Try.func42, Try.ntmps42
    rcases hcase with h | ⟨h0, h⟩ | ⟨h0, h1, h⟩
    · have d9 := decide_eq_false h
      go_wp2_with fail
      refine wp_loop_rounds 1 ?_
      rw [rounds_succ]
      go_wp2_with fail
      all_goals
        go_ret
        exact ⟨rn HN.out, ext_a1 _ _⟩
    · have d1 := decide_eq_true h0
      have d9 := decide_eq_false h
      go_wp2_with fail
      refine wp_loop_rounds 1 ?_
      rw [rounds_succ]
      go_wp2_with fail
      all_goals
        go_ret
        exact ⟨rn HN.out, ext_a1 _ _⟩
    · have d1 := decide_eq_true h0
      have d2 := decide_eq_true h1
      have d9 := decide_eq_false h
      go_wp2_with fail
      refine wp_loop_rounds 1 ?_
      rw [rounds_succ]
      go_wp2_with fail
      all_goals
        go_ret
        exact ⟨rn HN.out, ext_a1 _ _⟩
  obtain ⟨n0, n1, n2⟩ := hnum
  have d1 := decide_eq_true n0; have d2 := decide_eq_true n1; have d3 := decide_eq_true n2
  go_enter Try.func42, Try.ntmps42
  go_wp2_with fail
  clear d1 d2 d3
  go_loopw [3, 4, 5] (fun a o i w' => ∃ (k : Nat) (al : Int) (ok : Bool), k ≤ n ∧ i = .int .i64 k ∧ a = .int .i64 al ∧ o = .bool ok ∧ RefSt nx K k al ok ∧ Ext (w.alloc (.cells #[.int .i64 nx, .slice ao n cap] 61)) w') (fun _ _ i _ => n - (intOf i).toNat)
  case atStart => exact ⟨0, 0, true, Nat.zero_le _, rfl, rfl, rfl, ⟨fun _ => ⟨rfl, by omega, by omega, by omega⟩, fun h => by cases h⟩, Ext.refl _⟩
  case round =>
    obtain ⟨k, al, ok, hk, rfl, rfl, rfl, hst, hb⟩ := hrel
    have HSt := Lib.hid hst; have Hb := Lib.hid hb
    have s1 := (box2 hb).2
    have s0 := (box2 hb).1
    clear hst hb
    cases ok with
    | false =>
      have HN := Lib.hid (HSt.out.2 rfl)
      by_cases hlt : k < n
      all_goals
        go_wp2_with fail
        go_ret
        exact ⟨rn HN.out, (ext_a1 _ _).trans Hb.out⟩
    | true =>
      by_cases hlt : k < n
      · obtain ⟨hal, hok, al0, al1⟩ := HSt.out.1 rfl
        have HAl := Lib.hid hal; have HOk := Lib.hid hok
        have al2 : al ≤ 274877906944 := by omega
        clear hal hok
        obtain ⟨b, off, rfl, c0, c1, c2⟩ := (Hx.out.ext ((ext_a1 _ _).trans Hb.out)).at hlt
        obtain ⟨q, hq⟩ : ∃ q, K.getD k kd0 = q := ⟨_, rfl⟩
        rw [hq] at c0 c1 c2
        have HQ := Lib.hid hq; clear hq
        obtain ⟨t, mm, bb⟩ := q
        have HNo : Hid (¬ (okK (prevT K k) ⟨t, mm, bb⟩ ∧ mm ≤ nx) → checkN nx K = 2) := Lib.hid (fun h => checkN_no fun ho => h (by
          have h1 := ho.2.2.2.1 k (by rw [HLen.out]; exact hlt)
          unfold okAt at h1
          rw [HQ.out] at h1
          refine ⟨h1, ?_⟩
          have h2 := sumM_take_le K (k + 1) ho.2.2.2.1
          have h4 : 0 ≤ sumM (K.take k) := by rw [← HAl.out]; exact al0
          rw [sumM_take_succ K k (by rw [HLen.out]; exact hlt), HQ.out, ho.2.2.2.2] at h2
          have h3 : ({ t := t, m := mm, b := bb } : Kd).m = mm := rfl
          omega))
        have e0 : (wr.alloc (.cells #[.string ⟨t.toArray⟩, .int .i64 mm, .int .i64 bb] 104)).cell? ⟨wr.heap.size, 0, none⟩ = some (.string ⟨t.toArray⟩) := by simp
        have e1 : (wr.alloc (.cells #[.string ⟨t.toArray⟩, .int .i64 mm, .int .i64 bb] 104)).cell? ⟨wr.heap.size, 1, none⟩ = some (.int .i64 mm) := by simp
        have e2 : (wr.alloc (.cells #[.string ⟨t.toArray⟩, .int .i64 mm, .int .i64 bb] 104)).cell? ⟨wr.heap.size, 2, none⟩ = some (.int .i64 bb) := by simp
        have s1' := cell_ext (ext_a1 wr (.cells #[.string ⟨t.toArray⟩, .int .i64 mm, .int .i64 bb] 104)) s1
        have s0' := cell_ext (ext_a1 wr (.cells #[.string ⟨t.toArray⟩, .int .i64 mm, .int .i64 bb] 104)) s0
        have u0 := cell_of e0; have u1 := cell_of e1; have u2' := cell_of e2; have y1 := cell_of s1'; have y0 := cell_of s0'
        go_wp2_with fail
        clear c0 c1 c2 s0 s1 s0' s1'
        by_cases hbase : 1 ≤ (t.length : Int) ∧ (t.length : Int) ≤ 16 ∧ 1 ≤ mm ∧ mm ≤ nx ∧ 0 ≤ bb ∧ bb ≤ 200 * mm
        case neg =>
          have HN := Lib.hid (HNo.out (fun h => hbase (by
            obtain ⟨⟨a1, a2, a3, a4, a5, _⟩, a6⟩ := h
            have a1' : 1 ≤ t.length := a1
            have a2' : t.length ≤ 16 := a2
            have a3' : 1 ≤ mm := a3
            have a4' : 0 ≤ bb := a4
            have a5' : bb ≤ 200 * mm := a5
            omega)))
          have hcase : (¬ 1 ≤ (t.length : Int)) ∨ (1 ≤ (t.length : Int) ∧ ¬ (t.length : Int) ≤ 16) ∨ (1 ≤ (t.length : Int) ∧ (t.length : Int) ≤ 16 ∧ ¬ 1 ≤ mm) ∨ (1 ≤ (t.length : Int) ∧ (t.length : Int) ≤ 16 ∧ 1 ≤ mm ∧ ¬ mm ≤ nx) ∨ (1 ≤ (t.length : Int) ∧ (t.length : Int) ≤ 16 ∧ 1 ≤ mm ∧ mm ≤ nx ∧ ¬ 0 ≤ bb) ∨ (1 ≤ (t.length : Int) ∧ (t.length : Int) ≤ 16 ∧ 1 ≤ mm ∧ mm ≤ nx ∧ 0 ≤ bb ∧ ¬ bb ≤ 200 * mm) := by omega
          clear hbase HNo
          rcases hcase with h1 | ⟨h1, h2⟩ | ⟨h1, h2, h3⟩ | ⟨h1, h2, h3, h4⟩ | ⟨h1, h2, h3, h4, h5⟩ | ⟨h1, h2, h3, h4, h5, h6⟩
          · have d1 := decide_eq_false h1
            refine wp_region_ext (by kernel_rfl) (by kernel_rfl) ?_
            repeat (go_big_quiet_step (fail))
            refine wpQuiet_nil ?_
            intro w4 hw4
            have HW := Lib.hid (Hb.out.trans ((ext_a1 _ _).trans hw4)); have HW4 := Lib.hid hw4; clear hw4
            go_wp2_with fail
            go_roundw
            case rel => exact ⟨k + 1, al, false, by omega, by go_num, rfl, rfl, ⟨fun h => (by cases h), fun _ => HN.out⟩, HW.out⟩
            case measure => simp [intOf]; omega
          · have d1 := decide_eq_true h1
            have d2 := decide_eq_false h2
            refine wp_region_ext (by kernel_rfl) (by kernel_rfl) ?_
            repeat (go_big_quiet_step (fail))
            refine wpQuiet_nil ?_
            intro w4 hw4
            have HW := Lib.hid (Hb.out.trans ((ext_a1 _ _).trans hw4)); have HW4 := Lib.hid hw4; clear hw4
            go_wp2_with fail
            go_roundw
            case rel => exact ⟨k + 1, al, false, by omega, by go_num, rfl, rfl, ⟨fun h => (by cases h), fun _ => HN.out⟩, HW.out⟩
            case measure => simp [intOf]; omega
          · have d1 := decide_eq_true h1
            have d2 := decide_eq_true h2
            have d3 := decide_eq_false h3
            refine wp_region_ext (by kernel_rfl) (by kernel_rfl) ?_
            repeat (go_big_quiet_step (fail))
            refine wpQuiet_nil ?_
            intro w4 hw4
            have HW := Lib.hid (Hb.out.trans ((ext_a1 _ _).trans hw4)); have HW4 := Lib.hid hw4; clear hw4
            go_wp2_with fail
            go_roundw
            case rel => exact ⟨k + 1, al, false, by omega, by go_num, rfl, rfl, ⟨fun h => (by cases h), fun _ => HN.out⟩, HW.out⟩
            case measure => simp [intOf]; omega
          · have d1 := decide_eq_true h1
            have d2 := decide_eq_true h2
            have d3 := decide_eq_true h3
            have d4 := decide_eq_false h4
            refine wp_region_ext (by kernel_rfl) (by kernel_rfl) ?_
            repeat (go_big_quiet_step (fail))
            refine wpQuiet_nil ?_
            intro w4 hw4
            have HW := Lib.hid (Hb.out.trans ((ext_a1 _ _).trans hw4)); have HW4 := Lib.hid hw4; clear hw4
            go_wp2_with fail
            go_roundw
            case rel => exact ⟨k + 1, al, false, by omega, by go_num, rfl, rfl, ⟨fun h => (by cases h), fun _ => HN.out⟩, HW.out⟩
            case measure => simp [intOf]; omega
          · have d1 := decide_eq_true h1
            have d2 := decide_eq_true h2
            have d3 := decide_eq_true h3
            have d4 := decide_eq_true h4
            have d5 := decide_eq_false h5
            refine wp_region_ext (by kernel_rfl) (by kernel_rfl) ?_
            repeat (go_big_quiet_step (fail))
            refine wpQuiet_nil ?_
            intro w4 hw4
            have HW := Lib.hid (Hb.out.trans ((ext_a1 _ _).trans hw4)); have HW4 := Lib.hid hw4; clear hw4
            go_wp2_with fail
            go_roundw
            case rel => exact ⟨k + 1, al, false, by omega, by go_num, rfl, rfl, ⟨fun h => (by cases h), fun _ => HN.out⟩, HW.out⟩
            case measure => simp [intOf]; omega
          · have d1 := decide_eq_true h1
            have d2 := decide_eq_true h2
            have d3 := decide_eq_true h3
            have d4 := decide_eq_true h4
            have d5 := decide_eq_true h5
            have d6 := decide_eq_false h6
            refine wp_region_ext (by kernel_rfl) (by kernel_rfl) ?_
            repeat (go_big_quiet_step (fail))
            refine wpQuiet_nil ?_
            intro w4 hw4
            have HW := Lib.hid (Hb.out.trans ((ext_a1 _ _).trans hw4)); have HW4 := Lib.hid hw4; clear hw4
            go_wp2_with fail
            go_roundw
            case rel => exact ⟨k + 1, al, false, by omega, by go_num, rfl, rfl, ⟨fun h => (by cases h), fun _ => HN.out⟩, HW.out⟩
            case measure => simp [intOf]; omega
        obtain ⟨h1, h2, h3, h4, h5, h6⟩ := hbase
        have d1 := decide_eq_true h1
        have d2 := decide_eq_true h2
        have d3 := decide_eq_true h3
        have d4 := decide_eq_true h4
        have d5 := decide_eq_true h5
        have d6 := decide_eq_true h6
        cases k with
        | zero =>
          have HRel : Hid (∀ j, j < 0 + 1 → okAt K j) := Lib.hid (fun j hj => by
            obtain rfl : j = 0 := by omega
            unfold okAt
            rw [HQ.out]
            exact ⟨by show 1 ≤ t.length; omega, by show t.length ≤ 16; omega, h3, h5, h6, fun q hq => by simp [prevT] at hq⟩)
          refine wp_region_ext (by kernel_rfl) (by kernel_rfl) ?_
          repeat (go_big_quiet_step (fail))
          refine wpQuiet_nil ?_
          intro w4 hw4
          have HW := Lib.hid (Hb.out.trans ((ext_a1 _ _).trans hw4)); have HW4 := Lib.hid hw4; clear hw4
          have m1 := cell_ext HW4.out e1
          go_wp2_with fail
          go_roundw
          case rel => exact ⟨0 + 1, al + mm, true, by omega, by first | rfl | go_num, rfl, rfl, ⟨fun _ => ⟨by rw [sumM_take_succ K (0) (by rw [HLen.out]; exact hlt), HQ.out, HAl.out], HRel.out, by omega, by omega⟩, fun h => by cases h⟩, HW.out⟩
          case measure => simp [intOf]; omega
        | succ k =>
          have dk : (((k + 1 : Nat) : Int) == 0) = false := by simp; omega
          have dk2 : ((k : Int) + 1 == 0) = false := by simp; omega
          have hpk : prevT K (k + 1) = some (K.getD k kd0).t := by unfold prevT; rw [if_neg (by omega)]; rfl
          obtain ⟨b2, off2, eb, c0, _, _⟩ := (Hx.out.ext ((ext_a1 _ _).trans Hb.out)).at (i := k) (by omega)
          cases eb
          have g0 := cell_of (cell_ext (ext_a1 wr (.cells #[.string ⟨t.toArray⟩, .int .i64 mm, .int .i64 bb] 104)) c0)
          obtain ⟨pt, hpt⟩ : ∃ p, (K.getD k kd0).t = p := ⟨_, rfl⟩
          rw [hpt] at g0 hpk
          have HPk := Lib.hid hpk
          have hidx : (k : Int) + 1 - 1 = (k : Int) := by omega
          clear hpk hpt c0
          cases hle : Op.bytesLess pt t with
          | true =>
            have HRel : Hid (∀ j, j < k + 1 + 1 → okAt K j) := Lib.hid (fun j hj => by
              by_cases hjk : j < k + 1
              · exact HOk.out j hjk
              obtain rfl : j = k + 1 := by omega
              unfold okAt
              rw [HQ.out]
              exact ⟨by show 1 ≤ t.length; omega, by show t.length ≤ 16; omega, h3, h5, h6, fun q hq => by rw [HPk.out] at hq; cases hq; exact hle⟩)
            refine wp_region_ext (by kernel_rfl) (by kernel_rfl) ?_
            repeat (go_big_quiet_step (fail))
            refine wpQuiet_nil ?_
            intro w4 hw4
            have HW := Lib.hid (Hb.out.trans ((ext_a1 _ _).trans hw4)); have HW4 := Lib.hid hw4; clear hw4
            have HLe := Lib.hid hle
            clear hle
            have m1 := cell_ext HW4.out e1
            go_wp2_with fail
            go_roundw
            case rel => exact ⟨k + 1 + 1, al + mm, true, by omega, by first | rfl | go_num, rfl, rfl, ⟨fun _ => ⟨by rw [sumM_take_succ K (k + 1) (by rw [HLen.out]; exact hlt), HQ.out, HAl.out], HRel.out, by omega, by omega⟩, fun h => by cases h⟩, HW.out⟩
            case measure => simp [intOf]; omega
          | false =>
            have HN := Lib.hid (HNo.out (fun h => by
              have h2 : Op.bytesLess pt t = true := h.1.2.2.2.2.2 pt HPk.out
              rw [hle] at h2; cases h2))
            refine wp_region_ext (by kernel_rfl) (by kernel_rfl) ?_
            repeat (go_big_quiet_step (fail))
            refine wpQuiet_nil ?_
            intro w4 hw4
            have HW := Lib.hid (Hb.out.trans ((ext_a1 _ _).trans hw4)); have HW4 := Lib.hid hw4; clear hw4
            clear hle
            go_wp2_with fail
            go_roundw
            case rel => exact ⟨k + 1 + 1, al, false, by omega, by go_num, rfl, rfl, ⟨fun h => (by cases h), fun _ => HN.out⟩, HW.out⟩
            case measure => simp [intOf]; omega
      · have hkn : k = n := by omega
        obtain ⟨hal, hok, al0, al1⟩ := HSt.out.1 rfl
        have ht : K.take k = K := List.take_of_length_le (by rw [HLen.out]; omega)
        rw [ht] at hal
        have hokn : ∀ j, j < K.length → okAt K j := fun j hj => hok j (by rw [HLen.out] at hj; omega)
        by_cases hz : al = nx
        · have HN := Lib.hid (checkN_yes (nx := nx) (K := K) ⟨n0, n1, by rw [HLen.out]; omega, hokn, by omega⟩)
          clear ht hkn hokn hok hal
          subst hz
          go_wp2_with fail
          go_ret
          exact ⟨rn HN.out, (ext_a1 _ _).trans Hb.out⟩
        · have HN := Lib.hid (checkN_no (nx := nx) (K := K) (fun h => hz (by have := h.2.2.2.2; omega)))
          have hz' : (al != nx) = true := by simpa using hz
          clear ht hkn hokn hz hok hal
          go_wp2_with fail
          go_ret
          exact ⟨rn HN.out, (ext_a1 _ _).trans Hb.out⟩

end Go.Proofs.Ytkkafjknogfdnaa
