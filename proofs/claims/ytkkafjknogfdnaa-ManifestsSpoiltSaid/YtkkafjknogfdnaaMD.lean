/- Walks: whether two manifests are the same, by the package and by the statements. -/
import Derived.Test.YtkkafjknogfdnaaChecked
import Derived.Test.YtkkafjknogfdnaaMC
import Derived.Test.YtkkafjknogfdnaaLA
namespace Go.Proofs.Ytkkafjknogfdnaa
open Go.RowKit

set_option maxRecDepth 100000 in
set_option maxHeartbeats 400000 in
theorem sleq_c (ao bo : Option Addr) (n m cap cap2 : Nat) (xs ys : List Int) (w : World) (hx : Ints w ao n cap xs) (hy : Ints w bo m cap2 ys) :
    Calls Try.prog 69 #[.slice ao n cap, .slice bo m cap2] w fun e w' => e = .returned (.bool (decide (xs = ys))) ∧ Ext w w' := by
  have Hx := Lib.hid hx; have Hy := Lib.hid hy
  have b1 := hx.fits; have b2 := hx.bound; have b3 := hy.fits; have b4 := hy.bound
  clear hx hy
  by_cases hlen : (n : Int) = m
  · have hlen1 : ((n : Int) != m) = false := by simp [hlen]
    have Hl := Lib.hid hlen; clear hlen
    go_enter Try.func69, Try.ntmps69
    go_wp2_with fail
    go_loopw [13] (fun i w' => ∃ k : Nat, k ≤ n ∧ i = .int .i64 k ∧ xs.take k = ys.take k ∧ Ext w w') (fun i _ => n - (intOf i).toNat)
    case atStart => exact ⟨0, Nat.zero_le _, rfl, rfl, Ext.refl _⟩
    case round =>
      obtain ⟨k, hk, rfl, heq, hb⟩ := hrel
      have Heq := Lib.hid heq; clear heq
      have Hb := Lib.hid hb; clear hb
      by_cases hlt : k < n
      · have hk2 : k < m := by have := Hl.out; omega
        obtain ⟨b, off, rfl, c1⟩ := (Hx.out.ext Hb.out).at hlt
        obtain ⟨b', off', rfl, c2⟩ := (Hy.out.ext Hb.out).at hk2
        generalize hX : xs.getD k 0 = X at *
        generalize hY : ys.getD k 0 = Y at *
        have HX := Lib.hid hX; clear hX
        have HY := Lib.hid hY; clear hY
        go_wp2_with fail
        go_quiet (fail)
        go_wp2_with fail
        · have hne : (X != Y) = true := by assumption
          go_ret
          exact ⟨rb (decide_ne_of_getD xs ys k (by rw [HX.out, HY.out]; simpa using hne)), Hb.out.drewN _⟩
        · have hne : (X != Y) = false := by assumption
          go_roundw
          case rel => exact ⟨k + 1, by omega, by go_num, take_eq_succ xs ys k (by have := Hx.out.len; omega) (by have := Hy.out.len; omega) Heq.out (by rw [HX.out, HY.out]; simpa using hne), Hb.out.drewN _⟩
          case measure => simp [intOf]; omega
      · go_wp2_with fail
        go_ret
        exact ⟨rb (decide_eq_of_take xs ys n k Hx.out.len (by have := Hy.out.len; have := Hl.out; omega) (by omega) Heq.out), Hb.out⟩
  · have hlen1 : ((n : Int) != m) = true := by simpa using hlen
    have Hl := Lib.hid hlen; clear hlen
    go_enter Try.func69, Try.ntmps69
    go_wp2_with fail
    go_ret
    exact ⟨rb (decide_ne_of_len xs ys (by have := Hx.out.len; have := Hy.out.len; have := Hl.out; omega)), Ext.refl _⟩

set_option maxRecDepth 100000 in
set_option maxHeartbeats 800000 in
theorem eqf_c (ao bo : Option Addr) (n m cap cap2 : Nat) (xs ys : List (List Int)) (w : World) (hx : Grid w ao n cap xs) (hy : Grid w bo m cap2 ys) :
    Calls Try.prog 68 #[.slice ao n cap, .slice bo m cap2, .func (Fn.func 69) #[] #[]] w fun e w' => e = .returned (.bool (decide (xs = ys))) ∧ Ext w w' := by
  have Hx := Lib.hid hx; have Hy := Lib.hid hy
  have b1 := hx.fits; have b2 := hx.bound; have b3 := hy.fits; have b4 := hy.bound
  clear hx hy
  by_cases hlen : (n : Int) = m
  · have hlen1 : ((n : Int) != m) = false := by simp [hlen]
    have Hl := Lib.hid hlen; clear hlen
    go_enter Try.func68, Try.ntmps68
    go_wp2_with fail
    go_loopw [17] (fun i w' => ∃ k : Nat, k ≤ n ∧ i = .int .i64 k ∧ xs.take k = ys.take k ∧ Ext w w') (fun i _ => n - (intOf i).toNat)
    case atStart => exact ⟨0, Nat.zero_le _, rfl, rfl, Ext.refl _⟩
    case round =>
      obtain ⟨k, hk, rfl, heq, hb⟩ := hrel
      have Heq := Lib.hid heq; clear heq
      have Hb := Lib.hid hb; clear hb
      by_cases hlt : k < n
      · have hk2 : k < m := by have := Hl.out; omega
        obtain ⟨b, off, ai, ni, ci, rfl, c1, r1⟩ := (Hx.out.ext Hb.out).at hlt
        obtain ⟨b', off', ai', ni', ci', rfl, c2, r2⟩ := (Hy.out.ext Hb.out).at hk2
        have R1 := Lib.hid r1; have R2 := Lib.hid r2; clear r1 r2
        go_wp2_with fail
        refine (sleq_c _ _ _ _ _ _ _ _ _ R1.out R2.out).mono ?_
        rintro e w2 ⟨rfl, hb2⟩
        have HW := Lib.hid hb2; clear hb2
        by_cases hne : xs.getD k [] = ys.getD k []
        · have hd : decide (xs.getD k [] = ys.getD k []) = true := decide_eq_true hne
          have Hne := Lib.hid hne; clear hne
          rw [hd]; clear hd
          go_wp2_with fail
          go_roundw
          case rel => exact ⟨k + 1, by omega, by go_num, gtake_eq_succ xs ys k (by have := Hx.out.len; omega) (by have := Hy.out.len; omega) Heq.out Hne.out, Hb.out.trans HW.out⟩
          case measure => simp [intOf]; omega
        · have hd : decide (xs.getD k [] = ys.getD k []) = false := decide_eq_false hne
          have Hne := Lib.hid hne; clear hne
          rw [hd]; clear hd
          go_wp2_with fail
          go_ret
          exact ⟨rb (gdecide_ne_of_getD xs ys k Hne.out), Hb.out.trans HW.out⟩
      · go_wp2_with fail
        go_ret
        exact ⟨rb (gdecide_eq_of_take xs ys n k Hx.out.len (by have := Hy.out.len; have := Hl.out; omega) (by omega) Heq.out), Hb.out⟩
  · have hlen1 : ((n : Int) != m) = true := by simpa using hlen
    have Hl := Lib.hid hlen; clear hlen
    go_enter Try.func68, Try.ntmps68
    go_wp2_with fail
    go_ret
    exact ⟨rb (gdecide_ne_of_len xs ys (by have := Hx.out.len; have := Hy.out.len; have := Hl.out; omega)), Ext.refl _⟩

/-- whether two are the same -/
def msame (nx ck sd : Int) (L : List (List Int)) (nx' ck' sd' : Int) (L' : List (List Int)) : Bool :=
  decide (nx = nx' ∧ ck = ck' ∧ sd = sd') && decide (trimL L = trimL L')

theorem msame_no {nx ck sd nx' ck' sd' : Int} {L L' : List (List Int)} (h : ¬ (nx = nx' ∧ ck = ck' ∧ sd = sd')) : msame nx ck sd L nx' ck' sd' L' = false := by
  unfold msame; rw [decide_eq_false h, Bool.false_and]
theorem msame_yes {nx ck sd : Int} {L L' : List (List Int)} : msame nx ck sd L nx ck sd L' = decide (trimL L = trimL L') := by
  unfold msame; rw [decide_eq_true ⟨rfl, rfl, rfl⟩, Bool.true_and]

theorem box8 (w : World) (a b c d : Value) (t : TypeId) (a' b' c' d' : Value) (t' : TypeId) :
    (∀ x : ExtOf ((w.alloc (.cells #[a, b, c, d] t)).alloc (.cells #[a', b', c', d'] t')), x.w'.cell? ⟨w.heap.size, 0, none⟩ = some a) ∧
    (∀ x : ExtOf ((w.alloc (.cells #[a, b, c, d] t)).alloc (.cells #[a', b', c', d'] t')), x.w'.cell? ⟨w.heap.size, 1, none⟩ = some b) ∧
    (∀ x : ExtOf ((w.alloc (.cells #[a, b, c, d] t)).alloc (.cells #[a', b', c', d'] t')), x.w'.cell? ⟨w.heap.size, 2, none⟩ = some c) ∧
    (∀ x : ExtOf ((w.alloc (.cells #[a, b, c, d] t)).alloc (.cells #[a', b', c', d'] t')), x.w'.cell? ⟨w.heap.size, 3, none⟩ = some d) ∧
    (∀ x : ExtOf ((w.alloc (.cells #[a, b, c, d] t)).alloc (.cells #[a', b', c', d'] t')), x.w'.cell? ⟨w.heap.size + 1, 0, none⟩ = some a') ∧
    (∀ x : ExtOf ((w.alloc (.cells #[a, b, c, d] t)).alloc (.cells #[a', b', c', d'] t')), x.w'.cell? ⟨w.heap.size + 1, 1, none⟩ = some b') ∧
    (∀ x : ExtOf ((w.alloc (.cells #[a, b, c, d] t)).alloc (.cells #[a', b', c', d'] t')), x.w'.cell? ⟨w.heap.size + 1, 2, none⟩ = some c') ∧
    (∀ x : ExtOf ((w.alloc (.cells #[a, b, c, d] t)).alloc (.cells #[a', b', c', d'] t')), x.w'.cell? ⟨w.heap.size + 1, 3, none⟩ = some d') := by
  have h := box4 (w := w.alloc (.cells #[a, b, c, d] t)) (Ext.refl ((w.alloc (.cells #[a, b, c, d] t)).alloc (.cells #[a', b', c', d'] t')))
  have k := box4 (w := w) (ext_a1 (w.alloc (.cells #[a, b, c, d] t)) (.cells #[a', b', c', d'] t') : Ext _ _)
  have e : (w.alloc (.cells #[a, b, c, d] t)).heap.size = w.heap.size + 1 := by simp
  rw [e] at h
  exact ⟨cell_of k.1, cell_of k.2.1, cell_of k.2.2.1, cell_of k.2.2.2, cell_of h.1, cell_of h.2.1, cell_of h.2.2.1, cell_of h.2.2.2⟩

set_option maxRecDepth 100000 in
set_option maxHeartbeats 1600000 in
theorem msame_c (nx ck sd : Int) (ao : Option Addr) (n cap : Nat) (L : List (List Int)) (nx' ck' sd' : Int) (bo : Option Addr) (m cap2 : Nat) (L' : List (List Int)) (w : World) (hx : Grid w ao n cap L) (hy : Grid w bo m cap2 L') :
    Calls Try.prog 34 #[.agg #[.int .i64 nx, .int .i64 ck, .int .u64 sd, .slice ao n cap], .agg #[.int .i64 nx', .int .i64 ck', .int .u64 sd', .slice bo m cap2]] w fun e w' => e = .returned (.bool (msame nx ck sd L nx' ck' sd' L')) ∧ Ext w w' := by
  have Hx := Lib.hid hx; have Hy := Lib.hid hy
  clear hx hy
  by_cases h1 : nx = nx'
  case neg =>
    have HM := Lib.hid (msame_no (L := L) (L' := L') (fun h => h1 h.1 : ¬ (nx = nx' ∧ ck = ck' ∧ sd = sd')))
    have h1' : (nx == nx') = false := by simpa using h1
    clear h1
    obtain ⟨f0, f1, f2, f3, f4, f5, f6, f7⟩ := box8 w (.int .i64 nx) (.int .i64 ck) (.int .u64 sd) (.slice ao n cap) 41 (.int .i64 nx') (.int .i64 ck') (.int .u64 sd') (.slice bo m cap2) 41
    go_enter Try.func34, Try.ntmps34
    go_wp2_with fail
    refine wp_region_ext (by kernel_rfl) (by kernel_rfl) ?_
    repeat (go_big_quiet_step (fail))
    refine wpQuiet_nil ?_
    intro w2 hw2
    have HW := Lib.hid hw2; clear hw2
    go_wp2_with fail
    go_ret
    exact ⟨rb HM.out, (ext_a2 _ _ _).trans HW.out⟩
  subst h1
  by_cases h1 : ck = ck'
  case neg =>
    have HM := Lib.hid (msame_no (L := L) (L' := L') (fun h => h1 h.2.1 : ¬ (nx = nx ∧ ck = ck' ∧ sd = sd')))
    have h1' : (ck == ck') = false := by simpa using h1
    clear h1
    obtain ⟨f0, f1, f2, f3, f4, f5, f6, f7⟩ := box8 w (.int .i64 nx) (.int .i64 ck) (.int .u64 sd) (.slice ao n cap) 41 (.int .i64 nx) (.int .i64 ck') (.int .u64 sd') (.slice bo m cap2) 41
    go_enter Try.func34, Try.ntmps34
    go_wp2_with fail
    refine wp_region_ext (by kernel_rfl) (by kernel_rfl) ?_
    repeat (go_big_quiet_step (fail))
    refine wpQuiet_nil ?_
    intro w2 hw2
    have HW := Lib.hid hw2; clear hw2
    go_wp2_with fail
    go_ret
    exact ⟨rb HM.out, (ext_a2 _ _ _).trans HW.out⟩
  subst h1
  by_cases h1 : sd = sd'
  case neg =>
    have HM := Lib.hid (msame_no (L := L) (L' := L') (fun h => h1 h.2.2 : ¬ (nx = nx ∧ ck = ck ∧ sd = sd')))
    have h1' : (sd == sd') = false := by simpa using h1
    clear h1
    obtain ⟨f0, f1, f2, f3, f4, f5, f6, f7⟩ := box8 w (.int .i64 nx) (.int .i64 ck) (.int .u64 sd) (.slice ao n cap) 41 (.int .i64 nx) (.int .i64 ck) (.int .u64 sd') (.slice bo m cap2) 41
    go_enter Try.func34, Try.ntmps34
    go_wp2_with fail
    refine wp_region_ext (by kernel_rfl) (by kernel_rfl) ?_
    repeat (go_big_quiet_step (fail))
    refine wpQuiet_nil ?_
    intro w2 hw2
    have HW := Lib.hid hw2; clear hw2
    go_wp2_with fail
    go_ret
    exact ⟨rb HM.out, (ext_a2 _ _ _).trans HW.out⟩
  subst h1
  have HM := Lib.hid (msame_yes (nx := nx) (ck := ck) (sd := sd) (L := L) (L' := L'))
  obtain ⟨f0, f1, f2, f3, f4, f5, f6, f7⟩ := box8 w (.int .i64 nx) (.int .i64 ck) (.int .u64 sd) (.slice ao n cap) 41 (.int .i64 nx) (.int .i64 ck) (.int .u64 sd) (.slice bo m cap2) 41
  have b1 := Hx.out.fits; have b2 := Hx.out.bound; have b3 := Hy.out.fits; have b4 := Hy.out.bound
  have hd : ∃ r, decide (trimL L = trimL L') = r := ⟨_, rfl⟩
  obtain ⟨r, hd⟩ := hd
  have HD := Lib.hid hd; clear hd
  go_enter Try.func34, Try.ntmps34
  go_wp2_with fail
  refine wp_region_ext (by kernel_rfl) (by kernel_rfl) ?_
  repeat (go_big_quiet_step (first | exact Calls.quiet_ext (mtrim_c _ _ _ L _ (Hx.out.ext ((ext_a2 _ _ _).trans (ExtOf.h _)))) | exact Calls.quiet_ext (mtrim_c _ _ _ L' _ (Hy.out.ext ((ext_a2 _ _ _).trans (ExtOf.h _)))) | exact Calls.quiet_ext (Calls.to (congrArg Value.bool HD.out) (eqf_c _ _ _ _ _ _ _ _ _ (Grid.trim (Hx.out.ext ((ext_a2 _ _ _).trans (ExtOf.h _)))) (Grid.trim (Hy.out.ext ((ext_a2 _ _ _).trans (ExtOf.h _))))))))
  refine wpQuiet_nil ?_
  intro w2 hw2
  have HW := Lib.hid hw2; clear hw2
  cases r
  · go_wp2_with fail
    go_ret
    exact ⟨by rw [HM.out, HD.out]; rfl, (ext_a2 _ _ _).trans HW.out⟩
  · go_wp2_with fail
    go_ret
    exact ⟨by rw [HM.out, HD.out]; rfl, (ext_a2 _ _ _).trans HW.out⟩

set_option maxRecDepth 100000 in
set_option maxHeartbeats 1600000 in
theorem refmsame_c (nx ck sd : Int) (ao : Option Addr) (n cap : Nat) (L : List (List Int)) (nx' ck' sd' : Int) (bo : Option Addr) (m cap2 : Nat) (L' : List (List Int)) (w : World) (hx : Grid w ao n cap L) (hy : Grid w bo m cap2 L') :
    Calls Try.prog 32 #[.agg #[.int .i64 nx, .int .i64 ck, .int .u64 sd, .slice ao n cap], .agg #[.int .i64 nx', .int .i64 ck', .int .u64 sd', .slice bo m cap2]] w fun e w' => e = .returned (.bool (msame nx ck sd L nx' ck' sd' L')) ∧ Ext w w' := by
  have Hx := Lib.hid hx; have Hy := Lib.hid hy
  clear hx hy
  by_cases h1 : nx = nx'
  case neg =>
    have HM := Lib.hid (msame_no (L := L) (L' := L') (fun h => h1 h.1 : ¬ (nx = nx' ∧ ck = ck' ∧ sd = sd')))
    have h1' : (nx == nx') = false := by simpa using h1
    clear h1
    obtain ⟨f0, f1, f2, f3, f4, f5, f6, f7⟩ := box8 w (.int .i64 nx) (.int .i64 ck) (.int .u64 sd) (.slice ao n cap) 41 (.int .i64 nx') (.int .i64 ck') (.int .u64 sd') (.slice bo m cap2) 41
    go_enter Try.func32, Try.ntmps32
    go_wp2_with fail
    refine wp_region_ext (by kernel_rfl) (by kernel_rfl) ?_
    repeat (go_big_quiet_step (fail))
    refine wpQuiet_nil ?_
    intro w2 hw2
    have HW := Lib.hid hw2; clear hw2
    go_wp2_with fail
    go_ret
    exact ⟨rb HM.out, (ext_a2 _ _ _).trans HW.out⟩
  subst h1
  by_cases h1 : ck = ck'
  case neg =>
    have HM := Lib.hid (msame_no (L := L) (L' := L') (fun h => h1 h.2.1 : ¬ (nx = nx ∧ ck = ck' ∧ sd = sd')))
    have h1' : (ck == ck') = false := by simpa using h1
    clear h1
    obtain ⟨f0, f1, f2, f3, f4, f5, f6, f7⟩ := box8 w (.int .i64 nx) (.int .i64 ck) (.int .u64 sd) (.slice ao n cap) 41 (.int .i64 nx) (.int .i64 ck') (.int .u64 sd') (.slice bo m cap2) 41
    go_enter Try.func32, Try.ntmps32
    go_wp2_with fail
    refine wp_region_ext (by kernel_rfl) (by kernel_rfl) ?_
    repeat (go_big_quiet_step (fail))
    refine wpQuiet_nil ?_
    intro w2 hw2
    have HW := Lib.hid hw2; clear hw2
    go_wp2_with fail
    go_ret
    exact ⟨rb HM.out, (ext_a2 _ _ _).trans HW.out⟩
  subst h1
  by_cases h1 : sd = sd'
  case neg =>
    have HM := Lib.hid (msame_no (L := L) (L' := L') (fun h => h1 h.2.2 : ¬ (nx = nx ∧ ck = ck ∧ sd = sd')))
    have h1' : (sd == sd') = false := by simpa using h1
    clear h1
    obtain ⟨f0, f1, f2, f3, f4, f5, f6, f7⟩ := box8 w (.int .i64 nx) (.int .i64 ck) (.int .u64 sd) (.slice ao n cap) 41 (.int .i64 nx) (.int .i64 ck) (.int .u64 sd') (.slice bo m cap2) 41
    go_enter Try.func32, Try.ntmps32
    go_wp2_with fail
    refine wp_region_ext (by kernel_rfl) (by kernel_rfl) ?_
    repeat (go_big_quiet_step (fail))
    refine wpQuiet_nil ?_
    intro w2 hw2
    have HW := Lib.hid hw2; clear hw2
    go_wp2_with fail
    go_ret
    exact ⟨rb HM.out, (ext_a2 _ _ _).trans HW.out⟩
  subst h1
  have HM := Lib.hid (msame_yes (nx := nx) (ck := ck) (sd := sd) (L := L) (L' := L'))
  obtain ⟨f0, f1, f2, f3, f4, f5, f6, f7⟩ := box8 w (.int .i64 nx) (.int .i64 ck) (.int .u64 sd) (.slice ao n cap) 41 (.int .i64 nx) (.int .i64 ck) (.int .u64 sd) (.slice bo m cap2) 41
  have b1 := Hx.out.fits; have b2 := Hx.out.bound; have b3 := Hy.out.fits; have b4 := Hy.out.bound
  have hd : ∃ r, decide (trimL L = trimL L') = r := ⟨_, rfl⟩
  obtain ⟨r, hd⟩ := hd
  have HD := Lib.hid hd; clear hd
  go_enter Try.func32, Try.ntmps32
  go_wp2_with fail
  refine wp_region_ext (by kernel_rfl) (by kernel_rfl) ?_
  repeat (go_big_quiet_step (first | exact Calls.quiet_ext (reftrim_c _ _ _ L _ (Hx.out.ext ((ext_a2 _ _ _).trans (ExtOf.h _)))) | exact Calls.quiet_ext (reftrim_c _ _ _ L' _ (Hy.out.ext ((ext_a2 _ _ _).trans (ExtOf.h _)))) | exact Calls.quiet_ext (Calls.to (congrArg Value.bool HD.out) (same_c _ _ _ _ _ _ _ _ _ (Grid.trim (Hx.out.ext ((ext_a2 _ _ _).trans (ExtOf.h _)))) (Grid.trim (Hy.out.ext ((ext_a2 _ _ _).trans (ExtOf.h _))))))))
  refine wpQuiet_nil ?_
  intro w2 hw2
  have HW := Lib.hid hw2; clear hw2
  cases r
  · go_wp2_with fail
    go_ret
    exact ⟨by rw [HM.out, HD.out]; rfl, (ext_a2 _ _ _).trans HW.out⟩
  · go_wp2_with fail
    go_ret
    exact ⟨by rw [HM.out, HD.out]; rfl, (ext_a2 _ _ _).trans HW.out⟩

end Go.Proofs.Ytkkafjknogfdnaa
