/- Walks: whether two manifests are the same, by the package and by the statements. -/
import Derived.Test.YtoibjhoebjcfeaaChecked
import Derived.Test.YtoibjhoebjcfeaaMC
import Derived.Test.YtoibjhoebjcfeaaLA
namespace Go.Proofs.Ytoibjhoebjcfeaa
open Go.RowKit

/-- whether two are the same -/
def msame (nx ck sd : Int) (L : List (List Int)) (nx' ck' sd' : Int) (L' : List (List Int)) : Bool :=
  decide (nx = nx' ∧ ck = ck' ∧ sd = sd') && decide (trimL L = trimL L')

theorem msame_no {nx ck sd nx' ck' sd' : Int} {L L' : List (List Int)} (h : ¬ (nx = nx' ∧ ck = ck' ∧ sd = sd')) : msame nx ck sd L nx' ck' sd' L' = false := by
  unfold msame; rw [decide_eq_false h, Bool.false_and]
theorem msame_yes {nx ck sd : Int} {L L' : List (List Int)} : msame nx ck sd L nx ck sd L' = decide (trimL L = trimL L') := by
  unfold msame; rw [decide_eq_true ⟨rfl, rfl, rfl⟩, Bool.true_and]

theorem box8 (w : World) (a b c d : Value) (t : TypeId) (a' b' c' d' : Value) (t' : TypeId) :
    (∀ x : ExtOf ((w.alloc (.cells #[a, b, c, d] t)).alloc (.cells #[a', b', c', d'] t')), x.w'.cell? ⟨w.heap.size, 0, none⟩ = some a) ∧
    (∀ x : ExtOf ((w.alloc (.cells #[a, b, c, d] t)).alloc (.cells #[a', b', c', d'] t')), x.w'.cell? ⟨w.heap.size, 1, none⟩ = some b) ∧
    (∀ x : ExtOf ((w.alloc (.cells #[a, b, c, d] t)).alloc (.cells #[a', b', c', d'] t')), x.w'.cell? ⟨w.heap.size, 2, none⟩ = some c) ∧
    (∀ x : ExtOf ((w.alloc (.cells #[a, b, c, d] t)).alloc (.cells #[a', b', c', d'] t')), x.w'.cell? ⟨w.heap.size, 3, none⟩ = some d) ∧
    (∀ x : ExtOf ((w.alloc (.cells #[a, b, c, d] t)).alloc (.cells #[a', b', c', d'] t')), x.w'.cell? ⟨w.heap.size + 1, 0, none⟩ = some a') ∧
    (∀ x : ExtOf ((w.alloc (.cells #[a, b, c, d] t)).alloc (.cells #[a', b', c', d'] t')), x.w'.cell? ⟨w.heap.size + 1, 1, none⟩ = some b') ∧
    (∀ x : ExtOf ((w.alloc (.cells #[a, b, c, d] t)).alloc (.cells #[a', b', c', d'] t')), x.w'.cell? ⟨w.heap.size + 1, 2, none⟩ = some c') ∧
    (∀ x : ExtOf ((w.alloc (.cells #[a, b, c, d] t)).alloc (.cells #[a', b', c', d'] t')), x.w'.cell? ⟨w.heap.size + 1, 3, none⟩ = some d') := by
  have h := box4 (w := w.alloc (.cells #[a, b, c, d] t)) (Ext.refl ((w.alloc (.cells #[a, b, c, d] t)).alloc (.cells #[a', b', c', d'] t')))
  have k := box4 (w := w) (ext_a1 (w.alloc (.cells #[a, b, c, d] t)) (.cells #[a', b', c', d'] t') : Ext _ _)
  have e : (w.alloc (.cells #[a, b, c, d] t)).heap.size = w.heap.size + 1 := by simp
  rw [e] at h
  exact ⟨cell_of k.1, cell_of k.2.1, cell_of k.2.2.1, cell_of k.2.2.2, cell_of h.1, cell_of h.2.1, cell_of h.2.2.1, cell_of h.2.2.2⟩

set_option maxRecDepth 100000 in
set_option maxHeartbeats 1600000 in
theorem refmsame_c (nx ck sd : Int) (ao : Option Addr) (n cap : Nat) (L : List (List Int)) (nx' ck' sd' : Int) (bo : Option Addr) (m cap2 : Nat) (L' : List (List Int)) (w : World) (hx : Grid w ao n cap L) (hy : Grid w bo m cap2 L') :
    Calls Try.prog 39 #[.agg #[.int .i64 nx, .int .i64 ck, .int .u64 sd, .slice ao n cap], .agg #[.int .i64 nx', .int .i64 ck', .int .u64 sd', .slice bo m cap2]] w fun e w' => e = .returned (.bool (msame nx ck sd L nx' ck' sd' L')) ∧ Ext w w' := by
  have Hx := Lib.hid hx; have Hy := Lib.hid hy
  clear hx hy
  by_cases h1 : nx = nx'
  case neg =>
    have HM := Lib.hid (msame_no (L := L) (L' := L') (fun h => h1 h.1 : ¬ (nx = nx' ∧ ck = ck' ∧ sd = sd')))
    have h1' : (nx == nx') = false := by simpa using h1
    clear h1
    obtain ⟨f0, f1, f2, f3, f4, f5, f6, f7⟩ := box8 w (.int .i64 nx) (.int .i64 ck) (.int .u64 sd) (.slice ao n cap) 66 (.int .i64 nx') (.int .i64 ck') (.int .u64 sd') (.slice bo m cap2) 66
    go_enter Try.func39, Try.ntmps39
    go_wp2_with fail
    refine wp_region_ext (by kernel_rfl) (by kernel_rfl) ?_
    repeat (go_big_quiet_step (fail))
    refine wpQuiet_nil ?_
    intro w2 hw2
    have HW := Lib.hid hw2; clear hw2
    go_wp2_with fail
    go_ret
    exact ⟨rb HM.out, (ext_a2 _ _ _).trans HW.out⟩
  subst h1
  by_cases h1 : ck = ck'
  case neg =>
    have HM := Lib.hid (msame_no (L := L) (L' := L') (fun h => h1 h.2.1 : ¬ (nx = nx ∧ ck = ck' ∧ sd = sd')))
    have h1' : (ck == ck') = false := by simpa using h1
    clear h1
    obtain ⟨f0, f1, f2, f3, f4, f5, f6, f7⟩ := box8 w (.int .i64 nx) (.int .i64 ck) (.int .u64 sd) (.slice ao n cap) 66 (.int .i64 nx) (.int .i64 ck') (.int .u64 sd') (.slice bo m cap2) 66
    go_enter Try.func39, Try.ntmps39
    go_wp2_with fail
    refine wp_region_ext (by kernel_rfl) (by kernel_rfl) ?_
    repeat (go_big_quiet_step (fail))
    refine wpQuiet_nil ?_
    intro w2 hw2
    have HW := Lib.hid hw2; clear hw2
    go_wp2_with fail
    go_ret
    exact ⟨rb HM.out, (ext_a2 _ _ _).trans HW.out⟩
  subst h1
  by_cases h1 : sd = sd'
  case neg =>
    have HM := Lib.hid (msame_no (L := L) (L' := L') (fun h => h1 h.2.2 : ¬ (nx = nx ∧ ck = ck ∧ sd = sd')))
    have h1' : (sd == sd') = false := by simpa using h1
    clear h1
    obtain ⟨f0, f1, f2, f3, f4, f5, f6, f7⟩ := box8 w (.int .i64 nx) (.int .i64 ck) (.int .u64 sd) (.slice ao n cap) 66 (.int .i64 nx) (.int .i64 ck) (.int .u64 sd') (.slice bo m cap2) 66
    go_enter Try.func39, Try.ntmps39
    go_wp2_with fail
    refine wp_region_ext (by kernel_rfl) (by kernel_rfl) ?_
    repeat (go_big_quiet_step (fail))
    refine wpQuiet_nil ?_
    intro w2 hw2
    have HW := Lib.hid hw2; clear hw2
    go_wp2_with fail
    go_ret
    exact ⟨rb HM.out, (ext_a2 _ _ _).trans HW.out⟩
  subst h1
  have HM := Lib.hid (msame_yes (nx := nx) (ck := ck) (sd := sd) (L := L) (L' := L'))
  obtain ⟨f0, f1, f2, f3, f4, f5, f6, f7⟩ := box8 w (.int .i64 nx) (.int .i64 ck) (.int .u64 sd) (.slice ao n cap) 66 (.int .i64 nx) (.int .i64 ck) (.int .u64 sd) (.slice bo m cap2) 66
  have b1 := Hx.out.fits; have b2 := Hx.out.bound; have b3 := Hy.out.fits; have b4 := Hy.out.bound
  have hd : ∃ r, decide (trimL L = trimL L') = r := ⟨_, rfl⟩
  obtain ⟨r, hd⟩ := hd
  have HD := Lib.hid hd; clear hd
  go_enter Try.func39, Try.ntmps39
  go_wp2_with fail
  refine wp_region_ext (by kernel_rfl) (by kernel_rfl) ?_
  repeat (go_big_quiet_step (first | exact Calls.quiet_ext (reftrim_c _ _ _ L _ (Hx.out.ext ((ext_a2 _ _ _).trans (ExtOf.h _)))) | exact Calls.quiet_ext (reftrim_c _ _ _ L' _ (Hy.out.ext ((ext_a2 _ _ _).trans (ExtOf.h _)))) | exact Calls.quiet_ext (Calls.to (congrArg Value.bool HD.out) (same_c _ _ _ _ _ _ _ _ _ (Grid.trim (Hx.out.ext ((ext_a2 _ _ _).trans (ExtOf.h _)))) (Grid.trim (Hy.out.ext ((ext_a2 _ _ _).trans (ExtOf.h _))))))))
  refine wpQuiet_nil ?_
  intro w2 hw2
  have HW := Lib.hid hw2; clear hw2
  cases r
  · go_wp2_with fail
    go_ret
    exact ⟨by rw [HM.out, HD.out]; rfl, (ext_a2 _ _ _).trans HW.out⟩
  · go_wp2_with fail
    go_ret
    exact ⟨by rw [HM.out, HD.out]; rfl, (ext_a2 _ _ _).trans HW.out⟩

end Go.Proofs.Ytoibjhoebjcfeaa
