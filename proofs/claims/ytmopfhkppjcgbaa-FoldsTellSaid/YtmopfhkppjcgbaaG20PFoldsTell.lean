/- Walks: whether two states are the same. -/
import Derived.Test.YtmopfhkppjcgbaaChecked
import Derived.Test.YtmopfhkppjcgbaaG8PFoldsTell
set_option linter.unusedVariables false
set_option linter.unusedSimpArgs false
namespace Go.Proofs.Ytmopfhkppjcgbaa
open Go.RowKit

open Classical in
noncomputable def sameK (K M : List Kd) : Bool := if K = M then true else false
theorem sameK_refl (K : List Kd) : sameK K K = true := by unfold sameK; rw [if_pos rfl]
theorem sameK_ne {K M : List Kd} (h : K ≠ M) : sameK K M = false := by unfold sameK; rw [if_neg h]
theorem sameK_eq {K M : List Kd} (h : sameK K M = true) : K = M := by
  by_cases hk : K = M
  · exact hk
  · rw [sameK_ne hk] at h; cases h

theorem kd_ext_getD {K M : List Kd} (hl : K.length = M.length) (h : ∀ i, i < K.length → K.getD i kd0 = M.getD i kd0) : K = M := by
  apply List.ext_getElem hl
  intro i h1 h2
  have := h i h1
  rwa [List.getD_eq_getElem?_getD, List.getD_eq_getElem?_getD, List.getElem?_eq_getElem h1, List.getElem?_eq_getElem h2] at this

set_option maxRecDepth 100000 in
set_option maxHeartbeats 3200000 in
theorem keq_c (ao bo : Option Addr) (n m cap cap2 : Nat) (K M : List Kd) (w : World) (hx : Kds w ao n cap K) (hy : Kds w bo m cap2 M) :
    Calls Try.prog 24 #[.slice ao n cap, .slice bo m cap2] w fun e w' => e = .returned (.bool (sameK K M)) ∧ Ext w w' := by
  have Hx := Lib.hid hx; have Hy := Lib.hid hy
  have b1 := hx.fits; have b2 := hx.bound; have b3 := hy.fits; have b4 := hy.bound
  have HLx := Lib.hid hx.len; have HLy := Lib.hid hy.len
  clear hx hy
  by_cases hnm : n = m
  case neg =>
    have HS := Lib.hid (sameK_ne (K := K) (M := M) (fun h => hnm (by rw [← HLx.out, ← HLy.out, h])))
    have hnm' : ((n : Int) != (m : Int)) = true := by simp; omega
    clear hnm
    go_enter Try.func24, Try.ntmps24
    go_wp2_with fail
    go_ret
    exact ⟨rb HS.out, Ext.refl _⟩
  subst hnm
  go_enter Try.func24, Try.ntmps24
  go_wp2_with fail
  go_loopw [13] (fun i w' => ∃ k : Nat, k ≤ n ∧ i = .int .i64 k ∧ (∀ j, j < k → K.getD j kd0 = M.getD j kd0) ∧ Ext w w') (fun i _ => n - (intOf i).toNat)
  case atStart => exact ⟨0, Nat.zero_le _, rfl, by omega, Ext.refl _⟩
  case round =>
    obtain ⟨k, hk, rfl, heq, hb⟩ := hrel
    have HEq := Lib.hid heq; have Hb := Lib.hid hb
    clear heq hb
    by_cases hlt : k < n
    · obtain ⟨b, off, rfl, c0, c1, c2⟩ := (Hx.out.ext Hb.out).at hlt
      obtain ⟨b', off', rfl, e0, e1, e2⟩ := (Hy.out.ext Hb.out).at hlt
      obtain ⟨p, hp⟩ : ∃ q, K.getD k kd0 = q := ⟨_, rfl⟩
      obtain ⟨q, hq⟩ : ∃ q, M.getD k kd0 = q := ⟨_, rfl⟩
      rw [hp] at c0 c1 c2
      rw [hq] at e0 e1 e2
      have HPq := Lib.hid hp; have HQq := Lib.hid hq
      clear hp hq
      by_cases hpq : p = q
      · subst hpq
        obtain ⟨t, mm, bb⟩ := p
        have u0 := cell_of c0; have u1 := cell_of c1; have u2 := cell_of c2; have v0 := cell_of e0; have v1 := cell_of e1; have v2 := cell_of e2
        clear c0 c1 c2 e0 e1 e2
        go_wp2_with fail
        refine wp_region_ext (by kernel_rfl) (by kernel_rfl) ?_
        repeat (go_big_quiet_step (fail))
        refine wpQuiet_nil ?_
        intro w4 hw4
        have HW := Lib.hid (Hb.out.trans hw4); clear hw4
        go_wp2_with fail
        go_roundw
        case rel => exact ⟨k + 1, by omega, by go_num, (fun j hj => by
          rcases Nat.lt_or_ge j k with h | h
          · exact HEq.out j h
          · obtain rfl : j = k := by omega
            rw [HPq.out, HQq.out]), HW.out⟩
        case measure => simp [intOf]; omega
      · have HS := Lib.hid (sameK_ne (K := K) (M := M) (fun h => hpq (by rw [← HPq.out, ← HQq.out, h])))
        obtain ⟨t, mm, bb⟩ := p
        obtain ⟨t', mm', bb'⟩ := q
        have u0 := cell_of c0; have u1 := cell_of c1; have u2 := cell_of c2; have v0 := cell_of e0; have v1 := cell_of e1; have v2 := cell_of e2
        clear c0 c1 c2 e0 e1 e2
        have hne : ¬ (t = t' ∧ mm = mm' ∧ bb = bb') := fun ⟨h1, h2, h3⟩ => hpq (by rw [h1, h2, h3])
        clear hpq
        by_cases h1 : t = t'
        · subst h1
          by_cases h2 : mm = mm'
          · subst h2
            have h3 : (bb == bb') = false := beq_eq_false_iff_ne.2 fun h => hne ⟨rfl, rfl, h⟩
            clear hne
            go_wp2_with fail
            refine wp_region_ext (by kernel_rfl) (by kernel_rfl) ?_
            repeat (go_big_quiet_step (fail))
            refine wpQuiet_nil ?_
            intro w4 hw4
            have HW := Lib.hid (Hb.out.trans hw4); clear hw4
            go_wp2_with fail
            go_ret
            exact ⟨rb HS.out, HW.out⟩
          · have h3 : (mm == mm') = false := beq_eq_false_iff_ne.2 h2
            clear hne h2
            go_wp2_with fail
            refine wp_region_ext (by kernel_rfl) (by kernel_rfl) ?_
            repeat (go_big_quiet_step (fail))
            refine wpQuiet_nil ?_
            intro w4 hw4
            have HW := Lib.hid (Hb.out.trans hw4); clear hw4
            go_wp2_with fail
            go_ret
            exact ⟨rb HS.out, HW.out⟩
        · have h3 : (t == t') = false := beq_eq_false_iff_ne.2 h1
          clear hne h1
          go_wp2_with fail
          refine wp_region_ext (by kernel_rfl) (by kernel_rfl) ?_
          repeat (go_big_quiet_step (fail))
          refine wpQuiet_nil ?_
          intro w4 hw4
          have HW := Lib.hid (Hb.out.trans hw4); clear hw4
          go_wp2_with fail
          go_ret
          exact ⟨rb HS.out, HW.out⟩
    · have HS : Hid (sameK K M = true) := Lib.hid (by rw [kd_ext_getD (by rw [HLx.out, HLy.out]) (fun i hi => HEq.out i (by rw [HLx.out] at hi; omega))]; exact sameK_refl _)
      go_wp2_with fail
      go_ret
      exact ⟨rb HS.out, Hb.out⟩

/-- are two states the same? -/
noncomputable def sameS (nx : Int) (K : List Kd) (nx' : Int) (K' : List Kd) : Bool := decide (nx = nx') && sameK K K'
theorem sameS_refl (nx : Int) (K : List Kd) : sameS nx K nx K = true := by unfold sameS; rw [sameK_refl, decide_eq_true rfl]; rfl
theorem sameS_no {nx nx' : Int} (K K' : List Kd) (h : nx ≠ nx') : sameS nx K nx' K' = false := by unfold sameS; rw [decide_eq_false h]; rfl
theorem sameS_yes (nx : Int) (K K' : List Kd) : sameS nx K nx K' = sameK K K' := by unfold sameS; rw [decide_eq_true rfl]; rfl

theorem box22 {w w1 : World} {a b a' b' : Value} {t t' : TypeId} (h : Ext ((w.alloc (.cells #[a, b] t)).alloc (.cells #[a', b'] t')) w1) :
    w1.cell? ⟨w.heap.size, 0, none⟩ = some a ∧ w1.cell? ⟨w.heap.size, 1, none⟩ = some b ∧ w1.cell? ⟨w.heap.size + 1, 0, none⟩ = some a' ∧ w1.cell? ⟨w.heap.size + 1, 1, none⟩ = some b' := by
  refine ⟨cell_ext h (by simp), cell_ext h (by simp), cell_ext h (by simp), cell_ext h (by simp)⟩

set_option maxRecDepth 100000 in
set_option maxHeartbeats 1600000 in
theorem fsame_c (nx nx' : Int) (ao bo : Option Addr) (n m cap cap2 : Nat) (K M : List Kd) (w : World) (hx : Kds w ao n cap K) (hy : Kds w bo m cap2 M) :
    Calls Try.prog 12 #[.agg #[.int .i64 nx, .slice ao n cap], .agg #[.int .i64 nx', .slice bo m cap2]] w fun e w' => e = .returned (.bool (sameS nx K nx' M)) ∧ Ext w w' := by
  have Hx := Lib.hid hx; have Hy := Lib.hid hy
  clear hx hy
  by_cases h1 : nx = nx'
  case neg =>
    have HS := Lib.hid (sameS_no K M h1)
    have h1' : (nx == nx') = false := by simpa using h1
    clear h1
    go_enter Try.func12, Try.ntmps12
    go_wp2_with fail
    go_ret
    exact ⟨rb HS.out, ext_a2 _ _ _⟩
  subst h1
  have HS := Lib.hid (sameS_yes nx K M)
  go_enter Try.func12, Try.ntmps12
  go_wp2_with fail
  refine (keq_c _ _ _ _ _ _ K M _ (Hx.out.ext (ext_a2 _ _ _)) (Hy.out.ext (ext_a2 _ _ _))).mono ?_
  rintro e w1 ⟨rfl, hb⟩
  have HB := Lib.hid ((ext_a2 _ _ _).trans hb); clear hb
  go_wp2_with fail
  go_ret
  exact ⟨rb HS.out, HB.out⟩

set_option maxRecDepth 100000 in
set_option maxHeartbeats 3200000 in
theorem reffsame_c (nx nx' : Int) (ao bo : Option Addr) (n m cap cap2 : Nat) (K M : List Kd) (w : World) (hx : Kds w ao n cap K) (hy : Kds w bo m cap2 M) :
    Calls Try.prog 15 #[.agg #[.int .i64 nx, .slice ao n cap], .agg #[.int .i64 nx', .slice bo m cap2]] w fun e w' => e = .returned (.bool (sameS nx K nx' M)) ∧ Ext w w' := by
  have Hx := Lib.hid hx; have Hy := Lib.hid hy
  have b1 := hx.fits; have b2 := hx.bound; have b3 := hy.fits; have b4 := hy.bound
  have HLx := Lib.hid hx.len; have HLy := Lib.hid hy.len
  clear hx hy
  by_cases h1 : nx = nx'
  case neg =>
    have HS := Lib.hid (sameS_no K M h1)
    have h1' : (nx != nx') = true := by simpa using h1
    clear h1
    go_enter Try.func15, Try.ntmps15
    go_wp2_with fail
    go_ret
    exact ⟨rb HS.out, ext_a2 _ _ _⟩
  subst h1
  have HSY := Lib.hid (sameS_yes nx K M)
  by_cases hnm : n = m
  case neg =>
    have HS := Lib.hid (sameK_ne (K := K) (M := M) (fun h => hnm (by rw [← HLx.out, ← HLy.out, h])))
    have hnm' : ((n : Int) != (m : Int)) = true := by simp; omega
    clear hnm
    go_enter Try.func15, Try.ntmps15
    go_wp2_with fail
    go_ret
    exact ⟨rb (HSY.out.trans HS.out), ext_a2 _ _ _⟩
  subst hnm
  go_enter Try.func15, Try.ntmps15
  go_wp2_with fail
  go_loopw [5] (fun i w' => ∃ k : Nat, k ≤ n ∧ i = .int .i64 k ∧ (∀ j, j < k → K.getD j kd0 = M.getD j kd0) ∧ Ext ((w.alloc (.cells #[.int .i64 nx, .slice ao n cap] 31)).alloc (.cells #[.int .i64 nx, .slice bo n cap2] 31)) w') (fun i _ => n - (intOf i).toNat)
  case atStart => exact ⟨0, Nat.zero_le _, rfl, by omega, Ext.refl _⟩
  case round =>
    obtain ⟨k, hk, rfl, heq, hb⟩ := hrel
    obtain ⟨_, s1, _, s3⟩ := box22 hb
    have HEq := Lib.hid heq; have Hb := Lib.hid hb
    clear heq hb
    by_cases hlt : k < n
    · obtain ⟨b, off, rfl, c0, c1, c2⟩ := (Hx.out.ext ((ext_a2 _ _ _).trans Hb.out)).at hlt
      obtain ⟨b', off', rfl, e0, e1, e2⟩ := (Hy.out.ext ((ext_a2 _ _ _).trans Hb.out)).at hlt
      obtain ⟨p, hp⟩ : ∃ q, K.getD k kd0 = q := ⟨_, rfl⟩
      obtain ⟨q, hq⟩ : ∃ q, M.getD k kd0 = q := ⟨_, rfl⟩
      rw [hp] at c0 c1 c2
      rw [hq] at e0 e1 e2
      have HPq := Lib.hid hp; have HQq := Lib.hid hq
      have g1 := cell_of s1; have g3 := cell_of s3
      clear hp hq
      by_cases hpq : p = q
      · subst hpq
        obtain ⟨t, mm, bb⟩ := p
        have u0 := cell_of c0; have u1 := cell_of c1; have u2 := cell_of c2; have v0 := cell_of e0; have v1 := cell_of e1; have v2 := cell_of e2
        go_wp2_with fail
        clear c0 c1 c2 e0 e1 e2 s1 s3
        refine wp_region_ext (by kernel_rfl) (by kernel_rfl) ?_
        repeat (go_big_quiet_step (fail))
        refine wpQuiet_nil ?_
        intro w4 hw4
        have HW := Lib.hid (Hb.out.trans hw4); clear hw4
        go_wp2_with fail
        go_roundw
        case rel => exact ⟨k + 1, by omega, by go_num, (fun j hj => by
          rcases Nat.lt_or_ge j k with h | h
          · exact HEq.out j h
          · obtain rfl : j = k := by omega
            rw [HPq.out, HQq.out]), HW.out⟩
        case measure => simp [intOf]; omega
      · have HS := Lib.hid (sameK_ne (K := K) (M := M) (fun h => hpq (by rw [← HPq.out, ← HQq.out, h])))
        obtain ⟨t, mm, bb⟩ := p
        obtain ⟨t', mm', bb'⟩ := q
        have u0 := cell_of c0; have u1 := cell_of c1; have u2 := cell_of c2; have v0 := cell_of e0; have v1 := cell_of e1; have v2 := cell_of e2
        have hne : ¬ (t = t' ∧ mm = mm' ∧ bb = bb') := fun ⟨h1, h2, h3⟩ => hpq (by rw [h1, h2, h3])
        clear hpq
        by_cases h1 : t = t'
        · subst h1
          by_cases h2 : mm = mm'
          · subst h2
            have h3 : (bb == bb') = false := beq_eq_false_iff_ne.2 fun h => hne ⟨rfl, rfl, h⟩
            clear hne
            go_wp2_with fail
            clear c0 c1 c2 e0 e1 e2 s1 s3
            refine wp_region_ext (by kernel_rfl) (by kernel_rfl) ?_
            repeat (go_big_quiet_step (fail))
            refine wpQuiet_nil ?_
            intro w4 hw4
            have HW := Lib.hid (((ext_a2 _ _ _).trans Hb.out).trans hw4); clear hw4
            go_wp2_with fail
            go_ret
            exact ⟨rb (HSY.out.trans HS.out), HW.out⟩
          · have h3 : (mm == mm') = false := beq_eq_false_iff_ne.2 h2
            clear hne h2
            go_wp2_with fail
            clear c0 c1 c2 e0 e1 e2 s1 s3
            refine wp_region_ext (by kernel_rfl) (by kernel_rfl) ?_
            repeat (go_big_quiet_step (fail))
            refine wpQuiet_nil ?_
            intro w4 hw4
            have HW := Lib.hid (((ext_a2 _ _ _).trans Hb.out).trans hw4); clear hw4
            go_wp2_with fail
            go_ret
            exact ⟨rb (HSY.out.trans HS.out), HW.out⟩
        · have h3 : (t == t') = false := beq_eq_false_iff_ne.2 h1
          clear hne h1
          go_wp2_with fail
          clear c0 c1 c2 e0 e1 e2 s1 s3
          refine wp_region_ext (by kernel_rfl) (by kernel_rfl) ?_
          repeat (go_big_quiet_step (fail))
          refine wpQuiet_nil ?_
          intro w4 hw4
          have HW := Lib.hid (((ext_a2 _ _ _).trans Hb.out).trans hw4); clear hw4
          go_wp2_with fail
          go_ret
          exact ⟨rb (HSY.out.trans HS.out), HW.out⟩
    · have HS : Hid (sameK K M = true) := Lib.hid (by rw [kd_ext_getD (by rw [HLx.out, HLy.out]) (fun i hi => HEq.out i (by rw [HLx.out] at hi; omega))]; exact sameK_refl _)
      go_wp2_with fail
      go_ret
      exact ⟨rb (HSY.out.trans HS.out), (ext_a2 _ _ _).trans Hb.out⟩

end Go.Proofs.Ytmopfhkppjcgbaa
