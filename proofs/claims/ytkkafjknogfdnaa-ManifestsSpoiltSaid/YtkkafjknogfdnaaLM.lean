/- Walks: the chapter's levels. -/
import Derived.Test.YtkkafjknogfdnaaChecked
import Derived.Test.YtkkafjknogfdnaaLA
import Derived.Test.YtkkafjknogfdnaaLJ
import Derived.Test.YtkkafjknogfdnaaLH
namespace Go.Proofs.Ytkkafjknogfdnaa
open Go.RowKit

theorem nowf : ∀ x ∈ ([] : List (List Int)).flatten, (Lit.int .i64 x).wf = true := by simp

set_option maxRecDepth 100000 in
set_option maxHeartbeats 3200000 in
theorem stand_c (w : World) : Calls Try.prog 13 #[] w fun e w' => e = .returned (.bool true) ∧ Ext w w' := by
  go_enter Try.func13, Try.ntmps13
  go_wp2_with fail
  refine (add_c none 0 0 [] 3 w (Grid.empty w) (by decide) (by decide) nowf).mono ?_
  rw [show addS [] 3 = ([[3]], 0) from by decide]
  rintro e w1 ⟨v1, vs1, rfl, hgr1, hb1⟩
  obtain ⟨a1, c1, rfl, hg1⟩ := hgr1.grid
  have HG1 := Lib.hid hg1; have HB1 := Lib.hid hb1
  clear hgr1 hg1 hb1
  go_wp2_with fail
  have hl := Grid.lit2 ((w1.alloc (.cells #[.int .i64 3, .int .i64 4] 3)).alloc (.cells #[.int .i64 5] 3)) 25 (r1 := [3, 4]) (r2 := [5]) ((Ints.lit w1 [3, 4] 3 2 rfl (by decide)).ext ((Ext.refl _).alloc _)) (Ints.lit (w1.alloc (.cells #[.int .i64 3, .int .i64 4] 3)) [5] 3 1 rfl (by decide))
  simp only [World.size_alloc] at hl
  refine (replace_c _ _ _ [[3, 4], [5]] 0 6 _ hl (by decide) (by decide) (by decide)).mono ?_
  rw [show replaceS [[3, 4], [5]] 0 6 = ([[], [5, 6]], 0) from by decide]
  rintro e w2 ⟨v2, vs2, rfl, hgr2, hb2⟩
  obtain ⟨a2, c2, rfl, hg2⟩ := hgr2.grid
  have HG2 := Lib.hid hg2; have HB2 := Lib.hid ((ext_a3 w1 _ _ _).trans hb2)
  clear hgr2 hg2 hb2 hl
  go_wp2_with fail
  refine (pick_c _ _ _ [[], [5, 6]] 0 _ HG2.out (by decide) (by decide)).mono ?_
  rw [show pickS [[], [5, 6]] 0 = ([], 4) from by decide]
  rintro e w3 ⟨v3, rfl, ho3, hb3⟩
  obtain ⟨a3, c3, rfl⟩ := ho3.slice
  have HB3 := Lib.hid (HB2.out.trans hb3)
  have HG2' := Lib.hid (HG2.out.ext hb3)
  clear ho3 hb3 HG2
  go_wp2_with fail
  have hl3 := Grid.lit1 (w3.alloc (.cells #[.int .i64 3] 3)) 25 (Ints.lit w3 [3] 3 1 rfl (by decide))
  simp only [World.size_alloc] at hl3
  refine (same_c _ _ _ _ _ _ [[3]] [[3]] _ ((HG1.out.ext HB3.out).ext (ext_a2 w3 _ _)) hl3).mono ?_
  rw [show decide (([[3]] : List (List Int)) = [[3]]) = true from by decide]
  rintro e w4 ⟨rfl, hb4⟩
  have HB4 := Lib.hid (HB3.out.trans ((ext_a2 w3 _ _).trans hb4))
  have HG4 := Lib.hid (HG2'.out.ext ((ext_a2 w3 _ _).trans hb4))
  clear hb4 hl3 HG2'
  go_wp2_with fail
  have hl4 := Grid.lit2 (w4.alloc (.cells #[.int .i64 5, .int .i64 6] 3)) 25 (Ints.empty _) (Ints.lit w4 [5, 6] 3 2 rfl (by decide))
  simp only [World.size_alloc] at hl4
  refine (same_c _ _ _ _ _ _ [[], [5, 6]] [[], [5, 6]] _ (HG4.out.ext (ext_a2 w4 _ _)) hl4).mono ?_
  rw [show decide (([[], [5, 6]] : List (List Int)) = [[], [5, 6]]) = true from by decide]
  rintro e w5 ⟨rfl, hb5⟩
  have HB5 := Lib.hid (HB4.out.trans ((ext_a2 w4 _ _).trans hb5))
  have HG5 := Lib.hid (HG4.out.ext ((ext_a2 w4 _ _).trans hb5))
  clear hb5 hl4 HG4
  go_wp2_with fail
  refine (valid_c _ _ _ [[], [5, 6]] _ HG5.out (by decide) (by decide)).mono ?_
  rw [show validB [[], [5, 6]] = true from by decide]
  rintro e w6 ⟨rfl, hb6⟩
  have HB6 := Lib.hid (HB1.out.trans (HB5.out.trans hb6))
  clear hb6
  go_wp2_with fail
  go_ret
  exact ⟨rfl, HB6.out⟩

end Go.Proofs.Ytkkafjknogfdnaa
