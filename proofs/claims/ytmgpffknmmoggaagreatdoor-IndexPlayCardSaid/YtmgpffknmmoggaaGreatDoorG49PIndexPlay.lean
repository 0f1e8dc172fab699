/- Walks: sorted entries out of any (law18's Made). Walks: the document's index: an entry more in a sorted list (ref24.with). Walks: the bytes of an entry by the document; an index's blocks beside others that change. Walks: the document's index: its block; Range. Walks: the document's index: Merge, Flush. Walks: the document's index: Flush. -/
import Derived.Test.YtmgpffknmmoggaaGreatDoorG26PIndexPlay
import Derived.Deep.RegionHeld3
import Derived.Deep.CutRange
import Derived.Test.YtmgpffknmmoggaaGreatDoorG48PIndexPlay
import Derived.Test.YtmgpffknmmoggaaGreatDoorG10PIndexPlay
import Derived.Test.YtmgpffknmmoggaaGreatDoorG40PIndexPlay
set_option linter.unusedVariables false
set_option linter.unusedSimpArgs false
namespace Go.Proofs.YtmgpffknmmoggaaGreatDoor
open Go.RowKit
set_option maxRecDepth 100000
set_option linter.unusedVariables false
set_option maxHeartbeats 12800000
end Go.Proofs.YtmgpffknmmoggaaGreatDoor
namespace Go.Proofs.YtmgpffknmmoggaaGreatDoor
open Go.RowKit
set_option maxRecDepth 100000
set_option linter.unusedVariables false
set_option maxHeartbeats 12800000
theorem refless13_c (a b : En) (w : World) : Calls Tryz.prog 135 #[enV a, enV b] w fun e w' => e = .returned (.bool (lessE a b)) ∧ Ext w w' := by
  obtain ⟨a1, a2, a3⟩ := a
  obtain ⟨b1, b2, b3⟩ := b
  have HB := Lib.hid (ext_a2 w (.cells #[.int .u64 a1, .int .i64 a2, .int .i64 a3] 44) (.cells #[.int .u64 b1, .int .i64 b2, .int .i64 b3] 44))
  have HL : Hid (lessE (a1, a2, a3) (b1, b2, b3) = if a1 ≠ b1 then decide (a1 < b1) else if a2 ≠ b2 then decide (a2 < b2) else decide (a3 < b3)) := Lib.hid rfl
  show Calls Tryz.prog 135 #[.agg #[.int .u64 a1, .int .i64 a2, .int .i64 a3], .agg #[.int .u64 b1, .int .i64 b2, .int .i64 b3]] w _
  by_cases h1 : a1 = b1
  · subst h1
    have hd1 : decide (a1 < a1) = false := by simp
    have he1 : (a1 == a1) = true := by simp
    by_cases h2 : a2 = b2
    · subst h2
      have hd2 : decide (a2 < a2) = false := by simp
      have he2 : (a2 == a2) = true := by simp
      go_enter Tryz.func135, Tryz.ntmps135
      go_wp2_with fail
      go_ret
      exact ⟨rb (by rw [HL.out]; simp), HB.out⟩
    · have hn : (a2 == b2) = false := by simpa using h2
      rcases Int.lt_or_gt_of_ne h2 with h3 | h3
      · have hd2 : decide (a2 < b2) = true := by simpa using h3
        go_enter Tryz.func135, Tryz.ntmps135
        go_wp2_with fail
        go_ret
        exact ⟨rb (by rw [HL.out]; simp [h2, h3]), HB.out⟩
      · have hd2 : decide (a2 < b2) = false := by simp; omega
        go_enter Tryz.func135, Tryz.ntmps135
        go_wp2_with fail
        go_ret
        exact ⟨rb (by rw [HL.out]; simp [h2]; omega), HB.out⟩
  · have hn : (a1 == b1) = false := by simpa using h1
    rcases Int.lt_or_gt_of_ne h1 with h3 | h3
    · have hd2 : decide (a1 < b1) = true := by simpa using h3
      go_enter Tryz.func135, Tryz.ntmps135
      go_wp2_with fail
      go_ret
      exact ⟨rb (by rw [HL.out]; simp [h1, h3]), HB.out⟩
    · have hd2 : decide (a1 < b1) = false := by simp; omega
      go_enter Tryz.func135, Tryz.ntmps135
      go_wp2_with fail
      go_ret
      exact ⟨rb (by rw [HL.out]; simp [h1]; omega), HB.out⟩
theorem with_c (e : En) (w : World) {B : Nat} {v : Value} {M : List En} (h : Own w B 44 3 v M.length (ecs M)) (hs : sortE M) (hn : M.length ≤ 1000) :
    Calls Tryz.prog 70 #[v, enV e] w fun r w' => ∃ v', r = .returned v' ∧ ((insE e M = M ∧ v' = v) ∨ w'.ownsRow w.heap.size 44 3 v' (insE e M).length (ecs (insE e M))) ∧ Ext w w' := by
  obtain ⟨m1, m2, m3⟩ := e
  have HOwn := Lib.hid h
  have HS := Lib.hid hs
  obtain ⟨w1, hw1⟩ : ∃ W, w.alloc (.cells #[.int .u64 m1, .int .i64 m2, .int .i64 m3] 44) = W := ⟨_, rfl⟩
  obtain ⟨q, hq⟩ : ∃ q, w.heap.size = q := ⟨_, rfl⟩
  have HX1 : Hid (Ext w w1) := Lib.hid (by rw [← hw1]; exact ext_a1 w _)
  have HBk1 : Hid (Blk w1 q 44 #[.int .u64 m1, .int .i64 m2, .int .i64 m3]) := Lib.hid (by rw [← hw1, ← hq]; exact Blk.new w _ _)
  obtain ⟨va, vc, rfl, hens⟩ := Ens.of_own h
  obtain ⟨m, hm⟩ : ∃ m, M.length = m := ⟨_, rfl⟩
  rw [hm] at hens hn
  have HMl := Lib.hid hm
  have HEns1 := Lib.hid (hens.ext HX1.out)
  have hva : (va = none ∧ m = 0 ∧ vc = 0) ∨ ∃ g, va = some ⟨g, 0, none⟩ := by
    rcases h.2 with ⟨e, e2⟩ | ⟨g, cap', cur, e, _⟩
    · injection e with f1 f2 f3; exact .inl ⟨f1, by omega, f3⟩
    · injection e with f1 f2 f3; exact .inr ⟨g, f1⟩
  have HFin : Hid (∀ v' W, W.ownsRow w.heap.size 44 3 v' (insE (m1, m2, m3) M).length (ecs (insE (m1, m2, m3) M)) → Ext w W → ∃ v2, Ending.returned v' = .returned v2 ∧ ((insE (m1, m2, m3) M = M ∧ v2 = .slice va m vc) ∨ W.ownsRow w.heap.size 44 3 v2 (insE (m1, m2, m3) M).length (ecs (insE (m1, m2, m3) M))) ∧ Ext w W) := Lib.hid fun v' W h1 h2 => ⟨v', rfl, .inr h1, h2⟩
  have HSame : Hid (∀ W, insE (m1, m2, m3) M = M → Ext w W → ∃ v2, Ending.returned (.slice va m vc) = .returned v2 ∧ ((insE (m1, m2, m3) M = M ∧ v2 = .slice va m vc) ∨ W.ownsRow w.heap.size 44 3 v2 (insE (m1, m2, m3) M).length (ecs (insE (m1, m2, m3) M))) ∧ Ext w W) := Lib.hid fun W h1 h2 => ⟨_, rfl, .inl ⟨h1, rfl⟩, h2⟩
  rw [hm]
  clear h hs hens HOwn
  show Calls Tryz.prog 70 #[.slice va m vc, .agg #[.int .u64 m1, .int .i64 m2, .int .i64 m3]] w _
  rcases hva with ⟨rfl, rfl, rfl⟩ | ⟨b', rfl⟩
  · have HLn : Hid (M = []) := Lib.hid (List.eq_nil_of_length_eq_zero HMl.out)
    have HJ : Hid (0 = lbE M (m1, m2, m3)) := Lib.hid (by rw [HLn.out]; rfl)
    have HNe : Hid (¬ M[0]? = some (m1, m2, m3)) := Lib.hid (by rw [HLn.out]; exact fun h => by cases h)
    go_enter Tryz.func70, Tryz.ntmps70
    go_wp2_with fail
    try rw [hw1]
    try rw [hq]
    have HWq := Lib.hid hq
    clear hw1 hq hm
    go_loopw [5] (fun i W => i = .int .i64 0 ∧ W = w1) (fun i _ => 0)
    case atStart => exact ⟨rfl, rfl⟩
    case round =>
      obtain ⟨rfl, rfl⟩ := hrel
      have e0 := cell_of (show wr.cell? ⟨q, 0, none⟩ = some (.int .u64 m1) from HBk1.out.cell 0)
      have e1 := cell_of (show wr.cell? ⟨q, 1, none⟩ = some (.int .i64 m2) from HBk1.out.cell 1)
      have e2 := cell_of (show wr.cell? ⟨q, 2, none⟩ = some (.int .i64 m3) from HBk1.out.cell 2)
      go_wp2_with fail
      refine wp_region_ext (by kernel_rfl) (by kernel_rfl) ?_
      repeat (go_big_quiet_step (fail))
      refine wpQuiet_nil ?_
      intro w4 hw4
      have HB4 := Lib.hid (HX1.out.trans hw4)
      have HK4 := Lib.hid (HBk1.out.ext hw4)
      have HE4 := Lib.hid (HEns1.out.ext hw4)
      clear hw4 e0 e1 e2
      go_wp2_with fail
      refine wp_region_ext (by kernel_rfl) (by kernel_rfl) ?_
      repeat (go_big_quiet_step (fail))
      refine wpQuiet_nil ?_
      intro wc hw5
      have HB2 := Lib.hid (HB4.out.trans hw5)
      have HK2 := Lib.hid (HK4.out.ext hw5)
      have HEns1 := Lib.hid (HE4.out.ext hw5)
      clear hw5
      go_wp2_with fail
      have HIns : Hid (insE (m1, m2, m3) M = M.take 0 ++ (m1, m2, m3) :: M.drop 0) := Lib.hid (by
        unfold insE
        rw [← HJ.out, if_neg HNe.out])
      have HR0 : Hid (Ext wc wc.drew) := Lib.hid (Ext.refl wc).drew
      have HSf : Hid (∀ W, Ext wc W → W.cell? ⟨q, 0, none⟩ = some (.int .u64 m1) ∧ W.cell? ⟨q, 1, none⟩ = some (.int .i64 m2) ∧ W.cell? ⟨q, 2, none⟩ = some (.int .i64 m3)) := Lib.hid fun W hW => by
        have hb := HK2.out.ext hW
        exact ⟨hb.cell 0, hb.cell 1, hb.cell 2⟩
      have HRd : Hid (∀ W, Ext wc W → Rd W (none) (ecs M)) := Lib.hid fun W hW => by rw [HLn.out]; exact Rd.nil _ _
      have HRd2 : Hid (∀ W, Ext wc W → Rd W (none) (ecs (M.drop 0))) := Lib.hid fun W hW => by
        rw [HLn.out]
        exact Rd.nil _ _
      have hi0 : (0 : Int) ≤ (0 : Int) := by omega
      have hi1 : (0 : Int) ≤ (0 : Int) := by have := HEns1.out.fits; omega
      have hi2 : (0 : Int) ≤ (0 : Int) := by omega
      have hi4 : (0 : Int) ≤ (0 : Int) := by have := HEns1.out.fits; omega
      have hcn : 0 ≤ 0 := HEns1.out.fits
      have hjn : 0 ≤ 0 := by omega
      go_region_held3 (fun W => W.cell? ⟨q, 0, none⟩ = some (.int .u64 m1) ∧ W.cell? ⟨q, 1, none⟩ = some (.int .i64 m2) ∧ W.cell? ⟨q, 2, none⟩ = some (.int .i64 m3))
        (first | exact HSf.out _ HR3.out | exact HSf.out _ HR2.out | exact HSf.out _ (HR1.out.alloc _) | exact HSf.out _ HR1.out | exact HSf.out _ (HR0.out.alloc _) | exact HSf.out _ HR0.out)
        (first
          | (refine step_append_own rfl (.const (.slice none 0 0)) (.tmp 35) 40 rfl wc.heap.size 44 _ 3 24 Tryz.underlying40 Tryz.infoE (by decide) (by decide) (.slice none 0 0) 0 [] rfl (World.ownsRow_nil _ _ _ _) (none) 0 0 (ecs (M.take 0)) rfl (by rw [ecs_length, List.length_take, HMl.out]; omega) (fun h => by first | rfl | cases h) (by rw [← ecs_take]; exact (HRd.out _ (by first | exact HR0.out | exact HR0.out.alloc _)).take _) (ecs_one _) (by unfold maxLen; omega) (by omega) (by first | exact HR0.out.size | exact (HR0.out.alloc _).size) ?_; intro v1 x1 hown hgrow hat; have HR1 : Hid (Ext wc x1) := Lib.hid (by first | exact (HR0.out : Below wc.heap.size wc _).grown hgrow HR0.out.size (fun q hq => by cases hq) | exact ((HR0.out.alloc _) : Below wc.heap.size wc _).grown hgrow (HR0.out.alloc _).size (fun q hq => by cases hq)); (try have HL1 := Lib.hid ((Rd.lit wc.drew #[.int .u64 m1, .int .i64 m2, .int .i64 m3] 44).ext ((Ext.refl _ : Below _ _ _).grown hgrow (Nat.le_refl _) (fun q hq => by cases hq)))); have HOw1 := Lib.hid hown; clear hown hgrow hat)
          | (refine step_append_own rfl (.tmp 36) (.tmp 38) 40 rfl wc.heap.size 44 _ 3 24 Tryz.underlying40 Tryz.infoE (by decide) (by decide) v1 (0 + 0) ([] ++ ecs (M.take 0)) rfl (by first | exact HOw1.out | exact row_ext HOw1.out (ext_a1 _ _)) _ _ _ (ec (m1, m2, m3)) rfl rfl (fun h => by cases h) (by first | exact HL1.out | exact Rd.lit _ _ _) (fun u hu => ecs_one [(m1, m2, m3)] u (by simpa [ecs] using hu)) (by unfold maxLen; omega) (by omega) (by first | exact HR1.out.size | exact (HR1.out.alloc _).size) ?_; intro v2 x2 hown hgrow hat; have HR2 : Hid (Ext wc x2) := Lib.hid (by first | exact (HR1.out : Below wc.heap.size wc _).grown hgrow HR1.out.size (fun q hq => (row_lt HOw1.out q hq).1) | exact ((HR1.out.alloc _) : Below wc.heap.size wc _).grown hgrow (HR1.out.alloc _).size (fun q hq => (row_lt HOw1.out q hq).1)); have HOwc := Lib.hid hown; clear hown hgrow hat)
          | (refine step_append_own rfl (.tmp 39) (.tmp 42) 40 rfl wc.heap.size 44 _ 3 24 Tryz.underlying40 Tryz.infoE (by decide) (by decide) v2 (0 + 0 + 1) ([] ++ ecs (M.take 0) ++ ec (m1, m2, m3)) rfl HOwc.out _ _ _ (ecs (M.drop 0)) rfl (by (rw [ecs_length, List.length_drop, HMl.out]) <;> omega) (fun h => by first | rfl | cases h | (split at h <;> cases h)) (HRd2.out _ HR2.out) (ecs_one _) (by unfold maxLen; omega) (by omega) HR2.out.size ?_; intro v3 x3 hown hgrow hat; have HR3 : Hid (Ext wc x3) := Lib.hid ((HR2.out : Below wc.heap.size wc _).grown hgrow HR2.out.size (fun q hq => (row_lt HOwc.out q hq).1)); obtain ⟨a3, c3', rfl⟩ := row_slice hown; have HOw3 := Lib.hid hown; clear hown hgrow hat))
      all_goals
        have hr := HOw3.out
        have he : ([] ++ ecs (M.take 0) ++ ec (m1, m2, m3) ++ ecs (M.drop 0)) = ecs (insE (m1, m2, m3) M) := by rw [HIns.out, ecs_append, ecs_cons]; simp [List.append_assoc]
        have hl : 0 + 0 + 1 + (0 - 0) = (insE (m1, m2, m3) M).length := by rw [HIns.out, List.length_append, List.length_cons, List.length_take, List.length_drop, HMl.out]; omega
        rw [he] at hr
        have hr2 := row_base hr (show w.heap.size ≤ wc.heap.size from HB2.out.size)
        have HF : Hid (∀ z, z = (insE (m1, m2, m3) M).length → x3.ownsRow w.heap.size 44 3 (.slice a3 z c3') (insE (m1, m2, m3) M).length (ecs (insE (m1, m2, m3) M))) := Lib.hid fun z hz => by (first | rw [hl] at hr2 | rw [show 0 + 0 + 1 + 0 = (insE (m1, m2, m3) M).length by omega] at hr2); rw [hz]; exact hr2
        have HLL := Lib.hid hl
        have HBF := Lib.hid (HB2.out.trans HR3.out)
        clear hr he hr2 hl
        go_wp2_with fail
        all_goals
          go_ret
          exact ⟨_, rfl, .inr (HF.out _ (by have := HLL.out; omega)), HBF.out⟩
  go_enter Tryz.func70, Tryz.ntmps70
  go_wp2_with fail
  try rw [hw1]
  try rw [hq]
  have HWq := Lib.hid hq
  clear hw1 hq hm
  go_loopw [5] (fun i W => ∃ j : Nat, j ≤ m ∧ i = .int .i64 (j : Int) ∧ j ≤ lbE M (m1, m2, m3) ∧ Ext w1 W) (fun i _ => m - (intOf i).toNat)
  case atStart => exact ⟨0, Nat.zero_le _, rfl, Nat.zero_le _, Ext.refl _⟩
  case round =>
    obtain ⟨j, hjm, rfl, hjl, hb⟩ := hrel
    have HBj := Lib.hid hb
    have hK := HBk1.out.ext hb
    have e0 := cell_of (show wr.cell? ⟨q, 0, none⟩ = some (.int .u64 m1) from hK.cell 0)
    have e1 := cell_of (show wr.cell? ⟨q, 1, none⟩ = some (.int .i64 m2) from hK.cell 1)
    have e2 := cell_of (show wr.cell? ⟨q, 2, none⟩ = some (.int .i64 m3) from hK.cell 2)
    have HBK := Lib.hid hK
    by_cases hj : j < m
    · have hdj : decide ((j : Int) < (m : Int)) = true := by simp; omega
      have q3 : IntKind.i64.wrap ((j : Int) + 1) = (j : Int) + 1 := by rw [IntKind.wrap_i64]; omega
      have hjM : j < M.length := by rw [HMl.out]; exact hj
      obtain ⟨b2, off2, hbb, a0, a1, a2⟩ := (HEns1.out.ext hb).at hj
      injection hbb with hbb; injection hbb with hb1 hb2 hb3
      subst hb1 hb2
      have hlb := lbE_at (m1, m2, m3) HS.out (i := j) (List.getElem?_eq_getElem hjM)
      have hgd : M.getD j en0 = M[j] := by simp [List.getD, List.getElem?_eq_getElem hjM]
      rw [hgd] at a0 a1 a2
      rw [Nat.zero_add] at a0 a1 a2
      have hget : M[j]? = some M[j] := List.getElem?_eq_getElem hjM
      generalize M[j] = y at *
      have HLs := Lib.hid (fun W => refless13_c y (m1, m2, m3) W)
      obtain ⟨y1, y2, y3⟩ := y
      rw [hlb] at HLs
      have HLs : Hid (∀ W, Calls Tryz.prog 135 #[.agg #[.int .u64 y1, .int .i64 y2, .int .i64 y3], .agg #[.int .u64 m1, .int .i64 m2, .int .i64 m3]] W fun e w' => e = .returned (.bool (decide (j < lbE M (m1, m2, m3)))) ∧ Ext W w') := Lib.hid HLs.out
      have u0 := cell_of a0; have u1 := cell_of a1; have u2 := cell_of a2
      have HGet := Lib.hid hget
      clear hK hgd hjM hlb hb hget hb3
      by_cases hl : j < lbE M (m1, m2, m3)
      · rw [decide_eq_true hl] at HLs
        go_wp2_with fail
        refine wp_region_ext (by kernel_rfl) (by kernel_rfl) ?_
        repeat (go_big_quiet_step (fail))
        go_big_quiet_step (exact Calls.quiet_ext (HLs.out _))
        repeat (go_big_quiet_step (fail))
        refine wpQuiet_nil ?_
        intro w2 hw2
        have HB2 := Lib.hid (HBj.out.trans hw2)
        clear hw2
        go_wp2_with fail
        go_roundw
        case rel => exact ⟨j + 1, by omega, by go_num, by omega, HB2.out⟩
        case measure => simp [intOf]; omega
      · rw [decide_eq_false hl] at HLs
        have HJ : Hid (j = lbE M (m1, m2, m3)) := Lib.hid (by omega)
        clear hjl hl
        go_wp2_with fail
        refine wp_region_ext (by kernel_rfl) (by kernel_rfl) ?_
        repeat (go_big_quiet_step (fail))
        go_big_quiet_step (exact Calls.quiet_ext (HLs.out _))
        repeat (go_big_quiet_step (fail))
        refine wpQuiet_nil ?_
        intro w2 hw2
        have HB2 := Lib.hid (HX1.out.trans (HBj.out.trans hw2))
        have f0 := cell_of (cell_ext hw2 a0); have f1 := cell_of (cell_ext hw2 a1); have f2 := cell_of (cell_ext hw2 a2)
        have HK2 := Lib.hid (HBK.out.ext hw2)
        have g0 := cell_of (show w2.cell? ⟨q, 0, none⟩ = some (.int .u64 m1) from HK2.out.cell 0)
        have g1 := cell_of (show w2.cell? ⟨q, 1, none⟩ = some (.int .i64 m2) from HK2.out.cell 1)
        have g2 := cell_of (show w2.cell? ⟨q, 2, none⟩ = some (.int .i64 m3) from HK2.out.cell 2)
        have HWx := Lib.hid (HBj.out.trans hw2)
        clear hw2 u0 u1 u2 e0 e1 e2 HLs
        by_cases hyx : (y1, y2, y3) = (m1, m2, m3)
        · have HIns : Hid (insE (m1, m2, m3) M = M) := Lib.hid (by unfold insE; rw [← HJ.out, if_pos (by rw [HGet.out, hyx])])
          obtain ⟨rfl, rfl, rfl⟩ : y1 = m1 ∧ y2 = m2 ∧ y3 = m3 := by cases hyx; exact ⟨rfl, rfl, rfl⟩
          clear hyx
          go_wp2_with fail
          refine wp_region_ext (by kernel_rfl) (by kernel_rfl) ?_
          repeat (go_big_quiet_step (fail))
          refine wpQuiet_nil ?_
          intro w5 hw5
          have HB5 := Lib.hid (HB2.out.trans hw5)
          clear hw5
          go_wp2_with fail
          go_ret
          exact HSame.out _ HIns.out HB5.out
        · have HNe : Hid (¬ M[j]? = some (m1, m2, m3)) := Lib.hid (by rw [HGet.out]; exact fun h => hyx (Option.some.inj h))
          have h3 : (¬ y1 = m1) ∨ (y1 = m1 ∧ ¬ y2 = m2) ∨ (y1 = m1 ∧ y2 = m2 ∧ ¬ y3 = m3) := by
            by_cases e1 : y1 = m1
            · by_cases e2 : y2 = m2
              · by_cases e3 : y3 = m3
                · exact absurd (by rw [e1, e2, e3]) hyx
                · exact .inr (.inr ⟨e1, e2, e3⟩)
              · exact .inr (.inl ⟨e1, e2⟩)
            · exact .inl e1
          clear hyx
          go_upto_region 4 with fail
          go_cut [31] from 20 to 30 (fun s wc => s = .bool false ∧ Ext w2 wc)
          case first =>
            rcases h3 with h3 | ⟨h3, h4⟩ | ⟨h3, h4, h5⟩
            all_goals
              refine wp_region_ext (by kernel_rfl) (by kernel_rfl) ?_
              repeat (go_big_quiet_step (fail))
              refine wpQuiet_nil ?_
              intro w5 hw5
              go_wp2_with fail
              go_meet
              case rel => exact ⟨rfl, hw5⟩
          case rest =>
            obtain ⟨rfl, hcx⟩ := hcut
            have HEns1 := Lib.hid (HEns1.out.ext (HWx.out.trans hcx))
            replace HB2 := Lib.hid (HB2.out.trans hcx)
            replace HK2 := Lib.hid (HK2.out.ext hcx)
            clear h3 hcx f0 f1 f2 g0 g1 g2
            go_wp2_with fail
            have HIns : Hid (insE (m1, m2, m3) M = M.take j ++ (m1, m2, m3) :: M.drop j) := Lib.hid (by
              unfold insE
              rw [← HJ.out, if_neg HNe.out])
            have HR0 : Hid (Ext wc wc.drew) := Lib.hid (Ext.refl wc).drew
            have HSf : Hid (∀ W, Ext wc W → W.cell? ⟨q, 0, none⟩ = some (.int .u64 m1) ∧ W.cell? ⟨q, 1, none⟩ = some (.int .i64 m2) ∧ W.cell? ⟨q, 2, none⟩ = some (.int .i64 m3)) := Lib.hid fun W hW => by
              have hb := HK2.out.ext hW
              exact ⟨hb.cell 0, hb.cell 1, hb.cell 2⟩
            have HRd : Hid (∀ W, Ext wc W → Rd W (some ⟨b', 0, none⟩) (ecs M)) := Lib.hid fun W hW => (HEns1.out.ext hW).rd
            have HRd2 : Hid (∀ W, Ext wc W → Rd W ((if vc = j then some ⟨b', 0, none⟩ else some ⟨b', j * 3, none⟩)) (ecs (M.drop j))) := Lib.hid fun W hW => by
              split
              · rename_i hc
                rw [List.drop_of_length_le (by rw [HMl.out]; have := HEns1.out.fits; omega)]
                exact Rd.nil _ _
              · have h := (HRd.out W hW).drop (j * 3)
                rw [ecs_drop, Nat.zero_add] at h
                exact h
            have hi0 : (0 : Int) ≤ (j : Int) := by omega
            have hi1 : (j : Int) ≤ (vc : Int) := by have := HEns1.out.fits; omega
            have hi2 : (j : Int) ≤ (m : Int) := by omega
            have hi4 : (m : Int) ≤ (vc : Int) := by have := HEns1.out.fits; omega
            have hcn : m ≤ vc := HEns1.out.fits
            have hjn : j ≤ m := by omega
            go_region_held3 (fun W => W.cell? ⟨q, 0, none⟩ = some (.int .u64 m1) ∧ W.cell? ⟨q, 1, none⟩ = some (.int .i64 m2) ∧ W.cell? ⟨q, 2, none⟩ = some (.int .i64 m3))
              (first | exact HSf.out _ HR3.out | exact HSf.out _ HR2.out | exact HSf.out _ (HR1.out.alloc _) | exact HSf.out _ HR1.out | exact HSf.out _ (HR0.out.alloc _) | exact HSf.out _ HR0.out)
              (first
                | (refine step_append_own rfl (.const (.slice none 0 0)) (.tmp 35) 40 rfl wc.heap.size 44 _ 3 24 Tryz.underlying40 Tryz.infoE (by decide) (by decide) (.slice none 0 0) 0 [] rfl (World.ownsRow_nil _ _ _ _) (some ⟨b', 0, none⟩) j vc (ecs (M.take j)) rfl (by rw [ecs_length, List.length_take, HMl.out]; omega) (fun h => by first | rfl | cases h) (by rw [← ecs_take]; exact (HRd.out _ (by first | exact HR0.out | exact HR0.out.alloc _)).take _) (ecs_one _) (by unfold maxLen; omega) (by omega) (by first | exact HR0.out.size | exact (HR0.out.alloc _).size) ?_; intro v1 x1 hown hgrow hat; have HR1 : Hid (Ext wc x1) := Lib.hid (by first | exact (HR0.out : Below wc.heap.size wc _).grown hgrow HR0.out.size (fun q hq => by cases hq) | exact ((HR0.out.alloc _) : Below wc.heap.size wc _).grown hgrow (HR0.out.alloc _).size (fun q hq => by cases hq)); (try have HL1 := Lib.hid ((Rd.lit wc.drew #[.int .u64 m1, .int .i64 m2, .int .i64 m3] 44).ext ((Ext.refl _ : Below _ _ _).grown hgrow (Nat.le_refl _) (fun q hq => by cases hq)))); have HOw1 := Lib.hid hown; clear hown hgrow hat)
                | (refine step_append_own rfl (.tmp 36) (.tmp 38) 40 rfl wc.heap.size 44 _ 3 24 Tryz.underlying40 Tryz.infoE (by decide) (by decide) v1 (0 + j) ([] ++ ecs (M.take j)) rfl (by first | exact HOw1.out | exact row_ext HOw1.out (ext_a1 _ _)) _ _ _ (ec (m1, m2, m3)) rfl rfl (fun h => by cases h) (by first | exact HL1.out | exact Rd.lit _ _ _) (fun u hu => ecs_one [(m1, m2, m3)] u (by simpa [ecs] using hu)) (by unfold maxLen; omega) (by omega) (by first | exact HR1.out.size | exact (HR1.out.alloc _).size) ?_; intro v2 x2 hown hgrow hat; have HR2 : Hid (Ext wc x2) := Lib.hid (by first | exact (HR1.out : Below wc.heap.size wc _).grown hgrow HR1.out.size (fun q hq => (row_lt HOw1.out q hq).1) | exact ((HR1.out.alloc _) : Below wc.heap.size wc _).grown hgrow (HR1.out.alloc _).size (fun q hq => (row_lt HOw1.out q hq).1)); have HOwc := Lib.hid hown; clear hown hgrow hat)
                | (refine step_append_own rfl (.tmp 39) (.tmp 42) 40 rfl wc.heap.size 44 _ 3 24 Tryz.underlying40 Tryz.infoE (by decide) (by decide) v2 (0 + j + 1) ([] ++ ecs (M.take j) ++ ec (m1, m2, m3)) rfl HOwc.out _ _ _ (ecs (M.drop j)) rfl (by (rw [ecs_length, List.length_drop, HMl.out]) <;> omega) (fun h => by first | rfl | cases h | (split at h <;> cases h)) (HRd2.out _ HR2.out) (ecs_one _) (by unfold maxLen; omega) (by omega) HR2.out.size ?_; intro v3 x3 hown hgrow hat; have HR3 : Hid (Ext wc x3) := Lib.hid ((HR2.out : Below wc.heap.size wc _).grown hgrow HR2.out.size (fun q hq => (row_lt HOwc.out q hq).1)); obtain ⟨a3, c3', rfl⟩ := row_slice hown; have HOw3 := Lib.hid hown; clear hown hgrow hat))
            all_goals
              have hr := HOw3.out
              have he : ([] ++ ecs (M.take j) ++ ec (m1, m2, m3) ++ ecs (M.drop j)) = ecs (insE (m1, m2, m3) M) := by rw [HIns.out, ecs_append, ecs_cons]; simp [List.append_assoc]
              have hl : 0 + j + 1 + (m - j) = (insE (m1, m2, m3) M).length := by rw [HIns.out, List.length_append, List.length_cons, List.length_take, List.length_drop, HMl.out]; omega
              rw [he] at hr
              have hr2 := row_base hr (show w.heap.size ≤ wc.heap.size from HB2.out.size)
              have HF : Hid (∀ z, z = (insE (m1, m2, m3) M).length → x3.ownsRow w.heap.size 44 3 (.slice a3 z c3') (insE (m1, m2, m3) M).length (ecs (insE (m1, m2, m3) M))) := Lib.hid fun z hz => by (first | rw [hl] at hr2 | rw [show 0 + j + 1 + 0 = (insE (m1, m2, m3) M).length by omega] at hr2); rw [hz]; exact hr2
              have HLL := Lib.hid hl
              have HBF := Lib.hid (HB2.out.trans HR3.out)
              clear hr he hr2 hl
              go_wp2_with fail
              all_goals
                go_ret
                exact ⟨_, rfl, .inr (HF.out _ (by have := HLL.out; omega)), HBF.out⟩
    · obtain rfl : j = m := by omega
      have hlm : lbE M (m1, m2, m3) ≤ j := by rw [← HMl.out]; exact lbE_le _ _
      have HJ : Hid (j = lbE M (m1, m2, m3)) := Lib.hid (by omega)
      have HNe : Hid (¬ M[j]? = some (m1, m2, m3)) := Lib.hid (by rw [List.getElem?_eq_none (by rw [HMl.out]; omega)]; exact fun h => by cases h)
      clear hlm hK hb hjl hj
      go_wp2_with fail
      refine wp_region_ext (by kernel_rfl) (by kernel_rfl) ?_
      repeat (go_big_quiet_step (fail))
      refine wpQuiet_nil ?_
      intro w4 hw4
      have HB4 := Lib.hid (HX1.out.trans (HBj.out.trans hw4))
      have HK4 := Lib.hid (HBK.out.ext hw4)
      have HW4 := Lib.hid (HBj.out.trans hw4)
      clear hw4 e0 e1 e2
      go_wp2_with fail
      refine wp_region_ext (by kernel_rfl) (by kernel_rfl) ?_
      repeat (go_big_quiet_step (fail))
      refine wpQuiet_nil ?_
      intro wc hw5
      have HB2 := Lib.hid (HB4.out.trans hw5)
      have HK2 := Lib.hid (HK4.out.ext hw5)
      have HEns1 := Lib.hid (HEns1.out.ext (HW4.out.trans hw5))
      clear hw5
      go_wp2_with fail
      have HIns : Hid (insE (m1, m2, m3) M = M.take j ++ (m1, m2, m3) :: M.drop j) := Lib.hid (by
        unfold insE
        rw [← HJ.out, if_neg HNe.out])
      have HR0 : Hid (Ext wc wc.drew) := Lib.hid (Ext.refl wc).drew
      have HSf : Hid (∀ W, Ext wc W → W.cell? ⟨q, 0, none⟩ = some (.int .u64 m1) ∧ W.cell? ⟨q, 1, none⟩ = some (.int .i64 m2) ∧ W.cell? ⟨q, 2, none⟩ = some (.int .i64 m3)) := Lib.hid fun W hW => by
        have hb := HK2.out.ext hW
        exact ⟨hb.cell 0, hb.cell 1, hb.cell 2⟩
      have HRd : Hid (∀ W, Ext wc W → Rd W (some ⟨b', 0, none⟩) (ecs M)) := Lib.hid fun W hW => (HEns1.out.ext hW).rd
      have HRd2 : Hid (∀ W, Ext wc W → Rd W ((if vc = j then some ⟨b', 0, none⟩ else some ⟨b', j * 3, none⟩)) (ecs (M.drop j))) := Lib.hid fun W hW => by
        split
        · rename_i hc
          rw [List.drop_of_length_le (by rw [HMl.out]; have := HEns1.out.fits; omega)]
          exact Rd.nil _ _
        · have h := (HRd.out W hW).drop (j * 3)
          rw [ecs_drop, Nat.zero_add] at h
          exact h
      have hi0 : (0 : Int) ≤ (j : Int) := by omega
      have hi1 : (j : Int) ≤ (vc : Int) := by have := HEns1.out.fits; omega
      have hi2 : (j : Int) ≤ (j : Int) := by omega
      have hi4 : (j : Int) ≤ (vc : Int) := by have := HEns1.out.fits; omega
      have hcn : j ≤ vc := HEns1.out.fits
      have hjn : j ≤ j := by omega
      go_region_held3 (fun W => W.cell? ⟨q, 0, none⟩ = some (.int .u64 m1) ∧ W.cell? ⟨q, 1, none⟩ = some (.int .i64 m2) ∧ W.cell? ⟨q, 2, none⟩ = some (.int .i64 m3))
        (first | exact HSf.out _ HR3.out | exact HSf.out _ HR2.out | exact HSf.out _ (HR1.out.alloc _) | exact HSf.out _ HR1.out | exact HSf.out _ (HR0.out.alloc _) | exact HSf.out _ HR0.out)
        (first
          | (refine step_append_own rfl (.const (.slice none 0 0)) (.tmp 35) 40 rfl wc.heap.size 44 _ 3 24 Tryz.underlying40 Tryz.infoE (by decide) (by decide) (.slice none 0 0) 0 [] rfl (World.ownsRow_nil _ _ _ _) (some ⟨b', 0, none⟩) j vc (ecs (M.take j)) rfl (by rw [ecs_length, List.length_take, HMl.out]; omega) (fun h => by first | rfl | cases h) (by rw [← ecs_take]; exact (HRd.out _ (by first | exact HR0.out | exact HR0.out.alloc _)).take _) (ecs_one _) (by unfold maxLen; omega) (by omega) (by first | exact HR0.out.size | exact (HR0.out.alloc _).size) ?_; intro v1 x1 hown hgrow hat; have HR1 : Hid (Ext wc x1) := Lib.hid (by first | exact (HR0.out : Below wc.heap.size wc _).grown hgrow HR0.out.size (fun q hq => by cases hq) | exact ((HR0.out.alloc _) : Below wc.heap.size wc _).grown hgrow (HR0.out.alloc _).size (fun q hq => by cases hq)); (try have HL1 := Lib.hid ((Rd.lit wc.drew #[.int .u64 m1, .int .i64 m2, .int .i64 m3] 44).ext ((Ext.refl _ : Below _ _ _).grown hgrow (Nat.le_refl _) (fun q hq => by cases hq)))); have HOw1 := Lib.hid hown; clear hown hgrow hat)
          | (refine step_append_own rfl (.tmp 36) (.tmp 38) 40 rfl wc.heap.size 44 _ 3 24 Tryz.underlying40 Tryz.infoE (by decide) (by decide) v1 (0 + j) ([] ++ ecs (M.take j)) rfl (by first | exact HOw1.out | exact row_ext HOw1.out (ext_a1 _ _)) _ _ _ (ec (m1, m2, m3)) rfl rfl (fun h => by cases h) (by first | exact HL1.out | exact Rd.lit _ _ _) (fun u hu => ecs_one [(m1, m2, m3)] u (by simpa [ecs] using hu)) (by unfold maxLen; omega) (by omega) (by first | exact HR1.out.size | exact (HR1.out.alloc _).size) ?_; intro v2 x2 hown hgrow hat; have HR2 : Hid (Ext wc x2) := Lib.hid (by first | exact (HR1.out : Below wc.heap.size wc _).grown hgrow HR1.out.size (fun q hq => (row_lt HOw1.out q hq).1) | exact ((HR1.out.alloc _) : Below wc.heap.size wc _).grown hgrow (HR1.out.alloc _).size (fun q hq => (row_lt HOw1.out q hq).1)); have HOwc := Lib.hid hown; clear hown hgrow hat)
          | (refine step_append_own rfl (.tmp 39) (.tmp 42) 40 rfl wc.heap.size 44 _ 3 24 Tryz.underlying40 Tryz.infoE (by decide) (by decide) v2 (0 + j + 1) ([] ++ ecs (M.take j) ++ ec (m1, m2, m3)) rfl HOwc.out _ _ _ (ecs (M.drop j)) rfl (by (rw [ecs_length, List.length_drop, HMl.out]) <;> omega) (fun h => by first | rfl | cases h | (split at h <;> cases h)) (HRd2.out _ HR2.out) (ecs_one _) (by unfold maxLen; omega) (by omega) HR2.out.size ?_; intro v3 x3 hown hgrow hat; have HR3 : Hid (Ext wc x3) := Lib.hid ((HR2.out : Below wc.heap.size wc _).grown hgrow HR2.out.size (fun q hq => (row_lt HOwc.out q hq).1)); obtain ⟨a3, c3', rfl⟩ := row_slice hown; have HOw3 := Lib.hid hown; clear hown hgrow hat))
      all_goals
        have hr := HOw3.out
        have he : ([] ++ ecs (M.take j) ++ ec (m1, m2, m3) ++ ecs (M.drop j)) = ecs (insE (m1, m2, m3) M) := by rw [HIns.out, ecs_append, ecs_cons]; simp [List.append_assoc]
        have hl : 0 + j + 1 + (j - j) = (insE (m1, m2, m3) M).length := by rw [HIns.out, List.length_append, List.length_cons, List.length_take, List.length_drop, HMl.out]; omega
        rw [he] at hr
        have hr2 := row_base hr (show w.heap.size ≤ wc.heap.size from HB2.out.size)
        have HF : Hid (∀ z, z = (insE (m1, m2, m3) M).length → x3.ownsRow w.heap.size 44 3 (.slice a3 z c3') (insE (m1, m2, m3) M).length (ecs (insE (m1, m2, m3) M))) := Lib.hid fun z hz => by (first | rw [hl] at hr2 | rw [show 0 + j + 1 + 0 = (insE (m1, m2, m3) M).length by omega] at hr2); rw [hz]; exact hr2
        have HLL := Lib.hid hl
        have HBF := Lib.hid (HB2.out.trans HR3.out)
        clear hr he hr2 hl
        go_wp2_with fail
        all_goals
          go_ret
          exact ⟨_, rfl, .inr (HF.out _ (by have := HLL.out; omega)), HBF.out⟩
end Go.Proofs.YtmgpffknmmoggaaGreatDoor
namespace Go.Proofs.YtmgpffknmmoggaaGreatDoor
open Go.RowKit
set_option maxRecDepth 100000
set_option linter.unusedVariables false
set_option maxHeartbeats 6400000
theorem insE_addE {e : En} {L : List En} (he : okEn e = true) (hs : sortE L) (ho : ∀ x ∈ L, okEn x = true) : insE e L = addE e L :=
  sorted_ext (insE_ok he hs ho).1 (addE_sort hs) fun x => by
    rw [mem_addE]
    unfold insE
    split
    · next h =>
      have hm := List.mem_of_getElem? h
      exact ⟨.inr, fun h => h.elim (fun e => e ▸ hm) id⟩
    · rw [List.mem_append, List.mem_cons]
      constructor
      · rintro (h1 | h1 | h1)
        · exact .inr (List.mem_of_mem_take h1)
        · exact .inl h1
        · exact .inr (List.mem_of_mem_drop h1)
      · rintro (h1 | h1)
        · exact .inr (.inl h1)
        · rw [← List.take_append_drop (lbE L e) L, List.mem_append] at h1
          rcases h1 with h1 | h1
          · exact .inl h1
          · exact .inr (.inr h1)
theorem IXL.sideM {wb W W' : World} {g gx gl rate : Nat} {m : Man} {ws : List En} {c : Int} {u cnt : Nat} {B : List En} {K K' : Nat → Prop} (h : IXL wb W g gx gl rate m ws c u cnt B K) (hs : W.heap.size ≤ W'.heap.size) (hx : Ext wb W')
    (k : ∀ i, i < W.heap.size → ¬ K i → W'.heap[i]? = W.heap[i]?) (hK : ∀ i, K' i → K i ∨ (W.heap.size ≤ i ∧ i < W'.heap.size)) : IXL wb W' g gx gl rate m ws c u cnt B K' := by
  obtain ⟨st, σ, s, φ, gv, sure, h1, h2, h3, h4, h5, h6, h7, h8, h9⟩ := h
  refine ⟨st, σ, s, φ, gv, sure, h1, h2, h3, h4, h5.sideM hs hx (fun i hi hn => k i hi fun e => hn (.inl e)) (fun i hi => ?_), h6, h7.same fun i hi => k i (h7.lt hi) (h8 i hi), fun i hi hk => ?_, h9⟩
  · rcases hi with hi | hi
    · exact (hK i hi).imp .inl id
    · exact .inl (.inr hi)
  · rcases hK i hk with h10 | ⟨h10, _⟩
    · exact h8 i hi h10
    · have := h7.lt hi; omega
theorem refput13_c (e : En) (w : World) (h : okEn e = true) : Calls Tryz.prog 69 #[enV e] w fun r w' => r = .returned (.string ⟨(entB e).toArray⟩) ∧ Ext w w' := by
  obtain ⟨a0, a1, b0, b1, c0, c1⟩ := okEn_iff.1 h
  obtain ⟨x, y, z⟩ := e
  simp only at a0 a1 b0 b1 c0 c1
  have hE : entB (x, y, z) = be 8 x.toNat ++ (be 8 y.toNat ++ be 8 z.toNat) := rfl
  have HE := Lib.hid hE
  have l1 := be_length 8 x.toNat; have l2 := be_length 8 y.toNat; have l3 := be_length 8 z.toNat
  have P1 := Lib.hid (fun W => refput_k x 8 8 W rfl (by omega) (by omega) a0 a1)
  have P2 := Lib.hid (fun W => refput_k y 8 8 W rfl (by omega) (by omega) b0 (by omega))
  have P3 := Lib.hid (fun W => refput_k z 8 8 W rfl (by omega) (by omega) c0 (by omega))
  generalize entB (x, y, z) = EE at *
  generalize be 8 x.toNat = X at *
  generalize be 8 y.toNat = Y at *
  generalize be 8 z.toNat = Z at *
  have hy : decide (y < 0) = false := by simp; omega
  have hz : decide (z < 0) = false := by simp; omega
  have hw2 : IntKind.u64.wrap y = y := by rw [IntKind.wrap_u64]; omega
  have hw3 : IntKind.u64.wrap z = z := by rw [IntKind.wrap_u64]; omega
  have hbk := Blk.new w 44 #[.int .u64 x, .int .i64 y, .int .i64 z]
  have e0 : (w.alloc (.cells #[.int .u64 x, .int .i64 y, .int .i64 z] 44)).cell? ⟨w.heap.size, 0, none⟩ = some (.int .u64 x) := hbk.cell 0
  have e1 : (w.alloc (.cells #[.int .u64 x, .int .i64 y, .int .i64 z] 44)).cell? ⟨w.heap.size, 1, none⟩ = some (.int .i64 y) := hbk.cell 1
  have e2 : (w.alloc (.cells #[.int .u64 x, .int .i64 y, .int .i64 z] 44)).cell? ⟨w.heap.size, 2, none⟩ = some (.int .i64 z) := hbk.cell 2
  have u0 := cell_of e0; have u1 := cell_of e1; have u2 := cell_of e2
  have q1 : ¬ (9223372036854775807 < X.length + Y.length) := by omega
  have q2 : ¬ (9223372036854775807 < (X ++ Y).length + Z.length) := by rw [List.length_append]; omega
  have q3 : ¬ (9223372036854775807 < X.length + Y.length + Z.length) := by omega
  have HX := Lib.hid (ext_a1 w (.cells #[.int .u64 x, .int .i64 y, .int .i64 z] 44))
  clear hbk hE e0 e1 e2 h
  show Calls Tryz.prog 69 #[.agg #[.int .u64 x, .int .i64 y, .int .i64 z]] w _
  go_enter Tryz.func69, Tryz.ntmps69
  go_wp2_with fail
  refine wp_region_ext (by kernel_rfl) (by kernel_rfl) ?_
  repeat (go_big_quiet_step (fail))
  go_big_quiet_step (exact Calls.quiet_ext (P1.out _))
  repeat (go_big_quiet_step (fail))
  go_big_quiet_step (exact Calls.quiet_ext (P2.out _))
  repeat (go_big_quiet_step (fail))
  go_big_quiet_step (exact Calls.quiet_ext (P3.out _))
  repeat (go_big_quiet_step (fail))
  refine wpQuiet_nil ?_
  intro w2 hw
  have HB2 := Lib.hid (HX.out.trans hw)
  clear hw
  go_wp2_with fail
  go_ret
  exact ⟨by rw [HE.out, cat_mk, cat_mk]; simp, HB2.out⟩
theorem refput13_no (e : En) (w : World) (h : e.2.1 < 0 ∨ e.2.2 < 0) : Calls Tryz.prog 69 #[enV e] w fun r w' => r = .returned (.string ⟨#[]⟩) ∧ Ext w w' := by
  obtain ⟨x, y, z⟩ := e
  show Calls _ _ #[.agg #[.int .u64 x, .int .i64 y, .int .i64 z]] _ _
  have hx1 := ext_a1 w (.cells #[.int .u64 x, .int .i64 y, .int .i64 z] 44)
  have HX := Lib.hid hx1
  have hbk := Blk.new w 44 #[.int .u64 x, .int .i64 y, .int .i64 z]
  have k1 : (w.alloc (.cells #[.int .u64 x, .int .i64 y, .int .i64 z] 44)).cell? ⟨w.heap.size, 1, none⟩ = some (.int .i64 y) := hbk.cell 1
  have k2 : (w.alloc (.cells #[.int .u64 x, .int .i64 y, .int .i64 z] 44)).cell? ⟨w.heap.size, 2, none⟩ = some (.int .i64 z) := hbk.cell 2
  have h3 : decide (y < 0) = true ∨ (decide (y < 0) = false ∧ decide (z < 0) = true) := by
    simp only at h
    by_cases hy : y < 0
    · exact .inl (decide_eq_true hy)
    · exact .inr ⟨decide_eq_false hy, decide_eq_true (by omega)⟩
  clear hx1 hbk h
  rcases h3 with h3 | ⟨h3, h4⟩
  all_goals
    go_enter Tryz.func69, Tryz.ntmps69
    go_wp2_with fail
    go_ret
    exact ⟨rfl, HX.out⟩
end Go.Proofs.YtmgpffknmmoggaaGreatDoor
namespace Go.Proofs.YtmgpffknmmoggaaGreatDoor
open Go.RowKit
set_option maxRecDepth 100000
set_option linter.unusedVariables false
set_option maxHeartbeats 6400000
def InDc (gb : Nat) (vL vW vG : Value) (vs : List Value) (i : Nat) : Prop := i = gb ∨ vL.ownBlock = some i ∨ vW.ownBlock = some i ∨ (vG.ownBlock = some i ∨ ∃ q, (vs.getD q (.slice none 0 0)).ownBlock = some i)
structure DocI (w : World) (gb : Nat) (m : Man) (ws B : List En) (vL vW vG : Value) (vs : List Value) : Prop where
  blk : Blk w gb 42 #[vL, vW, .int .i64 m.nx, .int .i64 m.ck, .int .u64 m.sd, vG]
  oL : Own w 0 44 3 vL B.length (ecs B)
  oW : Own w 0 44 3 vW ws.length (ecs ws)
  lev : OGr w 0 88 3 vG vs m.L
section
variable {w w' : World} {gb : Nat} {m : Man} {ws B : List En} {vL vW vG : Value} {vs : List Value}
theorem DocI.same (h : DocI w gb m ws B vL vW vG vs) (k : ∀ i, InDc gb vL vW vG vs i → w'.heap[i]? = w.heap[i]?) : DocI w' gb m ws B vL vW vG vs :=
  ⟨h.blk.same (k gb (.inl rfl)), h.oL.same fun g hg => k g (.inr (.inl hg)), h.oW.same fun g hg => k g (.inr (.inr (.inl hg))), ogr_same h.lev fun i hi => k i (.inr (.inr (.inr hi)))⟩
theorem DocI.lt (h : DocI w gb m ws B vL vW vG vs) : ∀ i, InDc gb vL vW vG vs i → i < w.heap.size := fun i hi => by
  rcases hi with rfl | hi | hi | hi
  · exact h.blk.lt
  · exact (h.oL.lt i hi).2
  · exact (h.oW.lt i hi).2
  · exact (ogr_lt h.lev i hi).2
theorem DocI.ext (h : DocI w gb m ws B vL vW vG vs) (k : Ext w w') : DocI w' gb m ws B vL vW vG vs := h.same fun i hi => k.block i (h.lt i hi)
theorem docrange_c (h : DocI w gb m ws B vL vW vG vs) (hn : B.length ≤ 1000) (x a b : Int) :
    Calls Tryz.prog 22 #[.pointer (some ⟨gb, 0, none⟩), .int .u64 x, .int .i64 a, .int .i64 b] w fun r w' => ∃ v, r = .returned v ∧
      w'.ownsRow w.heap.size 44 3 v (rangeE B x (max a 0) (min b 1073741824)).length (ecs (rangeE B x (max a 0) (min b 1073741824))) ∧ Ext w w' := by
  have d0 := h.blk.cell 0
  simp only [List.getElem?_toArray, List.getElem?_cons_zero] at d0
  obtain ⟨va, vc, rfl, hens⟩ := Ens.of_own h.oL
  have HR := Lib.hid (range13_c x (max a 0) (min b 1073741824) w hens (by omega))
  go_enter Tryz.func22, Tryz.ntmps22
  go_wp2_with fail
  refine HR.out.mono ?_
  rintro e w1 ⟨v, rfl, hr, hx⟩
  have HRw := Lib.hid hr; have HX := Lib.hid hx
  clear hr hx
  go_wp2_with fail
  go_ret
  exact ⟨_, rfl, HRw.out, HX.out⟩
theorem LastIs.nil (x u : Int) : LastIs [] x u (-1) := ⟨(fun y hy => by cases hy), .inl rfl⟩
theorem LastIs.step {T : List En} {x u r : Int} (h : LastIs T x u r) (y : En) : LastIs (T ++ [y]) x u (if y.1 = x ∧ y.2.1 ≤ u then max r y.2.1 else r) := by
  constructor
  · intro z hz z1 z2
    rcases List.mem_append.1 hz with hz | hz
    · have := h.1 z hz z1 z2
      split <;> omega
    · obtain rfl := List.mem_singleton.1 hz
      rw [if_pos ⟨z1, z2⟩]
      omega
  · have h2 : r = -1 ∨ ∃ z ∈ T ++ [y], z.1 = x ∧ z.2.1 ≤ u ∧ z.2.1 = r := h.2.imp id fun ⟨z, a, b⟩ => ⟨z, List.mem_append.2 (.inl a), b⟩
    split
    · rename_i hy
      rcases Int.le_total y.2.1 r with hle | hle
      · rw [show max r y.2.1 = r by omega]; exact h2
      · exact .inr ⟨y, List.mem_append.2 (.inr (List.mem_singleton.2 rfl)), hy.1, hy.2, by omega⟩
    · exact h2
theorem doclast_c (h : DocI w gb m ws B vL vW vG vs) (hn : B.length ≤ 1000) (x b : Int) :
    Calls Tryz.prog 23 #[.pointer (some ⟨gb, 0, none⟩), .int .u64 x, .int .i64 b] w fun r w' => ∃ z, r = .returned (.int .i64 z) ∧ LastIs B x (min b 1073741824) z ∧ Ext w w' := by
  have hown := h.oL
  have HD := Lib.hid h.blk
  obtain ⟨va, vc, rfl, hens⟩ := Ens.of_own hown
  have HEns := Lib.hid hens
  obtain ⟨n, hm⟩ : ∃ n, B.length = n := ⟨_, rfl⟩
  rw [hm] at HEns HD hn
  have HLen := Lib.hid hm
  clear h hown hens hm
  go_enter Tryz.func23, Tryz.ntmps23
  go_wp2_with fail
  go_loopw [7, 8] (fun o i W => ∃ (k : Nat) (z : Int), k ≤ n ∧ o = .int .i64 z ∧ i = .int .i64 (k : Int) ∧ LastIs (B.take k) x (min b 1073741824) z ∧ Ext w W) (fun _ i _ => n - (intOf i).toNat)
  case atStart => exact ⟨0, -1, Nat.zero_le _, rfl, rfl, LastIs.nil _ _, Ext.refl _⟩
  case round =>
    obtain ⟨k, z, hk, rfl, rfl, hla, hb⟩ := hrel
    have HL := Lib.hid hla; have HB := Lib.hid hb
    have d0 := (HD.out.ext hb).cell 0
    simp only [List.getElem?_toArray, List.getElem?_cons_zero] at d0
    clear hla
    by_cases hlt : k < n
    · have hd : decide ((k : Int) < (n : Int)) = true := by simp; omega
      have q1 : IntKind.i64.wrap ((k : Int) + 1) = (k : Int) + 1 := by rw [IntKind.wrap_i64]; omega
      obtain ⟨b', off, rfl, c0, c1, c2⟩ := (HEns.out.ext hb).at hlt
      have hkR : k < B.length := by rw [HLen.out]; exact hlt
      have hTk : B.take (k + 1) = B.take k ++ [B.getD k en0] := by
        rw [List.take_succ_eq_append_getElem hkR]
        simp [List.getD, List.getElem?_eq_getElem hkR]
      have HS := Lib.hid (HL.out.step (B.getD k en0))
      rw [← hTk] at HS
      generalize B.getD k en0 = y at *
      obtain ⟨y1, y2, y3⟩ := y
      have HS : Hid (LastIs (B.take (k + 1)) x (min b 1073741824) (if y1 = x ∧ y2 ≤ min b 1073741824 then max z y2 else z)) := HS
      have u0 := cell_of c0; have u1 := cell_of c1
      clear hTk hkR hb
      by_cases h1 : y1 = x
      · have e1 : (y1 == x) = true := by simpa using h1
        by_cases h2 : y2 ≤ b
        · have e2 : decide (y2 ≤ b) = true := by simpa using h2
          by_cases h3 : y2 ≤ 1073741824
          · have e3 : decide (y2 ≤ 1073741824) = true := by simpa using h3
            rw [if_pos ⟨h1, by omega⟩] at HS
            go_wp2_with fail
            go_roundw
            case rel => exact ⟨k + 1, _, by omega, rfl, by go_num, HS.out, HB.out⟩
            case measure => simp [intOf]; omega
          · have e3 : decide (y2 ≤ 1073741824) = false := by simp; omega
            rw [if_neg (by omega)] at HS
            go_wp2_with fail
            go_roundw
            case rel => exact ⟨k + 1, _, by omega, rfl, by go_num, HS.out, HB.out⟩
            case measure => simp [intOf]; omega
        · have e2 : decide (y2 ≤ b) = false := by simp; omega
          rw [if_neg (by omega)] at HS
          go_wp2_with fail
          go_roundw
          case rel => exact ⟨k + 1, _, by omega, rfl, by go_num, HS.out, HB.out⟩
          case measure => simp [intOf]; omega
      · have e1 : (y1 == x) = false := by simpa using h1
        rw [if_neg (fun h => h1 h.1)] at HS
        go_wp2_with fail
        go_roundw
        case rel => exact ⟨k + 1, _, by omega, rfl, by go_num, HS.out, HB.out⟩
        case measure => simp [intOf]; omega
    · obtain rfl : k = n := by omega
      have hd : decide ((k : Int) < (k : Int)) = false := decide_eq_false (by omega)
      have HF : Hid (LastIs B x (min b 1073741824) z) := Lib.hid (by have := HL.out; rwa [← HLen.out, List.take_length] at this)
      go_wp2_with fail
      go_ret
      exact ⟨_, rfl, HF.out, HB.out⟩
end
end Go.Proofs.YtmgpffknmmoggaaGreatDoor
namespace Go.Proofs.YtmgpffknmmoggaaGreatDoor
open Go.RowKit
set_option maxRecDepth 100000
set_option linter.unusedVariables false
set_option maxHeartbeats 6400000
section
variable {w w' : World} {gb : Nat} {m : Man} {ws B : List En} {vL vW vG : Value} {vs : List Value}
theorem DocI.nL (h : DocI w gb m ws B vL vW vG vs) : ∀ i, vL.ownBlock = some i → i ≠ gb := fun i hi e => h.blk.own h.oL (by decide) (e ▸ hi)
theorem DocI.nW (h : DocI w gb m ws B vL vW vG vs) : ∀ i, vW.ownBlock = some i → i ≠ gb := fun i hi e => h.blk.own h.oW (by decide) (e ▸ hi)
def DocMR (w : World) (gb : Nat) (m : Man) (ws B : List En) (vL vW : Value) (lv : Int) (e : Ending) (w' : World) : Prop :=
  ((replaceS m.L lv m.nx).2 ≠ 0 ∧ e = .returned (.int .i64 (replaceS m.L lv m.nx).2) ∧ Ext w w') ∨
  ((replaceS m.L lv m.nx).2 = 0 ∧ e = .returned (.int .i64 0) ∧ OffS (fun i => i = gb) w w' ∧ ∃ vG2 vs2, DocI w' gb (m.add (replaceS m.L lv m.nx).1 m.ck) ws B vL vW vG2 vs2 ∧ ∀ i, (vG2.ownBlock = some i ∨ ∃ q, (vs2.getD q (.slice none 0 0)).ownBlock = some i) → w.heap.size ≤ i)
theorem docmerge_c (h : DocI w gb m ws B vL vW vG vs) (hm : m.ok) (hnx : m.nx < 1000000) (lv : Int) :
    Calls Tryz.prog 15 #[.pointer (some ⟨gb, 0, none⟩), .int .i64 lv] w (DocMR w gb m ws B vL vW lv) := by
  obtain ⟨ao, cap, rfl, hG⟩ := h.lev.grid
  have hb := Man.bounds hm
  have HX0 := Lib.hid (Ext.refl w).drew
  have d2 : w.drew.cell? ⟨gb, 2, none⟩ = some (.int .i64 m.nx) := (h.blk.ext HX0.out).cell 2
  have d5 : w.drew.cell? ⟨gb, 5, none⟩ = some (.slice ao m.L.length cap) := (h.blk.ext HX0.out).cell 5
  have HR := Lib.hid (fun W (k : Ext w W) => refreplace_c ao m.L.length cap m.L lv m.nx W (hG.ext k) (by have := hb.2.1; omega))
  have HD := Lib.hid h
  have q1 : IntKind.i64.wrap (m.nx + 1) = m.nx + 1 := by rw [IntKind.wrap_i64]; have := hb.2.2.2.2; omega
  clear hb hG h
  go_enter Tryz.func15, Tryz.ntmps15
  go_wp2_with fail
  go_region_law (go_simp; go_at_call 61; refine (HR.out _ HX0.out).mono ?_; rintro e w1 ⟨v, vs2, rfl, hog, hx⟩; obtain ⟨a3, k3, rfl, hgr⟩ := hog.grid; have HX := Lib.hid (HX0.out.trans hx); have HO := Lib.hid hog; clear hog hx hgr)
  all_goals
    have hbk := HD.out.blk.ext HX.out
    have HB := Lib.hid hbk
    have f2 := hbk.free 2; have f5 := hbk.free 5
    have b2 : w1.cell? ⟨gb, 2, none⟩ = some (.int .i64 m.nx) := hbk.cell 2
    have b5 : w1.cell? ⟨gb, 5, none⟩ = some (.slice ao m.L.length cap) := hbk.cell 5
    obtain ⟨r, hr⟩ : ∃ r, replaceS m.L lv m.nx = r := ⟨_, rfl⟩
    have HRr := Lib.hid hr
    rw [hr] at HO ⊢
    obtain ⟨L2, c⟩ := r
    clear hbk hr
    by_cases hc : c = 0
    · subst hc
      go_wp2_with fail
      go_ret
      have hog := (HO.out : OGr w1 _ _ _ (.slice a3 L2.length k3) vs2 L2)
      have hB2 : Blk ((w1.setCell ⟨gb, 5, none⟩ (.slice a3 L2.length k3)).setCell ⟨gb, 2, none⟩ (.int .i64 (m.nx + 1))) gb 42 #[vL, vW, .int .i64 (m.nx + 1), .int .i64 m.ck, .int .u64 m.sd, .slice a3 L2.length k3] := (HB.out.set 5 _).set 2 _
      have hoff : OffS (fun i => i = gb) w1 ((w1.setCell ⟨gb, 5, none⟩ (.slice a3 L2.length k3)).setCell ⟨gb, 2, none⟩ (.int .i64 (m.nx + 1))) := (OffS.set (F := fun i => i = gb) w1 rfl 5 _).trans (OffS.set (F := fun i => i = gb) _ rfl 2 _)
      have hne := ogr_ne hog HB.out (by decide) (by decide)
      refine .inr ⟨by rw [HRr.out], rfl, (OffS.of_ext HX.out).trans hoff, _, vs2, ⟨by rw [HRr.out]; exact hB2, hoff.own (HD.out.oL.ext HX.out) HD.out.nL, hoff.own (HD.out.oW.ext HX.out) HD.out.nW, ?_⟩, fun i hi => (ogr_lt hog i hi).1⟩
      rw [HRr.out]
      exact ogr_same (ogr_base hog (Nat.zero_le _)) fun i hi => hoff.block i (ogr_lt hog i hi).2 (hne i hi)
    · have hn : (c != 0) = true := by simpa using hc
      go_wp2_with fail
      go_ret
      exact .inl ⟨by rw [HRr.out]; exact hc, by rw [HRr.out]; rfl, HX.out⟩
end
end Go.Proofs.YtmgpffknmmoggaaGreatDoor
namespace Go.Proofs.YtmgpffknmmoggaaGreatDoor
open Go.RowKit
set_option maxRecDepth 100000
set_option linter.unusedVariables false
set_option maxHeartbeats 6400000
section
variable {w w' : World} {gb : Nat} {m : Man} {ws B : List En} {vL vW vG : Value} {vs : List Value}
def DocFR (w : World) (gb : Nat) (m : Man) (ws B : List En) (vL : Value) (en : Int) (e : Ending) (w' : World) : Prop :=
  (ws = [] ∧ e = .returned (.int .i64 0) ∧ Ext w w') ∨
  (ws ≠ [] ∧ (addS m.L m.nx).2 ≠ 0 ∧ e = .returned (.int .i64 (addS m.L m.nx).2) ∧ Ext w w') ∨
  (ws ≠ [] ∧ (addS m.L m.nx).2 = 0 ∧ e = .returned (.int .i64 0) ∧ OffS (fun i => i = gb) w w' ∧ ∃ vG2 vs2, DocI w' gb (m.add (addS m.L m.nx).1 en) [] B vL (.slice none 0 0) vG2 vs2 ∧ ∀ i, (vG2.ownBlock = some i ∨ ∃ q, (vs2.getD q (.slice none 0 0)).ownBlock = some i) → w.heap.size ≤ i)
theorem docflush_c (h : DocI w gb m ws B vL vW vG vs) (hm : m.ok) (hnx : m.nx < 1000000) (hw : ws.length ≤ 1000) (en : Int) :
    Calls Tryz.prog 12 #[.pointer (some ⟨gb, 0, none⟩), .int .i64 en] w (DocFR w gb m ws B vL en) := by
  obtain ⟨ao, cap, rfl, hG⟩ := h.lev.grid
  obtain ⟨aw, kw, rfl, _⟩ := Ens.of_own h.oW
  have hb := Man.bounds hm
  have HX0 := Lib.hid (Ext.refl w).drew
  have z1 : w.cell? ⟨gb, 1, none⟩ = some (.slice aw ws.length kw) := h.blk.cell 1
  have d2 : w.drew.cell? ⟨gb, 2, none⟩ = some (.int .i64 m.nx) := (h.blk.ext HX0.out).cell 2
  have d5 : w.drew.cell? ⟨gb, 5, none⟩ = some (.slice ao m.L.length cap) := (h.blk.ext HX0.out).cell 5
  have HR := Lib.hid (fun W (k : Ext w W) => refadd_c ao m.L.length cap m.L m.nx W (hG.ext k) (by have := hb.2.1; omega))
  have HD := Lib.hid h
  have q1 : IntKind.i64.wrap (m.nx + 1) = m.nx + 1 := by rw [IntKind.wrap_i64]; have := hb.2.2.2.2; omega
  obtain ⟨n, hn⟩ : ∃ n, ws.length = n := ⟨_, rfl⟩
  rw [hn] at z1
  have HN := Lib.hid hn
  clear hb hG h
  by_cases h0 : n = 0
  · subst h0
    have HW0 : Hid (ws = []) := Lib.hid (List.eq_nil_of_length_eq_zero hn)
    clear hn
    go_enter Tryz.func12, Tryz.ntmps12
    go_wp2_with fail
    go_ret
    exact .inl ⟨HW0.out, rfl, Ext.refl _⟩
  have hne : ((n : Int) == 0) = false := by simpa using h0
  have HWn : Hid (ws ≠ []) := Lib.hid (fun e => by rw [e] at hn; simp at hn; omega)
  clear hn h0
  go_enter Tryz.func12, Tryz.ntmps12
  go_wp2_with fail
  go_region_law (go_simp; go_at_call 55; refine (HR.out _ HX0.out).mono ?_; rintro e w1 ⟨v, vs2, rfl, hog, hx⟩; obtain ⟨a3, k3, rfl, hgr⟩ := hog.grid; have HX := Lib.hid (HX0.out.trans hx); have HO := Lib.hid hog; clear hog hx hgr)
  all_goals
    have hbk := HD.out.blk.ext HX.out
    have HB := Lib.hid hbk
    have f1 := hbk.free 1; have f2 := hbk.free 2; have f3 := hbk.free 3; have f5 := hbk.free 5
    have b1 : w1.cell? ⟨gb, 1, none⟩ = some (.slice aw ws.length kw) := hbk.cell 1
    have b2 : w1.cell? ⟨gb, 2, none⟩ = some (.int .i64 m.nx) := hbk.cell 2
    have b3 : w1.cell? ⟨gb, 3, none⟩ = some (.int .i64 m.ck) := hbk.cell 3
    have b5 : w1.cell? ⟨gb, 5, none⟩ = some (.slice ao m.L.length cap) := hbk.cell 5
    obtain ⟨r, hr⟩ : ∃ r, addS m.L m.nx = r := ⟨_, rfl⟩
    have HRr := Lib.hid hr
    rw [hr] at HO ⊢
    obtain ⟨L2, c⟩ := r
    clear hbk hr
    by_cases hc : c = 0
    · subst hc
      go_wp2_with fail
      go_ret
      have hog := (HO.out : OGr w1 _ _ _ (.slice a3 L2.length k3) vs2 L2)
      have hB2 : Blk ((((w1.setCell ⟨gb, 5, none⟩ (.slice a3 L2.length k3)).setCell ⟨gb, 2, none⟩ (.int .i64 (m.nx + 1))).setCell ⟨gb, 3, none⟩ (.int .i64 en)).setCell ⟨gb, 1, none⟩ (.slice none 0 0)) gb 42 #[vL, .slice none 0 0, .int .i64 (m.nx + 1), .int .i64 en, .int .u64 m.sd, .slice a3 L2.length k3] := (((HB.out.set 5 _).set 2 _).set 3 _).set 1 _
      have hoff : OffS (fun i => i = gb) w1 ((((w1.setCell ⟨gb, 5, none⟩ (.slice a3 L2.length k3)).setCell ⟨gb, 2, none⟩ (.int .i64 (m.nx + 1))).setCell ⟨gb, 3, none⟩ (.int .i64 en)).setCell ⟨gb, 1, none⟩ (.slice none 0 0)) := (((OffS.set (F := fun i => i = gb) w1 rfl 5 _).trans (OffS.set (F := fun i => i = gb) _ rfl 2 _)).trans (OffS.set (F := fun i => i = gb) _ rfl 3 _)).trans (OffS.set (F := fun i => i = gb) _ rfl 1 _)
      have hne := ogr_ne hog HB.out (by decide) (by decide)
      refine .inr (.inr ⟨HWn.out, by rw [HRr.out], rfl, (OffS.of_ext HX.out).trans hoff, _, vs2, ⟨by rw [HRr.out]; exact hB2, hoff.own (HD.out.oL.ext HX.out) HD.out.nL, Own.nil _ _ _ _, ?_⟩, fun i hi => (ogr_lt hog i hi).1⟩)
      rw [HRr.out]
      exact ogr_same (ogr_base hog (Nat.zero_le _)) fun i hi => hoff.block i (ogr_lt hog i hi).2 (hne i hi)
    · have hn : (c != 0) = true := by simpa using hc
      go_wp2_with fail
      go_ret
      exact .inr (.inl ⟨HWn.out, by rw [HRr.out]; exact hc, by rw [HRr.out]; rfl, HX.out⟩)
end
end Go.Proofs.YtmgpffknmmoggaaGreatDoor
