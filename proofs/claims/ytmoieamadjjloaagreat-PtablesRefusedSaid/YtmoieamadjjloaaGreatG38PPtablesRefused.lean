/- Walks: sorted entries out of any (law18's Made). -/
import Derived.Test.YtmoieamadjjloaaGreatG37PPtablesRefused
import Derived.Deep.RegionHeld3
import Derived.Deep.CutRange
set_option linter.unusedVariables false
set_option linter.unusedSimpArgs false
namespace Go.Proofs.YtmoieamadjjloaaGreat
open Go.RowKit

set_option maxRecDepth 100000
set_option linter.unusedVariables false
set_option maxHeartbeats 12800000

theorem made_c {ao : Option Addr} {n cap : Nat} {R : List En} (w : World) (hx : Ens w ao n cap R) (hn : n ≤ 1000) (hR : ∀ e ∈ R, 0 ≤ e.1) :
    Calls Tryz.prog 8 #[.slice ao n cap] w fun r w' => ∃ v, r = .returned v ∧ w'.ownsRow w.heap.size 44 3 v (madeL R).length (ecs (madeL R)) ∧ Ext w w' := by
  have Hx := Lib.hid hx
  have b1 := hx.fits; have b2 := hx.bound
  have HLen := Lib.hid hx.len
  have HR := Lib.hid hR
  clear hx
  go_enter Tryz.func8, Tryz.ntmps8
  go_wp2_with fail
  go_loopw [3, 4] (fun v i W => ∃ (k : Nat) (M : List En), k ≤ n ∧ i = .int .i64 (k : Int) ∧ M = madeL (R.take k) ∧ W.ownsRow w.heap.size 44 3 v M.length (ecs M) ∧ Ext w W) (fun _ i _ => n - (intOf i).toNat)
  case atStart => exact ⟨0, [], Nat.zero_le _, rfl, by rfl, World.ownsRow_nil _ _ _ _, Ext.refl _⟩
  case round =>
    obtain ⟨k, M, hk, rfl, hM, hrow, hb⟩ := hrel
    have HRow := Lib.hid hrow; have HBk := Lib.hid hb; have HM := Lib.hid hM
    obtain ⟨va, vc, rfl, hens⟩ := Ens.of_own (Own.of_row hrow)
    have HEns := Lib.hid hens
    have HBs := Lib.hid (hb : Ext w wr).size
    have hmk := madeL_ok (R.take k) (fun e he => HR.out e (List.mem_of_mem_take he))
    rw [← hM] at hmk
    have HMk := Lib.hid hmk
    by_cases hlt : k < n
    · have hd : decide ((k : Int) < (n : Int)) = true := by simp; omega
      have q1 : IntKind.i64.wrap ((k : Int) + 1) = (k : Int) + 1 := by rw [IntKind.wrap_i64]; omega
      obtain ⟨b, off, rfl, c0, c1, c2⟩ := (Hx.out.ext hb).at hlt
      have hkR : k < R.length := by rw [HLen.out]; exact hlt
      have hTk : R.take (k + 1) = R.take k ++ [R.getD k en0] := by
        rw [List.take_succ_eq_append_getElem hkR]
        simp [List.getD, List.getElem?_eq_getElem hkR]
      have hz0 : 0 ≤ (R.getD k en0).1 := HR.out _ (by simp [List.getD, List.getElem?_eq_getElem hkR])
      have hlen : M.length ≤ k := by have := hmk.2.2; rw [List.length_take] at this; omega
      have HTk : Hid (madeL (R.take (k + 1)) = insE (madeE (R.getD k en0)) M) := Lib.hid (by rw [hTk, madeL_snoc, ← hM])
      generalize R.getD k en0 = z at *
      obtain ⟨z1, z2, z3⟩ := z
      have HMd : Hid (madeE (z1, z2, z3) = (IntKind.u64.wrap (Int.tmod z1 7 * 1000003), bits .and .i64 z2 63, bits .and .i64 z3 1023)) := Lib.hid rfl
      have q2 := made_wrap z1 hz0
      obtain ⟨m, hml⟩ : ∃ m, M.length = m := ⟨_, rfl⟩
      have HMl := Lib.hid hml
      rw [hml] at HRow HEns hlen
      rw [hml]
      have u0 := cell_of c0; have u1 := cell_of c1; have u2 := cell_of c2
      clear hb hrow hens hM hmk hTk hz0 hml
      go_wp2_with fail
      go_region_held3 (fun W => W.cell? ⟨b, off + k * 3, none⟩ = some (.int .u64 z1) ∧ W.cell? ⟨b, off + k * 3 + 1, none⟩ = some (.int .i64 z2) ∧ W.cell? ⟨b, off + k * 3 + 2, none⟩ = some (.int .i64 z3))
        (first | exact ⟨c0, c1, c2⟩ | exact ⟨cell_ext (ext_a1 wr _).drew c0, cell_ext (ext_a1 wr _).drew c1, cell_ext (ext_a1 wr _).drew c2⟩)
        (fail)
      all_goals
        clear u0 u1 u2 c0 c1 c2 q2
        obtain ⟨m1, hm1⟩ : ∃ m1, IntKind.u64.wrap (z1.tmod 7 * 1000003) = m1 := ⟨_, rfl⟩
        obtain ⟨m2, hm2⟩ : ∃ m2, bits .and .i64 z2 63 = m2 := ⟨_, rfl⟩
        obtain ⟨m3, hm3⟩ : ∃ m3, bits .and .i64 z3 1023 = m3 := ⟨_, rfl⟩
        rw [hm1, hm2, hm3] at HMd
        rw [hm1, hm2, hm3]
        rw [HMd.out] at HTk
        have hbk := Blk.new wr 44 #[.int .u64 m1, .int .i64 m2, .int .i64 m3]
        have hx1 := ((ext_a1 wr (.cells #[.int .u64 m1, .int .i64 m2, .int .i64 m3] 44)).drew)
        have HBk1 := Lib.hid (show Blk ((wr.alloc (.cells #[.int .u64 m1, .int .i64 m2, .int .i64 m3] 44)).drew) wr.heap.size 44 #[.int .u64 m1, .int .i64 m2, .int .i64 m3] from hbk)
        have HRow1 := Lib.hid (row_ext HRow.out hx1)
        have HEns1 := Lib.hid (HEns.out.ext hx1)
        have HB1 := Lib.hid (HBk.out.trans hx1)
        have HS := Lib.hid (HMk.out.1)
        clear hbk HMd hm1 hm2 hm3 hx1 HRow HEns HBk HMk HBs
        go_wp2_with fail
        generalize (wr.alloc (.cells #[.int .u64 m1, .int .i64 m2, .int .i64 m3] 44)).drew = w1 at *
        generalize wr.heap.size = q at *
        go_loopw [6] (fun i W => ∃ j : Nat, j ≤ m ∧ i = .int .i64 (j : Int) ∧ j ≤ lbE M (m1, m2, m3) ∧ Ext w1 W) (fun i _ => m - (intOf i).toNat)
        case atStart => exact ⟨0, Nat.zero_le _, rfl, Nat.zero_le _, Ext.refl _⟩
        case round =>
          obtain ⟨j, hjm, rfl, hjl, hb⟩ := hrel
          have HBj := Lib.hid hb
          have hK := HBk1.out.ext hb
          have e0 := cell_of (show wr.cell? ⟨q, 0, none⟩ = some (.int .u64 m1) from hK.cell 0)
          have e1 := cell_of (show wr.cell? ⟨q, 1, none⟩ = some (.int .i64 m2) from hK.cell 1)
          have e2 := cell_of (show wr.cell? ⟨q, 2, none⟩ = some (.int .i64 m3) from hK.cell 2)
          have HBK := Lib.hid hK
          by_cases hj : j < m
          · have hdj : decide ((j : Int) < (m : Int)) = true := by simp; omega
            have heqj : ((j : Int) == (m : Int)) = false := by simp; omega
            have q3 : IntKind.i64.wrap ((j : Int) + 1) = (j : Int) + 1 := by rw [IntKind.wrap_i64]; omega
            have hjM : j < M.length := by rw [HMl.out]; exact hj
            obtain ⟨b', off', rfl, a0, a1, a2⟩ := (HEns1.out.ext hb).at hj
            have hlb := lbE_at (m1, m2, m3) HS.out (i := j) (List.getElem?_eq_getElem hjM)
            have hgd : M.getD j en0 = M[j] := by simp [List.getD, List.getElem?_eq_getElem hjM]
            rw [hgd] at a0 a1 a2
            have hget : M[j]? = some M[j] := List.getElem?_eq_getElem hjM
            generalize M[j] = y at *
            have HLs := Lib.hid (fun W => less_e y (m1, m2, m3) W)
            obtain ⟨y1, y2, y3⟩ := y
            rw [hlb] at HLs
            have HLs : Hid (∀ W, Calls Tryz.prog 34 #[.agg #[.int .u64 y1, .int .i64 y2, .int .i64 y3], .agg #[.int .u64 m1, .int .i64 m2, .int .i64 m3]] W fun e w' => e = .returned (.bool (decide (j < lbE M (m1, m2, m3)))) ∧ Ext W w') := Lib.hid HLs.out
            have u0 := cell_of a0; have u1 := cell_of a1; have u2 := cell_of a2
            have HGet := Lib.hid hget
            clear hK hgd hjM hlb hb hget
            by_cases hl : j < lbE M (m1, m2, m3)
            · rw [decide_eq_true hl] at HLs
              go_wp2_with fail
              refine wp_region_ext (by kernel_rfl) (by kernel_rfl) ?_
              repeat (go_big_quiet_step (fail))
              go_big_quiet_step (exact Calls.quiet_ext (HLs.out _))
              repeat (go_big_quiet_step (fail))
              refine wpQuiet_nil ?_
              intro w2 hw2
              have HB2 := Lib.hid (HBj.out.trans hw2)
              clear hw2
              go_wp2_with fail
              go_roundw
              case rel => exact ⟨j + 1, by omega, by go_num, by omega, HB2.out⟩
              case measure => simp [intOf]; omega
            · rw [decide_eq_false hl] at HLs
              have HJ : Hid (j = lbE M (m1, m2, m3)) := Lib.hid (by omega)
              clear hjl hl
              go_wp2_with fail
              refine wp_region_ext (by kernel_rfl) (by kernel_rfl) ?_
              repeat (go_big_quiet_step (fail))
              go_big_quiet_step (exact Calls.quiet_ext (HLs.out _))
              repeat (go_big_quiet_step (fail))
              refine wpQuiet_nil ?_
              intro w2 hw2
              have HB2 := Lib.hid (HBj.out.trans hw2)
              --VARIANTS
              --VARIANTS
              --VARIANTS
              --VARIANTS
              --VARIANTS
              --VARIANTS
              --VARIANTS
              --VARIANTS
              --VARIANTS
              have f0 := cell_of (cell_ext hw2 a0); have f1 := cell_of (cell_ext hw2 a1); have f2 := cell_of (cell_ext hw2 a2)
              have HK2 := Lib.hid (HBK.out.ext hw2)
              have g0 := cell_of (show w2.cell? ⟨q, 0, none⟩ = some (.int .u64 m1) from HK2.out.cell 0)
              have g1 := cell_of (show w2.cell? ⟨q, 1, none⟩ = some (.int .i64 m2) from HK2.out.cell 1)
              have g2 := cell_of (show w2.cell? ⟨q, 2, none⟩ = some (.int .i64 m3) from HK2.out.cell 2)
              have HLs2 := HLs
              clear hw2 u0 u1 u2 e0 e1 e2
              by_cases hyx : (y1, y2, y3) = (m1, m2, m3)
              · have HIns : Hid (insE (m1, m2, m3) M = M) := Lib.hid (by unfold insE; rw [← HJ.out, if_pos (by rw [HGet.out, hyx])])
                obtain ⟨rfl, rfl, rfl⟩ : y1 = m1 ∧ y2 = m2 ∧ y3 = m3 := by cases hyx; exact ⟨rfl, rfl, rfl⟩
                clear hyx
                go_wp2_with fail
                refine wp_region_ext (by kernel_rfl) (by kernel_rfl) ?_
                repeat (go_big_quiet_step (fail))
                refine wpQuiet_nil ?_
                intro w5 hw5
                have HB5 := Lib.hid ((HB1.out.trans HB2.out).trans hw5)
                have HR5 := Lib.hid (row_ext HRow1.out (HB2.out.trans hw5))
                clear hw5
                go_wp2_with fail
                go_roundw
                case rel => exact ⟨k + 1, M, by omega, by go_num, by rw [HTk.out, HIns.out], by rw [HMl.out]; exact HR5.out, HB5.out⟩
                case measure => simp [intOf]; omega
              · have HNe : Hid (¬ M[j]? = some (m1, m2, m3)) := Lib.hid (by rw [HGet.out]; exact fun h => hyx (Option.some.inj h))
                have h3 : (¬ y1 = m1) ∨ (y1 = m1 ∧ ¬ y2 = m2) ∨ (y1 = m1 ∧ y2 = m2 ∧ ¬ y3 = m3) := by
                  by_cases e1 : y1 = m1
                  · by_cases e2 : y2 = m2
                    · by_cases e3 : y3 = m3
                      · exact absurd (by rw [e1, e2, e3]) hyx
                      · exact .inr (.inr ⟨e1, e2, e3⟩)
                    · exact .inr (.inl ⟨e1, e2⟩)
                  · exact .inl e1
                clear hyx
                go_upto_region 9 with fail
                go_cut [58] from 47 to 57 (fun s wc => s = .bool true ∧ Ext w2 wc)
                case first =>
                  rcases h3 with h3 | ⟨h3, h4⟩ | ⟨h3, h4, h5⟩
                  all_goals
                    refine wp_region_ext (by kernel_rfl) (by kernel_rfl) ?_
                    repeat (go_big_quiet_step (fail))
                    refine wpQuiet_nil ?_
                    intro w5 hw5
                    go_wp2_with fail
                    go_meet
                    case rel => exact ⟨rfl, hw5⟩
                case rest =>
                  obtain ⟨rfl, hcx⟩ := hcut
                  replace HB2 := Lib.hid (HB2.out.trans hcx)
                  replace HK2 := Lib.hid (HK2.out.ext hcx)
                  clear h3 hcx f0 f1 f2 g0 g1 g2
                  go_wp2_with fail
                  have HIns : Hid (insE (m1, m2, m3) M = M.take j ++ (m1, m2, m3) :: M.drop j) := Lib.hid (by
                    unfold insE
                    rw [← HJ.out, if_neg HNe.out])
                  have HR0 : Hid (Ext wc wc.drew) := Lib.hid (Ext.refl wc).drew
                  have HSf : Hid (∀ W, Ext wc W → W.cell? ⟨q, 0, none⟩ = some (.int .u64 m1) ∧ W.cell? ⟨q, 1, none⟩ = some (.int .i64 m2) ∧ W.cell? ⟨q, 2, none⟩ = some (.int .i64 m3)) := Lib.hid fun W hW => by
                    have hb := HK2.out.ext hW
                    exact ⟨hb.cell 0, hb.cell 1, hb.cell 2⟩
                  have HRd : Hid (∀ W, Ext wc W → Rd W (some ⟨b', off', none⟩) (ecs M)) := Lib.hid fun W hW => ((HEns1.out.ext HB2.out).ext hW).rd
                  have HRd2 : Hid (∀ W, Ext wc W → Rd W ((if vc = j then some ⟨b', off', none⟩ else some ⟨b', off' + j * 3, none⟩)) (ecs (M.drop j))) := Lib.hid fun W hW => by
                    split
                    · rename_i hc
                      rw [List.drop_of_length_le (by rw [HMl.out]; have := HEns1.out.fits; omega)]
                      exact Rd.nil _ _
                    · have h := (HRd.out W hW).drop (j * 3)
                      rw [ecs_drop] at h
                      exact h
                  have hi0 : (0 : Int) ≤ (j : Int) := by omega
                  have hi1 : (j : Int) ≤ (vc : Int) := by have := HEns1.out.fits; omega
                  have hi2 : (j : Int) ≤ (m : Int) := by omega
                  have hi4 : (m : Int) ≤ (vc : Int) := by have := HEns1.out.fits; omega
                  have hcn : m ≤ vc := HEns1.out.fits
                  have hjn : j ≤ m := by omega
                  clear HLs
                  go_region_held3 (fun W => W.cell? ⟨q, 0, none⟩ = some (.int .u64 m1) ∧ W.cell? ⟨q, 1, none⟩ = some (.int .i64 m2) ∧ W.cell? ⟨q, 2, none⟩ = some (.int .i64 m3))
                    (first | exact HSf.out _ HR3.out | exact HSf.out _ HR2.out | exact HSf.out _ (HR1.out.alloc _) | exact HSf.out _ HR1.out | exact HSf.out _ (HR0.out.alloc _) | exact HSf.out _ HR0.out)
                    (first
                      | (refine step_append_own rfl (.const (.slice none 0 0)) (.tmp 61) 22 rfl wc.heap.size 44 _ 3 24 Tryz.underlying22 Tryz.infoE (by decide) (by decide) (.slice none 0 0) 0 [] rfl (World.ownsRow_nil _ _ _ _) (some ⟨b', off', none⟩) j vc (ecs (M.take j)) rfl (by rw [ecs_length, List.length_take, HMl.out]; omega) (fun h => by cases h) (by rw [← ecs_take]; exact (HRd.out _ (by first | exact HR0.out | exact HR0.out.alloc _)).take _) (ecs_one _) (by unfold maxLen; omega) (by omega) (by first | exact HR0.out.size | exact (HR0.out.alloc _).size) ?_; intro v1 x1 hown hgrow hat; have HR1 : Hid (Ext wc x1) := Lib.hid (by first | exact (HR0.out : Below wc.heap.size wc _).grown hgrow HR0.out.size (fun q hq => by cases hq) | exact ((HR0.out.alloc _) : Below wc.heap.size wc _).grown hgrow (HR0.out.alloc _).size (fun q hq => by cases hq)); (try have HL1 := Lib.hid ((Rd.lit wc.drew #[.int .u64 m1, .int .i64 m2, .int .i64 m3] 44).ext ((Ext.refl _ : Below _ _ _).grown hgrow (Nat.le_refl _) (fun q hq => by cases hq)))); have HOw1 := Lib.hid hown; clear hown hgrow hat)
                      | (refine step_append_own rfl (.tmp 62) (.tmp 64) 22 rfl wc.heap.size 44 _ 3 24 Tryz.underlying22 Tryz.infoE (by decide) (by decide) v1 (0 + j) ([] ++ ecs (M.take j)) rfl (by first | exact HOw1.out | exact row_ext HOw1.out (ext_a1 _ _)) _ _ _ (ec (m1, m2, m3)) rfl rfl (fun h => by cases h) (by first | exact HL1.out | exact Rd.lit _ _ _) (fun u hu => ecs_one [(m1, m2, m3)] u (by simpa [ecs] using hu)) (by unfold maxLen; omega) (by omega) (by first | exact HR1.out.size | exact (HR1.out.alloc _).size) ?_; intro v2 x2 hown hgrow hat; have HR2 : Hid (Ext wc x2) := Lib.hid (by first | exact (HR1.out : Below wc.heap.size wc _).grown hgrow HR1.out.size (fun q hq => (row_lt HOw1.out q hq).1) | exact ((HR1.out.alloc _) : Below wc.heap.size wc _).grown hgrow (HR1.out.alloc _).size (fun q hq => (row_lt HOw1.out q hq).1)); have HOwc := Lib.hid hown; clear hown hgrow hat)
                      | (refine step_append_own rfl (.tmp 65) (.tmp 68) 22 rfl wc.heap.size 44 _ 3 24 Tryz.underlying22 Tryz.infoE (by decide) (by decide) v2 (0 + j + 1) ([] ++ ecs (M.take j) ++ ec (m1, m2, m3)) rfl HOwc.out _ _ _ (ecs (M.drop j)) rfl (by (rw [ecs_length, List.length_drop, HMl.out]) <;> omega) (fun h => by split at h <;> cases h) (HRd2.out _ HR2.out) (ecs_one _) (by unfold maxLen; omega) (by omega) HR2.out.size ?_; intro v3 x3 hown hgrow hat; have HR3 : Hid (Ext wc x3) := Lib.hid ((HR2.out : Below wc.heap.size wc _).grown hgrow HR2.out.size (fun q hq => (row_lt HOwc.out q hq).1)); obtain ⟨a3, c3', rfl⟩ := row_slice hown; have HOw3 := Lib.hid hown; clear hown hgrow hat))
                  all_goals
                    have hr := HOw3.out
                    have he : ([] ++ ecs (M.take j) ++ ec (m1, m2, m3) ++ ecs (M.drop j)) = ecs (insE (m1, m2, m3) M) := by rw [HIns.out, ecs_append, ecs_cons]; simp [List.append_assoc]
                    have hl : 0 + j + 1 + (m - j) = (insE (m1, m2, m3) M).length := by rw [HIns.out, List.length_append, List.length_cons, List.length_take, List.length_drop, HMl.out]; omega
                    rw [he] at hr
                    have hr2 := row_base hr (show w.heap.size ≤ wc.heap.size from (HB1.out.trans HB2.out).size)
                    have HF : Hid (∀ z, z = (insE (m1, m2, m3) M).length → x3.ownsRow w.heap.size 44 3 (.slice a3 z c3') (insE (m1, m2, m3) M).length (ecs (insE (m1, m2, m3) M))) := Lib.hid fun z hz => by (first | rw [hl] at hr2 | rw [show 0 + j + 1 + 0 = (insE (m1, m2, m3) M).length by omega] at hr2); rw [hz]; exact hr2
                    have HLL := Lib.hid hl
                    have HBF := Lib.hid ((HB1.out.trans HB2.out).trans HR3.out)
                    clear hr he hr2 hl
                    go_wp2_with fail
                    go_roundw
                    case rel => exact ⟨k + 1, insE (m1, m2, m3) M, by omega, by go_num, HTk.out.symm, HF.out _ (by have := HLL.out; omega), HBF.out⟩
                    case measure => simp [intOf]; omega
          · obtain rfl : j = m := by omega
            have hjm := hjm
            have hlm : lbE M (m1, m2, m3) ≤ j := by rw [← HMl.out]; exact lbE_le _ _
            have HJ : Hid (j = lbE M (m1, m2, m3)) := Lib.hid (by omega)
            have HNe : Hid (¬ M[j]? = some (m1, m2, m3)) := Lib.hid (by rw [List.getElem?_eq_none (by rw [HMl.out]; omega)]; exact fun h => by cases h)
            have HQ0 := Lib.hid trivial
            clear hlm hK hb hjl hj hjm
            go_wp2_with fail
            refine wp_region_ext (by kernel_rfl) (by kernel_rfl) ?_
            repeat (go_big_quiet_step (fail))
            refine wpQuiet_nil ?_
            intro w4 hw4
            have HB4 := Lib.hid (HBj.out.trans hw4)
            have HK4 := Lib.hid (HBK.out.ext hw4)
            clear hw4 e0 e1 e2
            go_wp2_with fail
            refine wp_region_ext (by kernel_rfl) (by kernel_rfl) ?_
            repeat (go_big_quiet_step (fail))
            refine wpQuiet_nil ?_
            intro wc hw5
            have HB2 := Lib.hid (HB4.out.trans hw5)
            have HK2 := Lib.hid (HK4.out.ext hw5)
            clear hw5
            go_wp2_with fail
            have hva : (va = none ∧ j = 0 ∧ vc = 0) ∨ ∃ g, va = some ⟨g, 0, none⟩ := by
              rcases HRow1.out.2 with ⟨e, e2⟩ | ⟨g, cap', cur, e, _⟩
              · cases e; exact .inl ⟨rfl, e2, rfl⟩
              · cases e; exact .inr ⟨g, rfl⟩
            have HLs := HQ0
            rcases hva with ⟨rfl, rfl, rfl⟩ | ⟨b', rfl⟩
            · have HLn : Hid (M = []) := Lib.hid (List.eq_nil_of_length_eq_zero HMl.out)
              have HIns : Hid (insE (m1, m2, m3) M = M.take 0 ++ (m1, m2, m3) :: M.drop 0) := Lib.hid (by
                unfold insE
                rw [← HJ.out, if_neg HNe.out])
              have HR0 : Hid (Ext wc wc.drew) := Lib.hid (Ext.refl wc).drew
              have HSf : Hid (∀ W, Ext wc W → W.cell? ⟨q, 0, none⟩ = some (.int .u64 m1) ∧ W.cell? ⟨q, 1, none⟩ = some (.int .i64 m2) ∧ W.cell? ⟨q, 2, none⟩ = some (.int .i64 m3)) := Lib.hid fun W hW => by
                have hb := HK2.out.ext hW
                exact ⟨hb.cell 0, hb.cell 1, hb.cell 2⟩
              have HRd : Hid (∀ W, Ext wc W → Rd W (none) (ecs M)) := Lib.hid fun W hW => by rw [HLn.out]; exact Rd.nil _ _
              have HRd2 : Hid (∀ W, Ext wc W → Rd W (none) (ecs (M.drop 0))) := Lib.hid fun W hW => by
                rw [HLn.out]
                exact Rd.nil _ _
              have hi0 : (0 : Int) ≤ (0 : Int) := by omega
              have hi1 : (0 : Int) ≤ (0 : Int) := by have := HEns1.out.fits; omega
              have hi2 : (0 : Int) ≤ (0 : Int) := by omega
              have hi4 : (0 : Int) ≤ (0 : Int) := by have := HEns1.out.fits; omega
              have hcn : 0 ≤ 0 := HEns1.out.fits
              have hjn : 0 ≤ 0 := by omega
              clear HLs
              go_region_held3 (fun W => W.cell? ⟨q, 0, none⟩ = some (.int .u64 m1) ∧ W.cell? ⟨q, 1, none⟩ = some (.int .i64 m2) ∧ W.cell? ⟨q, 2, none⟩ = some (.int .i64 m3))
                (first | exact HSf.out _ HR3.out | exact HSf.out _ HR2.out | exact HSf.out _ (HR1.out.alloc _) | exact HSf.out _ HR1.out | exact HSf.out _ (HR0.out.alloc _) | exact HSf.out _ HR0.out)
                (first
                  | (refine step_append_own rfl (.const (.slice none 0 0)) (.tmp 61) 22 rfl wc.heap.size 44 _ 3 24 Tryz.underlying22 Tryz.infoE (by decide) (by decide) (.slice none 0 0) 0 [] rfl (World.ownsRow_nil _ _ _ _) (none) 0 0 (ecs (M.take 0)) rfl (by rw [ecs_length, List.length_take, HMl.out]; omega) (fun _ => rfl) (by rw [← ecs_take]; exact (HRd.out _ (by first | exact HR0.out | exact HR0.out.alloc _)).take _) (ecs_one _) (by unfold maxLen; omega) (by omega) (by first | exact HR0.out.size | exact (HR0.out.alloc _).size) ?_; intro v1 x1 hown hgrow hat; have HR1 : Hid (Ext wc x1) := Lib.hid (by first | exact (HR0.out : Below wc.heap.size wc _).grown hgrow HR0.out.size (fun q hq => by cases hq) | exact ((HR0.out.alloc _) : Below wc.heap.size wc _).grown hgrow (HR0.out.alloc _).size (fun q hq => by cases hq)); (try have HL1 := Lib.hid ((Rd.lit wc.drew #[.int .u64 m1, .int .i64 m2, .int .i64 m3] 44).ext ((Ext.refl _ : Below _ _ _).grown hgrow (Nat.le_refl _) (fun q hq => by cases hq)))); have HOw1 := Lib.hid hown; clear hown hgrow hat)
                  | (refine step_append_own rfl (.tmp 62) (.tmp 64) 22 rfl wc.heap.size 44 _ 3 24 Tryz.underlying22 Tryz.infoE (by decide) (by decide) v1 (0 + 0) ([] ++ ecs (M.take 0)) rfl (by first | exact HOw1.out | exact row_ext HOw1.out (ext_a1 _ _)) _ _ _ (ec (m1, m2, m3)) rfl rfl (fun h => by cases h) (by first | exact HL1.out | exact Rd.lit _ _ _) (fun u hu => ecs_one [(m1, m2, m3)] u (by simpa [ecs] using hu)) (by unfold maxLen; omega) (by omega) (by first | exact HR1.out.size | exact (HR1.out.alloc _).size) ?_; intro v2 x2 hown hgrow hat; have HR2 : Hid (Ext wc x2) := Lib.hid (by first | exact (HR1.out : Below wc.heap.size wc _).grown hgrow HR1.out.size (fun q hq => (row_lt HOw1.out q hq).1) | exact ((HR1.out.alloc _) : Below wc.heap.size wc _).grown hgrow (HR1.out.alloc _).size (fun q hq => (row_lt HOw1.out q hq).1)); have HOwc := Lib.hid hown; clear hown hgrow hat)
                  | (refine step_append_own rfl (.tmp 65) (.tmp 68) 22 rfl wc.heap.size 44 _ 3 24 Tryz.underlying22 Tryz.infoE (by decide) (by decide) v2 (0 + 0 + 1) ([] ++ ecs (M.take 0) ++ ec (m1, m2, m3)) rfl HOwc.out _ _ _ (ecs (M.drop 0)) rfl (by (rw [ecs_length, List.length_drop, HMl.out]) <;> omega) (fun _ => rfl) (HRd2.out _ HR2.out) (ecs_one _) (by unfold maxLen; omega) (by omega) HR2.out.size ?_; intro v3 x3 hown hgrow hat; have HR3 : Hid (Ext wc x3) := Lib.hid ((HR2.out : Below wc.heap.size wc _).grown hgrow HR2.out.size (fun q hq => (row_lt HOwc.out q hq).1)); obtain ⟨a3, c3', rfl⟩ := row_slice hown; have HOw3 := Lib.hid hown; clear hown hgrow hat))
              all_goals
                have hr := HOw3.out
                have he : ([] ++ ecs (M.take 0) ++ ec (m1, m2, m3) ++ ecs (M.drop 0)) = ecs (insE (m1, m2, m3) M) := by rw [HIns.out, ecs_append, ecs_cons]; simp [List.append_assoc]
                have hl : 0 + 0 + 1 + (0 - 0) = (insE (m1, m2, m3) M).length := by rw [HIns.out, List.length_append, List.length_cons, List.length_take, List.length_drop, HMl.out]; omega
                rw [he] at hr
                have hr2 := row_base hr (show w.heap.size ≤ wc.heap.size from (HB1.out.trans HB2.out).size)
                have HF : Hid (∀ z, z = (insE (m1, m2, m3) M).length → x3.ownsRow w.heap.size 44 3 (.slice a3 z c3') (insE (m1, m2, m3) M).length (ecs (insE (m1, m2, m3) M))) := Lib.hid fun z hz => by (first | rw [hl] at hr2 | rw [show 0 + 0 + 1 + 0 = (insE (m1, m2, m3) M).length by omega] at hr2); rw [hz]; exact hr2
                have HLL := Lib.hid hl
                have HBF := Lib.hid ((HB1.out.trans HB2.out).trans HR3.out)
                clear hr he hr2 hl
                go_wp2_with fail
                go_roundw
                case rel => exact ⟨k + 1, insE (m1, m2, m3) M, by omega, by go_num, HTk.out.symm, HF.out _ (by have := HLL.out; omega), HBF.out⟩
                case measure => simp [intOf]; omega
            · have hzz := HQ0
              have HIns : Hid (insE (m1, m2, m3) M = M.take j ++ (m1, m2, m3) :: M.drop j) := Lib.hid (by
                unfold insE
                rw [← HJ.out, if_neg HNe.out])
              have HR0 : Hid (Ext wc wc.drew) := Lib.hid (Ext.refl wc).drew
              have HSf : Hid (∀ W, Ext wc W → W.cell? ⟨q, 0, none⟩ = some (.int .u64 m1) ∧ W.cell? ⟨q, 1, none⟩ = some (.int .i64 m2) ∧ W.cell? ⟨q, 2, none⟩ = some (.int .i64 m3)) := Lib.hid fun W hW => by
                have hb := HK2.out.ext hW
                exact ⟨hb.cell 0, hb.cell 1, hb.cell 2⟩
              have HRd : Hid (∀ W, Ext wc W → Rd W (some ⟨b', 0, none⟩) (ecs M)) := Lib.hid fun W hW => ((HEns1.out.ext HB2.out).ext hW).rd
              have HRd2 : Hid (∀ W, Ext wc W → Rd W ((if vc = j then some ⟨b', 0, none⟩ else some ⟨b', j * 3, none⟩)) (ecs (M.drop j))) := Lib.hid fun W hW => by
                split
                · rename_i hc
                  rw [List.drop_of_length_le (by rw [HMl.out]; have := HEns1.out.fits; omega)]
                  exact Rd.nil _ _
                · have h := (HRd.out W hW).drop (j * 3)
                  rw [ecs_drop, Nat.zero_add] at h
                  exact h
              have hi0 : (0 : Int) ≤ (j : Int) := by omega
              have hi1 : (j : Int) ≤ (vc : Int) := by have := HEns1.out.fits; omega
              have hi2 : (j : Int) ≤ (j : Int) := by omega
              have hi4 : (j : Int) ≤ (vc : Int) := by have := HEns1.out.fits; omega
              have hcn : j ≤ vc := HEns1.out.fits
              have hjn : j ≤ j := by omega
              clear HLs
              go_region_held3 (fun W => W.cell? ⟨q, 0, none⟩ = some (.int .u64 m1) ∧ W.cell? ⟨q, 1, none⟩ = some (.int .i64 m2) ∧ W.cell? ⟨q, 2, none⟩ = some (.int .i64 m3))
                (first | exact HSf.out _ HR3.out | exact HSf.out _ HR2.out | exact HSf.out _ (HR1.out.alloc _) | exact HSf.out _ HR1.out | exact HSf.out _ (HR0.out.alloc _) | exact HSf.out _ HR0.out)
                (first
                  | (refine step_append_own rfl (.const (.slice none 0 0)) (.tmp 61) 22 rfl wc.heap.size 44 _ 3 24 Tryz.underlying22 Tryz.infoE (by decide) (by decide) (.slice none 0 0) 0 [] rfl (World.ownsRow_nil _ _ _ _) (some ⟨b', 0, none⟩) j vc (ecs (M.take j)) rfl (by rw [ecs_length, List.length_take, HMl.out]; omega) (fun h => by cases h) (by rw [← ecs_take]; exact (HRd.out _ (by first | exact HR0.out | exact HR0.out.alloc _)).take _) (ecs_one _) (by unfold maxLen; omega) (by omega) (by first | exact HR0.out.size | exact (HR0.out.alloc _).size) ?_; intro v1 x1 hown hgrow hat; have HR1 : Hid (Ext wc x1) := Lib.hid (by first | exact (HR0.out : Below wc.heap.size wc _).grown hgrow HR0.out.size (fun q hq => by cases hq) | exact ((HR0.out.alloc _) : Below wc.heap.size wc _).grown hgrow (HR0.out.alloc _).size (fun q hq => by cases hq)); (try have HL1 := Lib.hid ((Rd.lit wc.drew #[.int .u64 m1, .int .i64 m2, .int .i64 m3] 44).ext ((Ext.refl _ : Below _ _ _).grown hgrow (Nat.le_refl _) (fun q hq => by cases hq)))); have HOw1 := Lib.hid hown; clear hown hgrow hat)
                  | (refine step_append_own rfl (.tmp 62) (.tmp 64) 22 rfl wc.heap.size 44 _ 3 24 Tryz.underlying22 Tryz.infoE (by decide) (by decide) v1 (0 + j) ([] ++ ecs (M.take j)) rfl (by first | exact HOw1.out | exact row_ext HOw1.out (ext_a1 _ _)) _ _ _ (ec (m1, m2, m3)) rfl rfl (fun h => by cases h) (by first | exact HL1.out | exact Rd.lit _ _ _) (fun u hu => ecs_one [(m1, m2, m3)] u (by simpa [ecs] using hu)) (by unfold maxLen; omega) (by omega) (by first | exact HR1.out.size | exact (HR1.out.alloc _).size) ?_; intro v2 x2 hown hgrow hat; have HR2 : Hid (Ext wc x2) := Lib.hid (by first | exact (HR1.out : Below wc.heap.size wc _).grown hgrow HR1.out.size (fun q hq => (row_lt HOw1.out q hq).1) | exact ((HR1.out.alloc _) : Below wc.heap.size wc _).grown hgrow (HR1.out.alloc _).size (fun q hq => (row_lt HOw1.out q hq).1)); have HOwc := Lib.hid hown; clear hown hgrow hat)
                  | (refine step_append_own rfl (.tmp 65) (.tmp 68) 22 rfl wc.heap.size 44 _ 3 24 Tryz.underlying22 Tryz.infoE (by decide) (by decide) v2 (0 + j + 1) ([] ++ ecs (M.take j) ++ ec (m1, m2, m3)) rfl HOwc.out _ _ _ (ecs (M.drop j)) rfl (by (rw [ecs_length, List.length_drop, HMl.out]) <;> omega) (fun h => by split at h <;> cases h) (HRd2.out _ HR2.out) (ecs_one _) (by unfold maxLen; omega) (by omega) HR2.out.size ?_; intro v3 x3 hown hgrow hat; have HR3 : Hid (Ext wc x3) := Lib.hid ((HR2.out : Below wc.heap.size wc _).grown hgrow HR2.out.size (fun q hq => (row_lt HOwc.out q hq).1)); obtain ⟨a3, c3', rfl⟩ := row_slice hown; have HOw3 := Lib.hid hown; clear hown hgrow hat))
              all_goals
                have hr := HOw3.out
                have he : ([] ++ ecs (M.take j) ++ ec (m1, m2, m3) ++ ecs (M.drop j)) = ecs (insE (m1, m2, m3) M) := by rw [HIns.out, ecs_append, ecs_cons]; simp [List.append_assoc]
                have hl : 0 + j + 1 + (j - j) = (insE (m1, m2, m3) M).length := by rw [HIns.out, List.length_append, List.length_cons, List.length_take, List.length_drop, HMl.out]; omega
                rw [he] at hr
                have hr2 := row_base hr (show w.heap.size ≤ wc.heap.size from (HB1.out.trans HB2.out).size)
                have HF : Hid (∀ z, z = (insE (m1, m2, m3) M).length → x3.ownsRow w.heap.size 44 3 (.slice a3 z c3') (insE (m1, m2, m3) M).length (ecs (insE (m1, m2, m3) M))) := Lib.hid fun z hz => by (first | rw [hl] at hr2 | rw [show 0 + j + 1 + 0 = (insE (m1, m2, m3) M).length by omega] at hr2); rw [hz]; exact hr2
                have HLL := Lib.hid hl
                have HBF := Lib.hid ((HB1.out.trans HB2.out).trans HR3.out)
                clear hr he hr2 hl
                go_wp2_with fail
                go_roundw
                case rel => exact ⟨k + 1, insE (m1, m2, m3) M, by omega, by go_num, HTk.out.symm, HF.out _ (by have := HLL.out; omega), HBF.out⟩
                case measure => simp [intOf]; omega
    · have hd : decide ((k : Int) < (n : Int)) = false := by simp; omega
      rw [List.take_of_length_le (by rw [HLen.out]; omega)] at HM
      clear hb hrow hens hM hmk
      go_wp2_with fail
      go_ret
      exact ⟨_, rfl, by rw [← HM.out]; exact HRow.out, HBk.out⟩

end Go.Proofs.YtmoieamadjjloaaGreat
