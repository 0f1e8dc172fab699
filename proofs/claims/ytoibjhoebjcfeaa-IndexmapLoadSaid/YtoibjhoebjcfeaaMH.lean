/- Walks: the document's manifest of some bytes. -/
import Derived.Test.YtoibjhoebjcfeaaChecked
import Derived.Test.YtoibjhoebjcfeaaMG
namespace Go.Proofs.Ytoibjhoebjcfeaa
open Go.RowKit

theorem RetM.bad' {w w1 : World} (h : Ext w w1) (g : Nat) (hg : w.heap.size ≤ g) (s : List UInt8) (hs : rgetS s = badM) (a b c d : Value) :
    RetM w (rgetS s) (.returned (.tuple #[.agg #[.int .i64 0, .int .i64 0, .int .u64 0, .slice none 0 0], .int .i64 90])) ((((w1.setCell ⟨g, 0, none⟩ a).setCell ⟨g, 1, none⟩ b).setCell ⟨g, 2, none⟩ c).setCell ⟨g, 3, none⟩ d) := by
  rw [hs]; exact ⟨_, _, rfl, OGr.nil _ _ _ _, ext_set4 h g hg a b c d⟩

set_option maxRecDepth 100000 in
set_option maxHeartbeats 6400000 in
theorem refmget_c (s : List UInt8) (w : World) (hl : s.length ≤ 1000000000) :
    Calls Try.prog 38 #[.string ⟨s.toArray⟩] w (RetM w (rgetS s)) := by
  obtain ⟨a1, h1⟩ : ∃ a, numV s 4 4 = a := ⟨_, rfl⟩
  obtain ⟨a2, h2⟩ : ∃ a, numV s 8 4 = a := ⟨_, rfl⟩
  obtain ⟨a3, h3⟩ : ∃ a, numV s 12 8 = a := ⟨_, rfl⟩
  obtain ⟨a4, h4⟩ : ∃ a, numV s 20 1 = a := ⟨_, rfl⟩
  have b1 : (a1 : Int) < 4294967296 := by have := numV_lt s 4 4; rw [h1] at this; exact Int.ofNat_lt.2 this
  have b2 : (a2 : Int) < 4294967296 := by have := numV_lt s 8 4; rw [h2] at this; exact Int.ofNat_lt.2 this
  have B3 : Hid ((a3 : Int) < 18446744073709551616) := Lib.hid (by have := numV_lt s 12 8; rw [h3] at this; exact Int.ofNat_lt.2 this)
  have b4 : (a4 : Int) < 256 := by have := numV_lt s 20 1; rw [h4] at this; exact Int.ofNat_lt.2 this
  have HP : Hid (rparseG s = ⟨a1, a2, a3, rlevsG a4 s 21 []⟩) := Lib.hid (by unfold rparseG; rw [h1, h2, h3, h4])
  have H1 := Lib.hid h1; have H2 := Lib.hid h2; have H3 := Lib.hid h3; have H4 := Lib.hid h4
  clear h1 h2 h3 h4
  go_enter Try.func38, Try.ntmps38
  go_wp2_with fail
  refine (refnumber_c s 4 4 4 4 _ rfl rfl (by omega) (by omega) (by decide)).mono ?_
  rw [H1.out]
  rintro e w1 ⟨rfl, hb1⟩
  go_wp2_with fail
  refine (refnumber_c s 8 4 8 4 _ rfl rfl (by omega) (by omega) (by decide)).mono ?_
  rw [H2.out]
  rintro e w2 ⟨rfl, hb2⟩
  go_wp2_with fail
  refine (refnumber_c s 12 8 12 8 _ rfl rfl (by omega) (by omega) (by decide)).mono ?_
  rw [H3.out]
  rintro e w3 ⟨rfl, hb3⟩
  have HB := Lib.hid ((hb1.trans hb2).trans hb3)
  have HB' := HB
  clear hb1 hb2 hb3
  go_wp2_with fail
  have hmb : Mbx (w3.alloc (.cells #[.int .i64 a1, .int .i64 a2, .int .u64 a3, .slice none 0 0] 66)) w3.heap.size a1 a2 a3 (.slice none 0 0) := heap_alloc_new _ _
  have HMb0 := Lib.hid hmb; clear hmb
  go_loopw [5, 6] (fun p i w' => ∃ (k at_ : Nat) (acc : List (List Int)) (v : Value) (vs : List Value), k ≤ a4 ∧ p = .int .i64 at_ ∧ i = .int .i64 k ∧ rlevsG (a4 - k) s at_ acc = rlevsG a4 s 21 [] ∧ Mbx w' w3.heap.size a1 a2 a3 v ∧ OGr w' (w3.heap.size + 1) 30 3 v vs acc ∧ acc.length = k ∧ (∀ r ∈ acc, okRow r) ∧ at_ ≤ 1000000100 ∧ w3.heap.size + 1 ≤ w'.heap.size ∧ Ext (w.alloc (.cells #[.int .i64 0, .int .i64 0, .int .u64 0, .slice none 0 0] 66)) w') (fun _ i _ => a4 - (intOf i).toNat)
  case atStart => exact ⟨0, 21, [], _, [], Nat.zero_le _, rfl, rfl, rfl, HMb0.out, OGr.nil _ _ _ _, rfl, by simp, by omega, by simp, HB.out.trans (ext_a1 _ _)⟩
  case round =>
    obtain ⟨k, at_, acc, v, vs, hk, rfl, rfl, hlev, hmb, hog, hal, hrows, hat, hw5, hx⟩ := hrel
    obtain ⟨ao, co, rfl⟩ := hog.own.slice
    have HLev := Lib.hid hlev; have HMb := Lib.hid hmb; have HOg := Lib.hid hog; have HAl := Lib.hid hal; have HRows := Lib.hid hrows; have HX := Lib.hid hx; have HW5 := Lib.hid hw5
    clear hlev hmb hog hal hrows hx hw5 HMb0
    go_wp2_with fail
    refine (refnumber_c s 20 1 20 1 _ rfl rfl (by omega) (by omega) (by decide)).mono ?_
    rw [H4.out]
    rintro e w6 ⟨rfl, hb6⟩
    have HB6 := Lib.hid hb6; clear hb6
    by_cases hin : k < a4 ∧ at_ < s.length
    · obtain ⟨hkl, hlt⟩ := hin
      · go_wp2_with fail
        refine (refnumber_c s at_ 1 at_ 1 _ rfl rfl (by omega) (by omega) (by decide)).mono ?_
        obtain ⟨a, ha⟩ : ∃ x, numV s at_ 1 = x := ⟨_, rfl⟩
        have ba : (a : Int) < 256 := by have := numV_lt s at_ 1; rw [ha] at this; exact Int.ofNat_lt.2 this
        have HA := Lib.hid ha
        rw [ha]; clear ha
        rintro e w7 ⟨rfl, hb7⟩
        have HB7 := Lib.hid (HB6.out.trans hb7); clear hb7 HB6
        go_wp2_with fail
        go_loopw [5, 8, 9] (fun p v8 i w' => ∃ (j at2 : Nat) (row : List Int), j ≤ a ∧ p = .int .i64 at2 ∧ i = .int .i64 j ∧ rlevG (a - j) s at2 row = rlevG a s (at_ + 1) [] ∧ Own w' w7.heap.size 3 1 v8 row.length (row.map (Value.int .i64)) ∧ row.length = j ∧ (∀ x ∈ row, okInt x) ∧ at2 ≤ 1000000020 ∧ Ext w7 w') (fun _ _ i _ => a - (intOf i).toNat)
        case atStart => exact ⟨0, at_ + 1, [], Nat.zero_le _, by go_num, rfl, rfl, Own.nil _ _ _ _, rfl, by simp, by omega, Ext.refl _⟩
        case round =>
          obtain ⟨j, at2, row, hj, rfl, rfl, hlev7, hown7, hrl, hok7, hat7, hx7⟩ := hrel
          obtain ⟨ai, ci, rfl⟩ := hown7.slice
          have HLev7 := Lib.hid hlev7; have HOwn7 := Lib.hid hown7; have HOk7 := Lib.hid hok7; have HX7 := Lib.hid hx7
          clear hlev7 hown7 hok7 hx7
          by_cases hjf : j < a ∧ at2 + 4 ≤ s.length
          · obtain ⟨hjl, hfit⟩ := hjf
            · clear HLev HMb HOg HRows HX HW5 HP H1 H2 H3 H4 B3 HB HAl HB7 HA b1 b2
              have hrow : row.length ≤ 255 := by omega
              have HRL := Lib.hid hrl; clear hrl
              go_wp2_with fail
              refine (refnumber_c s at2 4 at2 4 _ rfl rfl (by omega) (by omega) (by decide)).mono ?_
              obtain ⟨x, hxx⟩ : ∃ x, numV s at2 4 = x := ⟨_, rfl⟩
              have bx : (x : Int) < 4294967296 := by have := numV_lt s at2 4; rw [hxx] at this; exact Int.ofNat_lt.2 this
              have HXX := Lib.hid hxx
              rw [hxx]; clear hxx
              rintro e w8 ⟨rfl, hb8⟩
              have HX8 := Lib.hid (HX7.out.trans hb8)
              have HOwnA := Lib.hid ((HOwn7.out.ext hb8).ext (ext_a1 _ (.cells #[.int .i64 x] 3)))
              have hs8 := HX8.out.size
              have hat8 : (at2 : Int) + 4 ≤ 1000000000 := by omega
              have HFit := Lib.hid hfit; have HAt7 := Lib.hid hat7; have HAt := Lib.hid hat; have HL := Lib.hid hl; have HJL := Lib.hid hjl; have HS8' := Lib.hid hs8
              clear hb8 HX7 HOwn7 hfit hat7 hat hl hlt hkl hk
              go_wp2_with (at_builtin; refine wpList_append_any rfl _ _ 30 rfl w7.heap.size 3 _ 1 8 Try.underlying30 Try.infoInt rfl (by decide) _ _ _ rfl HOwnA.out _ _ _ [.int .i64 x] rfl rfl (fun h => by cases h) (Rd.lit _ _ _) (by intro u hu; rw [List.mem_singleton.1 hu]; rfl) (by omega) (by omega) (Nat.le_trans hs8 (ext_a1 _ _).size) ?_; intro v' w9 hown9 hg9 _)
              have hx9 := below_own (HX8.out.trans (ext_a1 _ _)) HOwnA.out hg9 (Nat.le_trans hs8 (ext_a1 _ _).size)
              have hown9' : Own w9 w7.heap.size 3 1 v' (row ++ [(x : Int)]).length ((row ++ [(x : Int)]).map (Value.int .i64)) := by rw [List.length_append, List.map_append]; exact hown9
              have HX9 := Lib.hid hx9; have HOwn9 := Lib.hid hown9'
              clear hx9 hown9' hown9 hg9 hs8
              go_wp2_with fail
              go_roundw
              case rel =>
                refine ⟨j + 1, at2 + 4, row ++ [(x : Int)], by omega, by (have := HFit.out; have := HL.out; go_num), by go_num, ?_, HOwn9.out, by have := HRL.out; simp; omega, ?_, by have := HFit.out; have := HL.out; omega, HX9.out⟩
                · rw [← HLev7.out]
                  have e : a - j = (a - (j + 1)) + 1 := by omega
                  rw [e, rlevG, if_pos HFit.out, HXX.out]
                · intro y hy
                  rw [List.mem_append, List.mem_singleton] at hy
                  rcases hy with hy | rfl
                  · exact HOk7.out y hy
                  · exact ⟨by omega, bx⟩
              case measure => simp [intOf]; omega
          · have HD : Hid (rlevG a s (at_ + 1) [] = (row, at2)) := Lib.hid (by
              rw [← HLev7.out]
              by_cases hja : j < a
              · have e : a - j = (a - (j + 1)) + 1 := by omega
                rw [e, rlevG, if_neg (by omega)]
              · have e : a - j = 0 := by omega
                rw [e]; rfl)
            have hra : row.length ≤ 255 := by omega
            have HRL := Lib.hid hrl
            have HXX := Lib.hid (HB7.out.trans HX7.out)
            have HMb7 := Lib.hid (HMb.out.same (HXX.out.block _ HMb.out.lt))
            have m1 := HMb7.out.cs
            obtain ⟨_, _, _, m3, _⟩ := m1
            have hout := (HOg.out.ext HXX.out).ext (ext_a1 _ (.cells #[.slice ai row.length ci] 30))
            have HOut := Lib.hid hout; clear hout
            have hk255 : acc.length ≤ 255 := by have := HAl.out; omega
            have hbz : w3.heap.size + 1 ≤ wr.heap.size := by have := HW5.out; have := HXX.out.size; omega
            have HAt := Lib.hid hat; have HAt7 := Lib.hid hat7; have HLt := Lib.hid hlt; have HKl := Lib.hid hkl; have HL := Lib.hid hl; have HK := Lib.hid hk
            have hcases : (j < a ∧ s.length < at2 + 4) ∨ ¬ j < a := by omega
            clear hrl HLev7 H1 H2 H3 H4 HB b1 b2 hat hat7 hjf hlt
            have hcases2 : (j < a ∧ decide ((at2 : Int) + 4 ≤ (s.length : Int)) = false) ∨ ¬ j < a := by
              rcases hcases with ⟨h1, h2⟩ | h
              · exact .inl ⟨h1, by rw [decide_eq_false_iff_not]; omega⟩
              · exact .inr h
            have hat8 : (at2 : Int) + 4 ≤ 1000000100 := by have := HAt7.out; omega
            clear hcases
            rcases hcases2 with ⟨hja, hft⟩ | hja
            all_goals
              go_wp2_with (at_builtin; refine wpList_append_any rfl _ _ 64 rfl (w3.heap.size + 1) 30 _ 1 24 Try.underlying64 Try.infoInts rfl (by decide) _ _ _ rfl HOut.out.own _ _ _ [.slice ai row.length ci] rfl rfl (fun h => by cases h) (Rd.lit _ _ _) (by intro u hu; rw [List.mem_singleton.1 hu]; rfl) (by omega) (by omega) (by simp; omega) ?_; intro v' w8 hown' hg _; obtain ⟨ap, cp, rfl⟩ := hown'.slice; have HMb8 := Lib.hid ((HMb7.out.same ((ext_a1 _ _).block _ HMb7.out.lt)).same (hg.block _ (by have := HMb7.out.lt; simp; omega) (by intro e; have := (HOut.out.own.lt _ e.symm).1; omega))); have ⟨_, _, _, m4, m5⟩ := HMb8.out.cs)
              have hb8 := below_own ((HX.out.trans HXX.out).alloc (.cells #[.slice ai row.length ci] 30)) (HOut.out.own.base (by have := HB'.out.size; simp at this ⊢; omega)) hg (Nat.le_trans (HX.out.trans HXX.out).size (ext_a1 _ _).size)
              have hgr := HOut.out.push (l := row) (by decide) (HOwn7.out.ext ((Ext.refl _).alloc _)) (show w3.heap.size + 1 ≤ w7.heap.size by have := HW5.out; have := HB7.out.size; omega) (fun j g hh => Nat.lt_of_lt_of_le (HOg.out.lt j g hh) HB7.out.size) hown' hg
              have HB8 := Lib.hid (Below.setCell hb8 (p := ⟨w3.heap.size, 3, none⟩) (by have := HB'.out.size; simp at this ⊢; omega) (.slice ap (acc.length + 1) cp)); have HGr := Lib.hid hgr
              have hs8 := hg.size
              have HS8 : Hid (w3.heap.size + 1 ≤ w8.heap.size) := Lib.hid (by simp at hs8; omega)
              clear hb8 hgr hown' hg hs8
              go_wp2_with fail
              go_roundw
              case rel =>
                refine ⟨k + 1, at2, acc ++ [row], .slice ap (acc.length + 1) cp, vs ++ [.slice ai row.length ci], by have := HKl.out; omega, rfl, by go_num, ?_, HMb8.out.set _, HGr.out.setBelow (by omega) _ _, by rw [List.length_append, HAl.out]; rfl, ?_, by have := HAt7.out; omega, Nat.le_trans HS8.out (Off.set (g := w3.heap.size) w8 3 _).size, HB8.out⟩
                · rw [← HLev.out]
                  have e : a4 - k = (a4 - (k + 1)) + 1 := by have := HKl.out; omega
                  rw [e, rlevsG, if_pos HLt.out, HA.out, HD.out]
                · intro r hr
                  rw [List.mem_append, List.mem_singleton] at hr
                  rcases hr with hr | rfl
                  · exact HRows.out r hr
                  · exact ⟨by omega, HOk7.out⟩
              case measure => have := HKl.out; simp [intOf]; omega
    · have HE : Hid (rparseG s = ⟨a1, a2, a3, acc⟩) := Lib.hid (by
        rw [HP.out, ← HLev.out]
        by_cases hka : k < a4
        · have e : a4 - k = (a4 - (k + 1)) + 1 := by omega
          rw [e, rlevsG, if_neg (by omega)]
        · have e : a4 - k = 0 := by omega
          rw [e]; rfl)
      have HX6 := Lib.hid (HX.out.trans HB6.out)
      obtain ⟨m0, m1, m2, m3, _⟩ := (HMb.out.same (HB6.out.block _ HMb.out.lt)).cs
      obtain ⟨ao', co', he, hgr⟩ := (HOg.out.ext HB6.out).grid
      cases he
      have hsum : acc.flatten.length ≤ 17592186044416 := by have := flatten_le 255 acc fun r hr => (HRows.out r hr).1; have := HAl.out; omega
      have HGr := Lib.hid hgr; have HSum := Lib.hid hsum
      have hcases : (k < a4 ∧ s.length ≤ at_) ∨ ¬ k < a4 := by omega
      clear hgr hsum HLev HAl H1 H2 H3 H4 hin
      have hcases2 : (k < a4 ∧ decide (at_ < s.length) = false) ∨ ¬ k < a4 := by
        rcases hcases with ⟨h1, h2⟩ | h
        · exact .inl ⟨h1, by rw [decide_eq_false_iff_not]; omega⟩
        · exact .inr h
      clear hcases
      rcases hcases2 with ⟨hka, hft⟩ | hka
      all_goals
        go_wp2_with fail
        refine (refmput_c a1 a2 a3 _ _ _ acc _ HGr.out HSum.out (by omega) B3.out).mono ?_
        obtain ⟨P, hP⟩ : ∃ P, mputS a1 a2 a3 acc = P := ⟨_, rfl⟩
        have HPP := Lib.hid hP
        rw [hP]; clear hP
        rintro e w9 ⟨rfl, hb9⟩
        have HX9 := Lib.hid (HX6.out.trans hb9)
        have HB9 := Lib.hid (HB6.out.trans hb9)
        have n0 := cell_ext hb9 m0; have n1 := cell_ext hb9 m1; have n2 := cell_ext hb9 m2; have n3 := cell_ext hb9 m3
        obtain ⟨d0, d1, d2, d3⟩ := box4 HX9.out
        obtain ⟨z0, z1, z2, z3⟩ := box4z HX9.out
        clear hb9 m0 m1 m2 m3
        obtain ⟨P1, P2⟩ := P
        by_cases hps : P1 = s ∧ P2 = 0
        · obtain ⟨hps1, hps2⟩ := hps
          subst hps1 hps2
          have HS : Hid (rgetS P1 = ⟨a1, a2, a3, acc, 0⟩) := Lib.hid (by unfold rgetS; rw [HE.out]; rw [if_pos HPP.out])
          go_wp2_with fail
          ((try simp only [Exit.inBlock, Exit.then]); refine bodyPost_ret (v := .tuple #[.agg #[_, _, _, _], _]) (by rw [results_cell_tmp rfl]; go_simp; exact ⟨⟨rfl, rfl, rfl, rfl⟩, rfl⟩) rfl ?_)
          rw [HS.out]
          have hw : w.heap.size < w3.heap.size + 1 := by have := HB.out.size; simp at this; omega
          exact ⟨.slice ao acc.length co, vs, rfl, ((((HOg.out.ext HB9.out).setBelow hw _ _).setBelow hw _ _).setBelow hw _ _ |>.setBelow hw _ _).base (by omega), ext_set4 ((ext_a1 _ _).trans HX9.out) _ (Nat.le_refl _) _ _ _ _⟩
        · have HS : Hid (rgetS s = badM) := Lib.hid (by
            unfold rgetS; rw [HE.out, if_neg]
            show ¬ mputS a1 a2 a3 acc = (s, 0)
            rw [HPP.out]; intro e; cases e; exact hps ⟨rfl, rfl⟩)
          by_cases hp2 : P2 = 0
          · subst hp2
            have hps' : (P1 == s) = false := by simpa using hps
            clear hps
            go_wp2_with fail
            ((try simp only [Exit.inBlock, Exit.then]); refine bodyPost_ret (v := .tuple #[.agg #[_, _, _, _], _]) (by rw [results_cell_tmp rfl]; go_simp; exact ⟨⟨rfl, rfl, rfl, rfl⟩, rfl⟩) rfl ?_)
            exact RetM.bad' ((ext_a1 _ _).trans HX9.out) _ (Nat.le_refl _) s HS.out _ _ _ _
          · have hp2' : (P2 == 0) = false := by simpa using hp2
            clear hps
            go_wp2_with fail
            ((try simp only [Exit.inBlock, Exit.then]); refine bodyPost_ret (v := .tuple #[.agg #[_, _, _, _], _]) (by rw [results_cell_tmp rfl]; go_simp; exact ⟨⟨rfl, rfl, rfl, rfl⟩, rfl⟩) rfl ?_)
            exact RetM.bad' ((ext_a1 _ _).trans HX9.out) _ (Nat.le_refl _) s HS.out _ _ _ _

end Go.Proofs.Ytoibjhoebjcfeaa
