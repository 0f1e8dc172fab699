/- Walks: the document's five levels, and trimmed ones. -/
import Derived.Test.YtkkafjknogfdnaaChecked
import Derived.Test.YtkkafjknogfdnaaLC
import Derived.Test.YtkkafjknogfdnaaLS
import Derived.WalkSpells
namespace Go.Proofs.Ytkkafjknogfdnaa
open Go.RowKit

theorem OGr.made {w : World} {B : Nat} {tO tI : TypeId} {v : Value} (h : Own w B tO 1 v 5 (List.replicate 5 (.slice none 0 0))) : OGr w B tO tI v (List.replicate 5 (.slice none 0 0)) (List.replicate 5 []) := by
  have e : ∀ {α : Type} (d : α) (n i : Nat), (List.replicate n d).getD i d = d := by
    intro α d n i
    simp only [List.getD_eq_getElem?_getD, List.getElem?_replicate]
    split <;> rfl
  refine ⟨h, fun i => ?_, fun i j g _ hg => ?_⟩
  · rw [e, e]; exact Own.nil _ _ _ _
  · rw [e] at hg; cases hg

set_option maxRecDepth 100000 in
set_option maxHeartbeats 1600000 in
theorem wide_c (ao : Option Addr) (n cap : Nat) (L : List (List Int)) (w : World) (hx : Grid w ao n cap L) (hs : ∀ i, (L.getD i []).length ≤ 17592186044416) (hn : n ≤ 5) :
    Calls Try.prog 54 #[.slice ao n cap] w (RetG 25 3 w (wideL L)) := by
  have Hx := Lib.hid hx
  have b1 := hx.fits; have b2 := hx.bound
  clear hx
  obtain ⟨i, hi, hz, hsize, hby⟩ := info_parts Try.infoInts
  go_enter Try.func54, Try.ntmps54
  go_wp2_with (at_make; refine wpList_make_full _ rfl _ _ 22 rfl w.heap.size 25 i (.slice none 0 0) 1 Try.underlying22 hi hz hsize .i64 .i64 5 5 5 rfl rfl rfl rfl (by rw [hby]; omega) (by unfold maxLen; omega) (Nat.le_refl _) ?_; intro w1 hown hg)
  clear hi hz hsize hby
  have h0 : OGr w1 w.heap.size 25 3 (.slice (some ⟨w.heap.size, 0, none⟩) 5 5) (List.replicate 5 (.slice none 0 0)) (wideL (L.take 0)) := by
    have := Own.of_row hown
    have e : (madeCells (Value.cells (.slice none 0 0)) (5 * 1)).toList = List.replicate 5 (.slice none 0 0) := toList_madeCells_one _ _
    rw [e] at this
    exact OGr.made this
  have H0 := Lib.hid h0
  have hb0 : Ext w w1 := (Ext.refl w).grown hg (Nat.le_refl _) (fun k hk => by cases hk)
  have HB0 := Lib.hid hb0
  clear h0 hown hg hb0
  go_wp2_with fail
  go_loopw [4] (fun i w' => ∃ k : Nat, k ≤ n ∧ i = .int .i64 k ∧ (∃ vs, OGr w' w.heap.size 25 3 (.slice (some ⟨w.heap.size, 0, none⟩) 5 5) vs (wideL (L.take k))) ∧ Ext w w') (fun i _ => n - (intOf i).toNat)
  case atStart => exact ⟨0, Nat.zero_le _, rfl, ⟨_, H0.out⟩, HB0.out⟩
  case round =>
    clear H0 HB0
    obtain ⟨k, hk, rfl, ⟨vs, hown⟩, hb⟩ := hrel
    have Hb := Lib.hid hb; clear hb
    have Hown := Lib.hid hown; clear hown
    by_cases hlt : k < n
    · obtain ⟨b, off, ai, ni, ci, rfl, c1, r1⟩ := (Hx.out.ext Hb.out).at hlt
      have hkl : k < L.length := by rw [Hx.out.len]; exact hlt
      have hwl : (wideL (L.take k)).length = 5 := wideL_length _ (by simp; omega)
      have hni : ni ≤ 17592186044416 := by have := r1.len; have := hs k; omega
      have hws := wideL_succ L k hkl (by have := Hx.out.len; omega)
      generalize L.getD k [] = R at *
      have R1 := Lib.hid r1; clear r1
      have HWS := Lib.hid hws; clear hws
      have HWL := Lib.hid hwl; clear hwl
      go_wp2_with (at_builtin; refine wpList_append_any rfl _ _ 25 rfl w.heap.size 3 _ 1 8 Try.underlying25 Try.infoInt rfl (by decide) _ _ _ rfl (Own.nil _ _ _ _) _ _ _ (R.map (Value.int .i64)) rfl (by rw [List.length_map, R1.out.len]; omega) R1.out.nil R1.out.rd (ints_oneCell _ _) (by omega) (by omega) Hb.out.size ?_; intro v' w2 hown' hg hfr; simp only [Nat.zero_add, List.nil_append] at hown'; obtain ⟨a', c', e2⟩ := hown'.slice; subst e2; obtain ⟨g, e1, d0, d1, d2, d3⟩ := Hown.out.cell (i := k) (by decide) (by rw [HWL.out]; omega) hg (.inl rfl); cases e1)
      have hput := Hown.out.put (i := k) (by decide) rfl (by rw [HWL.out]; omega) (l := R) (by have := hown'; rw [R1.out.len]; simpa using this) hg (.inl rfl) hfr
      have hb2 := (below_own Hb.out (Own.nil _ w.heap.size 3 1) hg Hb.out.size).setCell (p := ⟨w.heap.size, k, none⟩) (Nat.le_refl _) (.slice a' ni c')
      rw [HWS.out] at hput
      have HP := Lib.hid hput
      have HB2 := Lib.hid hb2
      clear hput hb2 hown' hg hfr
      go_wp2_with fail
      go_roundw
      case rel => exact ⟨k + 1, by omega, by go_num, ⟨_, HP.out⟩, HB2.out⟩
      case measure => simp [intOf]; omega
    · have hk2 : L.take k = L := List.take_of_length_le (by have := Hx.out.len; omega)
      have HK := Lib.hid hk2; clear hk2
      go_wp2_with fail
      go_ret
      exact ⟨_, _, rfl, by have := Hown.out; rw [HK.out] at this; exact this, Hb.out⟩

set_option maxRecDepth 100000 in
set_option maxHeartbeats 800000 in
theorem reftrim_c (ao : Option Addr) (n cap : Nat) (L : List (List Int)) (w : World) (hx : Grid w ao n cap L) :
    Calls Try.prog 55 #[.slice ao n cap] w fun e w' => e = .returned (.slice ao (trimN L n) cap) ∧ Ext w w' := by
  have Hx := Lib.hid hx
  have b1 := hx.fits; have b2 := hx.bound
  clear hx
  go_enter Try.func55, Try.ntmps55
  go_wp2_with fail
  go_loopw [3] (fun i w' => ∃ m : Nat, m ≤ n ∧ i = .int .i64 m ∧ trimN L m = trimN L n ∧ Ext w w') (fun i _ => (intOf i).toNat)
  case atStart => exact ⟨n, Nat.le_refl _, rfl, rfl, Ext.refl _⟩
  case round =>
    obtain ⟨m, hm, rfl, htn, hb⟩ := hrel
    have HTN := Lib.hid htn; clear htn
    have Hb := Lib.hid hb; clear hb
    cases m with
    | zero =>
      have ht : trimN L n = 0 := HTN.out.symm
      have HT := Lib.hid ht; clear ht
      go_wp2_with fail
      go_ret
      exact ⟨by rw [HT.out]; rfl, Hb.out⟩
    | succ m =>
      obtain ⟨b, off, ai, ni, ci, rfl, c1, r1⟩ := (Hx.out.ext Hb.out).at (show m < n by omega)
      have hR := r1.len
      have g1 := r1.fits; have g2 := r1.bound
      have HR := Lib.hid hR
      clear r1 hR
      by_cases h0 : ni = 0
      · have he : L.getD m [] = [] := List.eq_nil_of_length_eq_zero (by have := HR.out; omega)
        have HE := Lib.hid he; clear he
        subst h0
        go_wp2_with fail
        go_roundw
        case rel => exact ⟨m, by omega, by go_num, by rw [← trimN_empty L m HE.out]; exact HTN.out, Hb.out⟩
        case measure => simp [intOf]
      · have hne : L.getD m [] ≠ [] := by intro h; have := HR.out; rw [h] at this; simp at this; omega
        have hz : ((ni : Int) == 0) = false := by simpa using h0
        have hT : trimN L n = m + 1 := by rw [← HTN.out]; exact trimN_stop L m hne
        have HNE := Lib.hid hne; clear hne h0
        have HT := Lib.hid hT; clear hT
        go_wp2_with fail
        go_ret
        exact ⟨by rw [HT.out]; rfl, Hb.out⟩

end Go.Proofs.Ytkkafjknogfdnaa
