/- Walks: the document's five levels, and trimmed ones. Walks: clones, trimmed levels, five levels. -/
import Derived.Test.YtjllhjlmjbpinaaGreatDoorChecked
import Derived.Test.YtjllhjlmjbpinaaGreatDoorG13PIndexmapOrphans
import Derived.Test.YtjllhjlmjbpinaaGreatDoorG2PIndexmapOrphans
import Derived.WalkSpells
set_option linter.unusedVariables false
set_option linter.unusedSimpArgs false
namespace Go.Proofs.YtjllhjlmjbpinaaGreatDoor
open Go.RowKit

theorem OGr.made {w : World} {B : Nat} {tO tI : TypeId} {v : Value} (h : Own w B tO 1 v 5 (List.replicate 5 (.slice none 0 0))) : OGr w B tO tI v (List.replicate 5 (.slice none 0 0)) (List.replicate 5 []) := by
  have e : ∀ {α : Type} (d : α) (n i : Nat), (List.replicate n d).getD i d = d := by
    intro α d n i
    simp only [List.getD_eq_getElem?_getD, List.getElem?_replicate]
    split <;> rfl
  refine ⟨h, fun i => ?_, fun i j g _ hg => ?_⟩
  · rw [e, e]; exact Own.nil _ _ _ _
  · rw [e] at hg; cases hg

set_option maxRecDepth 100000 in
set_option maxHeartbeats 800000 in
theorem reftrim_c (ao : Option Addr) (n cap : Nat) (L : List (List Int)) (w : World) (hx : Grid w ao n cap L) :
    Calls Tryz.prog 40 #[.slice ao n cap] w fun e w' => e = .returned (.slice ao (trimN L n) cap) ∧ Ext w w' := by
  have Hx := Lib.hid hx
  have b1 := hx.fits; have b2 := hx.bound
  clear hx
  go_enter Tryz.func40, Tryz.ntmps40
  go_wp2_with fail
  go_loopw [3] (fun i w' => ∃ m : Nat, m ≤ n ∧ i = .int .i64 m ∧ trimN L m = trimN L n ∧ Ext w w') (fun i _ => (intOf i).toNat)
  case atStart => exact ⟨n, Nat.le_refl _, rfl, rfl, Ext.refl _⟩
  case round =>
    obtain ⟨m, hm, rfl, htn, hb⟩ := hrel
    have HTN := Lib.hid htn; clear htn
    have Hb := Lib.hid hb; clear hb
    cases m with
    | zero =>
      have ht : trimN L n = 0 := HTN.out.symm
      have HT := Lib.hid ht; clear ht
      go_wp2_with fail
      go_ret
      exact ⟨by rw [HT.out]; rfl, Hb.out⟩
    | succ m =>
      obtain ⟨b, off, ai, ni, ci, rfl, c1, r1⟩ := (Hx.out.ext Hb.out).at (show m < n by omega)
      have hR := r1.len
      have g1 := r1.fits; have g2 := r1.bound
      have HR := Lib.hid hR
      clear r1 hR
      by_cases h0 : ni = 0
      · have he : L.getD m [] = [] := List.eq_nil_of_length_eq_zero (by have := HR.out; omega)
        have HE := Lib.hid he; clear he
        subst h0
        go_wp2_with fail
        go_roundw
        case rel => exact ⟨m, by omega, by go_num, by rw [← trimN_empty L m HE.out]; exact HTN.out, Hb.out⟩
        case measure => simp [intOf]
      · have hne : L.getD m [] ≠ [] := by intro h; have := HR.out; rw [h] at this; simp at this; omega
        have hz : ((ni : Int) == 0) = false := by simpa using h0
        have hT : trimN L n = m + 1 := by rw [← HTN.out]; exact trimN_stop L m hne
        have HNE := Lib.hid hne; clear hne h0
        have HT := Lib.hid hT; clear hT
        go_wp2_with fail
        go_ret
        exact ⟨by rw [HT.out]; rfl, Hb.out⟩

end Go.Proofs.YtjllhjlmjbpinaaGreatDoor
namespace Go.Proofs.YtjllhjlmjbpinaaGreatDoor
open Go.RowKit

theorem Rd.none {w : World} {cs : List Value} (h : Rd w none cs) : cs = [] := by
  cases cs with
  | nil => rfl
  | cons y ys => obtain ⟨b, off, e, _⟩ := h 0 y rfl; cases e

end Go.Proofs.YtjllhjlmjbpinaaGreatDoor
