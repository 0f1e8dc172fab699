/- Walks: the document's way to add; what is picked. Walks: one table in the place of a level's. Walks: a table is put behind those of the level 0. Walks: the chapter's levels. Walks: the document's way to put one table in the place of a level's. Walks: whatever levels there are, what is told of them is the document's. -/
import Derived.Test.YtjllhjlmjbpinaaChecked
import Derived.Test.YtjllhjlmjbpinaaG18PIndexmapCrash
import Derived.Test.YtjllhjlmjbpinaaG15PIndexmapCrash
import Derived.Test.YtjllhjlmjbpinaaG14PIndexmapCrash
import Derived.Test.YtjllhjlmjbpinaaG2PIndexmapCrash
set_option linter.unusedVariables false
set_option linter.unusedSimpArgs false
namespace Go.Proofs.Ytjllhjlmjbpinaa
open Go.RowKit

end Go.Proofs.Ytjllhjlmjbpinaa
namespace Go.Proofs.Ytjllhjlmjbpinaa
open Go.RowKit

/-- the grid's cell is known and may be written -/
theorem OGr.cell0 {w : World} {B : Nat} {tO tI : TypeId} {vs : List Value} {L : List (List Int)} {i n cap : Nat} {ao : Option Addr} (h : OGr w B tO tI (.slice ao n cap) vs L) (hne : tO ≠ tI) (hi : i < L.length) :
    ∃ g, ao = some ⟨g, 0, none⟩ ∧ w.cell? ⟨g, i, none⟩ = some (vs.getD i (.slice none 0 0)) ∧ w.frozen? ⟨g, i, none⟩ = false ∧ B ≤ g := by
  obtain ⟨g, h1, h2, _, h3, h4⟩ := h.cell hne hi (World.grownBy.refl w none) (.inl rfl)
  exact ⟨g, h1, h2, h3, h4⟩

theorem OGr.addr {w : World} {B : Nat} {tO tI : TypeId} {v : Value} {vs : List Value} {L : List (List Int)} (h : OGr w B tO tI v vs L) (hi : 0 < L.length) : ∃ G c, v = .slice (some ⟨G, 0, none⟩) L.length c := by
  obtain ⟨a, c, rfl⟩ := h.own.slice
  obtain ⟨g, _, _, rfl, _⟩ := h.head hi
  exact ⟨g, c, rfl⟩

/-- a row is struck -/
theorem OGr.strike {w : World} {B : Nat} {tO tI : TypeId} {vs : List Value} {L : List (List Int)} {i g n cap : Nat} (h : OGr w B tO tI (.slice (some ⟨g, 0, none⟩) n cap) vs L) (hne : tO ≠ tI) (hi : i < L.length) :
    OGr (w.setCell ⟨g, i, none⟩ (.slice none 0 0)) B tO tI (.slice (some ⟨g, 0, none⟩) n cap) (vs.set i (.slice none 0 0)) (L.set i []) :=
  h.put (l := []) hne rfl hi (Own.nil _ _ _ _) (World.grownBy.refl w none) (.inl rfl) (.inl rfl)

end Go.Proofs.Ytjllhjlmjbpinaa
namespace Go.Proofs.Ytjllhjlmjbpinaa
open Go.RowKit

end Go.Proofs.Ytjllhjlmjbpinaa
namespace Go.Proofs.Ytjllhjlmjbpinaa
open Go.RowKit

theorem nowf : ∀ x ∈ ([] : List (List Int)).flatten, (Lit.int .i64 x).wf = true := by simp

end Go.Proofs.Ytjllhjlmjbpinaa
namespace Go.Proofs.Ytjllhjlmjbpinaa
open Go.RowKit

end Go.Proofs.Ytjllhjlmjbpinaa
namespace Go.Proofs.Ytjllhjlmjbpinaa
open Go.RowKit

theorem great_len (L : List (List Int)) (h : greatB L = false) : L.length ≤ 10 ∧ (∀ i, (L.getD i []).length ≤ 60) ∧ L.flatten.length ≤ 600 := by
  unfold greatB at h
  rw [Bool.or_eq_false_iff] at h
  have h1 : L.length ≤ 10 := by have := of_decide_eq_false h.2; omega
  have h2 : ∀ r ∈ L, r.length ≤ 60 := by
    intro r hr
    have := h.1
    rw [List.any_eq_false] at this
    have := this r hr
    simpa using this
  refine ⟨h1, fun i => ?_, ?_⟩
  · rcases Nat.lt_or_ge i L.length with hi | hi
    · rw [List.getD_eq_getElem?_getD, List.getElem?_eq_getElem hi]; exact h2 _ (List.getElem_mem hi)
    · rw [getD_ge _ _ _ hi]; simp
  · have : ∀ M : List (List Int), (∀ r ∈ M, r.length ≤ 60) → M.flatten.length ≤ 60 * M.length := by
      intro M
      induction M with
      | nil => intro _; simp
      | cons r M ih =>
        intro h
        have a1 := h r (by simp)
        have a2 := ih fun r hr => h r (by simp [hr])
        rw [List.flatten_cons, List.length_append, List.length_cons]
        omega
    have := this L h2
    omega

theorem replicate_getD {α : Type} (d : α) (n i : Nat) : (List.replicate n d).getD i d = d := by
  simp only [List.getD_eq_getElem?_getD, List.getElem?_replicate]
  split <;> rfl

/-- n rows just made -/
theorem OGr.made' {w : World} {B : Nat} {tO tI : TypeId} {v : Value} {n : Nat} (h : Own w B tO 1 v n (List.replicate n (.slice none 0 0))) : OGr w B tO tI v (List.replicate n (.slice none 0 0)) (List.replicate n []) := by
  refine ⟨by simpa using h, fun i => ?_, fun i j g _ hg => ?_⟩
  · rw [replicate_getD, replicate_getD]; exact Own.nil _ _ _ _
  · rw [replicate_getD] at hg; cases hg

/-- copies behind k rounds -/
def copyK (L : List (List Int)) (k : Nat) : List (List Int) := L.take k ++ List.replicate (L.length - k) []

theorem copyK_zero (L : List (List Int)) : copyK L 0 = List.replicate L.length [] := by simp [copyK]
theorem copyK_all (L : List (List Int)) : copyK L L.length = L := by simp [copyK]
theorem copyK_length (L : List (List Int)) (k : Nat) (h : k ≤ L.length) : (copyK L k).length = L.length := by simp [copyK]; omega
theorem copyK_succ (L : List (List Int)) (k : Nat) (h : k < L.length) : (copyK L k).set k (L.getD k []) = copyK L (k + 1) := by
  refine ext_getD _ _ [] (by rw [List.length_set, copyK_length _ _ (by omega), copyK_length _ _ (by omega)]) fun i hi => ?_
  have g : ∀ m, m ≤ L.length → (copyK L m).getD i [] = if i < m then L.getD i [] else [] := by
    intro m hm
    unfold copyK
    simp only [List.getD_eq_getElem?_getD, List.getElem?_append, List.length_take, Nat.min_eq_left hm, List.getElem?_take]
    split
    · rfl
    · rw [← List.getD_eq_getElem?_getD, replicate_getD]
  rw [getD_set _ _ _ _ _ (by rw [copyK_length _ _ (by omega)]; exact h), g k (by omega), g (k + 1) (by omega)]
  by_cases hik : i = k
  · subst hik; rw [if_pos rfl, if_pos (by omega)]
  · rw [if_neg hik]
    by_cases h2 : i < k
    · rw [if_pos h2, if_pos (by omega)]
    · rw [if_neg h2, if_neg (by omega)]

end Go.Proofs.Ytjllhjlmjbpinaa
