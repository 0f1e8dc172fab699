/- Plain laws: what adding and replacing make of all tables. -/
import Derived.Test.YtoibjhoebjcfeaaLS
namespace Go.Proofs.Ytoibjhoebjcfeaa

theorem flat_set (L : List (List Int)) : ∀ (i : Nat) (r : List Int), i < L.length → ((L.set i r).flatten ++ L.getD i []).Perm (L.flatten ++ r) := by
  induction L with
  | nil => intro i r h; simp at h
  | cons a T ih =>
    intro i r h
    cases i with
    | zero =>
      rw [List.perm_iff_count]
      intro x
      simp only [List.set_cons_zero, List.flatten_cons, List.getD_cons_zero, List.count_append]
      omega
    | succ i =>
      have := ih i r (by simpa using h)
      rw [List.perm_iff_count] at this ⊢
      intro x
      have := this x
      simp only [List.set_cons_succ, List.flatten_cons, List.getD_cons_succ, List.count_append] at this ⊢
      omega

theorem flatten_pad (L : List (List Int)) (k : Nat) : (L ++ List.replicate k []).flatten = L.flatten := by simp

theorem flatten_congr (L M : List (List Int)) (hle : L.length ≤ M.length) (h : ∀ i, L.getD i [] = M.getD i []) : L.flatten = M.flatten := by
  rw [← flatten_pad L (M.length - L.length)]
  congr 1
  refine ext_getD _ _ [] (by simp; omega) fun i hi => ?_
  rw [← h i]
  simp only [List.getD_eq_getElem?_getD, List.getElem?_append]
  split
  · rfl
  · rw [← List.getD_eq_getElem?_getD, List.getElem?_eq_none (l := L) (by omega)]
    simp only [List.getD_eq_getElem?_getD, List.getElem?_replicate]
    split <;> rfl

theorem trimL_flatten (L : List (List Int)) : (trimL L).flatten = L.flatten :=
  flatten_congr _ _ (by have := trimN_le L L.length; rw [trimL_length]; omega) (trimL_getD L)

theorem wideL_flatten (L : List (List Int)) : (wideL L).flatten = L.flatten := flatten_pad _ _

theorem perm_cancel_right {a b c : List Int} (h : (a ++ c).Perm (b ++ c)) : a.Perm b := by
  rw [List.perm_iff_count] at h ⊢
  intro x
  have := h x
  simp only [List.count_append] at this
  omega

theorem addL_perm (L : List (List Int)) (x : Int) (h : L.length ≤ 5) : (addL L x).flatten.Perm (L.flatten ++ [x]) := by
  rw [← addL_ref L x h, trimL_flatten]
  have hw := wideL_length L h
  have h1 := flat_set (wideL L) 0 ((wideL L).getD 0 [] ++ [x]) (by omega)
  rw [wideL_flatten] at h1
  refine perm_cancel_right (h1.trans ?_)
  rw [List.perm_iff_count]
  intro y
  simp only [List.count_append]
  omega

theorem repL_perm (L : List (List Int)) (k : Nat) (x : Int) (h : L.length ≤ 5) (hk : k < 5) : ((repL L k x).flatten ++ L.getD k []).Perm (L.flatten ++ [x]) := by
  unfold repL
  rw [trimL_flatten]
  have hw := wideL_length L h
  have h1 := flat_set (wideL L) k [] (by omega)
  rw [wideL_flatten, wideL_getD] at h1
  have h2 := flat_set ((wideL L).set k []) (min (k + 1) 4) (((wideL L).set k []).getD (min (k + 1) 4) [] ++ [x]) (by simp; omega)
  rw [List.perm_iff_count] at h1 h2 ⊢
  intro y
  have := h1 y; have := h2 y
  simp only [List.count_append, List.count_nil] at *
  omega

/-- what levels are that grow: they may be; all tables have numbers below i -/
def GrowI (L : List (List Int)) (i : Nat) : Prop := validB L = true ∧ ∀ x ∈ L.flatten, 0 ≤ x ∧ x < i

theorem validB_parts {L : List (List Int)} (h : validB L = true) : L.length ≤ 5 ∧ L.flatten.length ≤ 40 ∧ (∀ x ∈ L.flatten, 0 ≤ x) ∧ L.flatten.Nodup := by
  unfold validB at h; exact of_decide_eq_true h

theorem GrowI.nil : GrowI [] 0 := ⟨by decide, by simp⟩
theorem GrowI.le {L : List (List Int)} {i : Nat} (h : GrowI L i) : GrowI L (i + 1) := ⟨h.1, fun x hx => by have := h.2 x hx; omega⟩
theorem GrowI.notMem {L : List (List Int)} {i : Nat} (h : GrowI L i) : (i : Int) ∉ L.flatten := fun hx => by have := h.2 _ hx; omega

theorem addL_length (L : List (List Int)) (x : Int) (h : L.length ≤ 5) : (addL L x).length ≤ 5 := by
  rw [← addL_ref L x h, trimL_length]
  have h1 := trimN_le ((wideL L).set 0 ((wideL L).getD 0 [] ++ [x])) ((wideL L).set 0 ((wideL L).getD 0 [] ++ [x])).length
  have h2 := wideL_length L h
  simp only [List.length_set] at h1 ⊢
  omega

theorem repL_length (L : List (List Int)) (k : Nat) (x : Int) (h : L.length ≤ 5) : (repL L k x).length ≤ 5 := by
  unfold repL
  rw [trimL_length]
  have h2 := wideL_length L h
  refine Nat.le_trans (trimN_le _ _) ?_
  simp only [List.length_set]
  omega

theorem GrowI.add {L : List (List Int)} {i : Nat} (h : GrowI L i) (h40 : L.flatten.length < 40) : GrowI (addL L i) (i + 1) ∧ (addL L i).flatten.length = L.flatten.length + 1 := by
  obtain ⟨h1, h2, h3, h4⟩ := validB_parts h.1
  have hp := addL_perm L i h1
  have hl := hp.length_eq
  simp only [List.length_append, List.length_cons, List.length_nil] at hl
  refine ⟨⟨validB_ok _ (addL_length L i h1) (by omega) ?_ ?_, ?_⟩, hl⟩
  · intro x hx
    rcases List.mem_append.1 (hp.mem_iff.1 hx) with hx | hx
    · exact h3 x hx
    · rw [List.mem_singleton.1 hx]; omega
  · rw [hp.nodup_iff, List.nodup_append]
    refine ⟨h4, by simp, fun a ha b hb => ?_⟩
    rw [List.mem_singleton.1 hb]
    intro e; exact h.notMem (e ▸ ha)
  · intro x hx
    rcases List.mem_append.1 (hp.mem_iff.1 hx) with hx | hx
    · have := h.2 x hx; omega
    · rw [List.mem_singleton.1 hx]; omega

theorem GrowI.rep {L : List (List Int)} {i k : Nat} (h : GrowI L i) (hk : k < 5) (hne : L.getD k [] ≠ []) :
    GrowI (repL L k i) (i + 1) ∧ (repL L k i).flatten.length + (L.getD k []).length = L.flatten.length + 1 := by
  obtain ⟨h1, h2, h3, h4⟩ := validB_parts h.1
  have hp := repL_perm L k i h1 hk
  have hl := hp.length_eq
  simp only [List.length_append, List.length_cons, List.length_nil] at hl
  have hpos := List.length_pos_iff.2 hne
  have hall : (L.flatten ++ [(i : Int)]).Nodup := by
    rw [List.nodup_append]
    refine ⟨h4, by simp, fun a ha b hb => ?_⟩
    rw [List.mem_singleton.1 hb]
    intro e; exact h.notMem (e ▸ ha)
  have hnd := (hp.nodup_iff.2 hall)
  have hmem : ∀ x ∈ (repL L k i).flatten, x ∈ L.flatten ∨ x = i := by
    intro x hx
    rcases List.mem_append.1 (hp.mem_iff.1 (List.mem_append.2 (.inl hx))) with hx | hx
    · exact .inl hx
    · exact .inr (List.mem_singleton.1 hx)
  refine ⟨⟨validB_ok _ (repL_length L k i h1) (by omega) ?_ (List.nodup_append.1 hnd).1, ?_⟩, hl⟩
  · intro x hx
    rcases hmem x hx with hx | hx
    · exact h3 x hx
    · omega
  · intro x hx
    rcases hmem x hx with hx | hx
    · have := h.2 x hx; omega
    · omega

theorem GrowI.addS {L : List (List Int)} {i : Nat} (h : GrowI L i) : addS L i = if 40 ≤ L.flatten.length then ([], 60) else (addL L i, 0) := by
  have : ¬ (validB L = false ∨ (i : Int) < 0 ∨ (i : Int) ∈ L.flatten) := by
    rintro (h1 | h1 | h1)
    · rw [h.1] at h1; cases h1
    · omega
    · exact h.notMem h1
  unfold Go.Proofs.Ytoibjhoebjcfeaa.addS
  rw [if_neg this]

theorem GrowI.pickS {L : List (List Int)} {i k : Nat} (h : GrowI L i) (hk : k < 5) : pickS L k = if L.getD k [] = [] then ([], 4) else (L.getD k [], 0) := by
  have : ¬ (validB L = false ∨ (k : Int) < 0 ∨ 5 ≤ (k : Int)) := by
    rintro (h1 | h1 | h1)
    · rw [h.1] at h1; cases h1
    · omega
    · omega
  unfold Go.Proofs.Ytoibjhoebjcfeaa.pickS
  rw [if_neg this, Int.toNat_natCast]

theorem GrowI.replaceS {L : List (List Int)} {i k : Nat} (h : GrowI L i) (hk : k < 5) : replaceS L k i = if L.getD k [] = [] then ([], 4) else (repL L k i, 0) := by
  have h2 : ¬ ((i : Int) < 0 ∨ (i : Int) ∈ L.flatten) := by
    rintro (h1 | h1)
    · omega
    · exact h.notMem h1
  unfold Go.Proofs.Ytoibjhoebjcfeaa.replaceS
  rw [h.pickS hk]
  by_cases he : L.getD k [] = []
  · rw [if_pos he, if_pos he, if_pos (by decide)]
  · rw [if_neg he, if_neg he, if_neg (by simp), if_neg h2, Int.toNat_natCast]

theorem GrowI.wf {L : List (List Int)} {i : Nat} (h : GrowI L i) (hi : i ≤ 1000000) : ∀ x ∈ L.flatten, (Lit.int .i64 x).wf = true := by
  intro x hx
  have := h.2 x hx
  exact WalkArith.wf_i64 (by omega)

end Go.Proofs.Ytoibjhoebjcfeaa
