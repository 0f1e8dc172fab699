/- Plain laws on levels: no program here. -/
import Derived.Test.YtoibjhoebjcfeaaK
namespace Go.Proofs.Ytoibjhoebjcfeaa

/-- how many of the first n levels stay when empty ones at the end go -/
def trimN (L : List (List Int)) : Nat → Nat
  | 0 => 0
  | n + 1 => if L.getD n [] = [] then trimN L n else n + 1

/-- levels without empty ones at the end -/
def trimL (L : List (List Int)) : List (List Int) := L.take (trimN L L.length)

theorem trimN_le (L : List (List Int)) (n : Nat) : trimN L n ≤ n := by
  induction n with
  | zero => exact Nat.le_refl _
  | succ n ih => rw [trimN]; split <;> omega

theorem trimN_empty (L : List (List Int)) (n : Nat) (h : L.getD n [] = []) : trimN L (n + 1) = trimN L n := by rw [trimN, if_pos h]
theorem trimN_stop (L : List (List Int)) (n : Nat) (h : L.getD n [] ≠ []) : trimN L (n + 1) = n + 1 := by rw [trimN, if_neg h]

theorem trimN_congr (L M : List (List Int)) (n : Nat) (h : ∀ i, i < n → L.getD i [] = M.getD i []) : trimN L n = trimN M n := by
  induction n with
  | zero => rfl
  | succ n ih =>
    rw [trimN, trimN, h n (by omega), ih (fun i hi => h i (by omega))]

theorem getD_take_lt {α : Type} (L : List α) (d : α) (m i : Nat) (h : i < m) : (L.take m).getD i d = L.getD i d := by
  simp only [List.getD_eq_getElem?_getD, List.getElem?_take, h, if_true]

theorem getD_ge {α : Type} (L : List α) (d : α) (i : Nat) (h : L.length ≤ i) : L.getD i d = d := by
  rw [List.getD_eq_getElem?_getD, List.getElem?_eq_none h]; rfl

/-- five levels, with those that there are -/
def wideL (L : List (List Int)) : List (List Int) := L ++ List.replicate (5 - L.length) []

theorem wideL_length (L : List (List Int)) (h : L.length ≤ 5) : (wideL L).length = 5 := by simp [wideL]; omega

theorem wideL_getD (L : List (List Int)) (i : Nat) : (wideL L).getD i [] = L.getD i [] := by
  unfold wideL
  simp only [List.getD_eq_getElem?_getD, List.getElem?_append]
  split
  · rfl
  · rw [List.getElem?_eq_none (l := L) (by omega)]
    rcases Nat.lt_or_ge (i - L.length) (List.replicate (5 - L.length) ([] : List Int)).length with h | h
    · rw [List.getElem?_eq_getElem h]; simp
    · rw [List.getElem?_eq_none h]

theorem wideL_nil : wideL [] = List.replicate 5 [] := rfl

theorem wideL_succ (L : List (List Int)) (k : Nat) (h : k < L.length) (h5 : L.length ≤ 5) : (wideL (L.take k)).set k (L.getD k []) = wideL (L.take (k + 1)) := by
  have hl1 : (L.take k).length = k := by simp; omega
  have hl2 : (L.take (k + 1)).length = k + 1 := by simp; omega
  have w1 := wideL_length (L.take k) (by omega)
  have w2 := wideL_length (L.take (k + 1)) (by omega)
  apply List.ext_getElem (by simp [w1, w2])
  intro i h1 h2
  have e : ∀ (M : List (List Int)) (hM : i < M.length), M[i] = M.getD i [] := fun M hM => by rw [List.getD_eq_getElem?_getD, List.getElem?_eq_getElem hM]; rfl
  have hg : ∀ m, (L.take m).getD i [] = if i < m then L.getD i [] else [] := by
    intro m
    simp only [List.getD_eq_getElem?_getD, List.getElem?_take]
    split <;> rfl
  rw [e _ h1, e _ h2, getD_set _ _ _ _ _ (by omega), wideL_getD, wideL_getD, hg, hg]
  by_cases hi : i = k
  · subst hi; simp
  · rw [if_neg hi]
    by_cases hik : i < k
    · rw [if_pos hik, if_pos (by omega)]
    · rw [if_neg hik, if_neg (by omega)]

/-- with a level behind the end taken as an empty one: the same behind trimming -/
theorem trimN_more (L : List (List Int)) (n k : Nat) (h : ∀ i, n ≤ i → i < n + k → L.getD i [] = []) : trimN L (n + k) = trimN L n := by
  induction k with
  | zero => rfl
  | succ k ih =>
    rw [← Nat.add_assoc, trimN_empty L (n + k) (h _ (by omega) (by omega)), ih (fun i h1 h2 => h i h1 (by omega))]

theorem ext_getD {α : Type} (L M : List α) (d : α) (h0 : L.length = M.length) (h : ∀ i, i < L.length → L.getD i d = M.getD i d) : L = M := by
  apply List.ext_getElem h0
  intro i h1 h2
  have := h i h1
  rw [List.getD_eq_getElem?_getD, List.getD_eq_getElem?_getD, List.getElem?_eq_getElem h1, List.getElem?_eq_getElem h2] at this
  exact this

/-- two lists of levels that agree everywhere (missing ones: empty) are one behind trimming -/
theorem trimL_congr (L M : List (List Int)) (h : ∀ i, L.getD i [] = M.getD i []) : trimL L = trimL M := by
  have hN : trimN L L.length = trimN M M.length := by
    rcases Nat.le_total L.length M.length with hle | hle
    · obtain ⟨k, hk⟩ := Nat.exists_eq_add_of_le hle
      rw [hk, ← trimN_congr L M _ (fun i _ => h i), trimN_more L L.length k (fun i h1 _ => getD_ge L [] i h1)]
    · obtain ⟨k, hk⟩ := Nat.exists_eq_add_of_le hle
      rw [hk, trimN_congr L M _ (fun i _ => h i), trimN_more M M.length k (fun i h1 _ => getD_ge M [] i h1)]
  unfold trimL
  have l1 : (L.take (trimN L L.length)).length = trimN L L.length := by have := trimN_le L L.length; simp; omega
  have l2 : (M.take (trimN M M.length)).length = trimN M M.length := by have := trimN_le M M.length; simp; omega
  refine ext_getD _ _ [] (by rw [l1, l2, hN]) fun i hi => ?_
  rw [l1] at hi
  rw [getD_take_lt _ _ _ _ hi, getD_take_lt _ _ _ _ (by omega), h]

theorem trimL_getD (L : List (List Int)) (i : Nat) : (trimL L).getD i [] = L.getD i [] := by
  unfold trimL
  rcases Nat.lt_or_ge i (trimN L L.length) with h | h
  · exact getD_take_lt _ _ _ _ h
  · rw [getD_ge _ _ _ (by simp; omega)]
    have : ∀ n, trimN L n ≤ i → i < n → L.getD i [] = [] := by
      intro n
      induction n with
      | zero => intro _ h2; omega
      | succ n ih =>
        intro h1 h2
        rw [trimN] at h1
        split at h1
        · rename_i he
          rcases Nat.lt_or_ge i n with h3 | h3
          · exact ih h1 h3
          · have : i = n := by omega
            subst this; exact he
        · omega
    rcases Nat.lt_or_ge i L.length with h2 | h2
    · exact (this _ h h2).symm
    · exact (getD_ge _ _ _ h2).symm

theorem trimL_length (L : List (List Int)) : (trimL L).length = trimN L L.length := by have := trimN_le L L.length; simp [trimL]; omega

/-- what may be: at most five levels, of at most forty tables, numbers from 0 on, each once -/
def validB (L : List (List Int)) : Bool := decide (L.length ≤ 5 ∧ L.flatten.length ≤ 40 ∧ (∀ x ∈ L.flatten, 0 ≤ x) ∧ L.flatten.Nodup)

theorem getD_mem (xs : List Int) (k : Nat) (h : k < xs.length) : xs.getD k 0 ∈ xs := by
  rw [List.getD_eq_getElem?_getD, List.getElem?_eq_getElem h]; exact List.getElem_mem h

theorem validB_many (L : List (List Int)) (h : 5 < L.length) : validB L = false := by unfold validB; rw [decide_eq_false_iff_not]; rintro ⟨h1, _⟩; omega
theorem validB_great (L : List (List Int)) (h : 40 < L.flatten.length) : validB L = false := by unfold validB; rw [decide_eq_false_iff_not]; rintro ⟨_, h1, _⟩; omega
theorem validB_neg (L : List (List Int)) (k : Nat) (hk : k < L.flatten.length) (h : L.flatten.getD k 0 < 0) : validB L = false := by
  unfold validB; rw [decide_eq_false_iff_not]; rintro ⟨_, _, h1, _⟩
  have := h1 _ (getD_mem _ k hk); omega
theorem validB_dup (L : List (List Int)) (k : Nat) (hk : k < L.flatten.length) (h : L.flatten.getD k 0 ∈ L.flatten.take k) : validB L = false := by
  unfold validB; rw [decide_eq_false_iff_not]; rintro ⟨_, _, _, h1⟩
  have h2 := h1.sublist (List.take_sublist (k + 1) _)
  rw [take_succ_getD _ 0 k hk] at h2
  have := (List.nodup_append.1 h2).2.2 _ h _ (List.mem_singleton.2 rfl)
  exact this rfl
theorem validB_ok (L : List (List Int)) (h1 : L.length ≤ 5) (h2 : L.flatten.length ≤ 40) (h3 : ∀ x ∈ L.flatten, 0 ≤ x) (h4 : L.flatten.Nodup) : validB L = true := by
  unfold validB; exact decide_eq_true ⟨h1, h2, h3, h4⟩
theorem nonneg_take_succ (xs : List Int) (k : Nat) (hk : k < xs.length) (h0 : ∀ x ∈ xs.take k, 0 ≤ x) (h1 : ¬ xs.getD k 0 < 0) : ∀ x ∈ xs.take (k + 1), 0 ≤ x := by
  rw [take_succ_getD _ 0 k hk]
  intro x hx
  rcases List.mem_append.1 hx with h | h
  · exact h0 x h
  · rw [List.mem_singleton.1 h]; omega
theorem nodup_take_succ (xs : List Int) (k : Nat) (hk : k < xs.length) (h0 : (xs.take k).Nodup) (h1 : xs.getD k 0 ∉ xs.take k) : (xs.take (k + 1)).Nodup := by
  rw [take_succ_getD _ 0 k hk, List.nodup_append]
  refine ⟨h0, by simp, fun a ha b hb => ?_⟩
  rw [List.mem_singleton.1 hb]
  intro e; exact h1 (e ▸ ha)
theorem mem_take_succ (xs : List Int) (k : Nat) (hk : k < xs.length) (x : Int) : (x ∈ xs.take (k + 1)) ↔ (x ∈ xs.take k ∨ x = xs.getD k 0) := by
  rw [take_succ_getD _ 0 k hk, List.mem_append, List.mem_singleton]

theorem row_le_flatten (L : List (List Int)) (i : Nat) : (L.getD i []).length ≤ L.flatten.length := by
  rcases Nat.lt_or_ge i L.length with h | h
  · have h1 := flatten_take_succ L i h
    have h2 := flatten_take_le L (i + 1)
    rw [h1, List.length_append] at h2
    omega
  · rw [getD_ge _ _ _ h]; simp

theorem validB_len (L : List (List Int)) (h : validB L = true) : L.length ≤ 5 ∧ L.flatten.length ≤ 40 := by
  unfold validB at h
  have := of_decide_eq_true h
  exact ⟨this.1, this.2.1⟩

/-- a table put behind those of the level 0 -/
def addL (L : List (List Int)) (x : Int) : List (List Int) := (if trimL L = [] then [[]] else trimL L).set 0 (L.getD 0 [] ++ [x])

def addS (L : List (List Int)) (x : Int) : List (List Int) × Int :=
  if validB L = false ∨ x < 0 ∨ x ∈ L.flatten then ([], 2) else if 40 ≤ L.flatten.length then ([], 60) else (addL L x, 0)

def pickS (L : List (List Int)) (level : Int) : List Int × Int :=
  if validB L = false ∨ level < 0 ∨ 5 ≤ level then ([], 2) else if L.getD level.toNat [] = [] then ([], 4) else (L.getD level.toNat [], 0)

/-- one table in the place of a level's -/
def repL (L : List (List Int)) (level : Nat) (x : Int) : List (List Int) :=
  trimL ((((wideL L).set level []).set (min (level + 1) 4)) ((((wideL L).set level []).getD (min (level + 1) 4) []) ++ [x]))

def replaceS (L : List (List Int)) (level x : Int) : List (List Int) × Int :=
  if (pickS L level).2 ≠ 0 then ([], (pickS L level).2) else if x < 0 ∨ x ∈ L.flatten then ([], 2) else (repL L level.toNat x, 0)

theorem addS_arg (L : List (List Int)) (x : Int) (h : validB L = false ∨ x < 0 ∨ x ∈ L.flatten) : addS L x = ([], 2) := by rw [addS, if_pos h]
theorem addS_full (L : List (List Int)) (x : Int) (h : ¬ (validB L = false ∨ x < 0 ∨ x ∈ L.flatten)) (h2 : 40 ≤ L.flatten.length) : addS L x = ([], 60) := by rw [addS, if_neg h, if_pos h2]
theorem addS_ok (L : List (List Int)) (x : Int) (h : ¬ (validB L = false ∨ x < 0 ∨ x ∈ L.flatten)) (h2 : ¬ 40 ≤ L.flatten.length) : addS L x = (addL L x, 0) := by rw [addS, if_neg h, if_neg h2]

/-- the document's way to add: five levels, trimmed -/
theorem addL_ref (L : List (List Int)) (x : Int) (h : L.length ≤ 5) : trimL ((wideL L).set 0 ((wideL L).getD 0 [] ++ [x])) = addL L x := by
  have hw := wideL_length L h
  have hne : (L.getD 0 [] ++ [x]) ≠ [] := by simp
  have e1 : trimL (addL L x) = addL L x := by
    unfold trimL
    have : ∀ n, n ≤ (addL L x).length → (∀ i, n ≤ i → i < (addL L x).length → False) → n = (addL L x).length := by
      intro n h1 h2
      rcases Nat.lt_or_ge n (addL L x).length with h3 | h3
      · exact (h2 n (Nat.le_refl _) h3).elim
      · omega
    have hlast : trimN (addL L x) (addL L x).length = (addL L x).length := by
      have hl : (addL L x).length = max 1 (trimL L).length := by
        unfold addL; split
        · rename_i he; simp [he]
        · rename_i he
          have := List.length_pos_iff.2 he
          simp; omega
      rcases Nat.lt_or_ge 1 (trimL L).length with h1 | h1
      · obtain ⟨m, hm⟩ : ∃ m, (trimL L).length = m + 1 := ⟨(trimL L).length - 1, by omega⟩
        have : (addL L x).length = m + 1 := by omega
        rw [this, trimN_stop]
        have he : (addL L x).getD m [] = L.getD m [] := by
          unfold addL
          have hnil : trimL L ≠ [] := by intro h0; rw [h0] at hm; simp at hm
          rw [if_neg hnil, getD_set _ _ _ _ _ (by omega), if_neg (by omega), trimL_getD]
        rw [he]
        intro h0
        rw [trimL_length] at hm
        have : ∀ n, trimN L n = m + 1 → L.getD m [] = [] → False := by
          intro n
          induction n with
          | zero => intro h3; simp [trimN] at h3
          | succ n ih =>
            intro h3 h4
            rw [trimN] at h3
            split at h3
            · exact ih h3 h4
            · rename_i h5
              have : n = m := by omega
              subst this; exact h5 h4
        exact this _ hm h0
      · have : (addL L x).length = 0 + 1 := by omega
        rw [this, trimN_stop]
        have he : (addL L x).getD 0 [] = L.getD 0 [] ++ [x] := by
          unfold addL
          split
          · rfl
          · rename_i hnil
            have := List.length_pos_iff.2 hnil
            rw [getD_set _ _ _ _ _ (by omega), if_pos rfl]
        rw [he]; exact hne
    rw [hlast, List.take_length]
  rw [← e1]
  refine trimL_congr _ _ fun i => ?_
  rw [getD_set _ _ _ _ _ (by omega), wideL_getD, wideL_getD]
  unfold addL
  split
  · rename_i hi
    subst hi
    split
    · rfl
    · rename_i hnil
      have := List.length_pos_iff.2 hnil
      rw [getD_set _ _ _ _ _ (by omega), if_pos rfl]
  · rename_i hi
    split
    · rename_i hnil
      have hz : L.getD i [] = [] := by rw [← trimL_getD, hnil]; rfl
      rw [hz, getD_ge _ _ _ (by simp; omega)]
    · rename_i hnil
      have := List.length_pos_iff.2 hnil
      rw [getD_set _ _ _ _ _ (by omega), if_neg hi, trimL_getD]

theorem trimL_fix (T : List (List Int)) (h : T = [] ∨ T.getD (T.length - 1) [] ≠ []) : trimL T = T := by
  rcases h with rfl | h
  · rfl
  · have hp : 0 < T.length := by
      rcases Nat.eq_zero_or_pos T.length with h0 | h0
      · have : T = [] := List.eq_nil_of_length_eq_zero h0
        subst this; simp at h
      · exact h0
    obtain ⟨m, hm⟩ : ∃ m, T.length = m + 1 := ⟨T.length - 1, by omega⟩
    unfold trimL
    rw [hm] at h ⊢
    rw [trimN_stop T m (by simpa using h), ← hm, List.take_length]

theorem trimN_last (L : List (List Int)) : ∀ n m, trimN L n = m + 1 → L.getD m [] ≠ [] := by
  intro n
  induction n with
  | zero => intro m h; simp [trimN] at h
  | succ n ih =>
    intro m h
    rw [trimN] at h
    split at h
    · exact ih m h
    · rename_i h5
      have : n = m := by omega
      subst this; exact h5

theorem trimL_last (L : List (List Int)) (m : Nat) (h : (trimL L).length = m + 1) : (trimL L).getD m [] ≠ [] := by
  rw [trimL_getD]
  rw [trimL_length] at h
  exact trimN_last L _ m h

theorem lt_trimL (L : List (List Int)) (i : Nat) (h : L.getD i [] ≠ []) : i < (trimL L).length := by
  rcases Nat.lt_or_ge i (trimL L).length with h1 | h1
  · exact h1
  · exact (h (by rw [← trimL_getD, getD_ge _ _ _ h1])).elim

/-- the program's way to put a table in the place of a level's -/
def repP (L : List (List Int)) (level : Nat) (x : Int) : List (List Int) :=
  let M1 := (trimL L).set level []
  let into := min (level + 1) 4
  let M2 := if M1.length ≤ into then M1 ++ [[]] else M1
  M2.set into (M2.getD into [] ++ [x])

theorem repP_eq (L : List (List Int)) (level : Nat) (x : Int) (h5 : L.length ≤ 5) (hl : level < 5) (hne : L.getD level [] ≠ []) : repP L level x = repL L level x := by
  have hlt := lt_trimL L level hne
  have hT5 : (trimL L).length ≤ 5 := by have := trimN_le L L.length; rw [trimL_length]; omega
  have hw := wideL_length L h5
  have hM1 : ((trimL L).set level []).length = (trimL L).length := by simp
  have g1 : ∀ i, ((trimL L).set level []).getD i [] = if i = level then [] else L.getD i [] := by
    intro i; rw [getD_set _ _ _ _ _ hlt, trimL_getD]
  obtain ⟨M2, hM2⟩ : ∃ M2, M2 = if ((trimL L).set level []).length ≤ min (level + 1) 4 then (trimL L).set level [] ++ [[]] else (trimL L).set level [] := ⟨_, rfl⟩
  have hlen2 : min (level + 1) 4 < M2.length := by
    rw [hM2]; split
    · rename_i h; simp at h ⊢; omega
    · rename_i h; omega
  have g2 : ∀ i, M2.getD i [] = if i = level then [] else L.getD i [] := by
    intro i
    rw [hM2]; split
    · rw [getD_snoc]
      split
      · exact g1 i
      · rename_i h
        have : (if i = ((trimL L).set level []).length then ([] : List Int) else []) = [] := by split <;> rfl
        rw [this]
        have h3 : (trimL L).getD i [] = [] := getD_ge _ _ _ (by rw [hM1] at h; omega)
        rw [trimL_getD] at h3
        rw [h3]; split <;> rfl
    · exact g1 i
  have hP : repP L level x = M2.set (min (level + 1) 4) (M2.getD (min (level + 1) 4) [] ++ [x]) := by rw [hM2]; rfl
  have g3 : ∀ i, (repP L level x).getD i [] = if i = min (level + 1) 4 then M2.getD i [] ++ [x] else M2.getD i [] := by
    intro i
    rw [hP, getD_set _ _ _ _ _ hlen2]
    split
    · rename_i h; rw [h]
    · rfl
  have hfix : trimL (repP L level x) = repP L level x := by
    refine trimL_fix _ (.inr ?_)
    have hl3 : (repP L level x).length = M2.length := by rw [hP]; simp
    rw [hl3, g3]
    split
    · simp
    · rename_i hi
      rw [g2]
      have hbig : min (level + 1) 4 + 1 < M2.length := by omega
      have hM2e : M2 = (trimL L).set level [] := by
        rw [hM2]; split
        · rename_i h
          rw [hM2, if_pos h] at hbig
          simp at hbig h; omega
        · rfl
      have hlen : M2.length = (trimL L).length := by rw [hM2e]; simp
      rw [if_neg (by omega)]
      have := trimL_last L (M2.length - 1) (by omega)
      rwa [trimL_getD] at this
  rw [← hfix]
  unfold repL
  refine trimL_congr _ _ fun i => ?_
  have hws : min (level + 1) 4 < ((wideL L).set level []).length := by simp; omega
  rw [g3, getD_set _ _ _ _ _ hws]
  have g4 : ∀ i, ((wideL L).set level []).getD i [] = if i = level then [] else L.getD i [] := by
    intro i; rw [getD_set _ _ _ _ _ (by omega), wideL_getD]
  split
  · rename_i h; rw [g4, g2, h]
  · rw [g4, g2]

theorem pickS_arg (L : List (List Int)) (k : Int) (h : validB L = false ∨ k < 0 ∨ 5 ≤ k) : pickS L k = ([], 2) := by rw [pickS, if_pos h]
theorem pickS_none (L : List (List Int)) (k : Int) (h : ¬ (validB L = false ∨ k < 0 ∨ 5 ≤ k)) (h2 : L.getD k.toNat [] = []) : pickS L k = ([], 4) := by rw [pickS, if_neg h, if_pos h2]
theorem pickS_ok (L : List (List Int)) (k : Int) (h : ¬ (validB L = false ∨ k < 0 ∨ 5 ≤ k)) (h2 : ¬ L.getD k.toNat [] = []) : pickS L k = (L.getD k.toNat [], 0) := by rw [pickS, if_neg h, if_neg h2]

theorem replaceS_err (L : List (List Int)) (k x : Int) (h : (pickS L k).2 ≠ 0) : replaceS L k x = ([], (pickS L k).2) := by rw [replaceS, if_pos h]
theorem replaceS_arg (L : List (List Int)) (k x : Int) (h : ¬ (pickS L k).2 ≠ 0) (h2 : x < 0 ∨ x ∈ L.flatten) : replaceS L k x = ([], 2) := by rw [replaceS, if_neg h, if_pos h2]
theorem replaceS_ok (L : List (List Int)) (k x : Int) (h : ¬ (pickS L k).2 ≠ 0) (h2 : ¬ (x < 0 ∨ x ∈ L.flatten)) : replaceS L k x = (repL L k.toNat x, 0) := by rw [replaceS, if_neg h, if_neg h2]

/-- what is picked tells that the levels may be, and that the level is one of those that there are -/
theorem pickS_zero (L : List (List Int)) (k : Int) (h : ¬ (pickS L k).2 ≠ 0) : validB L = true ∧ 0 ≤ k ∧ k < 5 ∧ L.getD k.toNat [] ≠ [] := by
  by_cases h1 : validB L = false ∨ k < 0 ∨ 5 ≤ k
  · rw [pickS_arg L k h1] at h; exact (h (by decide)).elim
  · by_cases h2 : L.getD k.toNat [] = []
    · rw [pickS_none L k h1 h2] at h; exact (h (by decide)).elim
    · refine ⟨?_, ?_, ?_, h2⟩
      · rcases hb : validB L with _ | _
        · exact (h1 (.inl hb)).elim
        · rfl
      · rcases Int.lt_or_le k 0 with h3 | h3
        · exact (h1 (.inr (.inl h3))).elim
        · exact h3
      · rcases Int.lt_or_le k 5 with h3 | h3
        · exact h3
        · exact (h1 (.inr (.inr h3))).elim

end Go.Proofs.Ytoibjhoebjcfeaa
