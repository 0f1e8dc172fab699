/- Plain laws: the records of a log, one behind the other. -/
import Derived.Test.YtfkllobehgffoaaGreatDoorG8PTflogBack
import Derived.Test.YtfkllobehgffoaaGreatDoorG24PTflogBack
set_option linter.unusedVariables false
set_option linter.unusedSimpArgs false
namespace Go.Proofs.YtfkllobehgffoaaGreatDoor
open Go.RowKit

theorem recsC_snoc : ∀ (ps : List (List UInt8)) (a : Nat) (p : List UInt8), recsC a (ps ++ [p]) = recsC a ps ++ [(a + (ps.map fun p => p.length + 12).sum, p)]
  | [], a, p => by simp [recsC]
  | q :: t, a, p => by
    rw [List.cons_append, recsC, recsC_snoc t, recsC, List.cons_append, List.map_cons, List.sum_cons]
    congr 4; omega
theorem recsL_snoc (D : Cks) (ps : List (List UInt8)) : recsL 0 (D ++ [ps]) = recsL 0 D ++ recsC (4096 * D.length + 12) ps := by
  rw [recsL_append, Nat.zero_add]; simp [recsL]

/-- behind an append there is one record more -/
theorem append_recs {fr x : Int} {C C' : Cks} {p : List UInt8} (hs : ∀ ps ∈ C, sizeC ps ≤ 4096) (hp : p.length ≤ 2000) (h : appendL fr C p = (x, 0, C')) :
    ∃ pos : Nat, x = (pos : Int) ∧ recsL 0 C' = recsL 0 C ++ [(pos, p)] ∧ endL C' = (pos : Int) + (p.length : Int) + 12 ∧ endL C ≤ (pos : Int) ∧ usedK C' ≤ usedK C + (p.length + 24) ∧ C'.length ≤ C.length + 1 ∧ pos ≤ 4096 * C.length + 12 := by
  by_cases hf : fitsL C p = true
  · by_cases hC : C = []
    · subst hC; cases hf
    · obtain ⟨D, ps, rfl⟩ := cks_pos hC
      by_cases hr : fr - ((p.length : Int) + 12) < 6000
      · rw [appendL_full1 hp hf hr] at h; cases h
      · rw [appendL_one hp hf (by omega)] at h
        cases h
        refine ⟨4096 * D.length + sizeC ps, by omega, ?_, ?_, ?_, ?_, by simp, by have := hs ps (by simp); rw [List.length_append]; simp only [List.length_cons, List.length_nil]; omega⟩
        · rw [recsL_snoc, recsL_snoc, recsC_snoc, List.append_assoc]
          congr 4
          unfold sizeC; omega
        · rw [endL_snoc, sizeC_snoc]; omega
        · rw [endL_snoc]; omega
        · have h1 : usedK (D ++ [ps ++ [p]]) = usedK D + sizeC (ps ++ [p]) := by simp [usedK, List.sum_append]
          have h2 : usedK (D ++ [ps]) = usedK D + sizeC ps := by simp [usedK, List.sum_append]
          rw [h1, h2, sizeC_snoc]; omega
  · have hf' : fitsL C p = false := by simpa using hf
    by_cases hr : 200 ≤ C.length ∨ fr - ((p.length : Int) + 24) < 6000
    · rw [appendL_full2 hp hf' hr] at h; cases h
    · rw [appendL_new hp hf' hr] at h
      cases h
      refine ⟨4096 * C.length + 12, by omega, ?_, ?_, ?_, ?_, by simp, Nat.le_refl _⟩
      · rw [recsL_snoc]; rfl
      · rw [endL_snoc, sizeC_one]; omega
      · by_cases hC : C = []
        · subst hC; show (0 : Int) ≤ _; omega
        · obtain ⟨D, ps, rfl⟩ := cks_pos hC
          have := hs ps (by simp)
          rw [endL_snoc, List.length_append]
          simp only [List.length_cons, List.length_nil]
          omega
      · have h1 : usedK (C ++ [[p]]) = usedK C + sizeC [p] := by simp [usedK, List.sum_append]
        rw [h1, sizeC_one]; omega
/-- .. and it is taken, where there is room -/
theorem append_ok {fr : Int} {C : Cks} {p : List UInt8} (hp : p.length ≤ 2000) (hr : 10000 ≤ fr) (hC : C.length < 200) : ∃ x C', appendL fr C p = (x, 0, C') := by
  by_cases hf : fitsL C p = true
  · by_cases hC : C = []
    · subst hC; cases hf
    · obtain ⟨D, ps, rfl⟩ := cks_pos hC
      exact ⟨_, _, appendL_one hp hf (by omega)⟩
  · have hf' : fitsL C p = false := by simpa using hf
    exact ⟨_, _, appendL_new hp hf' (by omega)⟩

/-- one behind the other -/
def BehR (x y : Nat × List UInt8) : Prop := x.1 + x.2.length + 12 ≤ y.1
theorem recsC_pw : ∀ (ps : List (List UInt8)) (a : Nat), (recsC a ps).Pairwise BehR
  | [], _ => List.Pairwise.nil
  | p :: t, a => List.pairwise_cons.2 ⟨fun r hr => (recsC_ge t _ r hr).1, recsC_pw t _⟩
theorem recsL_pw : ∀ (C : Cks) (b : Nat), (∀ ps ∈ C, sizeC ps ≤ 4096) → (recsL b C).Pairwise BehR
  | [], _, _ => List.Pairwise.nil
  | ps :: t, b, hs => by
    rw [recsL, List.pairwise_append]
    refine ⟨recsC_pw ps _, recsL_pw t _ fun q hq => hs q (List.mem_cons_of_mem _ hq), fun x hx y hy => ?_⟩
    have h1 := recsC_ge ps _ x hx
    have h2 := recsL_ge t _ (fun q hq => hs q (List.mem_cons_of_mem _ hq)) y hy
    have h3 := hs ps (List.mem_cons_self)
    unfold sizeC at h3
    unfold BehR
    omega

/-- where records end -/
def endOf (A : List (Nat × List UInt8)) : Nat := match A.getLast? with | none => 0 | some r => r.1 + r.2.length + 12
theorem endOf_snoc (A : List (Nat × List UInt8)) (r : Nat × List UInt8) : endOf (A ++ [r]) = r.1 + r.2.length + 12 := by unfold endOf; simp
theorem endOf_gt {A : List (Nat × List UInt8)} (h : A.Pairwise BehR) : ∀ r ∈ A, r.1 < endOf A := fun r hr => by
  rcases List.eq_nil_or_concat A with rfl | ⟨D, q, rfl⟩
  · cases hr
  · rw [List.concat_eq_append] at *
    rw [endOf_snoc]
    rcases List.mem_append.1 hr with h1 | h1
    · have := (List.pairwise_append.1 h).2.2 r h1 q (by simp)
      unfold BehR at this; omega
    · obtain rfl := List.mem_singleton.1 h1; omega
theorem find_head {pos : Int} : ∀ {B : List (Nat × List UInt8)}, (∀ r, B.head? = some r → pos ≤ (r.1 : Int)) → B.find? (fun r => decide (pos ≤ (r.1 : Int))) = B.head?
  | [], _ => rfl
  | r :: t, h => by rw [List.find?_cons_of_pos (by simpa using h r rfl)]; rfl
/-- what is told next, when some were told -/
theorem nextL_part {C : Cks} (hs : ∀ ps ∈ C, sizeC ps ≤ 4096) {A B : List (Nat × List UInt8)} (h : recsL 0 C = A ++ B) : nextL C (endOf A : Int) = B.head? := by
  have hp := recsL_pw C 0 hs
  rw [h] at hp
  obtain ⟨h1, h2, h3⟩ := List.pairwise_append.1 hp
  unfold nextL
  rw [h, find_skip fun r hr => by have := endOf_gt h1 r hr; omega]
  refine find_head fun r hr => ?_
  rcases List.eq_nil_or_concat A with rfl | ⟨D, q, rfl⟩
  · show ((0 : Nat) : Int) ≤ _; omega
  · rw [List.concat_eq_append] at *
    have hb : r ∈ B := List.mem_of_mem_head? hr
    have := h3 q (by simp) r hb
    rw [endOf_snoc]
    unfold BehR at this
    omega
theorem endOf_recs {C : Cks} (h : okC C) : (endOf (recsL 0 C) : Int) = endL C := by
  rcases List.eq_nil_or_concat C with rfl | ⟨D, ps, rfl⟩
  · rfl
  · rw [List.concat_eq_append] at *
    have hne := h.full ps (by simp)
    rcases List.eq_nil_or_concat ps with rfl | ⟨qs, p, rfl⟩
    · exact absurd rfl hne
    · rw [List.concat_eq_append] at *
      rw [recsL_snoc, recsC_snoc, ← List.append_assoc, endOf_snoc, endL_snoc, sizeC_snoc]
      unfold sizeC
      show ((4096 * D.length + 12 + (qs.map fun p => p.length + 12).sum + p.length + 12 : Nat) : Int) = _
      omega

theorem recsC_mem : ∀ (ps : List (List UInt8)) (a : Nat) (r : Nat × List UInt8), r ∈ recsC a ps → ∃ k, ps[k]? = some r.2 ∧ r.1 = a + ((ps.take k).map fun p => p.length + 12).sum
  | [], _, r, h => by cases h
  | p :: t, a, r, h => by
    rw [recsC] at h
    rcases List.mem_cons.1 h with rfl | h
    · exact ⟨0, rfl, by simp⟩
    · obtain ⟨k, h1, h2⟩ := recsC_mem t _ r h
      exact ⟨k + 1, by rw [List.getElem?_cons_succ]; exact h1, by rw [h2, List.take_succ_cons, List.map_cons, List.sum_cons]; omega⟩
theorem recsL_mem : ∀ (C : Cks) (b : Nat) (r : Nat × List UInt8), r ∈ recsL b C → ∃ (n : Nat) (ps : List (List UInt8)) (k : Nat), C[n]? = some ps ∧ ps[k]? = some r.2 ∧ r.1 = b + 4096 * n + sizeC (ps.take k)
  | [], _, r, h => by cases h
  | ps :: t, b, r, h => by
    rw [recsL] at h
    rcases List.mem_append.1 h with h | h
    · obtain ⟨k, h1, h2⟩ := recsC_mem ps _ r h
      exact ⟨0, ps, k, rfl, h1, by rw [h2]; unfold sizeC; omega⟩
    · obtain ⟨n, qs, k, h1, h2, h3⟩ := recsL_mem t _ r h
      exact ⟨n + 1, qs, k, by rw [List.getElem?_cons_succ]; exact h1, h2, by rw [h3]; omega⟩
/-- each is read where it stands -/
theorem readL_mem {C : Cks} (h : okC C) {r : Nat × List UInt8} (hr : r ∈ recsL 0 C) : readL C (r.1 : Int) = (r.2, 0) := by
  obtain ⟨n, ps, k, h1, h2, h3⟩ := recsL_mem C 0 r hr
  have hps := List.mem_of_getElem? h1
  have hp := h.pay ps hps r.2 (List.mem_of_getElem? h2)
  have hk : k < ps.length := (List.getElem?_eq_some_iff.1 h2).1
  have hsz := h.size ps hps
  have h4 : sizeC (ps.take (k + 1)) ≤ sizeC ps := by
    unfold sizeC
    conv => rhs; rw [← List.take_append_drop (k + 1) ps, List.map_append, List.sum_append]
    omega
  have h5 : ps.take (k + 1) = ps.take k ++ [r.2] := by
    obtain ⟨_, he⟩ := List.getElem?_eq_some_iff.1 h2
    rw [List.take_succ_eq_append_getElem hk, he]
  rw [h5, sizeC_snoc] at h4
  rw [readL_at (n := n) (a := sizeC (ps.take k)) (by omega) (by omega), h1]
  show (match (if 12 ≤ sizeC (ps.take k) then getR (chunkB n ps) (sizeC (ps.take k)) else none) with | none => ([], 4) | some (p, _) => (p, 0)) = (r.2, (0 : Int))
  rw [if_pos (by unfold sizeC; omega), get_at n ps k r.2 h2 hp]

theorem recsL_lt {C : Cks} (h : okC C) {r : Nat × List UInt8} (hr : r ∈ recsL 0 C) : r.1 ≤ 819200 := by
  have := recsL_ge C 0 h.size r hr
  have := h.few
  omega

end Go.Proofs.YtfkllobehgffoaaGreatDoor
