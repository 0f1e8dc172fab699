/- What comes in, read: slices of integers, slices of such slices. -/
import Derived.Test.YtikaopicddakeaaGreatDoorG1PIndexNone
import Derived.ProofKit
import Derived.Deep.Matrix
set_option linter.unusedVariables false
set_option linter.unusedSimpArgs false
namespace Go.Proofs.YtikaopicddakeaaGreatDoor
open Go.ChangeShapes Go.WideShapes Go.ChangeAt Go.RowKit Go.Deep

theorem addr_of_cell {w : World} {a : Addr} {u : Value} (h : w.cell? a = some u) : a = ⟨a.block, a.off, none⟩ := by
  obtain ⟨b, o, s⟩ := a
  cases s with
  | none => rfl
  | some x =>
    unfold World.cell? at h
    split at h
    · simp at h
    · cases h

theorem add_lit' (b o k : Nat) : (⟨b, o, none⟩ : Addr).add k = ⟨b, o + k, none⟩ := Addr.add_lit _ _ _

theorem spot_none {w : World} {a : Addr} {u : Value} (h : w.cell? (a.add 0) = some u) : ∃ b off, a = ⟨b, off, none⟩ := by
  have e : a.add 0 = a := by simp [Addr.add]
  rw [e] at h
  exact ⟨_, _, addr_of_cell h⟩

/-- cells that a reader told of -/
theorem rd_of_cells {w : World} {a : Addr} {cs : List Value} (h : ∀ j (hj : j < cs.length), w.cell? (a.add j) = some cs[j]) : Rd w (some a) cs := by
  intro j u hj
  obtain ⟨hl, rfl⟩ := List.getElem?_eq_some_iff.1 hj
  have h1 := h j hl
  obtain ⟨b, off, rfl⟩ := spot_none (h 0 (by omega))
  rw [add_lit'] at h1
  exact ⟨b, off, rfl, h1⟩

theorem ints_of_cells {w : World} {ao : Option Addr} {n cap : Nat} {zs : List Int} (hl : n ≤ cap) (hm : cap ≤ maxLen) (hz : zs.length = cap) (hnil : ao = none → cap = 0)
    (hc : ∀ a, ao = some a → ∀ c, c < cap → w.cell? (a.add c) = some (.int .i64 (zs.getD c 0))) : Ints w ao n cap (zs.take n) := by
  refine ⟨by simp; omega, hl, by unfold maxLen at hm; omega, hnil, ?_⟩
  cases ao with
  | none =>
    have := hnil rfl
    have : zs = [] := List.eq_nil_of_length_eq_zero (by omega)
    subst this
    simpa using Rd.nil _ _
  | some a =>
    refine rd_of_cells fun j hj => ?_
    simp only [List.length_map, List.length_take] at hj
    rw [hc a rfl j (by omega), List.getElem_map, List.getElem_take, List.getD_eq_getElem?_getD, List.getElem?_eq_getElem (by omega)]
    rfl

theorem open_grid {H : Type} {enc : TypeId × Value → H} {P : Program} {w : World} {base : Nat} {held : Bool} {t e q : TypeId} {v : Value} {d : DataW H} {p : List MemPlace}
    (ht : P.underlying t = some (.slice e)) (he : P.underlying e = some (.slice q)) (hq : P.underlying q = some (.int .i64)) (ce : P.cellsOf e = 1) (cq : P.cellsOf q = 1)
    (hs : ∃ ao n cap, v = .slice ao n cap) (h : DataW.Trod enc P w base (fun _ => true) held t v d p) :
    ∃ ao n cap L, v = .slice ao n cap ∧ Grid w ao n cap L ∧ ∀ x ∈ L.flatten, (Lit.int .i64 x).wf = true := by
  obtain ⟨ao, n, cap, rfl⟩ := hs
  obtain ⟨fuel, hf⟩ := h
  rcases open_int_rows ht he hq ce cq hf with ⟨hcs, _⟩ | ⟨a, len, cap', A, L, C, Z, hcs, _, hl, hm, _, hc⟩
  · simp [Value.cells] at hcs
    obtain ⟨rfl, rfl, rfl⟩ := hcs
    exact ⟨_, _, _, [], rfl, Grid.empty _, by simp⟩
  · simp [Value.cells] at hcs
    obtain ⟨rfl, rfl, rfl⟩ := hcs
    refine ⟨_, _, _, (List.range n).map fun i => (Z i).take (L i), rfl, ⟨by simp, hl, by unfold maxLen at hm; omega, (fun hh => by cases hh), fun i hi => ?_⟩, ?_⟩
    · simp only [List.length_map, List.length_range] at hi
      obtain ⟨h1, h2, h3, h4, h5, h6, h7⟩ := hc i (by omega)
      obtain ⟨b, off, rfl⟩ := spot_none (hc 0 (by omega)).1
      rw [add_lit'] at h1
      have hI : Ints w (A i) (L i) (C i) ((Z i).take (L i)) := ints_of_cells h2 h3 h4 h6 fun a' ha c hcc => (h7 a' ha).2 c hcc
      refine ⟨b, off, A i, C i, rfl, ?_, ?_⟩
      · simp only [List.getElem_map, List.getElem_range]
        rw [hI.len]; exact h1
      · simp only [List.getElem_map, List.getElem_range]
        rw [hI.len]; exact hI
    · intro x hx
      obtain ⟨r, hr, hxr⟩ := List.mem_flatten.1 hx
      obtain ⟨i, hi, rfl⟩ := List.mem_map.1 hr
      have hi' := List.mem_range.1 hi
      exact (hc i (by omega)).2.2.2.2.1 x (List.mem_of_mem_take hxr)

end Go.Proofs.YtikaopicddakeaaGreatDoor
