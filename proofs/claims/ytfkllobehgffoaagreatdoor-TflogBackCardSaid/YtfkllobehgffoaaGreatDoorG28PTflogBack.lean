/- A slice of texts that came in. -/
import Derived.Test.YtfkllobehgffoaaGreatDoorG2PTflogBack
import Derived.Test.YtfkllobehgffoaaGreatDoorG3PTflogBack
import Derived.Deep.Strs
set_option linter.unusedVariables false
set_option linter.unusedSimpArgs false
namespace Go.Proofs.YtfkllobehgffoaaGreatDoor
open Go.RowKit Go.ChangeShapes Go.WideShapes

theorem open_strL {H : Type} {enc : TypeId × Value → H} {P : Program} {w : World} {base : Nat} {held : Bool} {t e : TypeId} {v : Value} {d : DataW H} {p : List MemPlace}
    (ht : P.underlying t = some (.slice e)) (he : P.underlying e = some .string) (ce : P.cellsOf e = 1)
    (hs : ∃ ao n cap, v = .slice ao n cap) (h : DataW.Trod enc P w base (fun _ => true) held t v d p) :
    ∃ ao n cap xs, v = .slice ao n cap ∧ Slf (fun l : List UInt8 => Value.string ⟨l.toArray⟩) w ao n cap xs := by
  obtain ⟨ao, n, cap, rfl⟩ := hs
  obtain ⟨fuel, hf⟩ := h
  rcases Go.Deep.open_strs ht he ce hf with ⟨hcs, _⟩ | ⟨a, len, cap', m, Sx, hcs, _, hl, hm, hmm, _, hcell⟩
  · simp [Value.cells] at hcs
    obtain ⟨rfl, rfl, rfl⟩ := hcs
    exact ⟨_, _, _, [], rfl, Slf.empty _ _⟩
  · simp [Value.cells] at hcs
    obtain ⟨rfl, rfl, rfl⟩ := hcs
    simp only [if_true] at hmm
    refine ⟨_, _, _, (List.range n).map fun i => (Sx i).data.toList, rfl, ⟨by simp, hl, by unfold maxLen at hm; omega, (fun hh => by cases hh), rd_of_cells fun j hj => ?_⟩⟩
    simp only [List.length_map, List.length_range] at hj
    rw [(hcell j (by omega)).1, List.getElem_map, List.getElem_map, List.getElem_range]

end Go.Proofs.YtfkllobehgffoaaGreatDoor
