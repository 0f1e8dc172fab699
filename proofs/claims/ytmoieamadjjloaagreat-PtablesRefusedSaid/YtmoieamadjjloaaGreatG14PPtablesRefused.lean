/- Walks: records one behind the other, as they come. -/
import Derived.RangeFuncNested
import Derived.RangeFuncBound
import Derived.RangeFuncCalls
import Derived.RangeFuncLeaves
import Derived.RangeFuncBox
import Derived.Shelf.Abstract
import Derived.Shelf.RegionOpen
import Derived.WalkKit
import Derived.OwnWalkIn
import Derived.TacticsInMore
import Derived.LoopNIn
import Derived.LoopIn
import Derived.Maps.AppendAt
import Derived.Test.YtmoieamadjjloaaGreatG9PPtablesRefused
set_option linter.unusedVariables false
set_option linter.unusedSimpArgs false
namespace Go.Proofs.YtmoieamadjjloaaGreat
open Go.RowKit Go.Shelf

attribute [local go_sem] Oper.semAt_some

theorem ext_grown {W W' : World} (h : Ext W W') : W.grownBy W' none := ⟨h.os, h.tape, h.output, h.size, fun i hi _ => h.block i hi⟩

/-- a block stays -/
def KpB (b : Nat) (W W' : World) : Prop := W'.heap[b]? = W.heap[b]?
abbrev encP (x : Nat × Nat) : Array Value := #[.int .i64 (x.1 : Int), .int .i64 (x.2 : Int)]

theorem eachR_no {s : List UInt8} {a : Nat} (h : isR s a = false) (f : Nat) : eachR f s a = [] := by
  cases f with
  | zero => rfl
  | succ f => unfold eachR getR; rw [h]; rfl
theorem eachR_yes {s p : List UInt8} {a b : Nat} (h : getR s a = some (p, b)) {f : Nat} (hf : s.length < a + f) : ∃ f', eachR f s a = (a, b) :: eachR f' s b ∧ s.length < b + f' := by
  obtain ⟨h1, h2, h3, _⟩ := getR_some h
  cases f with
  | zero => omega
  | succ f => exact ⟨f, by conv => lhs; unfold eachR; rw [h], by omega⟩

set_option maxRecDepth 100000
set_option linter.unusedVariables false
set_option maxHeartbeats 1600000

end Go.Proofs.YtmoieamadjjloaaGreat
