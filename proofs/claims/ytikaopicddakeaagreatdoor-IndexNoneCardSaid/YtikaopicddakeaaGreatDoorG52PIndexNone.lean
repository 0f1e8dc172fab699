/- A manifest, and a pair of numbers, that came in, laid open. -/
import Derived.Test.YtikaopicddakeaaGreatDoorChecked
import Derived.Test.YtikaopicddakeaaGreatDoorG2PIndexNone
import Derived.Lib.SmallJoins
import Derived.OpenShut
set_option linter.unusedVariables false
set_option linter.unusedSimpArgs false
namespace Go.Proofs.YtikaopicddakeaaGreatDoor
open Go.RowKit Go.WideShapes

theorem trod_of_cell {H : Type} {enc : TypeId × Value → H} {w : World} {base : Nat} {sp : Nat → Bool} {held : Bool} {t : TypeId} {n : Nat} {v : Value} {y : DataW H × List MemPlace} (hc : v.cells.toList = [v])
    (h : DataW.trod enc Tryz.prog w base sp held n t [v] = some y) : DataW.Trod enc Tryz.prog w base sp held t v y.1 y.2 := ⟨n, by rw [hc]; exact h⟩

set_option maxRecDepth 100000 in
theorem open_man {H : Type} {enc : TypeId × Value → H} {w : World} {base : Nat} {held : Bool} {r : Reach} {b0 : Nat} {v : Value} {d : DataW H} {p : List MemPlace}
    (hv : Value.okWide Tryz.prog w r b0 25 v) (h : DataW.Trod enc Tryz.prog w base (fun _ => true) held 25 v d p) :
    ∃ nx ck sd ao n cap L, v = .agg #[.int .i64 nx, .int .i64 ck, .int .u64 sd, .slice ao n cap] ∧ Grid w ao n cap L ∧ (∀ x ∈ L.flatten, (Lit.int .i64 x).wf = true) ∧ 0 ≤ sd ∧ sd < 18446744073709551616 := by
  obtain ⟨v0, v1, v2, v3, y0, y1, y2, y3, n, rfl, _, _, h0, h1, h2, h3⟩ := Joins.open_agg4 Tryz.underlying25 (by kernel_rfl) (by kernel_rfl) hv h
  obtain ⟨a0, e0, _, _⟩ := DataW.trod_int Tryz.underlying3 h0
  obtain ⟨a1, e1, _, _⟩ := DataW.trod_int Tryz.underlying3 h1
  obtain ⟨a2, e2, _, w2⟩ := DataW.trod_int Tryz.underlying22 h2
  obtain ⟨a3, l3, c3, e3⟩ := Joins.slice_form Tryz.underlying23 h3
  simp only [List.cons.injEq, and_true] at e0 e1 e2 e3
  subst e0 e1 e2 e3
  obtain ⟨ao, m, cap, L, e, hg, hwf⟩ := open_grid Tryz.underlying23 Tryz.underlying51 Tryz.underlying3 (by kernel_rfl) (by kernel_rfl) ⟨_, _, _, rfl⟩ (trod_of_cell rfl h3)
  cases e
  have hb := bounds_u64 w2
  exact ⟨a0, a1, a2, _, _, _, L, rfl, hg, hwf, by omega, by omega⟩

end Go.Proofs.YtikaopicddakeaaGreatDoor
