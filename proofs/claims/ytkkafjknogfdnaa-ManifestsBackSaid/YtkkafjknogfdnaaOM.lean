/- A manifest, and a pair of numbers, that came in, laid open. -/
import Derived.Test.YtkkafjknogfdnaaChecked
import Derived.Test.YtkkafjknogfdnaaO
import Derived.Lib.SmallJoins
import Derived.OpenShut
namespace Go.Proofs.Ytkkafjknogfdnaa
open Go.RowKit Go.WideShapes

theorem trod_of_cell {H : Type} {enc : TypeId × Value → H} {w : World} {base : Nat} {sp : Nat → Bool} {held : Bool} {t : TypeId} {n : Nat} {v : Value} {y : DataW H × List MemPlace} (hc : v.cells.toList = [v])
    (h : DataW.trod enc Try.prog w base sp held n t [v] = some y) : DataW.Trod enc Try.prog w base sp held t v y.1 y.2 := ⟨n, by rw [hc]; exact h⟩

set_option maxRecDepth 100000 in
theorem open_man {H : Type} {enc : TypeId × Value → H} {w : World} {base : Nat} {held : Bool} {r : Reach} {b0 : Nat} {v : Value} {d : DataW H} {p : List MemPlace}
    (hv : Value.okWide Try.prog w r b0 41 v) (h : DataW.Trod enc Try.prog w base (fun _ => true) held 41 v d p) :
    ∃ nx ck sd ao n cap L, v = .agg #[.int .i64 nx, .int .i64 ck, .int .u64 sd, .slice ao n cap] ∧ Grid w ao n cap L ∧ (∀ x ∈ L.flatten, (Lit.int .i64 x).wf = true) ∧ 0 ≤ sd ∧ sd < 18446744073709551616 := by
  obtain ⟨v0, v1, v2, v3, y0, y1, y2, y3, n, rfl, _, _, h0, h1, h2, h3⟩ := Joins.open_agg4 Try.underlying41 (by kernel_rfl) (by kernel_rfl) hv h
  obtain ⟨a0, e0, _, _⟩ := DataW.trod_int Try.underlying3 h0
  obtain ⟨a1, e1, _, _⟩ := DataW.trod_int Try.underlying3 h1
  obtain ⟨a2, e2, _, w2⟩ := DataW.trod_int Try.underlying39 h2
  obtain ⟨a3, l3, c3, e3⟩ := Joins.slice_form Try.underlying22 h3
  simp only [List.cons.injEq, and_true] at e0 e1 e2 e3
  subst e0 e1 e2 e3
  obtain ⟨ao, m, cap, L, e, hg, hwf⟩ := open_grid Try.underlying22 Try.underlying25 Try.underlying3 (by kernel_rfl) (by kernel_rfl) ⟨_, _, _, rfl⟩ (trod_of_cell rfl h3)
  cases e
  have hb := bounds_u64 w2
  exact ⟨a0, a1, a2, _, _, _, L, rfl, hg, hwf, by omega, by omega⟩

set_option maxRecDepth 100000 in
theorem open_pair16 {H : Type} {enc : TypeId × Value → H} {w : World} {base : Nat} {held : Bool} {r : Reach} {b0 : Nat} {v : Value} {d : DataW H} {p : List MemPlace}
    (hv : Value.okWide Try.prog w r b0 43 v) (h : DataW.Trod enc Try.prog w base (fun _ => true) held 43 v d p) :
    ∃ a b, v = .agg #[.int .u16 a, .int .u16 b] ∧ 0 ≤ a ∧ a ≤ 65535 ∧ 0 ≤ b ∧ b ≤ 65535 := by
  simp only [Value.okWide, Try.underlying43] at hv
  obtain ⟨cs, rfl, hsz, _⟩ := hv
  have hc : Try.prog.cellsOf 43 = 2 := by kernel_rfl
  have hc1 : Try.prog.cellsOf 42 = 1 := by kernel_rfl
  obtain ⟨c0, c1, rfl⟩ := Joins.array2 (hsz.trans hc)
  obtain ⟨fuel, hf⟩ := h
  obtain ⟨xs, m, _, _, _, hl, hi⟩ := DataW.trod_array Try.underlying43 hf
  have i0 := hi 0 (by decide)
  have i1 := hi 1 (by decide)
  rw [hc1] at i0 i1
  rw [List.getElem?_eq_getElem (by omega)] at i0 i1
  obtain ⟨a0, e0, _, w0⟩ := DataW.trod_int Try.underlying42 i0
  obtain ⟨a1, e1, _, w1⟩ := DataW.trod_int Try.underlying42 i1
  simp [Value.cells] at e0 e1
  subst e0 e1
  have hb0 := bounds_u16 w0
  have hb1 := bounds_u16 w1
  exact ⟨a0, a1, rfl, by omega, by omega, by omega, by omega⟩

end Go.Proofs.Ytkkafjknogfdnaa
