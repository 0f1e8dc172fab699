/- A state of folds that came in, laid open. -/
import Derived.Test.YtmopfhkppjcgbaaChecked
import Derived.Test.YtmopfhkppjcgbaaG2PFoldsTell
import Derived.Test.YtmopfhkppjcgbaaG5PFoldsTell
import Derived.Lib.SmallJoins
import Derived.Deep.Strs
import Derived.OpenShut
set_option linter.unusedVariables false
set_option linter.unusedSimpArgs false
namespace Go.Proofs.Ytmopfhkppjcgbaa
open Go.RowKit Go.WideShapes Go.ChangeShapes Go.Deep

set_option maxRecDepth 100000 in
/-- a kind that came in -/
theorem open_kind {H : Type} {enc : TypeId × Value → H} {w : World} {base : Nat} {held : Bool} {fuel : Nat} {cs : List Value} {y : DataW H × List MemPlace}
    (h : DataW.trod enc Try.prog w base (fun _ => true) held fuel 54 cs = some y) : ∃ k : Kd, cs = kc k ∧ k.t.length ≤ 9223372036854775807 := by
  obtain ⟨y0, y1, y2, n, _, hl, h0, h1, h2⟩ := trod_struct3 Try.underlying54 h
  have hc : Try.prog.cellsOf 54 = 3 := by kernel_rfl
  have hcs : Try.prog.cellsOf 9 = 1 := by kernel_rfl
  have hci : Try.prog.cellsOf 3 = 1 := by kernel_rfl
  rw [hc] at hl
  match cs, hl with
  | [c0, c1, c2], _ =>
    simp only [hcs, hci] at h0 h1 h2
    obtain ⟨s, e0, _, hs⟩ := DataW.trod_string Try.underlying9 h0
    obtain ⟨a1, e1, _, _⟩ := DataW.trod_int Try.underlying3 h1
    obtain ⟨a2, e2, _, _⟩ := DataW.trod_int Try.underlying3 h2
    simp at e0 e1 e2
    subst e0 e1 e2
    refine ⟨⟨s.data.toList, a1, a2⟩, by unfold kc; cases s; rfl, ?_⟩
    unfold maxLen at hs
    show s.data.toList.length ≤ 9223372036854775807
    rw [Array.length_toList]
    exact hs

set_option maxRecDepth 100000 in
theorem open_state {H : Type} {enc : TypeId × Value → H} {w : World} {base : Nat} {held : Bool} {r : Reach} {b0 : Nat} {v : Value} {d : DataW H} {p : List MemPlace}
    (hv : Value.okWide Try.prog w r b0 24 v) (h : DataW.Trod enc Try.prog w base (fun _ => true) held 24 v d p) :
    ∃ nx ao n cap K, v = .agg #[.int .i64 nx, .slice ao n cap] ∧ Kds w ao n cap K ∧ ∀ j, j < n → (K.getD j kd0).t.length ≤ 9223372036854775807 := by
  obtain ⟨v0, v1, y0, y1, n, rfl, _, _, h0, h1⟩ := Joins.open_agg2 Try.underlying24 (by kernel_rfl) (by kernel_rfl) hv h
  obtain ⟨a0, e0, _, _⟩ := DataW.trod_int Try.underlying3 h0
  simp only [List.cons.injEq, and_true] at e0
  subst e0
  have hc : Try.prog.cellsOf 54 = 3 := by kernel_rfl
  rcases open_slice Try.underlying22 h1 with ⟨e1, _⟩ | ⟨a, len, cap, m, n', D, Pl, e1, _, hl, hm, hmm, _, hi⟩
  · simp only [List.cons.injEq, and_true] at e1
    subst e1
    exact ⟨a0, none, 0, 0, [], rfl, Kds.empty w, fun j hj => by omega⟩
  · simp only [List.cons.injEq, and_true] at e1
    subst e1
    simp only [if_true] at hmm
    subst hmm
    rw [hc] at hi
    have hk : ∀ i, ∃ k : Kd, i < len → (∀ j, j < 3 → w.cell? ((a.add (i * 3)).add j) = (kc k)[j]?) ∧ k.t.length ≤ 9223372036854775807 := fun i => by
      by_cases hil : i < len
      · obtain ⟨cs', hcs, ht⟩ := hi i (by omega)
        obtain ⟨_, hcl, hat⟩ := World.cells?_some hcs
        obtain ⟨k, rfl, hkl⟩ := open_kind ht
        exact ⟨k, fun _ => ⟨hat, hkl⟩⟩
      · exact ⟨kd0, fun h => absurd h hil⟩
    obtain ⟨f, hf⟩ := Classical.axiomOfChoice hk
    have hlen : ((List.range len).map f).length = len := by simp
    have hget : ∀ i, i < len → ((List.range len).map f).getD i kd0 = f i := fun i hi => by
      rw [List.getD_eq_getElem?_getD, List.getElem?_map, List.getElem?_range hi]; rfl
    refine ⟨a0, some a, len, _, (List.range len).map f, rfl, ⟨hlen, hl, by unfold maxLen at hm; omega, (fun h => by cases h), ?_⟩, fun j hj => by rw [hget j hj]; exact (hf j hj).2⟩
    intro j u hj
    have hjl : j < len * 3 := by
      have := (List.getElem?_eq_some_iff.1 hj).1
      rwa [kcs_length, hlen] at this
    have hi3 : j / 3 < len := by omega
    have hr3 : j % 3 < 3 := Nat.mod_lt _ (by decide)
    have hjj : j / 3 * 3 + j % 3 = j := by omega
    have hkc := kcs_at ((List.range len).map f) (j / 3) (j % 3) (by rw [hlen]; exact hi3) hr3
    rw [hjj, hget _ hi3, hj] at hkc
    have h0' := (hf 0 (by omega)).1 0 (by decide)
    rw [Nat.zero_mul, add_add, Nat.add_zero] at h0'
    obtain ⟨b, off, rfl⟩ := spot_none h0'
    have hcell := (hf (j / 3) hi3).1 (j % 3) hr3
    rw [add_add, hjj, ← hkc, add_lit'] at hcell
    exact ⟨b, off, rfl, hcell⟩

end Go.Proofs.Ytmopfhkppjcgbaa
