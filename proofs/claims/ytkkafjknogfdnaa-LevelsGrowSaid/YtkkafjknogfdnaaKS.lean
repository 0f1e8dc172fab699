/- Small laws of no program: slices of plain elements of one cell. -/
import Derived.Test.YtkkafjknogfdnaaK
import Derived.Test.YtkkafjknogfdnaaO
import Derived.OpenShut
namespace Go.Proofs.Ytkkafjknogfdnaa
open Go.RowKit Go.ChangeShapes Go.WideShapes Go.ChangeAt

/-- a slice whose elements lie in one cell each: f tells how -/
structure Slf {α : Type} (f : α → Value) (w : World) (ao : Option Addr) (n cap : Nat) (xs : List α) : Prop where
  len : xs.length = n
  fits : n ≤ cap
  bound : cap ≤ 9223372036854775807
  nil : ao = none → cap = 0
  rd : Rd w ao (xs.map f)

theorem Slf.ext {α : Type} {f : α → Value} {w w' : World} {ao : Option Addr} {n cap : Nat} {xs : List α} (h : Slf f w ao n cap xs) (k : Ext w w') : Slf f w' ao n cap xs :=
  ⟨h.len, h.fits, h.bound, h.nil, h.rd.ext k⟩

theorem Slf.at {α : Type} {f : α → Value} {w : World} {ao : Option Addr} {n cap : Nat} {xs : List α} (h : Slf f w ao n cap xs) (d : α) {j : Nat} (hj : j < n) :
    ∃ b off, ao = some ⟨b, off, none⟩ ∧ w.cell? ⟨b, off + j, none⟩ = some (f (xs.getD j d)) := by
  have hl := h.len
  obtain ⟨b, off, e, hc⟩ := h.rd.at (j := j) (by simp; omega)
  refine ⟨b, off, e, ?_⟩
  rw [hc, List.getElem_map, List.getD_eq_getElem?_getD, List.getElem?_eq_getElem (by omega)]
  rfl

theorem Slf.empty {α : Type} (f : α → Value) (w : World) : Slf f w none 0 0 [] := ⟨rfl, Nat.le_refl _, by omega, fun _ => rfl, Rd.nil _ _⟩

theorem Slf.of_own {α : Type} {f : α → Value} {w : World} {B : Nat} {e : TypeId} {v : Value} {n : Nat} {xs : List α} (h : Own w B e 1 v n (xs.map f)) : ∃ ao cap, v = .slice ao n cap ∧ Slf f w ao n cap xs := by
  have hl := h.1
  obtain ⟨ao, cap, rfl, h1, h2, h3, h4⟩ := h.rd
  exact ⟨ao, cap, rfl, by simpa using hl, h1, h2, h3, h4⟩

theorem Slf.cut {α : Type} {f : α → Value} {w : World} {ao : Option Addr} {n cap : Nat} {xs : List α} (h : Slf f w ao n cap xs) {k : Nat} (hk : k ≤ n) : Slf f w ao k cap (xs.take k) :=
  ⟨by have := h.len; simp; omega, Nat.le_trans hk h.fits, h.bound, h.nil, by rw [List.map_take]; exact h.rd.take k⟩

/-- a slice of bytes: their numbers -/
abbrev U8s := Slf (fun b : Int => Value.int .u8 b)

theorem wf_getD {k : IntKind} {zs : List Int} (h : ∀ n ∈ zs, (Lit.int k n).wf = true) (j : Nat) (h0 : (Lit.int k 0).wf = true) : (Lit.int k (zs.getD j 0)).wf = true := by
  rcases Nat.lt_or_ge j zs.length with hj | hj
  · rw [List.getD_eq_getElem?_getD, List.getElem?_eq_getElem hj]; exact h _ (List.getElem_mem hj)
  · rw [List.getD_eq_getElem?_getD, List.getElem?_eq_none hj]; exact h0

/-- a slice of integers of whatever kind that came in -/
theorem open_ints_any {H : Type} {enc : TypeId × Value → H} {P : Program} {w : World} {base : Nat} {held : Bool} {t e : TypeId} {k : IntKind} {v : Value} {d : DataW H} {p : List MemPlace}
    (ht : P.underlying t = some (.slice e)) (he : P.underlying e = some (.int k)) (ce : P.cellsOf e = 1)
    (hs : ∃ ao n cap, v = .slice ao n cap) (h : DataW.Trod enc P w base (fun _ => true) held t v d p) :
    ∃ ao n cap xs, v = .slice ao n cap ∧ Slf (fun b : Int => Value.int k b) w ao n cap xs ∧ ∀ x ∈ xs, (Lit.int k x).wf = true := by
  obtain ⟨ao, n, cap, rfl⟩ := hs
  obtain ⟨fuel, hf⟩ := h
  rcases open_ints ht he ce hf with ⟨hcs, _⟩ | ⟨a, len, cap', zs, hcs, _, hl, hm, hz, _, hcell, hwz⟩
  · simp [Value.cells] at hcs
    obtain ⟨rfl, rfl, rfl⟩ := hcs
    exact ⟨_, _, _, [], rfl, Slf.empty _ _, by simp⟩
  · simp [Value.cells] at hcs
    obtain ⟨rfl, rfl, rfl⟩ := hcs
    simp only [if_true] at hz
    refine ⟨_, _, _, zs.take n, rfl, ⟨by simp; omega, hl, by unfold maxLen at hm; omega, (fun hh => by cases hh), rd_of_cells fun j hj => ?_⟩, fun x hx => hwz x (List.mem_of_mem_take hx)⟩
    simp only [List.length_map, List.length_take] at hj
    rw [hcell j (by omega), List.getElem_map, List.getElem_take, List.getD_eq_getElem?_getD, List.getElem?_eq_getElem (by omega)]
    rfl

end Go.Proofs.Ytkkafjknogfdnaa
