/- Small laws of no program: cells of one's own that are written over, whatever they hold. -/
import Derived.Test.YtkkafjknogfdnaaK
namespace Go.Proofs.Ytkkafjknogfdnaa
open Go.RowKit

/-- a slice whose cells lie in a block of the call's own, of that type: each of its elements may be written -/
def Pk (w : World) (B : Nat) (tI : TypeId) (v : Value) : Prop :=
  ∃ ao n cap, v = .slice ao n cap ∧ n ≤ 9223372036854775807 ∧ (n = 0 ∨ ∃ g cur, ao = some ⟨g, 0, none⟩ ∧ B ≤ g ∧ w.heap[g]? = some (.cells cur tI (0, 0)) ∧ n ≤ cur.size)

theorem Pk.of {w : World} {B : Nat} {tI : TypeId} {v : Value} {n : Nat} {cs : List Value} (h : Own w B tI 1 v n cs) : Pk w B tI v := by
  rcases h.2 with ⟨rfl, rfl⟩ | ⟨g, cap, cur, rfl, hb, hg, hn, hm, hc, _⟩
  · exact ⟨none, 0, 0, rfl, by omega, .inl rfl⟩
  · exact ⟨_, n, cap, rfl, by omega, .inr ⟨g, cur, rfl, hb, hg, by omega⟩⟩

theorem shape_setCell {w : World} {g g' k : Nat} {u : Value} {cur : Array Value} {t : TypeId} (h : w.heap[g]? = some (.cells cur t (0, 0))) :
    ∃ cur', (w.setCell ⟨g', k, none⟩ u).heap[g]? = some (.cells cur' t (0, 0)) ∧ cur'.size = cur.size := by
  by_cases e : g' = g
  · subst e
    refine ⟨cur.setIfInBounds k u, ?_, by simp⟩
    simp only [World.setCell, Array.getElem?_modify, if_true, h, Option.map_some]
    rfl
  · exact ⟨cur, by rw [Below.heap_setCell _ _ _ _ (Ne.symm e)]; exact h, rfl⟩

theorem Pk.poke {w : World} {B : Nat} {tI : TypeId} {v : Value} (h : Pk w B tI v) (g k : Nat) (u : Value) : Pk (w.setCell ⟨g, k, none⟩ u) B tI v := by
  obtain ⟨ao, n, cap, rfl, hn, h⟩ := h
  refine ⟨ao, n, cap, rfl, hn, ?_⟩
  rcases h with h | ⟨g', cur, e, hb, hg, hc⟩
  · exact .inl h
  · obtain ⟨cur', h1, h2⟩ := shape_setCell (g' := g) (k := k) (u := u) hg
    exact .inr ⟨g', cur', e, hb, h1, by omega⟩

theorem Pk.same {w w' : World} {B : Nat} {tI : TypeId} {v : Value} (h : Pk w B tI v) (k : ∀ g, v.ownBlock = some g → w'.heap[g]? = w.heap[g]?) : Pk w' B tI v := by
  obtain ⟨ao, n, cap, rfl, hn, h⟩ := h
  refine ⟨ao, n, cap, rfl, hn, ?_⟩
  rcases h with h | ⟨g', cur, rfl, hb, hg, hc⟩
  · exact .inl h
  · exact .inr ⟨g', cur, rfl, hb, by rw [k g' rfl]; exact hg, hc⟩

theorem Pk.ext {w w' : World} {B : Nat} {tI : TypeId} {v : Value} (h : Pk w B tI v) (k : Ext w w') : Pk w' B tI v := by
  obtain ⟨ao, n, cap, rfl, hn, h⟩ := h
  refine ⟨ao, n, cap, rfl, hn, ?_⟩
  rcases h with h | ⟨g', cur, rfl, hb, hg, hc⟩
  · exact .inl h
  · exact .inr ⟨g', cur, rfl, hb, by rw [k.block g' ((Array.getElem?_eq_some_iff.1 hg).1)]; exact hg, hc⟩

/-- one of its cells -/
theorem Pk.at {w : World} {B : Nat} {tI : TypeId} {ao : Option Addr} {n cap k : Nat} (h : Pk w B tI (.slice ao n cap)) (hk : k < n) :
    ∃ g u cur, ao = some ⟨g, 0, none⟩ ∧ B ≤ g ∧ w.cell? ⟨g, k, none⟩ = some u ∧ w.frozen? ⟨g, k, none⟩ = false ∧ w.heap[g]? = some (.cells cur tI (0, 0)) := by
  obtain ⟨ao', n', cap', e, hn, h⟩ := h
  cases e
  rcases h with h | ⟨g, cur, rfl, hb, hg, hc⟩
  · omega
  · exact ⟨g, cur[k]'(by omega), cur, rfl, hb, by simp [World.cell?, hg, Array.getElem?_eq_getElem (show k < cur.size by omega)], by simp [World.frozen?, hg], hg⟩

/-- a slice of such slices -/
def PkG (w : World) (B : Nat) (tO tI : TypeId) (v : Value) (n : Nat) (vs : List Value) : Prop :=
  Own w B tO 1 v n vs ∧ ∀ i, Pk w B tI (vs.getD i (.slice none 0 0))

theorem PkG.of {w : World} {B : Nat} {tO tI : TypeId} {v : Value} {vs : List Value} {L : List (List Int)} (h : OGr w B tO tI v vs L) : PkG w B tO tI v L.length vs :=
  ⟨h.own, fun i => Pk.of (h.row i)⟩

theorem PkG.ext {w w' : World} {B : Nat} {tO tI : TypeId} {v : Value} {n : Nat} {vs : List Value} (h : PkG w B tO tI v n vs) (k : Ext w w') : PkG w' B tO tI v n vs :=
  ⟨h.1.ext k, fun i => (h.2 i).ext k⟩

theorem PkG.poke {w : World} {B : Nat} {tO tI : TypeId} {v : Value} {n : Nat} {vs : List Value} (h : PkG w B tO tI v n vs) (hne : tO ≠ tI) {g : Nat} {cur : Array Value} (hg : w.heap[g]? = some (.cells cur tI (0, 0))) (k : Nat) (u : Value) :
    PkG (w.setCell ⟨g, k, none⟩ u) B tO tI v n vs := by
  refine ⟨h.1.setOther _ fun e => ?_, fun i => (h.2 i).poke g k u⟩
  obtain ⟨c, hc⟩ := h.1.etype e
  rw [hg] at hc
  cases hc
  exact hne rfl

theorem PkG.row {w : World} {B : Nat} {tO tI : TypeId} {v : Value} {n : Nat} {vs : List Value} (h : PkG w B tO tI v n vs) (i : Nat) : ∃ ai ni ci, vs.getD i (.slice none 0 0) = .slice ai ni ci ∧ ni ≤ 9223372036854775807 := by
  obtain ⟨ai, ni, ci, e2, hn, _⟩ := h.2 i
  exact ⟨ai, ni, ci, e2, hn⟩

/-- a row of it, known by name -/
theorem PkG.cell {w : World} {B : Nat} {tO tI : TypeId} {ao ai : Option Addr} {n cap i ni ci : Nat} {vs : List Value} (h : PkG w B tO tI (.slice ao n cap) n vs) (hi : i < n) (hr : vs.getD i (.slice none 0 0) = .slice ai ni ci) :
    ∃ g, ao = some ⟨g, 0, none⟩ ∧ w.cell? ⟨g, i, none⟩ = some (.slice ai ni ci) ∧ Pk w B tI (.slice ai ni ci) := by
  have hvl : vs.length = n := by simpa using h.1.1
  obtain ⟨g, c, e, h1, _, _⟩ := h.1.cell (j := i) (by omega)
  cases e
  have hd : vs.getD i (.slice none 0 0) = vs[i] := by rw [List.getD_eq_getElem?_getD, List.getElem?_eq_getElem (by omega)]; rfl
  exact ⟨g, rfl, by rw [h1, ← hd, hr], by rw [← hr]; exact h.2 i⟩

/-- a row of it -/
theorem PkG.at {w : World} {B : Nat} {tO tI : TypeId} {ao : Option Addr} {n cap i : Nat} {vs : List Value} (h : PkG w B tO tI (.slice ao n cap) n vs) (hi : i < n) :
    ∃ g ai ni ci, ao = some ⟨g, 0, none⟩ ∧ w.cell? ⟨g, i, none⟩ = some (.slice ai ni ci) ∧ Pk w B tI (.slice ai ni ci) ∧ ni ≤ 9223372036854775807 := by
  have hvl : vs.length = n := by simpa using h.1.1
  obtain ⟨g, c, e, h1, _, _⟩ := h.1.cell (j := i) (by omega)
  cases e
  have hd : vs.getD i (.slice none 0 0) = vs[i] := by rw [List.getD_eq_getElem?_getD, List.getElem?_eq_getElem (by omega)]; rfl
  have hr := h.2 i
  rw [hd] at hr
  have hr' := hr
  obtain ⟨ai, ni, ci, e2, hn, _⟩ := hr'
  rw [e2] at hr h1
  exact ⟨g, ai, ni, ci, rfl, h1, hr, hn⟩

end Go.Proofs.Ytkkafjknogfdnaa
