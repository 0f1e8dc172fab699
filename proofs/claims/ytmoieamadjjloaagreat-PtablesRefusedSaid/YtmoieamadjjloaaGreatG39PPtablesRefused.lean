/- Entries and asks that came in, laid open. -/
import Derived.Test.YtmoieamadjjloaaGreatChecked
import Derived.Test.YtmoieamadjjloaaGreatG2PPtablesRefused
import Derived.Test.YtmoieamadjjloaaGreatG5PPtablesRefused
import Derived.Deep.Strs
import Derived.OpenShut
set_option linter.unusedVariables false
set_option linter.unusedSimpArgs false
namespace Go.Proofs.YtmoieamadjjloaaGreat
open Go.RowKit Go.WideShapes Go.ChangeShapes Go.Deep
set_option linter.unusedVariables false

/-- one of annalist/api.Entry -/
def ecc (a : En) : List Value := [.int .u64 a.1, .int .i64 a.2.1, .int .i64 a.2.2]
structure okIn (a : En) : Prop where
  h0 : 0 ≤ a.1
  h1 : a.1 ≤ 18446744073709551615
  f0 : -9223372036854775808 ≤ a.2.1
  f1 : a.2.1 ≤ 9223372036854775807
  t0 : -9223372036854775808 ≤ a.2.2
  t1 : a.2.2 ≤ 9223372036854775807
structure EnsIn (w : World) (ao : Option Addr) (n cap : Nat) (A : List En) : Prop where
  len : A.length = n
  fits : n ≤ cap
  bound : cap ≤ 9223372036854775807
  cell : ∀ i (h : i < A.length), ∃ b off, ao = some ⟨b, off, none⟩ ∧ ∀ j u, (ecc A[i])[j]? = some u → w.cell? ⟨b, off + (i * 3 + j), none⟩ = some u
  nil : ao = none → cap = 0
  ok : ∀ a ∈ A, okIn a
theorem EnsIn.ext {w w' : World} {ao : Option Addr} {n cap : Nat} {A : List En} (h : EnsIn w ao n cap A) (k : Ext w w') : EnsIn w' ao n cap A :=
  ⟨h.len, h.fits, h.bound, fun i hi => let ⟨b, off, e, hc⟩ := h.cell i hi; ⟨b, off, e, fun j u hj => cell_ext k (hc j u hj)⟩, h.nil, h.ok⟩
set_option maxRecDepth 100000 in
theorem open_ecc {H : Type} {enc : TypeId × Value → H} {w : World} {base : Nat} {held : Bool} {fuel : Nat} {cs : List Value} {y : DataW H × List MemPlace} (h : DataW.trod enc Tryz.prog w base (fun _ => true) held fuel 44 cs = some y) : ∃ a : En, cs = ecc a ∧ okIn a := by
  obtain ⟨xs, n, _, rfl, hl, hlen, hf⟩ := DataW.trod_struct Tryz.underlying44 h
  have hc : Tryz.prog.cellsOf 44 = 3 := by kernel_rfl
  have c0 : Tryz.prog.cellsOf 42 = 1 := by kernel_rfl
  have c3 : Tryz.prog.cellsOf 3 = 1 := by kernel_rfl
  rw [hc] at hl
  match cs, hl with
  | [x0, x1, x2], _ =>
    match xs, hlen with
    | [y0, y1, y2], _ =>
      have h0 := hf 0 _ rfl
      have h1 := hf 1 _ rfl
      have h2 := hf 2 _ rfl
      simp [c0, c3] at h0 h1 h2
      obtain ⟨a0, e0, _, wf0⟩ := DataW.trod_int Tryz.underlying42 h0
      obtain ⟨a1, e1, _, wf1⟩ := DataW.trod_int Tryz.underlying3 h1
      obtain ⟨a2, e2, _, wf2⟩ := DataW.trod_int Tryz.underlying3 h2
      simp only [List.cons.injEq, and_true] at e0 e1 e2
      subst e0 e1 e2
      have hb0 := bounds_u64 wf0
      have hb1 := bounds_i64 wf1
      have hb2 := bounds_i64 wf2
      exact ⟨(a0, a1, a2), rfl, ⟨by simp only; omega, by simp only; omega, hb1.1, hb1.2, hb2.1, hb2.2⟩⟩
/-- .. that came in -/
theorem open_EnsIn {H : Type} {enc : TypeId × Value → H} {w : World} {base : Nat} {held : Bool} {v : Value} {d : DataW H} {p : List MemPlace} (h : DataW.Trod enc Tryz.prog w base (fun _ => true) held 22 v d p) (hs : ∃ ao n cap, v = .slice ao n cap) :
    ∃ ao n cap A, v = .slice ao n cap ∧ EnsIn w ao n cap A := by
  obtain ⟨ao, n, cap, rfl⟩ := hs
  obtain ⟨f, hf⟩ := h
  have e9 : (Value.slice ao n cap).cells.toList = [.slice ao n cap] := by simp [Value.cells]
  rw [e9] at hf
  have hc : Tryz.prog.cellsOf 44 = 3 := by kernel_rfl
  rcases open_slice Tryz.underlying22 hf with ⟨e1, _⟩ | ⟨a, len, cap', m, n', D, Pl, e1, _, hl, hm, hmm, _, hi⟩
  · simp only [List.cons.injEq, and_true] at e1
    cases e1
    exact ⟨none, 0, 0, [], rfl, ⟨rfl, Nat.le_refl _, by omega, (fun i h => by cases h), fun _ => rfl, (fun a h => by cases h)⟩⟩
  · simp only [List.cons.injEq, and_true] at e1
    cases e1
    simp only [if_true] at hmm
    subst hmm
    rw [hc] at hi
    have hk : ∀ i, ∃ k : En, i < n → (∀ j, j < 3 → w.cell? ((a.add (i * 3)).add j) = (ecc k)[j]?) ∧ okIn k := fun i => by
      by_cases hil : i < n
      · obtain ⟨cs', hcs, ht⟩ := hi i (by omega)
        obtain ⟨_, hcl, hat⟩ := World.cells?_some hcs
        obtain ⟨k, rfl, hkl⟩ := open_ecc ht
        exact ⟨k, fun _ => ⟨hat, hkl⟩⟩
      · exact ⟨en0, fun h => absurd h hil⟩
    obtain ⟨f, hf⟩ := Classical.axiomOfChoice hk
    refine ⟨some a, _, _, (List.range n).map f, rfl, ⟨by simp, hl, by unfold maxLen at hm; omega, fun i h => ?_, (fun h => by cases h), fun x hx => ?_⟩⟩
    · simp only [List.length_map, List.length_range] at h
      have h0 := (hf 0 (by omega)).1 0 (by decide)
      rw [Nat.zero_mul, add_add, Nat.add_zero] at h0
      obtain ⟨b, off, rfl⟩ := spot_none (u := .int .u64 (f 0).1) (by rw [h0]; rfl)
      refine ⟨b, off, rfl, fun j u hj => ?_⟩
      rw [List.getElem_map, List.getElem_range] at hj
      have hj3 : j < 3 := (List.getElem?_eq_some_iff.1 hj).1
      have h1 := (hf i h).1 j hj3
      rw [add_add, hj, add_lit'] at h1
      exact h1
    · obtain ⟨i, hi2, rfl⟩ := List.mem_map.1 hx
      exact (hf i (List.mem_range.1 hi2)).2
theorem EnsIn.at {w : World} {ao : Option Addr} {n cap : Nat} {A : List En} (h : EnsIn w ao n cap A) {i : Nat} (hi : i < n) :
    ∃ b off, ao = some ⟨b, off, none⟩ ∧ w.cell? ⟨b, off + i * 3, none⟩ = some (.int .u64 (A.getD i en0).1) ∧ w.cell? ⟨b, off + i * 3 + 1, none⟩ = some (.int .i64 (A.getD i en0).2.1) ∧ w.cell? ⟨b, off + i * 3 + 2, none⟩ = some (.int .i64 (A.getD i en0).2.2) ∧ okIn (A.getD i en0) := by
  have hl : i < A.length := by rw [h.len]; exact hi
  obtain ⟨b, off, e, hc⟩ := h.cell i hl
  have hg : A.getD i en0 = A[i] := by simp [List.getD, List.getElem?_eq_getElem hl]
  rw [hg]
  have h0 := hc 0 _ rfl; have h1 := hc 1 _ rfl; have h2 := hc 2 _ rfl
  exact ⟨b, off, e, h0, h1, h2, h.ok _ (List.getElem_mem hl)⟩

theorem EnsIn.ens {w : World} {ao : Option Addr} {n cap : Nat} {A : List En} (h : EnsIn w ao n cap A) : Ens w ao n cap A := by
  refine ⟨h.len, h.fits, h.bound, h.nil, fun j u hj => ?_⟩
  have hl : j / 3 < A.length := by
    have := (List.getElem?_eq_some_iff.1 hj).1
    rw [ecs_length] at this
    omega
  obtain ⟨b, off, e, hc⟩ := h.cell (j / 3) hl
  refine ⟨b, off, e, ?_⟩
  have h1 := ecs_at A (j / 3) (j % 3) hl (Nat.mod_lt _ (by decide))
  have hj2 : j / 3 * 3 + j % 3 = j := by omega
  rw [hj2, hj] at h1
  have hg : A.getD (j / 3) en0 = A[j / 3] := by simp [List.getD, List.getElem?_eq_getElem hl]
  rw [hg] at h1
  have h2 := hc (j % 3) u h1.symm
  rw [hj2] at h2
  exact h2

/-- one of annalist/annalistlaw19.Ask -/
def asc (a : En) : List Value := [.int .u8 a.1, .int .i64 a.2.1, .int .i64 a.2.2]
structure okAsk (a : En) : Prop where
  h0 : 0 ≤ a.1
  h1 : a.1 ≤ 255
  f0 : -9223372036854775808 ≤ a.2.1
  f1 : a.2.1 ≤ 9223372036854775807
  t0 : -9223372036854775808 ≤ a.2.2
  t1 : a.2.2 ≤ 9223372036854775807
structure AsksIn (w : World) (ao : Option Addr) (n cap : Nat) (A : List En) : Prop where
  len : A.length = n
  fits : n ≤ cap
  bound : cap ≤ 9223372036854775807
  cell : ∀ i (h : i < A.length), ∃ b off, ao = some ⟨b, off, none⟩ ∧ ∀ j u, (asc A[i])[j]? = some u → w.cell? ⟨b, off + (i * 3 + j), none⟩ = some u
  nil : ao = none → cap = 0
  ok : ∀ a ∈ A, okAsk a
theorem AsksIn.ext {w w' : World} {ao : Option Addr} {n cap : Nat} {A : List En} (h : AsksIn w ao n cap A) (k : Ext w w') : AsksIn w' ao n cap A :=
  ⟨h.len, h.fits, h.bound, fun i hi => let ⟨b, off, e, hc⟩ := h.cell i hi; ⟨b, off, e, fun j u hj => cell_ext k (hc j u hj)⟩, h.nil, h.ok⟩
set_option maxRecDepth 100000 in
theorem open_asc {H : Type} {enc : TypeId × Value → H} {w : World} {base : Nat} {held : Bool} {fuel : Nat} {cs : List Value} {y : DataW H × List MemPlace} (h : DataW.trod enc Tryz.prog w base (fun _ => true) held fuel 87 cs = some y) : ∃ a : En, cs = asc a ∧ okAsk a := by
  obtain ⟨xs, n, _, rfl, hl, hlen, hf⟩ := DataW.trod_struct Tryz.underlying87 h
  have hc : Tryz.prog.cellsOf 87 = 3 := by kernel_rfl
  have c0 : Tryz.prog.cellsOf 5 = 1 := by kernel_rfl
  have c3 : Tryz.prog.cellsOf 3 = 1 := by kernel_rfl
  rw [hc] at hl
  match cs, hl with
  | [x0, x1, x2], _ =>
    match xs, hlen with
    | [y0, y1, y2], _ =>
      have h0 := hf 0 _ rfl
      have h1 := hf 1 _ rfl
      have h2 := hf 2 _ rfl
      simp [c0, c3] at h0 h1 h2
      obtain ⟨a0, e0, _, wf0⟩ := DataW.trod_int Tryz.underlying5 h0
      obtain ⟨a1, e1, _, wf1⟩ := DataW.trod_int Tryz.underlying3 h1
      obtain ⟨a2, e2, _, wf2⟩ := DataW.trod_int Tryz.underlying3 h2
      simp only [List.cons.injEq, and_true] at e0 e1 e2
      subst e0 e1 e2
      have hb0 := bounds_u8 wf0
      have hb1 := bounds_i64 wf1
      have hb2 := bounds_i64 wf2
      exact ⟨(a0, a1, a2), rfl, ⟨by simp only; omega, by simp only; omega, hb1.1, hb1.2, hb2.1, hb2.2⟩⟩
/-- .. that came in -/
theorem open_AsksIn {H : Type} {enc : TypeId × Value → H} {w : World} {base : Nat} {held : Bool} {v : Value} {d : DataW H} {p : List MemPlace} (h : DataW.Trod enc Tryz.prog w base (fun _ => true) held 23 v d p) (hs : ∃ ao n cap, v = .slice ao n cap) :
    ∃ ao n cap A, v = .slice ao n cap ∧ AsksIn w ao n cap A := by
  obtain ⟨ao, n, cap, rfl⟩ := hs
  obtain ⟨f, hf⟩ := h
  have e9 : (Value.slice ao n cap).cells.toList = [.slice ao n cap] := by simp [Value.cells]
  rw [e9] at hf
  have hc : Tryz.prog.cellsOf 87 = 3 := by kernel_rfl
  rcases open_slice Tryz.underlying23 hf with ⟨e1, _⟩ | ⟨a, len, cap', m, n', D, Pl, e1, _, hl, hm, hmm, _, hi⟩
  · simp only [List.cons.injEq, and_true] at e1
    cases e1
    exact ⟨none, 0, 0, [], rfl, ⟨rfl, Nat.le_refl _, by omega, (fun i h => by cases h), fun _ => rfl, (fun a h => by cases h)⟩⟩
  · simp only [List.cons.injEq, and_true] at e1
    cases e1
    simp only [if_true] at hmm
    subst hmm
    rw [hc] at hi
    have hk : ∀ i, ∃ k : En, i < n → (∀ j, j < 3 → w.cell? ((a.add (i * 3)).add j) = (asc k)[j]?) ∧ okAsk k := fun i => by
      by_cases hil : i < n
      · obtain ⟨cs', hcs, ht⟩ := hi i (by omega)
        obtain ⟨_, hcl, hat⟩ := World.cells?_some hcs
        obtain ⟨k, rfl, hkl⟩ := open_asc ht
        exact ⟨k, fun _ => ⟨hat, hkl⟩⟩
      · exact ⟨en0, fun h => absurd h hil⟩
    obtain ⟨f, hf⟩ := Classical.axiomOfChoice hk
    refine ⟨some a, _, _, (List.range n).map f, rfl, ⟨by simp, hl, by unfold maxLen at hm; omega, fun i h => ?_, (fun h => by cases h), fun x hx => ?_⟩⟩
    · simp only [List.length_map, List.length_range] at h
      have h0 := (hf 0 (by omega)).1 0 (by decide)
      rw [Nat.zero_mul, add_add, Nat.add_zero] at h0
      obtain ⟨b, off, rfl⟩ := spot_none (u := .int .u8 (f 0).1) (by rw [h0]; rfl)
      refine ⟨b, off, rfl, fun j u hj => ?_⟩
      rw [List.getElem_map, List.getElem_range] at hj
      have hj3 : j < 3 := (List.getElem?_eq_some_iff.1 hj).1
      have h1 := (hf i h).1 j hj3
      rw [add_add, hj, add_lit'] at h1
      exact h1
    · obtain ⟨i, hi2, rfl⟩ := List.mem_map.1 hx
      exact (hf i (List.mem_range.1 hi2)).2
theorem AsksIn.at {w : World} {ao : Option Addr} {n cap : Nat} {A : List En} (h : AsksIn w ao n cap A) {i : Nat} (hi : i < n) :
    ∃ b off, ao = some ⟨b, off, none⟩ ∧ w.cell? ⟨b, off + i * 3, none⟩ = some (.int .u8 (A.getD i en0).1) ∧ w.cell? ⟨b, off + i * 3 + 1, none⟩ = some (.int .i64 (A.getD i en0).2.1) ∧ w.cell? ⟨b, off + i * 3 + 2, none⟩ = some (.int .i64 (A.getD i en0).2.2) ∧ okAsk (A.getD i en0) := by
  have hl : i < A.length := by rw [h.len]; exact hi
  obtain ⟨b, off, e, hc⟩ := h.cell i hl
  have hg : A.getD i en0 = A[i] := by simp [List.getD, List.getElem?_eq_getElem hl]
  rw [hg]
  have h0 := hc 0 _ rfl; have h1 := hc 1 _ rfl; have h2 := hc 2 _ rfl
  exact ⟨b, off, e, h0, h1, h2, h.ok _ (List.getElem_mem hl)⟩

end Go.Proofs.YtmoieamadjjloaaGreat
