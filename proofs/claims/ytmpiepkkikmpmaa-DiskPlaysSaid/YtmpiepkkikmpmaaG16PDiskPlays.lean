/- Acts of the laws of disk, laid open. -/
import Derived.Test.YtmpiepkkikmpmaaChecked
import Derived.Test.YtmpiepkkikmpmaaG4PDiskPlays
import Derived.Deep.Strs
import Derived.OpenShut
set_option linter.unusedVariables false
set_option linter.unusedSimpArgs false
namespace Go.Proofs.Ytmpiepkkikmpmaa
open Go.RowKit Go.WideShapes Go.ChangeShapes Go.Deep

/-- what is done with a disk -/
structure ActM where
  kd : Int
  nm : List UInt8
  tt : List UInt8
  tx : List UInt8
  at_ : Int
  n : Int
  ka : Option Addr
  kn : Nat
  kc : Nat
  ks : List Int
def ActM.cells (a : ActM) : List Value := [.int .u8 a.kd, .string ⟨a.nm.toArray⟩, .string ⟨a.tt.toArray⟩, .string ⟨a.tx.toArray⟩, .int .i64 a.at_, .int .i64 a.n, .slice a.ka a.kn a.kc]

structure okAct (w : World) (a : ActM) : Prop where
  kd0 : 0 ≤ a.kd
  kd1 : a.kd ≤ 255
  nm : a.nm.length ≤ 9223372036854775807
  tt : a.tt.length ≤ 9223372036854775807
  tx : a.tx.length ≤ 9223372036854775807
  at0 : -9223372036854775808 ≤ a.at_
  at1 : a.at_ ≤ 9223372036854775807
  n0 : -9223372036854775808 ≤ a.n
  n1 : a.n ≤ 9223372036854775807
  ks : Ints w a.ka a.kn a.kc a.ks

section
variable {H : Type} {enc : TypeId × Value → H} {w : World} {base : Nat} {held : Bool} {fuel : Nat}

theorem open_keep {v : Value} {y : DataW H × List MemPlace} (h : DataW.trod enc Try.prog w base (fun _ => true) held fuel 32 [v] = some y) : ∃ ao n cap xs, v = .slice ao n cap ∧ Ints w ao n cap xs := by
  rcases open_ints Try.underlying32 Try.underlying3 (by kernel_rfl) h with ⟨hcs, _⟩ | ⟨a, len, cap', zs, hcs, _, hl, hm, hz, _, hcell, hwz⟩
  · simp only [List.cons.injEq, and_true] at hcs
    exact ⟨none, 0, 0, [], hcs, Ints.empty _⟩
  · simp only [List.cons.injEq, and_true] at hcs
    simp only [if_true] at hz
    refine ⟨some a, len, cap', zs.take len, hcs, by simp; omega, hl, by unfold maxLen at hm; omega, (fun hh => by cases hh), fun j u hj => ?_⟩
    rw [List.getElem?_map, List.getElem?_take] at hj
    split at hj
    · rename_i hjl
      have hjz : j < zs.length := by omega
      rw [List.getElem?_eq_getElem hjz] at hj
      simp only [Option.map_some, Option.some.injEq] at hj
      have hc := hcell j (by omega)
      rw [List.getD_eq_getElem?_getD, List.getElem?_eq_getElem hjz] at hc
      obtain ⟨b, off, rfl⟩ := spot_none (w := w) (a := a) (by
        have h0 := hcell 0 (by omega)
        exact h0)
      rw [Addr.add_lit] at hc
      exact ⟨b, off, rfl, by rw [← hj]; exact hc⟩
    · cases hj

set_option maxRecDepth 100000 in
theorem open_act {cs : List Value} {y : DataW H × List MemPlace} (h : DataW.trod enc Try.prog w base (fun _ => true) held fuel 34 cs = some y) : ∃ a : ActM, cs = a.cells ∧ okAct w a := by
  obtain ⟨xs, n, _, rfl, hl, hlen, hf⟩ := DataW.trod_struct Try.underlying34 h
  have hc : Try.prog.cellsOf 34 = 7 := by kernel_rfl
  have cs9 : Try.prog.cellsOf 9 = 1 := by kernel_rfl
  have cs3 : Try.prog.cellsOf 3 = 1 := by kernel_rfl
  have cs5 : Try.prog.cellsOf 5 = 1 := by kernel_rfl
  have cs30 : Try.prog.cellsOf 32 = 1 := by kernel_rfl
  rw [hc] at hl
  match cs, hl with
  | [c0, c1, c2, c3, c4, c5, c6], _ =>
    match xs, hlen with
    | [y0, y1, y2, y3, y4, y5, y6], _ =>
      have h0 := hf 0 _ rfl
      have h1 := hf 1 _ rfl
      have h2 := hf 2 _ rfl
      have h3 := hf 3 _ rfl
      have h4 := hf 4 _ rfl
      have h5 := hf 5 _ rfl
      have h6 := hf 6 _ rfl
      simp [cs9, cs3, cs5, cs30] at h0 h1 h2 h3 h4 h5 h6
      obtain ⟨a0, e0, _, wf0⟩ := DataW.trod_int Try.underlying5 h0
      obtain ⟨s1, e1, _, l1⟩ := DataW.trod_string Try.underlying9 h1
      obtain ⟨s2, e2, _, l2⟩ := DataW.trod_string Try.underlying9 h2
      obtain ⟨s3, e3, _, l3⟩ := DataW.trod_string Try.underlying9 h3
      obtain ⟨a4, e4, _, wf4⟩ := DataW.trod_int Try.underlying3 h4
      obtain ⟨a5, e5, _, wf5⟩ := DataW.trod_int Try.underlying3 h5
      obtain ⟨ao, kn, kc, ks, rfl, hks⟩ := open_keep h6
      simp only [List.cons.injEq, and_true] at e0 e1 e2 e3 e4 e5
      subst e0 e1 e2 e3 e4 e5
      have hb0 := bounds_u8 wf0
      have hb4 := bounds_i64 wf4
      have hb5 := bounds_i64 wf5
      have hs : ∀ s : ByteArray, s.size ≤ maxLen → s.data.toList.length ≤ 9223372036854775807 := fun s h => by
        unfold maxLen at h
        rw [Array.length_toList]
        exact h
      refine ⟨⟨a0, s1.data.toList, s2.data.toList, s3.data.toList, a4, a5, ao, kn, kc, ks⟩, ?_, ⟨hb0.1, hb0.2, hs s1 l1, hs s2 l2, hs s3 l3, hb4.1, hb4.2, hb5.1, hb5.2, hks⟩⟩
      unfold ActM.cells
      cases s1; cases s2; cases s3
      rfl

set_option maxRecDepth 100000 in
/-- .. one that came in by value -/
theorem open_act_val {r : Reach} {b0 : Nat} {v : Value} {d : DataW H} {p : List MemPlace} (hv : Value.okWide Try.prog w r b0 34 v) (h : DataW.Trod enc Try.prog w base (fun _ => true) held 34 v d p) :
    ∃ a : ActM, v = .agg a.cells.toArray ∧ okAct w a := by
  obtain ⟨cs, rfl, _⟩ := okWide_struct Try.underlying34 hv
  obtain ⟨f, hf⟩ := h
  have e : (Value.agg cs).cells.toList = cs.toList := by simp [Value.cells]
  rw [e] at hf
  obtain ⟨a, ha, hok⟩ := open_act hf
  exact ⟨a, by rw [← ha], hok⟩
end

/-- acts that lie in memory -/
structure Acts (w : World) (ao : Option Addr) (n cap : Nat) (A : List ActM) : Prop where
  len : A.length = n
  fits : n ≤ cap
  bound : cap ≤ 9223372036854775807
  cell : ∀ i (h : i < A.length), ∃ b off, ao = some ⟨b, off, none⟩ ∧ ∀ j u, A[i].cells[j]? = some u → w.cell? ⟨b, off + (i * 7 + j), none⟩ = some u
  ok : ∀ a ∈ A, okAct w a

theorem okAct.ext {w w' : World} {a : ActM} (h : okAct w a) (k : Ext w w') : okAct w' a := ⟨h.kd0, h.kd1, h.nm, h.tt, h.tx, h.at0, h.at1, h.n0, h.n1, h.ks.ext k⟩
theorem Acts.ext {w w' : World} {ao : Option Addr} {n cap : Nat} {A : List ActM} (h : Acts w ao n cap A) (k : Ext w w') : Acts w' ao n cap A :=
  ⟨h.len, h.fits, h.bound, fun i hi => let ⟨b, off, e, hc⟩ := h.cell i hi; ⟨b, off, e, fun j u hj => cell_ext k (hc j u hj)⟩, fun a ha => (h.ok a ha).ext k⟩
set_option maxRecDepth 100000
set_option linter.all false
/-- one that was just laid -/
theorem acts_lit (w : World) (a : ActM) (t : TypeId) (h : okAct w a) : Acts (w.alloc (.cells a.cells.toArray t)) (some ⟨w.heap.size, 0, none⟩) 1 1 [a] := by
  refine ⟨rfl, Nat.le_refl _, by omega, fun i hi => ?_, fun b hb => ?_⟩
  · have : i = 0 := by simp at hi; omega
    subst this
    refine ⟨_, _, rfl, fun j u hj => ?_⟩
    obtain ⟨b, off, e, hc⟩ := Rd.lit w a.cells.toArray t j u hj
    cases e
    simpa using hc
  · rw [List.mem_singleton.1 hb]; exact h.ext (ext_a1 _ _)

/-- .. that came in -/
theorem open_acts {H : Type} {enc : TypeId × Value → H} {w : World} {base : Nat} {held : Bool} {r : Reach} {b0 : Nat} {v : Value} {d : DataW H} {p : List MemPlace} (h : DataW.Trod enc Try.prog w base (fun _ => true) held 22 v d p) (hs : ∃ ao n cap, v = .slice ao n cap) :
    ∃ ao n cap A, v = .slice ao n cap ∧ Acts w ao n cap A := by
  obtain ⟨ao, n, cap, rfl⟩ := hs
  obtain ⟨f, hf⟩ := h
  have e9 : (Value.slice ao n cap).cells.toList = [.slice ao n cap] := by simp [Value.cells]
  rw [e9] at hf
  have hc : Try.prog.cellsOf 34 = 7 := by kernel_rfl
  rcases open_slice Try.underlying22 hf with ⟨e1, _⟩ | ⟨a, len, cap', m, n', D, Pl, e1, _, hl, hm, hmm, _, hi⟩
  · simp only [List.cons.injEq, and_true] at e1
    cases e1
    exact ⟨none, 0, 0, [], rfl, ⟨rfl, Nat.le_refl _, by omega, (fun i h => by cases h), (fun a h => by cases h)⟩⟩
  · simp only [List.cons.injEq, and_true] at e1
    cases e1
    simp only [if_true] at hmm
    subst hmm
    rw [hc] at hi
    have hk : ∀ i, ∃ k : ActM, i < n → (∀ j, j < 7 → w.cell? ((a.add (i * 7)).add j) = k.cells[j]?) ∧ okAct w k := fun i => by
      by_cases hil : i < n
      · obtain ⟨cs', hcs, ht⟩ := hi i (by omega)
        obtain ⟨_, hcl, hat⟩ := World.cells?_some hcs
        obtain ⟨k, rfl, hkl⟩ := open_act ht
        exact ⟨k, fun _ => ⟨hat, hkl⟩⟩
      · exact ⟨⟨0, [], [], [], 0, 0, none, 0, 0, []⟩, fun h => absurd h hil⟩
    obtain ⟨f, hf⟩ := Classical.axiomOfChoice hk
    refine ⟨some a, _, _, (List.range n).map f, rfl, ⟨by simp, hl, by unfold maxLen at hm; omega, fun i h => ?_, fun x hx => ?_⟩⟩
    · simp only [List.length_map, List.length_range] at h
      have h0 := (hf 0 (by omega)).1 0 (by decide)
      rw [Nat.zero_mul, add_add, Nat.add_zero] at h0
      obtain ⟨b, off, rfl⟩ := spot_none (u := .int .u8 (f 0).kd) (by rw [h0]; rfl)
      refine ⟨b, off, rfl, fun j u hj => ?_⟩
      rw [List.getElem_map, List.getElem_range] at hj
      have hj7 : j < 7 := (List.getElem?_eq_some_iff.1 hj).1
      have h1 := (hf i h).1 j hj7
      rw [add_add, hj, add_lit'] at h1
      exact h1
    · obtain ⟨i, hi2, rfl⟩ := List.mem_map.1 hx
      exact (hf i (List.mem_range.1 hi2)).2

end Go.Proofs.Ytmpiepkkikmpmaa
