/- Entries and asks that came in, laid open. Acts of the law IndexPlay that came in, laid open. Walks: an act's entry; plain laws of entries added again. -/
import Derived.Test.YtmgpffknmmoggaaGreatDoorChecked
import Derived.Test.YtmgpffknmmoggaaGreatDoorG2PIndexPlay
import Derived.Test.YtmgpffknmmoggaaGreatDoorG4PIndexPlay
import Derived.Deep.Strs
import Derived.OpenShut
import Derived.Test.YtmgpffknmmoggaaGreatDoorG48PIndexPlay
import Derived.Test.YtmgpffknmmoggaaGreatDoorG28PIndexPlay
set_option linter.unusedVariables false
set_option linter.unusedSimpArgs false
namespace Go.Proofs.YtmgpffknmmoggaaGreatDoor
open Go.RowKit Go.WideShapes Go.ChangeShapes Go.Deep
set_option linter.unusedVariables false
def ecc (a : En) : List Value := [.int .u64 a.1, .int .i64 a.2.1, .int .i64 a.2.2]
structure okIn (a : En) : Prop where
  h0 : 0 ≤ a.1
  h1 : a.1 ≤ 18446744073709551615
  f0 : -9223372036854775808 ≤ a.2.1
  f1 : a.2.1 ≤ 9223372036854775807
  t0 : -9223372036854775808 ≤ a.2.2
  t1 : a.2.2 ≤ 9223372036854775807
set_option maxRecDepth 100000 in
theorem open_ecc {H : Type} {enc : TypeId × Value → H} {w : World} {base : Nat} {held : Bool} {fuel : Nat} {cs : List Value} {y : DataW H × List MemPlace} (h : DataW.trod enc Tryz.prog w base (fun _ => true) held fuel 44 cs = some y) : ∃ a : En, cs = ecc a ∧ okIn a := by
  obtain ⟨xs, n, _, rfl, hl, hlen, hf⟩ := DataW.trod_struct Tryz.underlying44 h
  have hc : Tryz.prog.cellsOf 44 = 3 := by kernel_rfl
  have c0 : Tryz.prog.cellsOf 35 = 1 := by kernel_rfl
  have c3 : Tryz.prog.cellsOf 3 = 1 := by kernel_rfl
  rw [hc] at hl
  match cs, hl with
  | [x0, x1, x2], _ =>
    match xs, hlen with
    | [y0, y1, y2], _ =>
      have h0 := hf 0 _ rfl
      have h1 := hf 1 _ rfl
      have h2 := hf 2 _ rfl
      simp [c0, c3] at h0 h1 h2
      obtain ⟨a0, e0, _, wf0⟩ := DataW.trod_int Tryz.underlying35 h0
      obtain ⟨a1, e1, _, wf1⟩ := DataW.trod_int Tryz.underlying3 h1
      obtain ⟨a2, e2, _, wf2⟩ := DataW.trod_int Tryz.underlying3 h2
      simp only [List.cons.injEq, and_true] at e0 e1 e2
      subst e0 e1 e2
      have hb0 := bounds_u64 wf0
      have hb1 := bounds_i64 wf1
      have hb2 := bounds_i64 wf2
      exact ⟨(a0, a1, a2), rfl, ⟨by simp only; omega, by simp only; omega, hb1.1, hb1.2, hb2.1, hb2.2⟩⟩
end Go.Proofs.YtmgpffknmmoggaaGreatDoor
namespace Go.Proofs.YtmgpffknmmoggaaGreatDoor
open Go.RowKit Go.WideShapes Go.ChangeShapes Go.Deep
set_option linter.unusedVariables false
structure ActI where
  kd : Int
  en : En
  a : Int
  b : Int
def actI0 : ActI := ⟨0, en0, 0, 0⟩
def ActI.cells (x : ActI) : List Value := [.int .u8 x.kd, .int .u64 x.en.1, .int .i64 x.en.2.1, .int .i64 x.en.2.2, .int .i64 x.a, .int .i64 x.b]
structure okActI (x : ActI) : Prop where
  k0 : 0 ≤ x.kd
  k1 : x.kd ≤ 255
  en : okIn x.en
  a0 : -9223372036854775808 ≤ x.a
  a1 : x.a ≤ 9223372036854775807
  b0 : -9223372036854775808 ≤ x.b
  b1 : x.b ≤ 9223372036854775807
structure ActsI (w : World) (ao : Option Addr) (n cap : Nat) (A : List ActI) : Prop where
  len : A.length = n
  fits : n ≤ cap
  bound : cap ≤ 9223372036854775807
  cell : ∀ i (h : i < A.length), ∃ b off, ao = some ⟨b, off, none⟩ ∧ ∀ j u, (A[i].cells)[j]? = some u → w.cell? ⟨b, off + (i * 6 + j), none⟩ = some u
  nil : ao = none → cap = 0
  ok : ∀ a ∈ A, okActI a
theorem ActsI.ext {w w' : World} {ao : Option Addr} {n cap : Nat} {A : List ActI} (h : ActsI w ao n cap A) (k : Ext w w') : ActsI w' ao n cap A :=
  ⟨h.len, h.fits, h.bound, fun i hi => let ⟨b, off, e, hc⟩ := h.cell i hi; ⟨b, off, e, fun j u hj => cell_ext k (hc j u hj)⟩, h.nil, h.ok⟩
set_option maxRecDepth 100000 in
theorem open_actI {H : Type} {enc : TypeId × Value → H} {w : World} {base : Nat} {held : Bool} {fuel : Nat} {cs : List Value} {y : DataW H × List MemPlace} (h : DataW.trod enc Tryz.prog w base (fun _ => true) held fuel 46 cs = some y) : ∃ a : ActI, cs = a.cells ∧ okActI a := by
  obtain ⟨xs, n, _, rfl, hl, hlen, hf⟩ := DataW.trod_struct Tryz.underlying46 h
  have hc : Tryz.prog.cellsOf 46 = 6 := by kernel_rfl
  have c0 : Tryz.prog.cellsOf 5 = 1 := by kernel_rfl
  have c1 : Tryz.prog.cellsOf 44 = 3 := by kernel_rfl
  have c3 : Tryz.prog.cellsOf 3 = 1 := by kernel_rfl
  rw [hc] at hl
  match cs, hl with
  | [x0, x1, x2, x3, x4, x5], _ =>
    match xs, hlen with
    | [y0, y1, y2, y3], _ =>
      have h0 := hf 0 _ rfl
      have h1 := hf 1 _ rfl
      have h2 := hf 2 _ rfl
      have h3 := hf 3 _ rfl
      simp [c0, c1, c3] at h0 h1 h2 h3
      obtain ⟨a0, e0, _, wf0⟩ := DataW.trod_int Tryz.underlying5 h0
      obtain ⟨en, e1, ok1⟩ := open_ecc h1
      obtain ⟨a2, e2, _, wf2⟩ := DataW.trod_int Tryz.underlying3 h2
      obtain ⟨a3, e3, _, wf3⟩ := DataW.trod_int Tryz.underlying3 h3
      simp only [ecc, List.cons.injEq, and_true] at e0 e1 e2 e3
      obtain ⟨e10, e11, e12⟩ := e1
      subst e0 e10 e11 e12 e2 e3
      have hb0 := bounds_u8 wf0
      have hb2 := bounds_i64 wf2
      have hb3 := bounds_i64 wf3
      exact ⟨⟨a0, en, a2, a3⟩, rfl, ⟨by simp only; omega, by simp only; omega, ok1, hb2.1, hb2.2, hb3.1, hb3.2⟩⟩
theorem open_ActsI {H : Type} {enc : TypeId × Value → H} {w : World} {base : Nat} {held : Bool} {v : Value} {d : DataW H} {p : List MemPlace} (h : DataW.Trod enc Tryz.prog w base (fun _ => true) held 22 v d p) (hs : ∃ ao n cap, v = .slice ao n cap) :
    ∃ ao n cap A, v = .slice ao n cap ∧ ActsI w ao n cap A := by
  obtain ⟨ao, n, cap, rfl⟩ := hs
  obtain ⟨f, hf⟩ := h
  have e9 : (Value.slice ao n cap).cells.toList = [.slice ao n cap] := by simp [Value.cells]
  rw [e9] at hf
  have hc : Tryz.prog.cellsOf 46 = 6 := by kernel_rfl
  rcases open_slice Tryz.underlying22 hf with ⟨e1, _⟩ | ⟨a, len, cap', m, n', D, Pl, e1, _, hl, hm, hmm, _, hi⟩
  · simp only [List.cons.injEq, and_true] at e1
    cases e1
    exact ⟨none, 0, 0, [], rfl, ⟨rfl, Nat.le_refl _, by omega, (fun i h => by cases h), fun _ => rfl, (fun a h => by cases h)⟩⟩
  · simp only [List.cons.injEq, and_true] at e1
    cases e1
    simp only [if_true] at hmm
    subst hmm
    rw [hc] at hi
    have hk : ∀ i, ∃ k : ActI, i < n → (∀ j, j < 6 → w.cell? ((a.add (i * 6)).add j) = (k.cells)[j]?) ∧ okActI k := fun i => by
      by_cases hil : i < n
      · obtain ⟨cs', hcs, ht⟩ := hi i (by omega)
        obtain ⟨_, hcl, hat⟩ := World.cells?_some hcs
        obtain ⟨k, rfl, hkl⟩ := open_actI ht
        exact ⟨k, fun _ => ⟨hat, hkl⟩⟩
      · exact ⟨actI0, fun h => absurd h hil⟩
    obtain ⟨f, hf⟩ := Classical.axiomOfChoice hk
    refine ⟨some a, _, _, (List.range n).map f, rfl, ⟨by simp, hl, by unfold maxLen at hm; omega, fun i h => ?_, (fun h => by cases h), fun x hx => ?_⟩⟩
    · simp only [List.length_map, List.length_range] at h
      have h0 := (hf 0 (by omega)).1 0 (by decide)
      rw [Nat.zero_mul, add_add, Nat.add_zero] at h0
      obtain ⟨b, off, rfl⟩ := spot_none (u := .int .u8 (f 0).kd) (by rw [h0]; rfl)
      refine ⟨b, off, rfl, fun j u hj => ?_⟩
      rw [List.getElem_map, List.getElem_range] at hj
      have hj6 : j < 6 := (List.getElem?_eq_some_iff.1 hj).1
      have h1 := (hf i h).1 j hj6
      rw [add_add, hj, add_lit'] at h1
      exact h1
    · obtain ⟨i, hi2, rfl⟩ := List.mem_map.1 hx
      exact (hf i (List.mem_range.1 hi2)).2
theorem ActsI.at {w : World} {ao : Option Addr} {n cap : Nat} {A : List ActI} (h : ActsI w ao n cap A) {i : Nat} (hi : i < n) :
    ∃ b off x, ao = some ⟨b, off, none⟩ ∧ okActI x ∧ w.cell? ⟨b, off + i * 6, none⟩ = some (.int .u8 x.kd) ∧ w.cell? ⟨b, off + i * 6 + 1, none⟩ = some (.int .u64 x.en.1) ∧ w.cell? ⟨b, off + i * 6 + 2, none⟩ = some (.int .i64 x.en.2.1) ∧
      w.cell? ⟨b, off + i * 6 + 3, none⟩ = some (.int .i64 x.en.2.2) ∧ w.cell? ⟨b, off + i * 6 + 4, none⟩ = some (.int .i64 x.a) ∧ w.cell? ⟨b, off + i * 6 + 5, none⟩ = some (.int .i64 x.b) := by
  have hl : i < A.length := by rw [h.len]; exact hi
  obtain ⟨b, off, e, hc⟩ := h.cell i hl
  exact ⟨b, off, A[i], e, h.ok _ (List.getElem_mem hl), hc 0 _ rfl, hc 1 _ rfl, hc 2 _ rfl, hc 3 _ rfl, hc 4 _ rfl, hc 5 _ rfl⟩
def ActI.e (x : ActI) : En := (x.en.1 % 5 * 999, x.en.2.1, x.en.2.2)
end Go.Proofs.YtmgpffknmmoggaaGreatDoor
namespace Go.Proofs.YtmgpffknmmoggaaGreatDoor
open Go.RowKit
set_option maxRecDepth 100000
set_option linter.unusedVariables false
set_option maxHeartbeats 6400000
theorem entry24_c (x : ActI) (w : World) (hx : okActI x) : Calls Tryz.prog 19 #[.agg #[.int .u8 x.kd, .int .u64 x.en.1, .int .i64 x.en.2.1, .int .i64 x.en.2.2, .int .i64 x.a, .int .i64 x.b]] w fun e w' => e = .returned (enV x.e) ∧ Ext w w' := by
  obtain ⟨k, ⟨h, v, p⟩, a, b⟩ := x
  have h0 := hx.en.h0; have h1 := hx.en.h1
  simp only at h0 h1
  show Calls _ _ _ _ fun e w' => e = .returned (.agg #[.int .u64 (h % 5 * 999), .int .i64 v, .int .i64 p]) ∧ Ext w w'
  have q1 : IntKind.u64.wrap (Int.tmod h 5) = h % 5 := by rw [Int.tmod_eq_emod_of_nonneg h0, IntKind.wrap_u64]; omega
  have q2 : Int.tmod h 5 = h % 5 := Int.tmod_eq_emod_of_nonneg h0
  have q3 : IntKind.u64.wrap (h % 5) = h % 5 := by rw [IntKind.wrap_u64]; omega
  have q4 : IntKind.u64.wrap (h % 5 * 999) = h % 5 * 999 := by rw [IntKind.wrap_u64]; omega
  obtain ⟨z, hz⟩ : ∃ z, h % 5 * 999 = z := ⟨_, rfl⟩
  rw [hz] at q4 ⊢
  clear hx h0 h1
  go_enter Tryz.func19, Tryz.ntmps19
  go_wp2_with fail
  ((try simp only [Exit.inBlock, Exit.then]); refine bodyPost_ret (v := .agg #[.int .u64 z, .int .i64 v, .int .i64 p]) (by rw [results_cell1 rfl]; go_simp) rfl ?_)
  exact ⟨rfl, ((ext_a1 w _).alloc _).alloc _⟩
def addAll (l B : List En) : List En := l.foldl (fun B e => addE e B) B
theorem addAll_snoc (l B : List En) (e : En) : addAll (l ++ [e]) B = addE e (addAll l B) := by unfold addAll; rw [List.foldl_append]; rfl
theorem mem_addAll (l B : List En) (x : En) : x ∈ addAll l B ↔ x ∈ l ∨ x ∈ B := by
  unfold addAll
  induction l generalizing B with
  | nil => simp
  | cons e l ih =>
    rw [List.foldl_cons, ih, mem_addE, List.mem_cons]
    constructor
    · rintro (h | h | h)
      · exact .inl (.inr h)
      · exact .inl (.inl h)
      · exact .inr h
    · rintro ((h | h) | h)
      · exact .inr (.inl h)
      · exact .inl h
      · exact .inr (.inr h)
theorem addAll_len (l B : List En) : (addAll l B).length ≤ B.length + l.length := by
  unfold addAll
  induction l generalizing B with
  | nil => exact Nat.le_refl _
  | cons e l ih => rw [List.foldl_cons, List.length_cons]; have := ih (addE e B); have := addE_le (e := e) (L := B); omega
theorem addAll_ok {l B : List En} (hl : ∀ e ∈ l, okEn e = true) (hB : okM B) (hn : B.length + l.length < 50000) : okM (addAll l B) := by
  unfold addAll
  induction l generalizing B with
  | nil => exact hB
  | cons e l ih =>
    rw [List.foldl_cons]
    rw [List.length_cons] at hn
    have := addE_le (e := e) (L := B)
    exact ih (fun x hx => hl x (List.mem_cons_of_mem _ hx)) (hB.add (hl e List.mem_cons_self) (by omega)) (by omega)
theorem addAll_eq {l B C : List En} (hl : ∀ e ∈ l, okEn e = true) (hB : okM B) (hC : okM C) (hn : B.length + l.length < 50000) (h : ∀ x, x ∈ C ↔ x ∈ l ∨ x ∈ B) : addAll l B = C :=
  sorted_ext (addAll_ok hl hB hn).sort hC.sort fun x => by rw [mem_addAll, h]
end Go.Proofs.YtmgpffknmmoggaaGreatDoor
