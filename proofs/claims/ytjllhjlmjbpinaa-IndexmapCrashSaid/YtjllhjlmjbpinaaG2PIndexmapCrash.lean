/- What comes in, read: slices of integers, slices of such slices. Small laws of no program: slices of plain elements of one cell. How a disk lies in memory. Walks: the small functions of a disk. The shelf's contracts of slices.Sort and slices.Clone at this seat, in plain words: written by a tool of the kit (lay-plain) from a short module of mine, turned into a template. -/
import Derived.Test.YtjllhjlmjbpinaaG1PIndexmapCrash
import Derived.ProofKit
import Derived.Deep.Matrix
import Derived.OpenShut
import Derived.Laws.IdiomStrings
import Derived.Test.YtjllhjlmjbpinaaChecked
import Derived.Maps.OwnSet
import Derived.Maps.RangeWalk
import Derived.Lib.AppendStr
import Derived.WalkKit
import Derived.Ground.NamesProg
import Derived.Ground.Names2Prog
import Derived.Shelf.Sort.Plain
import Derived.Shelf.Slices.Clone
import Derived.Test.YtjllhjlmjbpinaaProg
namespace Go.Proofs.Ytjllhjlmjbpinaa
open Go.ChangeShapes Go.WideShapes Go.ChangeAt Go.RowKit Go.Deep

theorem addr_of_cell {w : World} {a : Addr} {u : Value} (h : w.cell? a = some u) : a = ⟨a.block, a.off, none⟩ := by
  obtain ⟨b, o, s⟩ := a
  cases s with
  | none => rfl
  | some x =>
    unfold World.cell? at h
    split at h
    · simp at h
    · cases h

theorem add_lit' (b o k : Nat) : (⟨b, o, none⟩ : Addr).add k = ⟨b, o + k, none⟩ := Addr.add_lit _ _ _

theorem spot_none {w : World} {a : Addr} {u : Value} (h : w.cell? (a.add 0) = some u) : ∃ b off, a = ⟨b, off, none⟩ := by
  have e : a.add 0 = a := by simp [Addr.add]
  rw [e] at h
  exact ⟨_, _, addr_of_cell h⟩

/-- cells that a reader told of -/
theorem rd_of_cells {w : World} {a : Addr} {cs : List Value} (h : ∀ j (hj : j < cs.length), w.cell? (a.add j) = some cs[j]) : Rd w (some a) cs := by
  intro j u hj
  obtain ⟨hl, rfl⟩ := List.getElem?_eq_some_iff.1 hj
  have h1 := h j hl
  obtain ⟨b, off, rfl⟩ := spot_none (h 0 (by omega))
  rw [add_lit'] at h1
  exact ⟨b, off, rfl, h1⟩

theorem ints_of_cells {w : World} {ao : Option Addr} {n cap : Nat} {zs : List Int} (hl : n ≤ cap) (hm : cap ≤ maxLen) (hz : zs.length = cap) (hnil : ao = none → cap = 0)
    (hc : ∀ a, ao = some a → ∀ c, c < cap → w.cell? (a.add c) = some (.int .i64 (zs.getD c 0))) : Ints w ao n cap (zs.take n) := by
  refine ⟨by simp; omega, hl, by unfold maxLen at hm; omega, hnil, ?_⟩
  cases ao with
  | none =>
    have := hnil rfl
    have : zs = [] := List.eq_nil_of_length_eq_zero (by omega)
    subst this
    simpa using Rd.nil _ _
  | some a =>
    refine rd_of_cells fun j hj => ?_
    simp only [List.length_map, List.length_take] at hj
    rw [hc a rfl j (by omega), List.getElem_map, List.getElem_take, List.getD_eq_getElem?_getD, List.getElem?_eq_getElem (by omega)]
    rfl

theorem open_grid {H : Type} {enc : TypeId × Value → H} {P : Program} {w : World} {base : Nat} {held : Bool} {t e q : TypeId} {v : Value} {d : DataW H} {p : List MemPlace}
    (ht : P.underlying t = some (.slice e)) (he : P.underlying e = some (.slice q)) (hq : P.underlying q = some (.int .i64)) (ce : P.cellsOf e = 1) (cq : P.cellsOf q = 1)
    (hs : ∃ ao n cap, v = .slice ao n cap) (h : DataW.Trod enc P w base (fun _ => true) held t v d p) :
    ∃ ao n cap L, v = .slice ao n cap ∧ Grid w ao n cap L ∧ ∀ x ∈ L.flatten, (Lit.int .i64 x).wf = true := by
  obtain ⟨ao, n, cap, rfl⟩ := hs
  obtain ⟨fuel, hf⟩ := h
  rcases open_int_rows ht he hq ce cq hf with ⟨hcs, _⟩ | ⟨a, len, cap', A, L, C, Z, hcs, _, hl, hm, _, hc⟩
  · simp [Value.cells] at hcs
    obtain ⟨rfl, rfl, rfl⟩ := hcs
    exact ⟨_, _, _, [], rfl, Grid.empty _, by simp⟩
  · simp [Value.cells] at hcs
    obtain ⟨rfl, rfl, rfl⟩ := hcs
    refine ⟨_, _, _, (List.range n).map fun i => (Z i).take (L i), rfl, ⟨by simp, hl, by unfold maxLen at hm; omega, (fun hh => by cases hh), fun i hi => ?_⟩, ?_⟩
    · simp only [List.length_map, List.length_range] at hi
      obtain ⟨h1, h2, h3, h4, h5, h6, h7⟩ := hc i (by omega)
      obtain ⟨b, off, rfl⟩ := spot_none (hc 0 (by omega)).1
      rw [add_lit'] at h1
      have hI : Ints w (A i) (L i) (C i) ((Z i).take (L i)) := ints_of_cells h2 h3 h4 h6 fun a' ha c hcc => (h7 a' ha).2 c hcc
      refine ⟨b, off, A i, C i, rfl, ?_, ?_⟩
      · simp only [List.getElem_map, List.getElem_range]
        rw [hI.len]; exact h1
      · simp only [List.getElem_map, List.getElem_range]
        rw [hI.len]; exact hI
    · intro x hx
      obtain ⟨r, hr, hxr⟩ := List.mem_flatten.1 hx
      obtain ⟨i, hi, rfl⟩ := List.mem_map.1 hr
      have hi' := List.mem_range.1 hi
      exact (hc i (by omega)).2.2.2.2.1 x (List.mem_of_mem_take hxr)

end Go.Proofs.Ytjllhjlmjbpinaa
namespace Go.Proofs.Ytjllhjlmjbpinaa
open Go.RowKit Go.ChangeShapes Go.WideShapes Go.ChangeAt

/-- a slice whose elements lie in one cell each: f tells how -/
structure Slf {α : Type} (f : α → Value) (w : World) (ao : Option Addr) (n cap : Nat) (xs : List α) : Prop where
  len : xs.length = n
  fits : n ≤ cap
  bound : cap ≤ 9223372036854775807
  nil : ao = none → cap = 0
  rd : Rd w ao (xs.map f)

theorem Slf.ext {α : Type} {f : α → Value} {w w' : World} {ao : Option Addr} {n cap : Nat} {xs : List α} (h : Slf f w ao n cap xs) (k : Ext w w') : Slf f w' ao n cap xs :=
  ⟨h.len, h.fits, h.bound, h.nil, h.rd.ext k⟩

theorem Slf.at {α : Type} {f : α → Value} {w : World} {ao : Option Addr} {n cap : Nat} {xs : List α} (h : Slf f w ao n cap xs) (d : α) {j : Nat} (hj : j < n) :
    ∃ b off, ao = some ⟨b, off, none⟩ ∧ w.cell? ⟨b, off + j, none⟩ = some (f (xs.getD j d)) := by
  have hl := h.len
  obtain ⟨b, off, e, hc⟩ := h.rd.at (j := j) (by simp; omega)
  refine ⟨b, off, e, ?_⟩
  rw [hc, List.getElem_map, List.getD_eq_getElem?_getD, List.getElem?_eq_getElem (by omega)]
  rfl

theorem Slf.empty {α : Type} (f : α → Value) (w : World) : Slf f w none 0 0 [] := ⟨rfl, Nat.le_refl _, by omega, fun _ => rfl, Rd.nil _ _⟩

theorem Slf.of_own {α : Type} {f : α → Value} {w : World} {B : Nat} {e : TypeId} {v : Value} {n : Nat} {xs : List α} (h : Own w B e 1 v n (xs.map f)) : ∃ ao cap, v = .slice ao n cap ∧ Slf f w ao n cap xs := by
  have hl := h.1
  obtain ⟨ao, cap, rfl, h1, h2, h3, h4⟩ := h.rd
  exact ⟨ao, cap, rfl, by simpa using hl, h1, h2, h3, h4⟩

theorem Slf.cut {α : Type} {f : α → Value} {w : World} {ao : Option Addr} {n cap : Nat} {xs : List α} (h : Slf f w ao n cap xs) {k : Nat} (hk : k ≤ n) : Slf f w ao k cap (xs.take k) :=
  ⟨by have := h.len; simp; omega, Nat.le_trans hk h.fits, h.bound, h.nil, by rw [List.map_take]; exact h.rd.take k⟩

/-- a slice of bytes: their numbers -/
abbrev U8s := Slf (fun b : Int => Value.int .u8 b)

/-- a slice of bytes, as bytes -/
abbrev byteV (b : UInt8) : Value := .int .u8 (b.toNat : Int)

/-- 'string(b)' of a slice of bytes -/
theorem run_tostr {P : Program} (w : World) (src dst e : TypeId) {a : Addr} {n cap : Nat} {l : List UInt8} (hs : P.underlying src = some (.slice e)) (he : P.underlying e = some (.int .u8)) (hd : P.underlying dst = some .string)
    (hl : l.length = n) (h : Rd w (some a) (l.map byteV)) : (convert src dst (.slice (some a) n cap)).run P w = .ok (.string ⟨l.toArray⟩) w := by
  subst hl
  refine run_convert_bytes_back w src dst e a cap l hs he hd fun j hj => ?_
  obtain ⟨b, off, e2, hc⟩ := h.at (j := j) (by simpa using hj)
  cases e2
  rw [Addr.add_lit, hc]
  simp

/-- .. of one byte, just laid -/
theorem run_tostr1 {P : Program} (w : World) (src dst e : TypeId) (V : Int) (b : UInt8) (hs : P.underlying src = some (.slice e)) (he : P.underlying e = some (.int .u8)) (hd : P.underlying dst = some .string)
    (hV : V = (b.toNat : Int)) : (convert src dst (.slice (some ⟨w.heap.size, 0, none⟩) 1 1)).run P (w.alloc (.cells #[.int .u8 V] e)) = .ok (.string ⟨#[b]⟩) (w.alloc (.cells #[.int .u8 V] e)) := by
  subst hV
  exact run_tostr (l := [b]) _ src dst e hs he hd rfl (Rd.lit w #[.int .u8 (b.toNat : Int)] e)

/-- the world behind '[]byte(s)' -/
theorem bytes_world (w : World) (e : TypeId) (l : List UInt8) (cap : Nat) :
    Rd (w.alloc (.cells (bytesRow ⟨l.toArray⟩ cap) e ((bytesRow ⟨l.toArray⟩ cap).size, (bytesRow ⟨l.toArray⟩ cap).size + 1))).drew (some ⟨w.heap.size, 0, none⟩) (l.map byteV) ∧
    (∀ j, j < l.length → (w.alloc (.cells (bytesRow ⟨l.toArray⟩ cap) e ((bytesRow ⟨l.toArray⟩ cap).size, (bytesRow ⟨l.toArray⟩ cap).size + 1))).drew.frozen? ⟨w.heap.size, j, none⟩ = false) ∧
    Ext w (w.alloc (.cells (bytesRow ⟨l.toArray⟩ cap) e ((bytesRow ⟨l.toArray⟩ cap).size, (bytesRow ⟨l.toArray⟩ cap).size + 1))).drew := by
  have hh : ∀ o, (w.alloc o).drew.heap[w.heap.size]? = some o := fun o => by simp [World.alloc, World.drew, -World.alloc_eq, -World.drew_eq]
  refine ⟨fun j u hj => ⟨_, _, rfl, ?_⟩, fun j hj => ?_, ((Ext.refl w).alloc _).drew⟩
  · simp only [World.cell?, hh, Nat.zero_add]
    obtain ⟨hl, rfl⟩ := List.getElem?_eq_some_iff.1 hj
    simp only [List.length_map] at hl
    simp only [bytesRow]
    rw [Array.getElem?_append_left (by simpa using hl)]
    simp [hl]
  · have hs : l.length ≤ (bytesRow ⟨l.toArray⟩ cap).size := by simp [bytesRow]
    simp only [World.frozen?, hh]
    simp; omega

theorem extract_mk (l : List UInt8) (a b : Nat) : (⟨l.toArray⟩ : ByteArray).extract a b = ⟨((l.take b).drop a).toArray⟩ := by
  apply ByteArray.ext
  simp [ByteArray.extract, ByteArray.copySlice, List.drop_take]
/-- the walk's own rules for a piece of a text that is written out -/
@[go_sem high] theorem extract_head (l : List UInt8) (b : Nat) : (⟨l.toArray⟩ : ByteArray).extract 0 b = ⟨(l.take b).toArray⟩ := by rw [extract_mk]; rfl
@[go_sem high] theorem extract_tail (l : List UInt8) (a : Nat) : (⟨l.toArray⟩ : ByteArray).extract a l.length = ⟨(l.drop a).toArray⟩ := by rw [extract_mk, List.take_length]
@[go_sem low] theorem extract_mid (l : List UInt8) (a b : Nat) : (⟨l.toArray⟩ : ByteArray).extract a b = ⟨((l.take b).drop a).toArray⟩ := extract_mk l a b

/-- .. of four bytes, just laid -/
theorem run_tostr4 {P : Program} (w : World) (src dst e : TypeId) (V0 V1 V2 V3 : Int) (b0 b1 b2 b3 : UInt8) (hs : P.underlying src = some (.slice e)) (he : P.underlying e = some (.int .u8)) (hd : P.underlying dst = some .string)
    (h0 : V0 = (b0.toNat : Int)) (h1 : V1 = (b1.toNat : Int)) (h2 : V2 = (b2.toNat : Int)) (h3 : V3 = (b3.toNat : Int)) :
    (convert src dst (.slice (some ⟨w.heap.size, 0, none⟩) 4 4)).run P (w.alloc (.cells #[.int .u8 V0, .int .u8 V1, .int .u8 V2, .int .u8 V3] e)) = .ok (.string ⟨#[b0, b1, b2, b3]⟩) (w.alloc (.cells #[.int .u8 V0, .int .u8 V1, .int .u8 V2, .int .u8 V3] e)) := by
  subst h0 h1 h2 h3
  exact run_tostr (l := [b0, b1, b2, b3]) _ src dst e hs he hd rfl (Rd.lit w #[.int .u8 (b0.toNat : Int), .int .u8 (b1.toNat : Int), .int .u8 (b2.toNat : Int), .int .u8 (b3.toNat : Int)] e)

theorem addr_ne {g i j : Nat} (h : i ≠ j) : (⟨g, i, none⟩ : Addr) ≠ ⟨g, j, none⟩ := fun e => by cases e; exact h rfl

/-- four cells written over -/
theorem rd_set4 {W : World} {g : Nat} {u0 u1 u2 u3 : Value} (d0 : W.cell? ⟨g, 0, none⟩ = some u0) (d1 : W.cell? ⟨g, 1, none⟩ = some u1) (d2 : W.cell? ⟨g, 2, none⟩ = some u2) (d3 : W.cell? ⟨g, 3, none⟩ = some u3) (v0 v1 v2 v3 : Value) :
    Rd (((((W.setCell ⟨g, 0, none⟩ v0).setCell ⟨g, 1, none⟩ v1).setCell ⟨g, 2, none⟩ v2).setCell ⟨g, 3, none⟩ v3).drew) (some ⟨g, 0, none⟩) [v0, v1, v2, v3] := by
  have a0 : (W.setCell ⟨g, 0, none⟩ v0).cell? ⟨g, 0, none⟩ = some v0 := World.cell?_setCell_same _ _ _ d0
  have a1 : (W.setCell ⟨g, 0, none⟩ v0).cell? ⟨g, 1, none⟩ = some u1 := by rw [World.cell?_setCell_other (h := addr_ne (by decide))]; exact d1
  have a2 : (W.setCell ⟨g, 0, none⟩ v0).cell? ⟨g, 2, none⟩ = some u2 := by rw [World.cell?_setCell_other (h := addr_ne (by decide))]; exact d2
  have a3 : (W.setCell ⟨g, 0, none⟩ v0).cell? ⟨g, 3, none⟩ = some u3 := by rw [World.cell?_setCell_other (h := addr_ne (by decide))]; exact d3
  generalize W.setCell ⟨g, 0, none⟩ v0 = W1 at *
  have b0 : (W1.setCell ⟨g, 1, none⟩ v1).cell? ⟨g, 0, none⟩ = some v0 := by rw [World.cell?_setCell_other (h := addr_ne (by decide))]; exact a0
  have b1 : (W1.setCell ⟨g, 1, none⟩ v1).cell? ⟨g, 1, none⟩ = some v1 := World.cell?_setCell_same _ _ _ a1
  have b2 : (W1.setCell ⟨g, 1, none⟩ v1).cell? ⟨g, 2, none⟩ = some u2 := by rw [World.cell?_setCell_other (h := addr_ne (by decide))]; exact a2
  have b3 : (W1.setCell ⟨g, 1, none⟩ v1).cell? ⟨g, 3, none⟩ = some u3 := by rw [World.cell?_setCell_other (h := addr_ne (by decide))]; exact a3
  generalize W1.setCell ⟨g, 1, none⟩ v1 = W2 at *
  have c0 : (W2.setCell ⟨g, 2, none⟩ v2).cell? ⟨g, 0, none⟩ = some v0 := by rw [World.cell?_setCell_other (h := addr_ne (by decide))]; exact b0
  have c1 : (W2.setCell ⟨g, 2, none⟩ v2).cell? ⟨g, 1, none⟩ = some v1 := by rw [World.cell?_setCell_other (h := addr_ne (by decide))]; exact b1
  have c2 : (W2.setCell ⟨g, 2, none⟩ v2).cell? ⟨g, 2, none⟩ = some v2 := World.cell?_setCell_same _ _ _ b2
  have c3 : (W2.setCell ⟨g, 2, none⟩ v2).cell? ⟨g, 3, none⟩ = some u3 := by rw [World.cell?_setCell_other (h := addr_ne (by decide))]; exact b3
  generalize W2.setCell ⟨g, 2, none⟩ v2 = W3 at *
  have e0 : (W3.setCell ⟨g, 3, none⟩ v3).cell? ⟨g, 0, none⟩ = some v0 := by rw [World.cell?_setCell_other (h := addr_ne (by decide))]; exact c0
  have e1 : (W3.setCell ⟨g, 3, none⟩ v3).cell? ⟨g, 1, none⟩ = some v1 := by rw [World.cell?_setCell_other (h := addr_ne (by decide))]; exact c1
  have e2 : (W3.setCell ⟨g, 3, none⟩ v3).cell? ⟨g, 2, none⟩ = some v2 := by rw [World.cell?_setCell_other (h := addr_ne (by decide))]; exact c2
  have e3 : (W3.setCell ⟨g, 3, none⟩ v3).cell? ⟨g, 3, none⟩ = some v3 := World.cell?_setCell_same _ _ _ c3
  intro j u hj
  refine ⟨g, 0, rfl, ?_⟩
  rw [Nat.zero_add, World.cell?_drew]
  match j, hj with
  | 0, hj => cases hj; exact e0
  | 1, hj => cases hj; exact e1
  | 2, hj => cases hj; exact e2
  | 3, hj => cases hj; exact e3

theorem wf_getD {k : IntKind} {zs : List Int} (h : ∀ n ∈ zs, (Lit.int k n).wf = true) (j : Nat) (h0 : (Lit.int k 0).wf = true) : (Lit.int k (zs.getD j 0)).wf = true := by
  rcases Nat.lt_or_ge j zs.length with hj | hj
  · rw [List.getD_eq_getElem?_getD, List.getElem?_eq_getElem hj]; exact h _ (List.getElem_mem hj)
  · rw [List.getD_eq_getElem?_getD, List.getElem?_eq_none hj]; exact h0

/-- a slice of integers of whatever kind that came in -/
theorem open_ints_any {H : Type} {enc : TypeId × Value → H} {P : Program} {w : World} {base : Nat} {held : Bool} {t e : TypeId} {k : IntKind} {v : Value} {d : DataW H} {p : List MemPlace}
    (ht : P.underlying t = some (.slice e)) (he : P.underlying e = some (.int k)) (ce : P.cellsOf e = 1)
    (hs : ∃ ao n cap, v = .slice ao n cap) (h : DataW.Trod enc P w base (fun _ => true) held t v d p) :
    ∃ ao n cap xs, v = .slice ao n cap ∧ Slf (fun b : Int => Value.int k b) w ao n cap xs ∧ ∀ x ∈ xs, (Lit.int k x).wf = true := by
  obtain ⟨ao, n, cap, rfl⟩ := hs
  obtain ⟨fuel, hf⟩ := h
  rcases open_ints ht he ce hf with ⟨hcs, _⟩ | ⟨a, len, cap', zs, hcs, _, hl, hm, hz, _, hcell, hwz⟩
  · simp [Value.cells] at hcs
    obtain ⟨rfl, rfl, rfl⟩ := hcs
    exact ⟨_, _, _, [], rfl, Slf.empty _ _, by simp⟩
  · simp [Value.cells] at hcs
    obtain ⟨rfl, rfl, rfl⟩ := hcs
    simp only [if_true] at hz
    refine ⟨_, _, _, zs.take n, rfl, ⟨by simp; omega, hl, by unfold maxLen at hm; omega, (fun hh => by cases hh), rd_of_cells fun j hj => ?_⟩, fun x hx => hwz x (List.mem_of_mem_take hx)⟩
    simp only [List.length_map, List.length_take] at hj
    rw [hcell j (by omega), List.getElem_map, List.getElem_take, List.getD_eq_getElem?_getD, List.getElem?_eq_getElem (by omega)]
    rfl

end Go.Proofs.Ytjllhjlmjbpinaa
namespace Go.Proofs.Ytjllhjlmjbpinaa
open Go.RowKit
open Go.Maps (Keyed)

/-- how a pointer to a file reads, as an element of a map -/
def ptrE (v : Value) : Option (DataW Unit × List MemPlace) :=
  match v with
  | .pointer none => some (.nil, [])
  | .pointer (some ⟨b, 0, none⟩) => some (.lit (.int .i64 b), [])
  | _ => none

theorem ptrE_mk (b : Nat) : ptrE (.pointer (some ⟨b, 0, none⟩)) = some (.lit (.int .i64 b), []) := rfl
theorem ptrE_nil : ptrE (.pointer none) = some (.nil, []) := rfl
theorem ptrE_inv {v : Value} {b : Nat} {ps : List MemPlace} (h : ptrE v = some (.lit (.int .i64 b), ps)) : v = .pointer (some ⟨b, 0, none⟩) := by
  unfold ptrE at h
  split at h
  · cases h
  · rename_i b'
    simp only [Option.some.injEq, Prod.mk.injEq, DataW.lit.injEq, Lit.int.injEq, true_and] at h
    have : b' = b := by omega
    rw [this]
  · cases h
theorem ptrE_inv_nil {v : Value} {ps : List MemPlace} (h : ptrE v = some (.nil, ps)) : v = .pointer none := by
  unfold ptrE at h
  split at h
  · rfl
  · cases h
  · cases h

/-- a file in memory: its block, its slice -/
structure FE where
  f : FM
  b : Nat
  v : Value
def FE.nm (e : FE) : List UInt8 := e.f.nm

def dmap (L : List FE) : DataW Unit := .map (L.map fun e => (Lit.string e.f.nm, .lit (.int .i64 e.b)))

theorem dmap_ins (x : FE) : ∀ L : List FE, DataW.insert (Lit.string x.f.nm, (.lit (.int .i64 x.b) : DataW Unit)) (L.map fun e => (Lit.string e.f.nm, .lit (.int .i64 e.b))) = (insN FE.nm x L).map fun e => (Lit.string e.f.nm, .lit (.int .i64 e.b))
  | [] => rfl
  | y :: r => by
    unfold insN
    rw [List.map_cons, DataW.insert]
    show (if bytesBefore x.f.nm y.f.nm then _ else _) = _
    split
    · rename_i h; rw [if_pos (show bytesBefore (FE.nm x) (FE.nm y) = true from h)]; rfl
    · rename_i h; rw [if_neg (show ¬ bytesBefore (FE.nm x) (FE.nm y) = true from h), dmap_ins x r]; rfl
theorem dmap_del (nm : List UInt8) (L : List FE) : (dmap L).del (.string nm) = dmap (delN FE.nm nm L) := by
  show DataW.map (List.filter _ _) = DataW.map _
  congr 1
  unfold delN
  rw [List.filter_map]
  rfl
theorem dmap_put (x : FE) (L : List FE) : (dmap L).put (.string x.f.nm) (.lit (.int .i64 x.b)) = dmap (insN FE.nm x (delN FE.nm x.f.nm L)) := by
  unfold dmap
  rw [← dmap_ins]
  show DataW.map (DataW.insert _ (List.filter _ _)) = _
  congr 2
  unfold delN
  rw [List.filter_map]
  rfl
theorem dmap_has (nm : List UInt8) (L : List FE) : Maps.has (dmap L) (.string nm) = (findN FE.nm nm L).isSome := by
  show (List.map _ L).any _ = _
  rw [List.any_map, Bool.eq_iff_iff, List.any_eq_true]
  unfold findN
  rw [List.find?_isSome]
  rfl
theorem dmap_at (nm : List UInt8) (L : List FE) (z : DataW Unit) : (dmap L).atKey (.string nm) z = match findN FE.nm nm L with | some e => .lit (.int .i64 e.b) | none => z := by
  unfold dmap DataW.atKey findN
  simp only [List.find?_map]
  have e1 : ((fun p : Lit × DataW Unit => p.1.sameKey (.string nm)) ∘ fun e : FE => (Lit.string e.f.nm, (.lit (.int .i64 e.b) : DataW Unit))) = fun y => FE.nm y == nm := rfl
  rw [e1]
  cases L.find? fun y => FE.nm y == nm <;> rfl
theorem dmap_size (L : List FE) : Maps.size (dmap L) = L.length := by show (List.map _ L).length = _; simp
theorem dmap_keys (L : List FE) : strKeys (dmap L) = L.map FE.nm := by show (List.map _ (L.map _)) = _; rw [List.map_map]; rfl

/-- two files lie apart -/
def SepE (x y : FE) : Prop := x.b ≠ y.b ∧ ∀ g, x.v.ownBlock = some g → y.v.ownBlock ≠ some g
theorem SepE.symm {x y : FE} (h : SepE x y) : SepE y x := ⟨Ne.symm h.1, fun g hy hx => h.2 g hx hy⟩

/-- the files of a disk in memory: the map in block m -/
structure FS (w : World) (m : Nat) (L : List FE) : Prop where
  map : w.ownsMap Try.prog 9 ptrE m L.length (dmap L)
  blk : ∀ e ∈ L, Blk w e.b 78 #[e.v, .int .i64 (e.f.sy : Int)]
  row : ∀ e ∈ L, Own w 0 5 1 e.v e.f.da.length (e.f.da.map byteV)
  sep : L.Pairwise SepE
  ord : OrdN FE.nm L

/-- the blocks of the files -/
def InF (m : Nat) (L : List FE) (i : Nat) : Prop := i = m ∨ ∃ e ∈ L, i = e.b ∨ e.v.ownBlock = some i

theorem map_same {H : Type} {P : Program} {k : TypeId} {R : Value → Option (DataW H × List MemPlace)} {w w' : World} {b n : Nat} {D : DataW H} (h : w.ownsMap P k R b n D) (e : w'.heap[b]? = w.heap[b]?) : w'.ownsMap P k R b n D := by
  obtain ⟨es, clock, hb, r⟩ := h
  exact ⟨es, clock, e.trans hb, r⟩
theorem map_tight {H : Type} {P : Program} {k : TypeId} {R : Value → Option (DataW H × List MemPlace)} {w : World} {b n : Nat} {D : DataW H} (h : w.ownsMap P k R b n D) : w.ownsMap P k R b (Maps.size D) D := by
  obtain ⟨es, clock, hb, F, hs, rfl⟩ := h
  exact ⟨es, clock, hb, F, by simp [Maps.size, length_sorted], rfl⟩
theorem map_to {w : World} {m n : Nat} {D : DataW Unit} {L : List FE} (h : w.ownsMap Try.prog 9 ptrE m n D) (e : D = dmap L) : w.ownsMap Try.prog 9 ptrE m L.length (dmap L) := by
  subst e
  have := map_tight h
  rwa [dmap_size] at this
theorem map_blk {H : Type} {P : Program} {k : TypeId} {R : Value → Option (DataW H × List MemPlace)} {w : World} {b n : Nat} {D : DataW H} (h : w.ownsMap P k R b n D) {i : Nat} {t : TypeId} {cs : Array Value} (hb : Blk w i t cs) : i ≠ b := fun e => by
  obtain ⟨es, clock, hh, _⟩ := h
  subst e
  unfold Blk at hb
  rw [hb] at hh
  cases hh
theorem map_own {H : Type} {P : Program} {k : TypeId} {R : Value → Option (DataW H × List MemPlace)} {w : World} {b n : Nat} {D : DataW H} (h : w.ownsMap P k R b n D) {B : Nat} {e : TypeId} {size : Nat} {v : Value} {n' : Nat} {cs : List Value} (ho : Own w B e size v n' cs) : v.ownBlock ≠ some b := fun hh => by
  obtain ⟨cur, hc⟩ := ho.etype hh
  exact map_blk h (cs := cur) hc rfl
theorem Blk.ne {w : World} {i j : Nat} {t u : TypeId} {cs ds : Array Value} (h : Blk w i t cs) (h' : Blk w j u ds) (hne : t ≠ u) : i ≠ j := fun e => by
  subst e
  unfold Blk at h h'
  rw [h] at h'
  cases h'
  exact hne rfl
theorem Blk.own {w : World} {i : Nat} {t : TypeId} {cs : Array Value} (h : Blk w i t cs) {B : Nat} {e : TypeId} {size : Nat} {v : Value} {n' : Nat} {xs : List Value} (ho : Own w B e size v n' xs) (hne : e ≠ t) : v.ownBlock ≠ some i := fun hh => by
  obtain ⟨cur, hc⟩ := ho.etype hh
  exact Blk.ne h (ds := cur) hc (Ne.symm hne) rfl

section
variable {w w' : World} {m : Nat} {L : List FE}

theorem FS.lt (h : FS w m L) {i : Nat} (hi : InF m L i) : i < w.heap.size := by
  rcases hi with rfl | ⟨e, he, rfl | hi⟩
  · exact h.map.lt
  · exact (h.blk e he).lt
  · exact ((h.row e he).lt i hi).2

theorem FS.same (h : FS w m L) (k : ∀ i, InF m L i → w'.heap[i]? = w.heap[i]?) : FS w' m L :=
  ⟨map_same h.map (k m (.inl rfl)), fun e he => (h.blk e he).same (k _ (.inr ⟨e, he, .inl rfl⟩)), fun e he => (h.row e he).same fun g hg => k g (.inr ⟨e, he, .inr hg⟩), h.sep, h.ord⟩

theorem FS.ext (h : FS w m L) (k : Ext w w') : FS w' m L := h.same fun i hi => k.block i (h.lt hi)

/-- a block of another type is none of theirs -/
theorem FS.out (h : FS w m L) {i : Nat} {t : TypeId} {cs : Array Value} (hb : Blk w i t cs) (h1 : t ≠ 78) (h2 : t ≠ 5) : ¬ InF m L i := by
  rintro (rfl | ⟨e, he, rfl | hi⟩)
  · exact map_blk h.map hb rfl
  · exact Blk.ne hb (h.blk e he) h1 rfl
  · exact Blk.own hb (h.row e he) (Ne.symm h2) hi

theorem FS.find {nm : List UInt8} {e : FE} (hf : findN FE.nm nm L = some e) : e ∈ L ∧ e.f.nm = nm := findN_some hf

theorem FS.sepOf (h : FS w m L) {x y : FE} (hx : x ∈ L) (hy : y ∈ L) (hne : x.f.nm ≠ y.f.nm) : SepE x y := by
  have hp := h.sep
  clear h
  induction L with
  | nil => cases hx
  | cons a r ih =>
    obtain ⟨h1, h2⟩ := List.pairwise_cons.1 hp
    rcases List.mem_cons.1 hx with ex | hx' <;> rcases List.mem_cons.1 hy with ey | hy'
    · exact absurd (by rw [ex, ey]) hne
    · subst ex; exact h1 y hy'
    · subst ey; exact (h1 x hx').symm
    · exact ih hx' hy' h2

/-- a file was written -/
theorem FS.upd (h : FS w m L) {nm : List UInt8} {e : FE} (hf : findN FE.nm nm L = some e) (e' : FE) (hn : e'.f.nm = nm) (hb : e'.b = e.b)
    (hw : ∀ i, InF m L i → i ≠ e.b → e.v.ownBlock ≠ some i → w'.heap[i]? = w.heap[i]?) (hblk : Blk w' e.b 78 #[e'.v, .int .i64 (e'.f.sy : Int)])
    (hrow : Own w' 0 5 1 e'.v e'.f.da.length (e'.f.da.map byteV)) (hsep : ∀ i, e'.v.ownBlock = some i → e.v.ownBlock = some i ∨ ¬ InF m L i) : FS w' m (updN FE.nm nm (fun _ => e') L) := by
  obtain ⟨he, hen⟩ := findN_some hf
  have hmem := fun y => mem_updN (f := fun _ : FE => e') (y := y) h.ord hf
  have hne : ∀ y ∈ L, FE.nm y ≠ nm → SepE e y := fun y hy hn => h.sepOf he hy fun e1 => hn (e1.symm.trans hen)
  have hsame : ∀ y ∈ L, FE.nm y ≠ nm → ∀ i, i = y.b ∨ y.v.ownBlock = some i → w'.heap[i]? = w.heap[i]? := by
    intro y hy hn i hi
    have hs := hne y hy hn
    refine hw i (.inr ⟨y, hy, hi⟩) ?_ ?_
    · rcases hi with rfl | hi
      · exact Ne.symm hs.1
      · intro e1; subst e1
        exact Blk.own (h.blk e he) (h.row y hy) (by decide) hi
    · rcases hi with rfl | hi
      · exact Blk.own (h.blk y hy) (h.row e he) (by decide)
      · intro e1; exact hs.2 i e1 hi
  have hd : dmap (updN FE.nm nm (fun _ => e') L) = dmap L := by
    unfold dmap updN
    rw [List.map_map]
    congr 1
    refine List.map_congr_left fun y hy => ?_
    simp only [Function.comp]
    split
    · rename_i hz
      have hz' : FE.nm y = nm := by simpa using hz
      obtain rfl := ord_inj h.ord hy he (hz'.trans hen.symm)
      have hz2 : y.f.nm = nm := hz'
      rw [hn, hb, hz2]
    · rfl
  refine ⟨?_, fun y hy => ?_, fun y hy => ?_, ?_, updN_ord h.ord fun y _ => hn⟩
  · rw [hd, updN_length]
    refine map_same h.map (hw m (.inl rfl) ?_ ?_)
    · exact Ne.symm (map_blk h.map (h.blk e he))
    · exact map_own h.map (h.row e he)
  · rcases (hmem y).1 hy with rfl | ⟨hy, hyn⟩
    · rw [hb]; exact hblk
    · exact (h.blk y hy).same (hsame y hy hyn _ (.inl rfl))
  · rcases (hmem y).1 hy with rfl | ⟨hy, hyn⟩
    · exact hrow
    · exact (h.row y hy).same fun g hg => hsame y hy hyn g (.inr hg)
  · refine pairwise_updN h.ord h.sep hf fun y hy hyn => ?_
    have hs := hne y hy hyn
    have : SepE e' y := ⟨by rw [hb]; exact hs.1, fun g hg hy2 => by
      rcases hsep g hg with h1 | h1
      · exact hs.2 g h1 hy2
      · exact h1 (.inr ⟨y, hy, .inr hy2⟩)⟩
    exact ⟨this, this.symm⟩

/-- a file was laid -/
theorem FS.put (h : FS w m L) (x : FE) {n : Nat} (hno : findN FE.nm x.f.nm L = none) (hmap : w'.ownsMap Try.prog 9 ptrE m n ((dmap L).put (.string x.f.nm) (.lit (.int .i64 x.b))))
    (hw : ∀ i, InF m L i → i ≠ m → w'.heap[i]? = w.heap[i]?) (hblk : Blk w' x.b 78 #[x.v, .int .i64 (x.f.sy : Int)])
    (hrow : Own w' 0 5 1 x.v x.f.da.length (x.f.da.map byteV)) (hsep : ∀ y ∈ L, SepE x y) : FS w' m (insN FE.nm x L) := by
  have hne : ∀ y ∈ L, ∀ i, i = y.b ∨ y.v.ownBlock = some i → i ≠ m := by
    intro y hy i hi e
    subst e
    rcases hi with rfl | hi
    · exact map_blk h.map (h.blk y hy) rfl
    · exact map_own h.map (h.row y hy) hi
  refine ⟨map_to hmap ?_, fun y hy => ?_, fun y hy => ?_, ?_, insN_ord h.ord (findN_none hno)⟩
  · rw [dmap_put, delN_none hno]
  · rcases mem_insN.1 hy with rfl | hy
    · exact hblk
    · exact (h.blk y hy).same (hw _ (.inr ⟨y, hy, .inl rfl⟩) (hne y hy _ (.inl rfl)))
  · rcases mem_insN.1 hy with rfl | hy
    · exact hrow
    · exact (h.row y hy).same fun g hg => hw g (.inr ⟨y, hy, .inr hg⟩) (hne y hy g (.inr hg))
  · exact ((insN_perm x L).pairwise_iff fun {a b} hs => SepE.symm hs).2 (List.pairwise_cons.2 ⟨hsep, h.sep⟩)

/-- a file was taken away -/
theorem FS.del (h : FS w m L) (nm : List UInt8) {n : Nat} (hmap : w'.ownsMap Try.prog 9 ptrE m n ((dmap L).del (.string nm)))
    (hw : ∀ i, InF m L i → i ≠ m → w'.heap[i]? = w.heap[i]?) : FS w' m (delN FE.nm nm L) := by
  have hne : ∀ y ∈ L, ∀ i, i = y.b ∨ y.v.ownBlock = some i → i ≠ m := by
    intro y hy i hi e
    subst e
    rcases hi with rfl | hi
    · exact map_blk h.map (h.blk y hy) rfl
    · exact map_own h.map (h.row y hy) hi
  refine ⟨map_to hmap (dmap_del nm L), fun y hy => ?_, fun y hy => ?_, h.sep.filter _, delN_ord h.ord⟩
  · have hy := (mem_delN.1 hy).1
    exact (h.blk y hy).same (hw _ (.inr ⟨y, hy, .inl rfl⟩) (hne y hy _ (.inl rfl)))
  · have hy := (mem_delN.1 hy).1
    exact (h.row y hy).same fun g hg => hw g (.inr ⟨y, hy, .inr hg⟩) (hne y hy g (.inr hg))

theorem InF.del {nm : List UInt8} {i : Nat} (h : InF m (delN FE.nm nm L) i) : InF m L i := by
  rcases h with h | ⟨e, he, h⟩
  · exact .inl h
  · exact .inr ⟨e, (mem_delN.1 he).1, h⟩
theorem InF.ins {x : FE} {i : Nat} (h : InF m (insN FE.nm x L) i) : i = x.b ∨ x.v.ownBlock = some i ∨ InF m L i := by
  rcases h with h | ⟨e, he, h⟩
  · exact .inr (.inr (.inl h))
  · rcases mem_insN.1 he with rfl | he
    · rcases h with h | h
      · exact .inl h
      · exact .inr (.inl h)
    · exact .inr (.inr (.inr ⟨e, he, h⟩))
theorem InF.upd {nm : List UInt8} {e e' : FE} (ho : OrdN FE.nm L) (hf : findN FE.nm nm L = some e) (hb : e'.b = e.b) {i : Nat} (h : InF m (updN FE.nm nm (fun _ => e') L) i) : InF m L i ∨ e'.v.ownBlock = some i := by
  rcases h with h | ⟨y, hy, h⟩
  · exact .inl (.inl h)
  · rcases (mem_updN (f := fun _ : FE => e') ho hf).1 hy with rfl | ⟨hy, _⟩
    · rcases h with h | h
      · exact .inl (.inr ⟨e, (findN_some hf).1, .inl (h.trans hb)⟩)
      · exact .inr h
    · exact .inl (.inr ⟨y, hy, h⟩)
end

/-- the cells of a disk's block -/
def headC (σ : DM) (us : Int) (m : Nat) (kv : Value) : Array Value :=
  #[.bool true, .int .i64 σ.cap, .int .i64 us, .map (some m), .int .i64 σ.reads, .int .i64 σ.starts, .bool σ.down, .bool σ.fail, .int .i64 σ.left, kv]

/-- a disk in memory -/
structure DkI (w : World) (g m : Nat) (kv : Value) (L : List FE) (us : Int) (σ : DM) : Prop where
  head : Blk w g 69 (headC σ us m kv)
  fs : FS w m L
  files : L.map FE.f = σ.L
  keep : Own w 0 3 1 kv σ.keep.length (σ.keep.map (Value.int .i64))

def InD (g m : Nat) (kv : Value) (L : List FE) (i : Nat) : Prop := i = g ∨ InF m L i ∨ kv.ownBlock = some i

/-- .. whose blocks are among F -/
def Dk (w : World) (g : Nat) (F : Nat → Prop) (σ : DM) : Prop :=
  okD σ ∧ ∃ m kv L, DkI w g m kv L (usedM σ.L : Int) σ ∧ (∀ i, InD g m kv L i → F i) ∧ ∀ i, F i → i < w.heap.size

/-- all that was there is as it was, but for the blocks of F -/
structure OffS (F : Nat → Prop) (w w' : World) : Prop where
  os : w'.os = w.os
  tape : w'.tape = w.tape
  output : w'.output = w.output
  size : w.heap.size ≤ w'.heap.size
  block : ∀ i, i < w.heap.size → ¬ F i → w'.heap[i]? = w.heap[i]?

def Gr (F : Nat → Prop) (w w' : World) (i : Nat) : Prop := F i ∨ (w.heap.size ≤ i ∧ i < w'.heap.size)

section
variable {F G : Nat → Prop} {a b c w w' : World}
theorem OffS.refl (F : Nat → Prop) (w : World) : OffS F w w := ⟨rfl, rfl, rfl, Nat.le_refl _, fun _ _ _ => rfl⟩
theorem OffS.of_ext (h : Ext w w') : OffS F w w' := ⟨h.os, h.tape, h.output, h.size, fun i hi _ => h.block i hi⟩
theorem OffS.mono (h : OffS F w w') (k : ∀ i, i < w.heap.size → F i → G i) : OffS G w w' := ⟨h.os, h.tape, h.output, h.size, fun i hi hn => h.block i hi fun hf => hn (k i hi hf)⟩
theorem OffS.trans (h : OffS F a b) (k : OffS F b c) : OffS F a c :=
  ⟨k.os.trans h.os, k.tape.trans h.tape, k.output.trans h.output, Nat.le_trans h.size k.size, fun i hi hn => (k.block i (Nat.lt_of_lt_of_le hi h.size) hn).trans (h.block i hi hn)⟩
theorem OffS.gr (h : OffS F a b) (k : OffS (Gr F a b) b c) : OffS F a c :=
  ⟨k.os.trans h.os, k.tape.trans h.tape, k.output.trans h.output, Nat.le_trans h.size k.size, fun i hi hn => (k.block i (Nat.lt_of_lt_of_le hi h.size) (by rintro (h | ⟨h, _⟩); exact hn h; omega)).trans (h.block i hi hn)⟩
theorem OffS.set (w : World) {g : Nat} (hg : F g) (k : Nat) (u : Value) : OffS F w (w.setCell ⟨g, k, none⟩ u) :=
  ⟨rfl, rfl, rfl, by simp [World.setCell], fun i _ hn => Below.heap_setCell _ _ _ _ fun e => hn (e ▸ hg)⟩
theorem OffS.grown {row : Option Nat} (h : w.grownBy w' row) (hr : ∀ i, row = some i → F i) : OffS F w w' :=
  ⟨h.os, h.tape, h.output, h.size, fun i hi hn => h.block i hi fun e => hn (hr i e.symm)⟩
theorem OffS.turned {m : Nat} (h : w.mapTurned w' m) (hm : F m) : OffS F w w' := OffS.grown h.grown fun i e => by cases e; exact hm
theorem OffS.below {B : Nat} {w0 : World} (h : Below B w0 w) (hs : B ≤ w.heap.size) (hB : ∀ i, F i → B ≤ i) (k : OffS F w w') : Below B w0 w' :=
  ⟨k.os.trans h.os, k.tape.trans h.tape, k.output.trans h.output, Nat.le_trans h.size k.size, fun i hi => (k.block i (by omega) fun hf => by have := hB i hf; omega).trans (h.block i hi)⟩
theorem OffS.ext {w0 : World} (h : Ext w0 w) (hB : ∀ i, F i → w0.heap.size ≤ i) (k : OffS F w w') : Ext w0 w' := OffS.below h h.size hB k
theorem OffS.blk {i : Nat} {t : TypeId} {cs : Array Value} (k : OffS F w w') (h : Blk w i t cs) (hn : ¬ F i) : Blk w' i t cs := h.same (k.block i h.lt hn)
theorem OffS.own {B : Nat} {e : TypeId} {size : Nat} {v : Value} {n : Nat} {cs : List Value} (k : OffS F w w') (h : Own w B e size v n cs) (hn : ∀ i, v.ownBlock = some i → ¬ F i) : Own w' B e size v n cs :=
  h.same fun i hi => k.block i (h.lt i hi).2 (hn i hi)
theorem Gr.of {i : Nat} (h : F i) : Gr F w w' i := .inl h
theorem Gr.not {i : Nat} (h : ¬ F i) (hi : i < w.heap.size) : ¬ Gr F w w' i := by
  rintro (h1 | h1)
  · exact h h1
  · omega
theorem Gr.ge {B i : Nat} (h : ∀ i, F i → B ≤ i) (hB : B ≤ w.heap.size) (hi : Gr F w w' i) : B ≤ i := by
  rcases hi with h1 | h1
  · exact h i h1
  · omega
end

/-- behind a change -/
structure DkS (w : World) (g : Nat) (F : Nat → Prop) (σ : DM) (w' : World) : Prop where
  dk : Dk w' g (Gr F w w') σ
  off : OffS F w w'

theorem DkI.inD_lt {w : World} {g m : Nat} {kv : Value} {L : List FE} {us : Int} {σ : DM} (h : DkI w g m kv L us σ) {i : Nat} (hi : InD g m kv L i) : i < w.heap.size := by
  rcases hi with rfl | hi | hi
  · exact h.head.lt
  · exact h.fs.lt hi
  · exact (h.keep.lt i hi).2

theorem DkI.ext {w w' : World} {g m : Nat} {kv : Value} {L : List FE} {us : Int} {σ : DM} (h : DkI w g m kv L us σ) (k : Ext w w') : DkI w' g m kv L us σ :=
  ⟨h.head.ext k, h.fs.ext k, h.files, h.keep.ext k⟩

theorem Dk.ext {w w' : World} {g : Nat} {F : Nat → Prop} {σ : DM} (h : Dk w g F σ) (k : Ext w w') : Dk w' g F σ := by
  obtain ⟨ho, m, kv, L, hi, h1, h2⟩ := h
  exact ⟨ho, m, kv, L, hi.ext k, h1, fun i hf => Nat.lt_of_lt_of_le (h2 i hf) k.size⟩

theorem Dk.mono {w : World} {g : Nat} {F G : Nat → Prop} {σ : DM} (h : Dk w g F σ) (k : ∀ i, F i → G i) (hG : ∀ i, G i → i < w.heap.size) : Dk w g G σ := by
  obtain ⟨ho, m, kv, L, hi, h1, _⟩ := h
  exact ⟨ho, m, kv, L, hi, fun i hd => k i (h1 i hd), hG⟩

/-- behind a walk: from the parts -/
theorem DkS.mk' {w w' : World} {g m m' : Nat} {kv kv' : Value} {L L' : List FE} {F : Nat → Prop} {σ' : DM} (hd : ∀ i, InD g m kv L i → F i) (hF : ∀ i, F i → i < w.heap.size) (ho : okD σ') (h' : DkI w' g m' kv' L' (usedM σ'.L : Int) σ')
    (hoff : OffS (InD g m kv L) w w') (hin : ∀ i, InD g m' kv' L' i → InD g m kv L i ∨ w.heap.size ≤ i) : DkS w g F σ' w' := by
  have off : OffS F w w' := hoff.mono fun i _ => hd i
  refine ⟨⟨ho, m', kv', L', h', fun i hi => ?_, fun i hi => ?_⟩, off⟩
  · rcases hin i hi with h1 | h1
    · exact .inl (hd i h1)
    · exact .inr ⟨h1, h'.inD_lt hi⟩
  · rcases hi with h1 | h1
    · exact Nat.lt_of_lt_of_le (hF i h1) off.size
    · exact h1.2

end Go.Proofs.Ytjllhjlmjbpinaa
namespace Go.Proofs.Ytjllhjlmjbpinaa
open Go.RowKit

theorem lawS : Maps.Keyed Try.prog 9 := Maps.string_keyed Try.underlying9
theorem zeroF (w : World) : (zeroValue 75).run Try.prog w = .ok (.pointer none) w := by kernel_rfl
theorem hkeyS (nm : List UInt8) (h : nm.length ≤ 9223372036854775807) : keyOf Try.prog 9 (.string ⟨nm.toArray⟩) = some (.string nm) :=
  WideMaps.keyOf_string_mk Try.underlying9 (s := ⟨nm.toArray⟩) (by unfold maxLen; exact h)

theorem look_any {w : World} {m : Nat} {L : List FE} (h : FS w m L) (nm : List UInt8) (hl : nm.length ≤ 9223372036854775807) : ∃ v ps, (Instr.lookup 67 (.map (some m)) (.string ⟨nm.toArray⟩) true).run Try.prog w = .ok (.tuple #[v, .bool (findN FE.nm nm L).isSome]) w ∧
    ptrE v = some (match findN FE.nm nm L with | some e => .lit (.int .i64 e.b) | none => .nil, ps) := by
  obtain ⟨v, ps, h1, h2⟩ := h.map.look_ok lawS Try.underlying67 (zeroF w) ptrE_nil (hkeyS nm hl)
  rw [dmap_has] at h1
  rw [dmap_at] at h2
  exact ⟨v, ps, h1, h2⟩
theorem look_yes {w : World} {m : Nat} {L : List FE} (h : FS w m L) {nm : List UInt8} (hl : nm.length ≤ 9223372036854775807) {e : FE} (hf : findN FE.nm nm L = some e) :
    (Instr.lookup 67 (.map (some m)) (.string ⟨nm.toArray⟩) true).run Try.prog w = .ok (.tuple #[.pointer (some ⟨e.b, 0, none⟩), .bool true]) w := by
  obtain ⟨v, ps, h1, h2⟩ := look_any h nm hl
  rw [hf] at h1 h2
  rw [h1, ptrE_inv h2]; rfl
theorem look_no {w : World} {m : Nat} {L : List FE} (h : FS w m L) {nm : List UInt8} (hl : nm.length ≤ 9223372036854775807) (hf : findN FE.nm nm L = none) :
    (Instr.lookup 67 (.map (some m)) (.string ⟨nm.toArray⟩) true).run Try.prog w = .ok (.tuple #[.pointer none, .bool false]) w := by
  obtain ⟨v, ps, h1, h2⟩ := look_any h nm hl
  rw [hf] at h1 h2
  rw [h1, ptrE_inv_nil h2]; rfl
theorem look1_yes {w : World} {m : Nat} {L : List FE} (h : FS w m L) {nm : List UInt8} (hl : nm.length ≤ 9223372036854775807) {e : FE} (hf : findN FE.nm nm L = some e) :
    (Instr.lookup 67 (.map (some m)) (.string ⟨nm.toArray⟩) false).run Try.prog w = .ok (.pointer (some ⟨e.b, 0, none⟩)) w := by
  obtain ⟨v, ps, h1, h2⟩ := h.map.lookup lawS Try.underlying67 (zeroF w) ptrE_nil (hkeyS nm hl)
  rw [dmap_at, hf] at h2
  rw [h1, ptrE_inv h2]

section head
variable {w : World} {g m : Nat} {kv : Value} {L : List FE} {us : Int} {σ : DM}
theorem DkI.c0 (h : DkI w g m kv L us σ) : w.cell? ⟨g, 0, none⟩ = some (.bool true) := h.head.cell 0
theorem DkI.c1 (h : DkI w g m kv L us σ) : w.cell? ⟨g, 1, none⟩ = some (.int .i64 σ.cap) := h.head.cell 1
theorem DkI.c2 (h : DkI w g m kv L us σ) : w.cell? ⟨g, 2, none⟩ = some (.int .i64 us) := h.head.cell 2
theorem DkI.c3 (h : DkI w g m kv L us σ) : w.cell? ⟨g, 3, none⟩ = some (.map (some m)) := h.head.cell 3
theorem DkI.c4 (h : DkI w g m kv L us σ) : w.cell? ⟨g, 4, none⟩ = some (.int .i64 σ.reads) := h.head.cell 4
theorem DkI.c5 (h : DkI w g m kv L us σ) : w.cell? ⟨g, 5, none⟩ = some (.int .i64 σ.starts) := h.head.cell 5
theorem DkI.c6 (h : DkI w g m kv L us σ) : w.cell? ⟨g, 6, none⟩ = some (.bool σ.down) := h.head.cell 6
theorem DkI.c7 (h : DkI w g m kv L us σ) : w.cell? ⟨g, 7, none⟩ = some (.bool σ.fail) := h.head.cell 7
theorem DkI.c8 (h : DkI w g m kv L us σ) : w.cell? ⟨g, 8, none⟩ = some (.int .i64 σ.left) := h.head.cell 8
theorem DkI.c9 (h : DkI w g m kv L us σ) : w.cell? ⟨g, 9, none⟩ = some kv := h.head.cell 9
theorem DkI.z (h : DkI w g m kv L us σ) (i : Nat) : w.frozen? ⟨g, i, none⟩ = false := h.head.free i
theorem DkI.f0 (h : DkI w g m kv L us σ) {e : FE} (he : e ∈ L) : w.cell? ⟨e.b, 0, none⟩ = some e.v := (h.fs.blk e he).cell 0
theorem DkI.f1 (h : DkI w g m kv L us σ) {e : FE} (he : e ∈ L) : w.cell? ⟨e.b, 1, none⟩ = some (.int .i64 (e.f.sy : Int)) := (h.fs.blk e he).cell 1
theorem DkI.fz (h : DkI w g m kv L us σ) {e : FE} (he : e ∈ L) (i : Nat) : w.frozen? ⟨e.b, i, none⟩ = false := (h.fs.blk e he).free i
end head

set_option maxRecDepth 100000
set_option maxHeartbeats 800000

theorem none_nil (w : World) : Calls Try.prog 52 #[.pointer none] w fun e w' => e = .returned (.bool true) ∧ w = w' := by
  go_enter Try.func52, Try.ntmps52
  go_wp2_with fail
  go_ret
  exact ⟨rfl, rfl⟩
theorem none_at (w : World) (g : Nat) (b : Bool) (c0 : w.cell? ⟨g, 0, none⟩ = some (.bool b)) : Calls Try.prog 52 #[.pointer (some ⟨g, 0, none⟩)] w fun e w' => e = .returned (.bool (!b)) ∧ w = w' := by
  go_enter Try.func52, Try.ntmps52
  go_wp2_with fail
  go_ret
  exact ⟨rfl, rfl⟩

/-- a disk that is none -/
def NoD (w : World) (p : Option Addr) : Prop := p = none ∨ ∃ g, p = some ⟨g, 0, none⟩ ∧ w.cell? ⟨g, 0, none⟩ = some (.bool false)
theorem NoD.ext {w w' : World} {p : Option Addr} (h : NoD w p) (k : Ext w w') : NoD w' p := by
  rcases h with h | ⟨g, h1, h2⟩
  · exact .inl h
  · exact .inr ⟨g, h1, cell_ext k h2⟩

theorem none_no (w : World) (p : Option Addr) (h : NoD w p) : Calls Try.prog 52 #[.pointer p] w fun e w' => e = .returned (.bool true) ∧ w = w' := by
  rcases h with rfl | ⟨g, rfl, h⟩
  · exact none_nil w
  · exact none_at w g false h

theorem ready_no (w : World) (p : Option Addr) (h : NoD w p) : Calls Try.prog 54 #[.pointer p] w fun e w' => e = .returned (.int .i64 1) ∧ w = w' := by
  have H := Lib.hid h; clear h
  go_enter Try.func54, Try.ntmps54
  go_wp2_with fail
  refine (none_no _ p H.out).mono ?_
  rintro e w' ⟨rfl, rfl⟩
  go_wp2_with fail
  go_ret
  exact ⟨rfl, rfl⟩
theorem ready_up (w : World) (g : Nat) (c0 : w.cell? ⟨g, 0, none⟩ = some (.bool true)) (c6 : w.cell? ⟨g, 6, none⟩ = some (.bool false)) : Calls Try.prog 54 #[.pointer (some ⟨g, 0, none⟩)] w fun e w' => e = .returned (.int .i64 0) ∧ w = w' := by
  go_enter Try.func54, Try.ntmps54
  go_wp2_with fail
  refine (none_at _ g true c0).mono ?_
  rintro e w' ⟨rfl, rfl⟩
  go_wp2_with fail
  go_ret
  exact ⟨rfl, rfl⟩
theorem ready_down (w : World) (g : Nat) (c0 : w.cell? ⟨g, 0, none⟩ = some (.bool true)) (c6 : w.cell? ⟨g, 6, none⟩ = some (.bool true)) : Calls Try.prog 54 #[.pointer (some ⟨g, 0, none⟩)] w fun e w' => e = .returned (.int .i64 61) ∧ w = w' := by
  go_enter Try.func54, Try.ntmps54
  go_wp2_with fail
  refine (none_at _ g true c0).mono ?_
  rintro e w' ⟨rfl, rfl⟩
  go_wp2_with fail
  go_ret
  exact ⟨rfl, rfl⟩

theorem find_no (w : World) (p : Option Addr) (h : NoD w p) (s : ByteArray) : Calls Try.prog 58 #[.pointer p, .string s] w fun e w' => e = .returned (.tuple #[.pointer none, .int .i64 1]) ∧ w = w' := by
  have H := Lib.hid h; clear h
  go_enter Try.func58, Try.ntmps58
  go_wp2_with fail
  refine (ready_no _ p H.out).mono ?_
  rintro e w' ⟨rfl, rfl⟩
  go_wp2_with fail
  go_ret2
  exact ⟨rfl, rfl⟩
theorem find_down (w : World) (g : Nat) (c0 : w.cell? ⟨g, 0, none⟩ = some (.bool true)) (c6 : w.cell? ⟨g, 6, none⟩ = some (.bool true)) (s : ByteArray) : Calls Try.prog 58 #[.pointer (some ⟨g, 0, none⟩), .string s] w fun e w' => e = .returned (.tuple #[.pointer none, .int .i64 61]) ∧ w = w' := by
  have H := Lib.hid (ready_down w g c0 c6); clear c0 c6
  go_enter Try.func58, Try.ntmps58
  go_wp2_with fail
  refine H.out.mono ?_
  rintro e w' ⟨rfl, rfl⟩
  go_wp2_with fail
  go_ret2
  exact ⟨rfl, rfl⟩
theorem find_none (w : World) (g m : Nat) (nm : List UInt8) (c0 : w.cell? ⟨g, 0, none⟩ = some (.bool true)) (c6 : w.cell? ⟨g, 6, none⟩ = some (.bool false)) (c3 : w.cell? ⟨g, 3, none⟩ = some (.map (some m)))
    (hrun : (Instr.lookup 67 (.map (some m)) (.string ⟨nm.toArray⟩) true).run Try.prog w = .ok (.tuple #[.pointer none, .bool false]) w) :
    Calls Try.prog 58 #[.pointer (some ⟨g, 0, none⟩), .string ⟨nm.toArray⟩] w fun e w' => e = .returned (.tuple #[.pointer none, .int .i64 4]) ∧ w = w' := by
  have H := Lib.hid (ready_up w g c0 c6); clear c0 c6
  go_enter Try.func58, Try.ntmps58
  go_wp2_with fail
  refine H.out.mono ?_
  rintro e w' ⟨rfl, rfl⟩
  go_wp2_with fail
  go_ret2
  exact ⟨rfl, rfl⟩
theorem find_some (w : World) (g m b : Nat) (nm : List UInt8) (c0 : w.cell? ⟨g, 0, none⟩ = some (.bool true)) (c6 : w.cell? ⟨g, 6, none⟩ = some (.bool false)) (c3 : w.cell? ⟨g, 3, none⟩ = some (.map (some m)))
    (hrun : (Instr.lookup 67 (.map (some m)) (.string ⟨nm.toArray⟩) true).run Try.prog w = .ok (.tuple #[.pointer (some ⟨b, 0, none⟩), .bool true]) w) :
    Calls Try.prog 58 #[.pointer (some ⟨g, 0, none⟩), .string ⟨nm.toArray⟩] w fun e w' => e = .returned (.tuple #[.pointer (some ⟨b, 0, none⟩), .int .i64 0]) ∧ w = w' := by
  have H := Lib.hid (ready_up w g c0 c6); clear c0 c6
  go_enter Try.func58, Try.ntmps58
  go_wp2_with fail
  refine H.out.mono ?_
  rintro e w' ⟨rfl, rfl⟩
  go_wp2_with fail
  go_ret2
  exact ⟨rfl, rfl⟩

theorem name_c (w : World) (nm : List UInt8) (hl : nm.length ≤ 9223372036854775807) : Calls Try.prog 55 #[.string ⟨nm.toArray⟩] w fun e w' => e = .returned (.bool (okName nm)) ∧ w = w' := by
  by_cases h0 : nm = []
  · subst h0
    go_enter Try.func55, Try.ntmps55
    go_wp2_with fail
    go_ret
    exact ⟨rfl, rfl⟩
  · have h1 : nm.isEmpty = false := by cases nm <;> simp_all
    by_cases h2 : nm.length ≤ 12
    · have e : okName nm = true := by unfold okName; simp [h1, h2]
      have E := Lib.hid e; clear e
      go_enter Try.func55, Try.ntmps55
      go_wp2_with fail
      go_ret
      rw [E.out]
      exact ⟨rb (by simp; omega), rfl⟩
    · have e : okName nm = false := by unfold okName; simp [h2]
      have E := Lib.hid e; clear e
      go_enter Try.func55, Try.ntmps55
      go_wp2_with fail
      go_ret
      rw [E.out]
      exact ⟨rb (by simp; omega), rfl⟩

theorem fails_yes (w : World) (g : Nat) (c7 : w.cell? ⟨g, 7, none⟩ = some (.bool true)) (c8 : w.cell? ⟨g, 8, none⟩ = some (.int .i64 0)) :
    Calls Try.prog 56 #[.pointer (some ⟨g, 0, none⟩)] w fun e w' => e = .returned (.bool true) ∧ w = w' := by
  go_enter Try.func56, Try.ntmps56
  go_wp2_with fail
  go_ret
  exact ⟨rfl, rfl⟩
theorem fails_no (w : World) (g : Nat) (fl : Bool) (k : Int) (c7 : w.cell? ⟨g, 7, none⟩ = some (.bool fl)) (c8 : w.cell? ⟨g, 8, none⟩ = some (.int .i64 k)) (z8 : w.frozen? ⟨g, 8, none⟩ = false) (hk0 : 0 ≤ k) (hk1 : k ≤ 9223372036854775807) (h : fl = true → k ≠ 0) :
    Calls Try.prog 56 #[.pointer (some ⟨g, 0, none⟩)] w fun e w' => e = .returned (.bool false) ∧ w' = w.setCell ⟨g, 8, none⟩ (.int .i64 (max (k - 1) 0)) := by
  cases fl with
  | false =>
    clear h
    go_enter Try.func56, Try.ntmps56
    go_wp2_with fail
    all_goals
      go_ret
      refine ⟨rfl, congrArg (fun x : Int => w.setCell ⟨g, 8, none⟩ (.int .i64 x)) ?_⟩
      omega
  | true =>
    have h1 : (k == 0) = false := by simpa using h rfl
    clear h
    go_enter Try.func56, Try.ntmps56
    go_wp2_with fail
    all_goals
      go_ret
      refine ⟨rfl, congrArg (fun x : Int => w.setCell ⟨g, 8, none⟩ (.int .i64 x)) ?_⟩
      omega

theorem new_bad (w : World) (c : Int) (h : c < 0 ∨ 1048576 < c) : Calls Try.prog 8 #[.int .i64 c] w fun e w' => e = .returned (.tuple #[.pointer none, .int .i64 2]) ∧ w = w' := by
  rcases h with h | h
  · go_enter Try.func8, Try.ntmps8
    go_wp2_with fail
    go_ret2
    exact ⟨rfl, rfl⟩
  · have h' : ¬ c < 0 := by omega
    go_enter Try.func8, Try.ntmps8
    go_wp2_with fail
    go_ret2
    exact ⟨rfl, rfl⟩
def newM (c : Int) : DM := ⟨c, [], 0, 0, false, false, 0, []⟩
theorem new_ok (c : Int) (h0 : 0 ≤ c) (h1 : c ≤ 1048576) : okD (newM c) := ⟨h0, h1, by simpa [newM, usedM, sumN] using h0, List.Pairwise.nil, (fun f hf => by cases hf), Nat.zero_le _, Int.le_refl _, fun _ => rfl, Nat.zero_le _, by show (0 : Int) ≤ _; decide⟩
theorem new_dk (w : World) (c : Int) (h0 : 0 ≤ c) (h1 : c ≤ 1048576) : Dk ((w.alloc (.map #[] 0)).alloc (.cells (headC (newM c) 0 w.heap.size (.slice none 0 0)) 69)) (w.heap.size + 1) (fun i => i = w.heap.size ∨ i = w.heap.size + 1) (newM c) := by
  have hb := Blk.new (w.alloc (.map #[] 0)) 69 (headC (newM c) 0 w.heap.size (.slice none 0 0))
  rw [World.size_alloc] at hb
  have hm := (World.ownsMap_made (H := Unit) w Try.prog 9 ptrE).alloc (.cells (headC (newM c) 0 w.heap.size (.slice none 0 0)) 69)
  refine ⟨new_ok c h0 h1, w.heap.size, .slice none 0 0, [], ⟨hb, ⟨hm, (fun e he => by cases he), (fun e he => by cases he), List.Pairwise.nil, List.Pairwise.nil⟩, rfl, Own.nil _ _ _ _⟩, fun i hi => ?_, fun i hi => ?_⟩
  · rcases hi with h | (h | ⟨_, h, _⟩) | h
    · exact .inr h
    · exact .inl h
    · cases h
    · cases h
  · simp only [World.size_alloc]; omega
theorem new_c (w : World) (c : Int) (h0 : 0 ≤ c) (h1 : c ≤ 1048576) : Calls Try.prog 8 #[.int .i64 c] w fun e w' => ∃ g F, e = .returned (.tuple #[.pointer (some ⟨g, 0, none⟩), .int .i64 0]) ∧ Dk w' g F (newM c) ∧ (∀ i, F i → w.heap.size ≤ i) ∧ Ext w w' := by
  have hmm := @run_makeMap Try.prog
  go_enter Try.func8, Try.ntmps8
  go_wp2_with fail
  go_ret2
  exact ⟨_, _, rfl, new_dk w c h0 h1, (fun i hi => by omega), ext_a2 _ _ _⟩

end Go.Proofs.Ytjllhjlmjbpinaa
namespace Go.Proofs
open Go.Shelf
def Try.lays190_ren : Go.Shelf.Ren := ⟨fun | 190 => 80 | 125 => 94 | 258 => 93 | 128 => 111 | 129 => 112 | 302 => 102 | 303 => 103 | 304 => 104 | 305 => 105 | 306 => 106 | 307 => 107 | 308 => 108 | 309 => 109 | 310 => 110 | 333 => 116 | 329 => 117 | 330 => 118 | 334 => 119 | 335 => 120 | 336 => 121 | 344 => 124 | n => n, fun | 31 => 70 | 9 => 9 | 3 => 3 | 46 => 112 | 0 => 0 | 51 => 114 | 53 => 42 | 4 => 4 | 183 => 119 | 182 => 118 | 131 => 124 | 5 => 5 | 218 => 130 | 222 => 134 | 228 => 137 | 229 => 138 | n => n, fun | n => n⟩
theorem Try.lays190 : Go.Proofs.Lays.n190 Try.prog Try.lays190_ren := {
  mixed := by kernel_rfl
  f125 := Try.func94.trans (congrArg some (by kernel_rfl))
  f128 := Try.func111.trans (congrArg some (by kernel_rfl))
  f129 := Try.func112.trans (congrArg some (by kernel_rfl))
  f190 := Try.func80.trans (congrArg some (by kernel_rfl))
  f258 := Try.func93.trans (congrArg some (by kernel_rfl))
  f302 := Try.func102.trans (congrArg some (by kernel_rfl))
  f303 := Try.func103.trans (congrArg some (by kernel_rfl))
  f304 := Try.func104.trans (congrArg some (by kernel_rfl))
  f305 := Try.func105.trans (congrArg some (by kernel_rfl))
  f306 := Try.func106.trans (congrArg some (by kernel_rfl))
  f307 := Try.func107.trans (congrArg some (by kernel_rfl))
  f308 := Try.func108.trans (congrArg some (by kernel_rfl))
  f309 := Try.func109.trans (congrArg some (by kernel_rfl))
  f310 := Try.func110.trans (congrArg some (by kernel_rfl))
  f329 := Try.func117.trans (congrArg some (by kernel_rfl))
  f330 := Try.func118.trans (congrArg some (by kernel_rfl))
  f333 := Try.func116.trans (congrArg some (by kernel_rfl))
  f334 := Try.func119.trans (congrArg some (by kernel_rfl))
  f335 := Try.func120.trans (congrArg some (by kernel_rfl))
  f336 := Try.func121.trans (congrArg some (by kernel_rfl))
  f344 := Try.func124.trans (congrArg some (by kernel_rfl))
  t0 := Try.underlying0
  a0 := Try.isAgg0
  z0 := Try.sizeOf0
  v0 := Try.zeroValue0
  t3 := Try.underlying3
  a3 := Try.isAgg3
  z3 := Try.sizeOf3
  v3 := Try.zeroValue3
  t4 := Try.underlying4
  a4 := Try.isAgg4
  z4 := Try.sizeOf4
  v4 := Try.zeroValue4
  t5 := Try.underlying5
  a5 := Try.isAgg5
  z5 := Try.sizeOf5
  v5 := Try.zeroValue5
  t9 := Try.underlying9
  a9 := Try.isAgg9
  z9 := Try.sizeOf9
  v9 := Try.zeroValue9
  t31 := Try.underlying70
  a31 := Try.isAgg70
  z31 := Try.sizeOf70
  v31 := Try.zeroValue70
  t46 := Try.underlying112
  a46 := Try.isAgg112
  z46 := Try.sizeOf112
  v46 := Try.zeroValue112
  t51 := Try.underlying114
  a51 := Try.isAgg114
  z51 := Try.sizeOf114
  v51 := Try.zeroValue114
  t53 := Try.underlying42
  a53 := Try.isAgg42
  z53 := Try.sizeOf42
  v53 := Try.zeroValue42
  t131 := Try.underlying124
  a131 := Try.isAgg124
  z131 := Try.sizeOf124
  v131 := Try.zeroValue124
  t182 := Try.underlying118
  a182 := Try.isAgg118
  z182 := Try.sizeOf118
  v182 := Try.zeroValue118
  t183 := Try.underlying119
  a183 := Try.isAgg119
  z183 := Try.sizeOf119
  v183 := Try.zeroValue119
  t218 := Try.underlying130
  a218 := Try.isAgg130
  z218 := Try.sizeOf130
  v218 := Try.zeroValue130
  t222 := Try.underlying134
  a222 := Try.isAgg134
  z222 := Try.sizeOf134
  v222 := Try.zeroValue134
  t228 := Try.underlying137
  a228 := Try.isAgg137
  z228 := Try.sizeOf137
  v228 := Try.zeroValue137
  t229 := Try.underlying138
  a229 := Try.isAgg138
  z229 := Try.sizeOf138
  v229 := Try.zeroValue138 }
def Try.lays2_15_ren : Go.Shelf.Ren := ⟨fun | 15 => 70 | n => n, fun | 22 => 32 | 3 => 3 | 4 => 4 | n => n, fun | n => n⟩
theorem Try.lays2_15 : Go.Proofs.Lays2.n15 Try.prog Try.lays2_15_ren := {
  mixed := by kernel_rfl
  f15 := Try.func70.trans (congrArg some (by kernel_rfl))
  t3 := Try.underlying3
  a3 := Try.isAgg3
  z3 := Try.sizeOf3
  v3 := Try.zeroValue3
  t4 := Try.underlying4
  a4 := Try.isAgg4
  z4 := Try.sizeOf4
  v4 := Try.zeroValue4
  t22 := Try.underlying32
  a22 := Try.isAgg32
  z22 := Try.sizeOf32
  v22 := Try.zeroValue32
  i3 := by kernel_rfl }
end Go.Proofs
