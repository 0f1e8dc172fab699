/- Walks: the reader of a manifest's bytes. -/
import Derived.Test.YtoibjhoebjcfeaaChecked
import Derived.Test.YtoibjhoebjcfeaaMD
namespace Go.Proofs.Ytoibjhoebjcfeaa
open Go.RowKit

theorem frozen_ext {w w' : World} (h : Ext w w') {a : Addr} {u : Value} (hc : w.cell? a = some u) (hz : w.frozen? a = false) : w'.frozen? a = false :=
  (h.frozen (World.block_lt_of_cell? (h := hc))).trans hz

theorem Own.setBelow {w : World} {B : Nat} {e : TypeId} {size : Nat} {v : Value} {n : Nat} {cs : List Value} (h : Own w B e size v n cs) {g : Nat} (hg : g < B) (k : Nat) (u : Value) : Own (w.setCell ⟨g, k, none⟩ u) B e size v n cs :=
  h.setOther u fun hb => by have := (h.lt _ hb).1; simp at this; omega

theorem OGr.setBelow {w : World} {B : Nat} {tO tI : TypeId} {v : Value} {vs : List Value} {L : List (List Int)} (h : OGr w B tO tI v vs L) {g : Nat} (hg : g < B) (k : Nat) (u : Value) : OGr (w.setCell ⟨g, k, none⟩ u) B tO tI v vs L :=
  ⟨h.own.setBelow hg k u, fun i => (h.row i).setBelow hg k u, h.sep⟩

set_option maxRecDepth 100000 in
set_option maxHeartbeats 800000 in
theorem take_no (l : List UInt8) (ok : Bool) (g : Nat) (k : Int) (w : World) (c0 : w.cell? ⟨g, 0, none⟩ = some (.string ⟨l.toArray⟩)) (c1 : w.cell? ⟨g, 1, none⟩ = some (.bool ok)) (z0 : w.frozen? ⟨g, 0, none⟩ = false) (z1 : w.frozen? ⟨g, 1, none⟩ = false) (_hl : l.length ≤ 9223372036854775807) (_hk0 : 0 ≤ k) (hk : (l.length : Int) < k) :
    Calls Try.prog 81 #[.pointer (some ⟨g, 0, none⟩), .int .i64 k] w fun e w' => e = .returned (.int .u64 0) ∧ w' = (w.setCell ⟨g, 0, none⟩ (.string ⟨#[]⟩)).setCell ⟨g, 1, none⟩ (.bool false) := by
  go_enter Try.func81, Try.ntmps81
  go_wp2_with fail
  go_ret
  exact ⟨rfl, rfl⟩

set_option maxRecDepth 100000 in
set_option maxHeartbeats 800000 in
theorem take_yes (l : List UInt8) (g : Nat) (k : Nat) (w : World) (c0 : w.cell? ⟨g, 0, none⟩ = some (.string ⟨l.toArray⟩)) (z0 : w.frozen? ⟨g, 0, none⟩ = false) (_hl : l.length ≤ 9223372036854775807) (hk : k ≤ l.length) (h8 : k ≤ 8) :
    Calls Try.prog 81 #[.pointer (some ⟨g, 0, none⟩), .int .i64 k] w fun e w' => e = .returned (.int .u64 (unbe (l.take k))) ∧ ∃ w1, Ext w w1 ∧ w' = w1.setCell ⟨g, 0, none⟩ (.string ⟨(l.drop k).toArray⟩) := by
  go_enter Try.func81, Try.ntmps81
  have hlt : (l.take k).length ≤ 9223372036854775807 := by simp; omega
  have ht : (l.take k).take 8 = l.take k := by rw [List.take_take]; congr 1; omega
  have HT := Lib.hid ht; clear ht
  go_wp2_with fail
  refine (get_c _ _ hlt).mono ?_
  rw [HT.out]
  rintro e w1 ⟨rfl, hb⟩
  have c1 := cell_ext hb c0
  have z1 := frozen_ext hb c0 z0
  have HB := Lib.hid hb; clear hb
  go_wp2_with fail
  go_ret
  exact ⟨rfl, w1, HB.out, rfl⟩

/-- all that was there is as it was, but for block g -/
structure Off (g : Nat) (w w' : World) : Prop where
  os : w'.os = w.os
  tape : w'.tape = w.tape
  output : w'.output = w.output
  size : w.heap.size ≤ w'.heap.size
  block : ∀ i, i < w.heap.size → i ≠ g → w'.heap[i]? = w.heap[i]?

theorem Off.refl (g : Nat) (w : World) : Off g w w := ⟨rfl, rfl, rfl, Nat.le_refl _, fun _ _ _ => rfl⟩
theorem Off.trans {g : Nat} {a b c : World} (h : Off g a b) (k : Off g b c) : Off g a c :=
  ⟨k.os.trans h.os, k.tape.trans h.tape, k.output.trans h.output, Nat.le_trans h.size k.size, fun i hi hn => (k.block i (Nat.lt_of_lt_of_le hi h.size) hn).trans (h.block i hi hn)⟩
theorem Off.of_ext {g : Nat} {w w' : World} (h : Ext w w') : Off g w w' := ⟨h.os, h.tape, h.output, h.size, fun i hi _ => h.block i hi⟩
theorem Off.set {g : Nat} (w : World) (k : Nat) (u : Value) : Off g w (w.setCell ⟨g, k, none⟩ u) :=
  ⟨rfl, rfl, rfl, by simp [World.setCell], fun i _ hn => Below.heap_setCell _ _ _ _ hn⟩
theorem Off.ext {g : Nat} {w0 w w' : World} (h : Ext w0 w) (hg : w0.heap.size ≤ g) (k : Off g w w') : Ext w0 w' :=
  ⟨k.os.trans h.os, k.tape.trans h.tape, k.output.trans h.output, Nat.le_trans h.size k.size, fun i hi => (k.block i (Nat.lt_of_lt_of_le hi h.size) (by omega)).trans (h.block i hi)⟩
theorem Off.below {g B : Nat} {w0 w w' : World} (h : Below B w0 w) (hg : B ≤ g) (hs : B ≤ w.heap.size) (k : Off g w w') : Below B w0 w' :=
  ⟨k.os.trans h.os, k.tape.trans h.tape, k.output.trans h.output, Nat.le_trans h.size k.size, fun i hi => (k.block i (by omega) (by omega)).trans (h.block i hi)⟩
theorem Off.own {g : Nat} {w w' : World} {B : Nat} {e : TypeId} {size : Nat} {v : Value} {n : Nat} {cs : List Value} (h : Own w B e size v n cs) (hg : g < B) (k : Off g w w') : Own w' B e size v n cs :=
  h.same fun i hb => k.block i (h.lt i hb).2 (by have := (h.lt i hb).1; omega)
theorem Off.ogr {g : Nat} {w w' : World} {B : Nat} {tO tI : TypeId} {v : Value} {vs : List Value} {L : List (List Int)} (h : OGr w B tO tI v vs L) (hg : g < B) (k : Off g w w') : OGr w' B tO tI v vs L :=
  ⟨Off.own h.own hg k, fun i => Off.own (h.row i) hg k, h.sep⟩
theorem Off.grown {g B : Nat} {e : TypeId} {size : Nat} {v : Value} {n : Nat} {xs : List Value} {w0 w w' : World} (h : Off g w0 w) (hown : Own w B e size v n xs) (hg : w.grownBy w' v.ownBlock) (hB : w0.heap.size ≤ B) : Off g w0 w' :=
  ⟨hg.os.trans h.os, hg.tape.trans h.tape, hg.output.trans h.output, Nat.le_trans h.size hg.size, fun i hi hn => (hg.block i (Nat.lt_of_lt_of_le hi h.size) (fun e => by have := (hown.lt i e.symm).1; omega)).trans (h.block i hi hn)⟩

/-- the reader lies in block g -/
def Rdr (w : World) (g : Nat) (s : List UInt8) (ok : Bool) : Prop := w.heap[g]? = some (.cells #[.string ⟨s.toArray⟩, .bool ok] 103 (0, 0))

theorem Rdr.c0 {w : World} {g : Nat} {s : List UInt8} {ok : Bool} (h : Rdr w g s ok) : w.cell? ⟨g, 0, none⟩ = some (.string ⟨s.toArray⟩) := by unfold Rdr at h; simp [World.cell?, h]
theorem Rdr.c1 {w : World} {g : Nat} {s : List UInt8} {ok : Bool} (h : Rdr w g s ok) : w.cell? ⟨g, 1, none⟩ = some (.bool ok) := by unfold Rdr at h; simp [World.cell?, h]
theorem Rdr.z0 {w : World} {g : Nat} {s : List UInt8} {ok : Bool} (h : Rdr w g s ok) : w.frozen? ⟨g, 0, none⟩ = false := by unfold Rdr at h; simp [World.frozen?, h]
theorem Rdr.z1 {w : World} {g : Nat} {s : List UInt8} {ok : Bool} (h : Rdr w g s ok) : w.frozen? ⟨g, 1, none⟩ = false := by unfold Rdr at h; simp [World.frozen?, h]
theorem Rdr.same {w w' : World} {g : Nat} {s : List UInt8} {ok : Bool} (h : Rdr w g s ok) (k : w'.heap[g]? = w.heap[g]?) : Rdr w' g s ok := k.trans h
theorem Rdr.lt {w : World} {g : Nat} {s : List UInt8} {ok : Bool} (h : Rdr w g s ok) : g < w.heap.size := World.block_lt_of_cell? (h := h.c0)
theorem Rdr.ext {w w' : World} {g : Nat} {s : List UInt8} {ok : Bool} (h : Rdr w g s ok) (k : Ext w w') : Rdr w' g s ok := h.same (k.block g h.lt)

def takeV (k : Nat) (s : List UInt8) : Nat := if s.length < k then 0 else unbe (s.take k)
def takeR (k : Nat) (s : List UInt8) : List UInt8 := if s.length < k then [] else s.drop k
def takeO (k : Nat) (s : List UInt8) (ok : Bool) : Bool := if s.length < k then false else ok

theorem take_c (l : List UInt8) (ok : Bool) (g k : Nat) (N : Int) (w : World) (hN : N = (k : Int)) (h : Rdr w g l ok) (hl : l.length ≤ 9223372036854775807) (h8 : k ≤ 8) :
    Calls Try.prog 81 #[.pointer (some ⟨g, 0, none⟩), .int .i64 N] w fun e w' => e = .returned (.int .u64 (takeV k l)) ∧ Rdr w' g (takeR k l) (takeO k l ok) ∧ Off g w w' := by
  subst hN
  by_cases hk : l.length < k
  · refine (take_no l ok g k w h.c0 h.c1 h.z0 h.z1 hl (by omega) (by omega)).mono ?_
    rintro e w' ⟨rfl, rfl⟩
    refine ⟨by unfold takeV; rw [if_pos hk]; rfl, ?_, (Off.set _ _ _).trans (Off.set _ _ _)⟩
    unfold takeR takeO Rdr; rw [if_pos hk, if_pos hk]
    unfold Rdr at h
    simp [World.setCell, Array.getElem?_modify, h]
  · refine (take_yes l g k w h.c0 h.z0 hl (by omega) h8).mono ?_
    rintro e w' ⟨rfl, w1, hb, rfl⟩
    have h1 := h.ext hb
    refine ⟨by unfold takeV; rw [if_neg hk], ?_, (Off.of_ext hb).trans (Off.set _ _ _)⟩
    unfold takeR takeO Rdr; rw [if_neg hk, if_neg hk]
    unfold Rdr at h1
    simp [World.setCell, Array.getElem?_modify, h1]

end Go.Proofs.Ytoibjhoebjcfeaa
