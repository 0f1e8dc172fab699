/- Small laws of no program: all is as it was but for one block. (XME has these words too: never import both.) -/
import Derived.Test.YtkkafjknogfdnaaKR
namespace Go.Proofs.Ytkkafjknogfdnaa
open Go.RowKit

theorem frozen_ext {w w' : World} (h : Ext w w') {a : Addr} {u : Value} (hc : w.cell? a = some u) (hz : w.frozen? a = false) : w'.frozen? a = false :=
  (h.frozen (World.block_lt_of_cell? (h := hc))).trans hz

/-- all that was there is as it was, but for block g -/
structure Off (g : Nat) (w w' : World) : Prop where
  os : w'.os = w.os
  tape : w'.tape = w.tape
  output : w'.output = w.output
  size : w.heap.size ≤ w'.heap.size
  block : ∀ i, i < w.heap.size → i ≠ g → w'.heap[i]? = w.heap[i]?

theorem Off.refl (g : Nat) (w : World) : Off g w w := ⟨rfl, rfl, rfl, Nat.le_refl _, fun _ _ _ => rfl⟩
theorem Off.trans {g : Nat} {a b c : World} (h : Off g a b) (k : Off g b c) : Off g a c :=
  ⟨k.os.trans h.os, k.tape.trans h.tape, k.output.trans h.output, Nat.le_trans h.size k.size, fun i hi hn => (k.block i (Nat.lt_of_lt_of_le hi h.size) hn).trans (h.block i hi hn)⟩
theorem Off.of_ext {g : Nat} {w w' : World} (h : Ext w w') : Off g w w' := ⟨h.os, h.tape, h.output, h.size, fun i hi _ => h.block i hi⟩
theorem Off.set {g : Nat} (w : World) (k : Nat) (u : Value) : Off g w (w.setCell ⟨g, k, none⟩ u) :=
  ⟨rfl, rfl, rfl, by simp [World.setCell], fun i _ hn => Below.heap_setCell _ _ _ _ hn⟩
theorem Off.ext {g : Nat} {w0 w w' : World} (h : Ext w0 w) (hg : w0.heap.size ≤ g) (k : Off g w w') : Ext w0 w' :=
  ⟨k.os.trans h.os, k.tape.trans h.tape, k.output.trans h.output, Nat.le_trans h.size k.size, fun i hi => (k.block i (Nat.lt_of_lt_of_le hi h.size) (by omega)).trans (h.block i hi)⟩
theorem Off.below {g B : Nat} {w0 w w' : World} (h : Below B w0 w) (hg : B ≤ g) (hs : B ≤ w.heap.size) (k : Off g w w') : Below B w0 w' :=
  ⟨k.os.trans h.os, k.tape.trans h.tape, k.output.trans h.output, Nat.le_trans h.size k.size, fun i hi => (k.block i (by omega) (by omega)).trans (h.block i hi)⟩
theorem Off.row {g : Nat} {w w' : World} {B : Nat} {e : TypeId} {size : Nat} {v : Value} {n : Nat} {cs : List Value} (h : w.ownsRow B e size v n cs) (hne : v.ownBlock ≠ some g) (k : Off g w w') : w'.ownsRow B e size v n cs :=
  row_same h fun i hi => k.block i (row_lt h i hi).2 fun e => hne (e ▸ hi)
theorem Off.blk {g i : Nat} {w w' : World} {t : TypeId} {cs : Array Value} (h : Blk w i t cs) (hne : i ≠ g) (k : Off g w w') : Blk w' i t cs := h.same (k.block i h.lt hne)
theorem Off.drew {g : Nat} {w w' : World} (h : Off g w w') : Off g w w'.drew := ⟨h.os, h.tape, h.output, h.size, h.block⟩

end Go.Proofs.Ytkkafjknogfdnaa
