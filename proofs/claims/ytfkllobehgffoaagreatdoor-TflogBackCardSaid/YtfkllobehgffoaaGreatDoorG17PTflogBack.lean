/- How a log lies in memory, beside its disk. -/
import Derived.Test.YtfkllobehgffoaaGreatDoorChecked
import Derived.Test.YtfkllobehgffoaaGreatDoorG8PTflogBack
import Derived.Test.YtfkllobehgffoaaGreatDoorG16PTflogBack
set_option linter.unusedVariables false
set_option linter.unusedSimpArgs false
namespace Go.Proofs.YtfkllobehgffoaaGreatDoor
open Go.RowKit

theorem pl_new (c : Int) : Pl (newM c) c 0 [] := ⟨rfl, rfl, rfl, rfl, rfl⟩
theorem lgd_new (c : Int) : Lgd (newM c) c 0 [] := ⟨pl_new c, okC.nil⟩
theorem Dk.held {w w' : World} {g : Nat} {F : Nat → Prop} {σ : DM} (h : Dk w g F σ) (hs : w.heap.size ≤ w'.heap.size) (k : ∀ i, F i → w'.heap[i]? = w.heap[i]?) : Dk w' g F σ := by
  obtain ⟨ho, m, kv, L, hi, h1, h2⟩ := h
  exact ⟨ho, m, kv, L, ⟨hi.head.same (k g (h1 g (.inl rfl))), hi.fs.same fun i hx => k i (h1 i (.inr (.inl hx))), hi.files, hi.keep.same fun i hx => k i (h1 i (.inr (.inr hx)))⟩, h1, fun i hf => Nat.lt_of_lt_of_le (h2 i hf) hs⟩

theorem row_stored {w : World} {B : Nat} {e : TypeId} {v : Value} {n : Nat} {cs : List Value} (h : w.ownsRow B e 1 v n cs) {g cap : Nat} (hv : v = .slice (some ⟨g, 0, none⟩) n cap) {j : Nat} (u : Value) : (w.setCell ⟨g, j, none⟩ u).ownsRow B e 1 v n (cs.set j u) := by
  have hl := h.1
  refine ⟨by simpa using hl, ?_⟩
  rcases h.2 with ⟨rfl, _⟩ | ⟨g', cap', cur, rfl, hb, hg, h1, h2, h3, h4⟩
  · cases hv
  · cases hv
    refine .inr ⟨g, cap, cur.setIfInBounds j u, rfl, hb, ?_, h1, h2, by simpa using h3, ?_⟩
    · simp only [World.setCell, Array.getElem?_modify, if_true, hg, Option.map_some]
      rfl
    · rw [Array.toList_setIfInBounds, ← h4, List.take_set]

/-- the blocks of a log -/
def InLg (gl : Nat) (v : Value) (i : Nat) : Prop := i = gl ∨ v.ownBlock = some i
/-- a log at gl, of the disk at g -/
structure LogM (w : World) (gl g : Nat) (s : Int) (v : Value) (xs : List Int) (sure : Int) : Prop where
  blk : Blk w gl 36 #[.pointer (some ⟨g, 0, none⟩), .int .i64 s, .bool false, v, .int .i64 sure]
  row : w.ownsRow 0 3 1 v xs.length (xs.map (Value.int .i64))

section
variable {w w' : World} {gl g : Nat} {s sure : Int} {v : Value} {xs : List Int}
theorem LogM.lt (h : LogM w gl g s v xs sure) {i : Nat} (hi : InLg gl v i) : i < w.heap.size := by
  rcases hi with rfl | hi
  · exact h.blk.lt
  · exact (row_lt h.row i hi).2
theorem LogM.same (h : LogM w gl g s v xs sure) (k : ∀ i, InLg gl v i → w'.heap[i]? = w.heap[i]?) : LogM w' gl g s v xs sure :=
  ⟨h.blk.same (k gl (.inl rfl)), row_same h.row fun i hi => k i (.inr hi)⟩
theorem LogM.ext (h : LogM w gl g s v xs sure) (k : Ext w w') : LogM w' gl g s v xs sure := h.same fun i hi => k.block i (h.lt hi)
theorem LogM.c0 (h : LogM w gl g s v xs sure) : w.cell? ⟨gl, 0, none⟩ = some (.pointer (some ⟨g, 0, none⟩)) := h.blk.cell 0
theorem LogM.c1 (h : LogM w gl g s v xs sure) : w.cell? ⟨gl, 1, none⟩ = some (.int .i64 s) := h.blk.cell 1
theorem LogM.c2 (h : LogM w gl g s v xs sure) : w.cell? ⟨gl, 2, none⟩ = some (.bool false) := h.blk.cell 2
theorem LogM.c3 (h : LogM w gl g s v xs sure) : w.cell? ⟨gl, 3, none⟩ = some v := h.blk.cell 3
theorem LogM.c4 (h : LogM w gl g s v xs sure) : w.cell? ⟨gl, 4, none⟩ = some (.int .i64 sure) := h.blk.cell 4
theorem LogM.slice (h : LogM w gl g s v xs sure) : ∃ a c, v = .slice a xs.length c ∧ Ints w a xs.length c xs := own_ints (Own.of_row h.row)
theorem LogM.apart (h : LogM w gl g s v xs sure) : v.ownBlock ≠ some gl := fun hh => by
  obtain ⟨cur, hc⟩ := row_etype h.row hh
  exact Blk.ne h.blk (ds := cur) hc (by decide) rfl
end

/-- a disk alone, made since w0, beside the blocks K -/
structure DkF (w0 w : World) (g : Nat) (F : Nat → Prop) (σ : DM) (K : Nat → Prop) : Prop where
  d : Dk w g F σ
  bF : ∀ i, F i → w0.heap.size ≤ i
  ext : Ext w0 w
  k : ∀ i, K i → i < w.heap.size ∧ ¬ F i
def DkK (w0 w : World) (g : Nat) (c s : Int) (C : Cks) (K : Nat → Prop) : Prop := ∃ F σ, DkF w0 w g F σ K ∧ Lgd σ c s C

/-- a log with its disk, made since w0, beside the blocks K -/
structure LgF (w0 w : World) (g gl : Nat) (F : Nat → Prop) (v : Value) (σ : DM) (s : Int) (xs : List Int) (sure : Int) (K : Nat → Prop) : Prop where
  d : Dk w g F σ
  l : LogM w gl g s v xs sure
  ap : ∀ i, F i → ¬ InLg gl v i
  bF : ∀ i, F i → w0.heap.size ≤ i
  bG : ∀ i, InLg gl v i → w0.heap.size ≤ i
  ext : Ext w0 w
  k : ∀ i, K i → i < w.heap.size ∧ ¬ F i ∧ ¬ InLg gl v i
def LgK (w0 w : World) (g gl : Nat) (c s : Int) (C : Cks) (sure : Int) (K : Nat → Prop) : Prop := ∃ F v σ, LgF w0 w g gl F v σ s (sizesL C) sure K ∧ Lgd σ c s C

/-- what is beside stays -/
def Stay (K : Nat → Prop) (w w' : World) : Prop := ∀ i, K i → w'.heap[i]? = w.heap[i]?

section
variable {w0 w w1 w2 : World} {g gl : Nat} {F K K' : Nat → Prop} {v : Value} {σ σ1 : DM} {c s sure : Int} {xs : List Int} {C : Cks}
theorem Stay.trans {K : Nat → Prop} {a b c : World} (h : Stay K a b) (k : Stay K b c) : Stay K a c := fun i hi => (k i hi).trans (h i hi)
theorem Stay.refl (K : Nat → Prop) (w : World) : Stay K w w := fun _ _ => rfl
theorem LgF.kExt (h : LgF w0 w g gl F v σ s xs sure K) (k : Ext w w1) : Stay K w w1 := fun i hi => k.block i (h.k i hi).1
theorem LgF.grow (h : LgF w0 w g gl F v σ s xs sure K) (k : Ext w w1) : LgF w0 w1 g gl F v σ s xs sure K :=
  ⟨h.d.ext k, h.l.ext k, h.ap, h.bF, h.bG, h.ext.trans k, fun i hi => ⟨Nat.lt_of_lt_of_le (h.k i hi).1 k.size, (h.k i hi).2⟩⟩
/-- behind a change of the disk -/
theorem LgF.disk (h : LgF w0 w g gl F v σ s xs sure K) (k : DkS w g F σ1 w1) : LgF w0 w1 g gl (Gr F w w1) v σ1 s xs sure K ∧ Stay K w w1 := by
  have hs := k.off.size
  refine ⟨⟨k.dk, h.l.same fun i hi => k.off.block i (h.l.lt hi) fun hf => h.ap i hf hi, ?_, fun i hi => Gr.ge h.bF h.ext.size hi, h.bG, k.off.ext h.ext h.bF, fun i hi => ?_⟩, fun i hi => ?_⟩
  · rintro i (hf | ⟨h1, _⟩) hg
    · exact h.ap i hf hg
    · have := h.l.lt hg; omega
  · obtain ⟨a, b, d⟩ := h.k i hi
    exact ⟨by omega, Gr.not b a, d⟩
  · obtain ⟨a, b, d⟩ := h.k i hi
    exact k.off.block i a b
/-- behind a change of the log alone: its blocks are those, or new ones -/
theorem LgF.log {v1 : Value} {xs1 : List Int} {sure1 : Int} (h : LgF w0 w g gl F v σ s xs sure K) (hl : LogM w1 gl g s v1 xs1 sure1) (off : OffS (InLg gl v) w w1) (hv : ∀ i, v1.ownBlock = some i → v.ownBlock = some i ∨ w.heap.size ≤ i) :
    LgF w0 w1 g gl F v1 σ s xs1 sure1 K ∧ Stay K w w1 := by
  have hs := off.size
  have hF : ∀ i, F i → w1.heap[i]? = w.heap[i]? := fun i hi => off.block i (by obtain ⟨_, _, _, _, _, _, h⟩ := h.d; exact h i hi) (h.ap i hi)
  have hlt : ∀ i, F i → i < w.heap.size := by obtain ⟨_, _, _, _, _, _, h⟩ := h.d; exact h
  refine ⟨⟨h.d.held hs hF, hl, fun i hi hg => ?_, h.bF, fun i hi => ?_, off.ext h.ext h.bG, fun i hi => ?_⟩, fun i hi => ?_⟩
  · rcases hg with rfl | hg
    · exact h.ap _ hi (.inl rfl)
    · rcases hv i hg with h1 | h1
      · exact h.ap i hi (.inr h1)
      · have := hlt i hi; omega
  · rcases hi with rfl | hg
    · exact h.bG _ (.inl rfl)
    · rcases hv i hg with h1 | h1
      · exact h.bG i (.inr h1)
      · have := h.ext.size; omega
  · obtain ⟨a, b, d⟩ := h.k i hi
    refine ⟨by omega, b, ?_⟩
    rintro (rfl | hg)
    · exact d (.inl rfl)
    · rcases hv i hg with h1 | h1
      · exact d (.inr h1)
      · omega
  · obtain ⟨a, b, d⟩ := h.k i hi
    exact off.block i a d
theorem LgF.beside (h : LgF w0 w g gl F v σ s xs sure K) (k : ∀ i, K' i → K i) : LgF w0 w g gl F v σ s xs sure K' :=
  ⟨h.d, h.l, h.ap, h.bF, h.bG, h.ext, fun i hi => h.k i (k i hi)⟩

theorem LgK.grow (h : LgK w0 w g gl c s C sure K) (k : Ext w w1) : LgK w0 w1 g gl c s C sure K := by
  obtain ⟨F, v, σ, h1, h2⟩ := h
  exact ⟨F, v, σ, h1.grow k, h2⟩
theorem LgK.kExt (h : LgK w0 w g gl c s C sure K) (k : Ext w w1) : Stay K w w1 := by
  obtain ⟨F, v, σ, h1, h2⟩ := h
  exact h1.kExt k
theorem LgK.base (h : LgK w0 w g gl c s C sure K) : Ext w0 w := by
  obtain ⟨F, v, σ, h1, h2⟩ := h
  exact h1.ext
/-- blocks that are new, or were beside it, are beside it -/
theorem LgK.more (h : LgK w0 w g gl c s C sure K) (k : Ext w w1) (hK : ∀ i, K' i → K i ∨ (w.heap.size ≤ i ∧ i < w1.heap.size)) : LgK w0 w1 g gl c s C sure K' := by
  obtain ⟨F, v, σ, h1, h2⟩ := h
  have h3 := h1.grow k
  refine ⟨F, v, σ, ⟨h3.d, h3.l, h3.ap, h3.bF, h3.bG, h3.ext, fun i hi => ?_⟩, h2⟩
  have hlt : ∀ i, F i → i < w.heap.size := by obtain ⟨_, _, _, _, _, _, h⟩ := h1.d; exact h
  rcases hK i hi with h4 | ⟨h4, h5⟩
  · exact h3.k i h4
  · refine ⟨h5, fun hf => ?_, fun hg => ?_⟩
    · have := hlt i hf; omega
    · have := h1.l.lt hg; omega
/-- a turn of blocks beside it alone -/
theorem LgK.side (h : LgK w0 w g gl c s C sure K) (hs : w.heap.size ≤ w1.heap.size) (h1 : Ext w0 w1) (k : ∀ i, i < w.heap.size → ¬ K i → w1.heap[i]? = w.heap[i]?) : LgK w0 w1 g gl c s C sure K := by
  obtain ⟨F, v, σ, h2, h3⟩ := h
  have hlt : ∀ i, F i → i < w.heap.size := by obtain ⟨_, _, _, _, _, _, h⟩ := h2.d; exact h
  exact ⟨F, v, σ, ⟨h2.d.held hs fun i hi => k i (hlt i hi) fun hk => (h2.k i hk).2.1 hi, h2.l.same fun i hi => k i (h2.l.lt hi) fun hk => (h2.k i hk).2.2 hi, h2.ap, h2.bF, h2.bG, h1,
    fun i hi => ⟨Nat.lt_of_lt_of_le (h2.k i hi).1 hs, (h2.k i hi).2⟩⟩, h3⟩

theorem DkK.grow (h : DkK w0 w g c s C K) (k : Ext w w1) : DkK w0 w1 g c s C K := by
  obtain ⟨F, σ, h1, h2⟩ := h
  exact ⟨F, σ, ⟨h1.d.ext k, h1.bF, h1.ext.trans k, fun i hi => ⟨Nat.lt_of_lt_of_le (h1.k i hi).1 k.size, (h1.k i hi).2⟩⟩, h2⟩
theorem DkF.disk (h : DkF w0 w g F σ K) (k : DkS w g F σ1 w1) : DkF w0 w1 g (Gr F w w1) σ1 K ∧ Stay K w w1 := by
  have hs := k.off.size
  refine ⟨⟨k.dk, fun i hi => Gr.ge h.bF h.ext.size hi, k.off.ext h.ext h.bF, fun i hi => ?_⟩, fun i hi => ?_⟩
  · obtain ⟨a, b⟩ := h.k i hi
    exact ⟨by omega, Gr.not b a⟩
  · obtain ⟨a, b⟩ := h.k i hi
    exact k.off.block i a b
/-- the log is left: its blocks lie beside the disk -/
theorem LgK.left (h : LgK w0 w g gl c s C sure K) : ∃ v, LogM w gl g s v (sizesL C) sure ∧ DkK w0 w g c s C (fun i => K i ∨ InLg gl v i) := by
  obtain ⟨F, v, σ, h1, h2⟩ := h
  refine ⟨v, h1.l, F, σ, ⟨h1.d, h1.bF, h1.ext, ?_⟩, h2⟩
  rintro i (hi | hi)
  · exact ⟨(h1.k i hi).1, (h1.k i hi).2.1⟩
  · exact ⟨h1.l.lt hi, fun hf => h1.ap i hf hi⟩
end

end Go.Proofs.YtfkllobehgffoaaGreatDoor
