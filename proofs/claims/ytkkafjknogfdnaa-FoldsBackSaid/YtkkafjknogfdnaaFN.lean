/- Walks: the chapter's states, on. -/
import Derived.Test.YtkkafjknogfdnaaChecked
import Derived.Test.YtkkafjknogfdnaaFM
import Derived.WalkSpells
namespace Go.Proofs.Ytkkafjknogfdnaa
open Go.RowKit

theorem Off.setNew {g : Nat} {w w' : World} (h : Off g w w') {q : Nat} (hq : w.heap.size ≤ q) (i : Nat) (u : Value) : Off g w (w'.setCell ⟨q, i, none⟩ u) :=
  ⟨h.os, h.tape, h.output, by have := h.size; simp [World.setCell]; omega, fun j hj hn => (Below.heap_setCell _ _ _ _ (by show j ≠ q; omega)).trans (h.block j hj hn)⟩

set_option maxRecDepth 100000 in
set_option maxHeartbeats 6400000 in
theorem add0_c (t d : List UInt8) (k : FloatKind) (b : Nat) (g : Nat) (w : World) (h : Blk w g 55 #[.int .i64 0, .slice none 0 0]) (_ht : t.length ≤ 1000000) (_hd : (d.length : Int) ≤ 1000000) :
    Calls Try.prog 90 #[.pointer (some ⟨g, 0, none⟩), .agg #[.string ⟨t.toArray⟩, .string ⟨d.toArray⟩, .float k b]] w fun e w' => e = .returned (.int .i64 0) ∧ (∃ q c, Blk w' g 55 #[.int .i64 1, .slice (some ⟨q, 0, none⟩) 1 c] ∧ w'.ownsRow w.heap.size 103 3 (.slice (some ⟨q, 0, none⟩) 1 c) 1 (kc ⟨t, 1, d.length⟩)) ∧ Off g w w' := by
  have hg := h.lt
  have h1 := h.ext (ext_a1 w (.cells #[.string ⟨t.toArray⟩, .string ⟨d.toArray⟩, .float k b] 70))
  have e1 := (Blk.new w 70 #[.string ⟨t.toArray⟩, .string ⟨d.toArray⟩, .float k b])
  have H1 := Lib.hid h1; have HEv := Lib.hid e1
  have g0 : (w.alloc (.cells #[.string ⟨t.toArray⟩, .string ⟨d.toArray⟩, .float k b] 70)).cell? ⟨g, 0, none⟩ = some (.int .i64 0) := h1.cell 0
  have g1 : (w.alloc (.cells #[.string ⟨t.toArray⟩, .string ⟨d.toArray⟩, .float k b] 70)).cell? ⟨g, 1, none⟩ = some (.slice none 0 0) := h1.cell 1
  have HE1 := Lib.hid (ext_a1 w (.cells #[.string ⟨t.toArray⟩, .string ⟨d.toArray⟩, .float k b] 70))
  have v0 : (w.alloc (.cells #[.string ⟨t.toArray⟩, .string ⟨d.toArray⟩, .float k b] 70)).cell? ⟨w.heap.size, 0, none⟩ = some (.string ⟨t.toArray⟩) := e1.cell 0
  have cc1 := cell_of g1
  have cc2 := cell_of v0
  clear h h1 e1
  have HC := Lib.hid (fun (f : Value) (wx : World) => bsearch0_c ⟨t.toArray⟩ f wx)
  go_enter Try.func90, Try.ntmps90
  go_wp2_with fail
  refine wp_region_ext (by kernel_rfl) (by kernel_rfl) ?_
  repeat (go_big_quiet_step (fail))
  go_big_quiet_step (exact Calls.quiet_ext (HC.out _ _))
  repeat (go_big_quiet_step (fail))
  refine wpQuiet_nil ?_
  intro w2 hw2
  have HW2 := Lib.hid hw2
  have S2 := Lib.hid (H1.out.ext hw2); have V2 := Lib.hid (HEv.out.ext hw2)
  have a0 : w2.cell? ⟨g, 0, none⟩ = some (.int .i64 0) := S2.out.cell 0
  have a1 : w2.cell? ⟨g, 1, none⟩ = some (.slice none 0 0) := S2.out.cell 1
  clear hw2 cc1 cc2 g0 g1 v0
  have z1 := S2.out.free 1
  have w0 : w2.cell? ⟨w.heap.size, 0, none⟩ = some (.string ⟨t.toArray⟩) := V2.out.cell 0
  have HIn := Lib.hid (insert0_c w2.heap.size ⟨t, 0, 0⟩ ((w2.alloc (.cells #[.string ⟨t.toArray⟩, .int .i64 0, .int .i64 0] 103)).drew) (Blk.new _ _ _).drew)
  have hl2 : g < w2.heap.size := S2.out.lt
  have hn2 : g ≠ w2.heap.size := Nat.ne_of_lt hl2
  have hsz2 : w.heap.size < w2.heap.size := V2.out.lt
  go_wp2_with fail
  go_region_law (go_simp; go_at_call 97; refine HIn.out.mono ?_; rintro e w3 ⟨q, c, rfl, hrow3, hw3⟩; have HR3 := Lib.hid hrow3; have HW3 := Lib.hid ((Ext.drew (ext_a1 w2 (.cells #[.string ⟨t.toArray⟩, .int .i64 0, .int .i64 0] 103))).trans hw3); have S3 := Lib.hid (S2.out.ext HW3.out); have c31 : w3.cell? ⟨g, 1, none⟩ = some (.slice none 0 0) := S3.out.cell 1; have z31 := S3.out.free 1; clear hrow3 hw3)
  all_goals
    have hqb : w2.heap.size + 1 ≤ q := by have h := (row_lt HR3.out q rfl).1; rwa [show ((w2.alloc (.cells #[.string ⟨t.toArray⟩, .int .i64 0, .int .i64 0] 103)).drew).heap.size = w2.heap.size + 1 from World.size_alloc _ _] at h
    have hgq : g ≠ q := by omega
    have hqg : q ≠ g := by omega
    have hq3 : q < w3.heap.size := (row_lt HR3.out q rfl).2
    have r1 : w3.cell? ⟨q, 1, none⟩ = some (.int .i64 0) := (World.ownsRow.cellAt HR3.out 1 (by decide))
    have r2 : w3.cell? ⟨q, 2, none⟩ = some (.int .i64 0) := (World.ownsRow.cellAt HR3.out 2 (by decide))
    have f1 := World.ownsRow.frozenAt HR3.out 1
    have f2 := World.ownsRow.frozenAt HR3.out 2
    have c30 : w3.cell? ⟨g, 0, none⟩ = some (.int .i64 0) := S3.out.cell 0
    have z30 := S3.out.free 0
    have d1 : w3.cell? ⟨w.heap.size, 1, none⟩ = some (.string ⟨d.toArray⟩) := (V2.out.ext HW3.out).cell 1
    have hwq : w.heap.size ≠ q := by omega
    have hwg : w.heap.size ≠ g := by omega
    go_wp2_with fail
    go_region
    all_goals
      go_wp2_with fail
      go_ret
      have hsb : w.heap.size ≤ ((w2.alloc (.cells #[.string ⟨t.toArray⟩, .int .i64 0, .int .i64 0] 103)).drew).heap.size := by
        rw [show ((w2.alloc (.cells #[.string ⟨t.toArray⟩, .int .i64 0, .int .i64 0] 103)).drew).heap.size = w2.heap.size + 1 from World.size_alloc _ _]; omega
      have hne : (Value.slice (some ⟨q, 0, none⟩) 1 c).ownBlock ≠ some g := by rintro ⟨⟩; exact hgq rfl
      refine ⟨rfl, ⟨q, c, ?_, ?_⟩, ?_⟩
      · refine Blk.drew ?_
        refine (Blk.same ?_ (Below.heap_setCell _ _ _ _ hgq))
        refine (Blk.same ?_ (Below.heap_setCell _ _ _ _ hgq))
        exact (S3.out.set 1 (.slice (some ⟨q, 0, none⟩) 1 c)).set 0 (.int .i64 1)
      · have h0 := row_setOther (row_setOther (row_base HR3.out hsb) (a := ⟨g, 1, none⟩) (.slice (some ⟨q, 0, none⟩) 1 c) hne) (a := ⟨g, 0, none⟩) (.int .i64 1) hne
        have h1 := (World.ownsRow.stored (World.ownsRow.stored h0 1 (.int .i64 1)).1 2 (.int .i64 d.length)).1
        exact row_drew h1
      · exact Off.drew (Off.setNew (Off.setNew (((Off.of_ext ((HE1.out.trans HW2.out).trans HW3.out)).trans (Off.set w3 1 _)).trans (Off.set _ 0 _)) (by omega) 1 _) (by omega) 2 _)

end Go.Proofs.Ytkkafjknogfdnaa
