/- Walks: one step, and the chapter's states. -/
import Derived.Test.YtkkafjknogfdnaaChecked
import Derived.Test.YtkkafjknogfdnaaFU
import Derived.Laws.ResultCell
import Derived.WalkSpells
namespace Go.Proofs.Ytkkafjknogfdnaa
open Go.RowKit
attribute [local go_sem] run_store_float

set_option maxRecDepth 100000 in
set_option maxHeartbeats 1600000 in
theorem fstep0_c (s t d : List UInt8) (b : Nat) (w : World) (_ht : t.length ≤ 1000000) (_hd : (d.length : Int) ≤ 1000000) (hok : echeckN t d = 0) :
    Calls Try.prog 44 #[.agg #[.int .i64 0, .slice none 0 0], toldV s t d 0 .f64 b] w fun e w' => ∃ q c, e = .returned (.tuple #[.agg #[.int .i64 1, .slice (some ⟨q, 0, none⟩) 1 c], .int .i64 0]) ∧ w'.ownsRow w.heap.size 103 3 (.slice (some ⟨q, 0, none⟩) 1 c) 1 (kc ⟨t, 1, d.length⟩) ∧ Ext w w' := by
  have HOk := Lib.hid hok; clear hok
  have r0 := (Blk.new ((w.alloc (.cells #[.int .i64 0, .slice none 0 0] 55)).alloc (.cells (toldC s t d 0 .f64 b) 72)) 55 #[.int .i64 0, .slice none 0 0]).ext (ext_a1 _ (.cells (toldC s t d 0 .f64 b) 72))
  have l0 := Blk.new (((w.alloc (.cells #[.int .i64 0, .slice none 0 0] 55)).alloc (.cells (toldC s t d 0 .f64 b) 72)).alloc (.cells #[.int .i64 0, .slice none 0 0] 55)) 72 (toldC s t d 0 .f64 b)
  have HE := Lib.hid ((ext_a2 w (.cells #[.int .i64 0, .slice none 0 0] 55) (.cells (toldC s t d 0 .f64 b) 72)).trans (ext_a2 _ (.cells #[.int .i64 0, .slice none 0 0] 55) (.cells (toldC s t d 0 .f64 b) 72)))
  simp only [World.size_alloc] at r0 l0
  have R0 := Lib.hid r0; have L0 := Lib.hid l0
  clear r0 l0
  unfold toldV
  go_enter Try.func44, Try.ntmps44
  go_wp2_with fail
  refine (fold0_c s t d b _ _ L0.out _ht _hd HOk.out).mono ?_
  rintro e w5 ⟨q, c, rfl, hrow, hw5⟩
  have HR := Lib.hid hrow
  have RB := Lib.hid (R0.out.ext hw5)
  have HX := Lib.hid (HE.out.trans hw5)
  have hqb : q ≠ w.heap.size + 1 + 1 := fun h => by
    have h3 := Nat.lt_of_lt_of_le R0.out.lt (row_lt hrow q rfl).1
    omega
  have r0 : w5.cell? ⟨w.heap.size + 1 + 1, 0, none⟩ = some (.int .i64 0) := RB.out.cell 0
  have r1 : w5.cell? ⟨w.heap.size + 1 + 1, 1, none⟩ = some (.slice none 0 0) := RB.out.cell 1
  have f0 := RB.out.free 0; have f1 := RB.out.free 1
  clear hrow hw5
  go_wp2_with fail
  ((try simp only [Exit.inBlock, Exit.then]); refine bodyPost_ret (v := .tuple #[.agg #[_, _], _]) (by rw [results_cell_tmp rfl]; go_simp; exact ⟨⟨rfl, rfl⟩, rfl⟩) rfl ?_)
  have hne : (Value.slice (some ⟨q, 0, none⟩) 1 c).ownBlock ≠ some (w.heap.size + 1 + 1) := by rintro h; exact hqb (Option.some.inj h)
  exact ⟨q, c, rfl, row_setOther (row_setOther (row_base HR.out HE.out.size) _ hne) _ hne, ext_set2 HX.out _ (by omega) _ _⟩

set_option maxRecDepth 100000 in
set_option maxHeartbeats 1600000 in
theorem fstep1_c (s t d : List UInt8) (v : Int) (b : Nat) (w : World) (_ht : t.length ≤ 1000000) (_hd : (d.length : Int) ≤ 1000000) (hok : echeckN t d = 0) (hv : (v == 0) = false) :
    Calls Try.prog 44 #[.agg #[.int .i64 0, .slice none 0 0], toldV s t d v .f64 b] w fun e w' => e = .returned (.tuple #[.agg #[.int .i64 0, .slice none 0 0], .int .i64 80]) ∧ Ext w w' := by
  have HOk := Lib.hid hok; clear hok
  have r0 := (Blk.new ((w.alloc (.cells #[.int .i64 0, .slice none 0 0] 55)).alloc (.cells (toldC s t d v .f64 b) 72)) 55 #[.int .i64 0, .slice none 0 0]).ext (ext_a1 _ (.cells (toldC s t d v .f64 b) 72))
  have l0 := Blk.new (((w.alloc (.cells #[.int .i64 0, .slice none 0 0] 55)).alloc (.cells (toldC s t d v .f64 b) 72)).alloc (.cells #[.int .i64 0, .slice none 0 0] 55)) 72 (toldC s t d v .f64 b)
  have HE := Lib.hid ((ext_a2 w (.cells #[.int .i64 0, .slice none 0 0] 55) (.cells (toldC s t d v .f64 b) 72)).trans (ext_a2 _ (.cells #[.int .i64 0, .slice none 0 0] 55) (.cells (toldC s t d v .f64 b) 72)))
  simp only [World.size_alloc] at r0 l0
  have R0 := Lib.hid r0; have L0 := Lib.hid l0
  clear r0 l0
  unfold toldV
  go_enter Try.func44, Try.ntmps44
  go_wp2_with fail
  refine (fold1_c s t d v b _ _ L0.out _ht _hd HOk.out hv).mono ?_
  rintro e w5 ⟨rfl, hw5⟩
  have RB := Lib.hid (R0.out.ext hw5)
  have HX := Lib.hid (HE.out.trans hw5)
  have r0 : w5.cell? ⟨w.heap.size + 1 + 1, 0, none⟩ = some (.int .i64 0) := RB.out.cell 0
  have r1 : w5.cell? ⟨w.heap.size + 1 + 1, 1, none⟩ = some (.slice none 0 0) := RB.out.cell 1
  have f0 := RB.out.free 0; have f1 := RB.out.free 1
  clear hw5
  go_wp2_with fail
  ((try simp only [Exit.inBlock, Exit.then]); refine bodyPost_ret (v := .tuple #[.agg #[_, _], _]) (by rw [results_cell_tmp rfl]; go_simp; exact ⟨⟨rfl, rfl⟩, rfl⟩) rfl ?_)
  exact ⟨rfl, ext_set2 HX.out _ (by omega) _ _⟩

theorem echeck1 : echeckN [97] [120, 121] = 0 := by decide
theorem fput0 : ∃ P : List UInt8, fputS 0 [] = (P, 0) ∧ 7 ≤ P.length := ⟨_, fputS_yes check0, by rw [sealS_length]; decide⟩

set_option maxRecDepth 100000 in
set_option maxHeartbeats 6400000 in
theorem folded_c (w : World) : Calls Try.prog 37 #[] w fun e w' => e = .returned (.bool true) ∧ Ext w w' := by
  obtain ⟨P, hP, hPl⟩ := fput0
  have HP := Lib.hid hP; clear hP
  have hPl' : (6 : Int) < (P.length : Int) := by omega
  have t1 := Blk.new w 72 (toldC [115] [97] [120, 121] 0 .f64 0)
  have T1 := Lib.hid t1
  have HE1 := Lib.hid (ext_a1 w (.cells (toldC [115] [97] [120, 121] 0 .f64 0) 72))
  clear t1
  go_enter Try.func37, Try.ntmps37
  go_wp2_with fail
  refine (fstep0_c [115] [97] [120, 121] 0 _ (by decide) (by decide) echeck1).mono ?_
  rintro e w2 ⟨q, c, rfl, hrow, hw2⟩
  have T2 := Lib.hid (T1.out.ext hw2)
  have E2 := Lib.hid (HE1.out.trans hw2)
  have hl2 : w.heap.size < w2.heap.size := T2.out.lt
  have hn2 : w.heap.size ≠ w2.heap.size := Nat.ne_of_lt hl2
  have hq1 : w.heap.size + 1 ≤ q := by have h := (row_lt hrow q rfl).1; rwa [World.size_alloc] at h
  have hqw : q ≠ w.heap.size := by omega
  have hq2 : q < w2.heap.size := (row_lt hrow q rfl).2
  have t0 : w2.cell? ⟨w.heap.size, 0, none⟩ = some (.string ⟨#[115]⟩) := T2.out.cell 0
  have t1 : w2.cell? ⟨w.heap.size, 1, none⟩ = some (.int .i64 0) := T2.out.cell 1
  have t2 : w2.cell? ⟨w.heap.size, 2, none⟩ = some (.string ⟨#[97]⟩) := T2.out.cell 2
  have t3 : w2.cell? ⟨w.heap.size, 3, none⟩ = some (.string ⟨#[120, 121]⟩) := T2.out.cell 3
  have t4 : w2.cell? ⟨w.heap.size, 4, none⟩ = some (.float .f64 0) := T2.out.cell 4
  have y1 := T2.out.free 1
  have hne : (Value.slice (some ⟨q, 0, none⟩) 1 c).ownBlock ≠ some w.heap.size := by rintro h; exact hqw (Option.some.inj h)
  have HR2 := Lib.hid (row_ext (row_setOther (a := ⟨w.heap.size, 1, none⟩) hrow (.int .i64 1) hne) (ext_a1 _ (.cells #[.int .i64 1, .slice (some ⟨q, 0, none⟩) 1 c] 55)))
  have sb := Blk.new (w2.setCell ⟨w.heap.size, 1, none⟩ (.int .i64 1)) 55 #[.int .i64 1, .slice (some ⟨q, 0, none⟩) 1 c]
  have hsz : (w2.setCell ⟨w.heap.size, 1, none⟩ (.int .i64 1)).heap.size = w2.heap.size := by simp [World.setCell]
  rw [hsz] at sb
  have SB2 := Lib.hid sb
  have E3 := Lib.hid (Ext.trans (Below.setCell E2.out (p := ⟨w.heap.size, 1, none⟩) (Nat.le_refl _) (.int .i64 1)) (ext_a1 _ (.cells #[.int .i64 1, .slice (some ⟨q, 0, none⟩) 1 c] 55)))
  clear hsz sb
  clear hrow hw2 hne
  go_wp2_with fail
  refine (fstep1_c [115] [97] [120, 121] 1 0 _ (by decide) (by decide) echeck1 (by decide)).mono ?_
  rintro e w3 ⟨rfl, hw3⟩
  have HR3 := Lib.hid (row_ext HR2.out (hw3.trans (ext_a1 w3 (.cells #[.int .i64 0, .slice none 0 0] 55))))
  have SB3 := Lib.hid (SB2.out.ext (hw3.trans (ext_a1 w3 (.cells #[.int .i64 0, .slice none 0 0] 55))))
  have E4 := Lib.hid (Ext.trans E3.out (hw3.trans (ext_a1 w3 (.cells #[.int .i64 0, .slice none 0 0] 55))))
  clear hw3 t0 t1 t2 t3 t4 y1
  go_wp2_with fail
  refine (fput_c 0 none 0 0 [] _ (Kds.empty _)).mono ?_
  rw [HP.out]
  rintro e w4 ⟨rfl, hw4⟩
  have HR4 := Lib.hid (row_ext HR3.out hw4)
  have SB4 := Lib.hid (SB3.out.ext hw4)
  have E5 := Lib.hid (Ext.trans E4.out hw4)
  have s0 : w4.cell? ⟨w2.heap.size, 0, none⟩ = some (.int .i64 1) := SB4.out.cell 0
  have s1 : w4.cell? ⟨w2.heap.size, 1, none⟩ = some (.slice (some ⟨q, 0, none⟩) 1 c) := SB4.out.cell 1
  have k0 : w4.cell? ⟨q, 0, none⟩ = some (.string ⟨#[97]⟩) := World.ownsRow.cellAt HR4.out 0 (by decide)
  have k1 : w4.cell? ⟨q, 1, none⟩ = some (.int .i64 1) := World.ownsRow.cellAt HR4.out 1 (by decide)
  have k2 : w4.cell? ⟨q, 2, none⟩ = some (.int .i64 2) := World.ownsRow.cellAt HR4.out 2 (by decide)
  clear hw4
  go_wp2_with fail
  go_ret
  exact ⟨rfl, E5.out⟩

end Go.Proofs.Ytkkafjknogfdnaa
