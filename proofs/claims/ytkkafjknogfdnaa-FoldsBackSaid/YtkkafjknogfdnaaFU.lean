/- Walks: an event of another version. -/
import Derived.Test.YtkkafjknogfdnaaChecked
import Derived.Test.YtkkafjknogfdnaaFR
import Derived.Laws.ResultCell
import Derived.WalkSpells
namespace Go.Proofs.Ytkkafjknogfdnaa
open Go.RowKit

attribute [local go_sem] run_store_float

set_option maxRecDepth 100000 in
set_option maxHeartbeats 6400000 in
theorem fold1_c (s t d : List UInt8) (v : Int) (b : Nat) (a : Nat) (w : World) (h : Blk w a 72 (toldC s t d v .f64 b)) (_ht : t.length ≤ 1000000) (_hd : (d.length : Int) ≤ 1000000) (hok : echeckN t d = 0) (hv : (v == 0) = false) :
    Calls Try.prog 47 #[.agg #[.int .i64 0, .slice none 0 0], .slice (some ⟨a, 0, none⟩) 1 1] w fun e w' => e = .returned (.tuple #[.agg #[.int .i64 0, .slice none 0 0], .int .i64 80]) ∧ Ext w w' := by
  have HE1 := Lib.hid (ext_a2 w (.cells #[.int .i64 0, .slice none 0 0] 55) (.cells #[.int .i64 0, .slice none 0 0] 55))
  have H1 := Lib.hid (h.ext HE1.out)
  have B0 := Lib.hid ((Blk.new w 55 #[.int .i64 0, .slice none 0 0]).ext (ext_a1 _ (.cells #[.int .i64 0, .slice none 0 0] 55)))
  have b1 := Blk.new (w.alloc (.cells #[.int .i64 0, .slice none 0 0] 55)) 55 #[.int .i64 0, .slice none 0 0]
  simp only [World.size_alloc] at b1
  have B1 := Lib.hid b1
  have HOk := Lib.hid hok
  have ha := h.lt
  clear h hok b1
  unfold toldC at H1
  go_enter Try.func47, Try.ntmps47
  go_wp2_with fail
  refine (fcheck_c 0 none 0 0 [] _ (Kds.empty _)).mono ?_
  rw [check0]
  rintro e w2 ⟨rfl, hw2⟩
  have HW2 := Lib.hid hw2
  have S0 := Lib.hid (B0.out.ext hw2); have S1 := Lib.hid (B1.out.ext hw2); have V2 := Lib.hid (H1.out.ext hw2)
  have a0 : w2.cell? ⟨w.heap.size, 0, none⟩ = some (.int .i64 0) := S0.out.cell 0
  have a1 : w2.cell? ⟨w.heap.size, 1, none⟩ = some (.slice none 0 0) := S0.out.cell 1
  have hsz : w.heap.size + 1 < w2.heap.size := S1.out.lt
  have hlw : w.heap.size < w2.heap.size := by omega
  have hnw : w.heap.size ≠ w2.heap.size := by omega
  clear hw2
  go_wp2_with fail
  go_region_law (go_simp; go_at_call 74; refine (clone0_c _).mono ?_; rintro e w3 ⟨rfl, hw3⟩; first | (have HAF := Lib.hid (((Blk.new w2 55 #[.int .i64 0, .slice none 0 0]).drew).ext hw3); have HW3 := Lib.hid (Ext.trans (Ext.drew (ext_a1 w2 (.cells #[.int .i64 0, .slice none 0 0] 55))) hw3); have T0 := Lib.hid (S0.out.ext HW3.out); have b0 : w3.cell? ⟨w.heap.size, 0, none⟩ = some (.int .i64 0) := T0.out.cell 0; have b1 : w3.cell? ⟨w.heap.size, 1, none⟩ = some (.slice none 0 0) := T0.out.cell 1; have q0 : w3.cell? ⟨w2.heap.size, 0, none⟩ = some (.int .i64 0) := HAF.out.cell 0; have q1 : w3.cell? ⟨w2.heap.size, 1, none⟩ = some (.slice none 0 0) := HAF.out.cell 1; have q2 := HAF.out.free 0; have q3 := HAF.out.free 1; clear hw3) | (have HW3 := Lib.hid (Ext.trans (Ext.drew (Ext.refl w2)) hw3); have T0 := Lib.hid (S0.out.ext HW3.out); have b0 : w3.cell? ⟨w.heap.size, 0, none⟩ = some (.int .i64 0) := T0.out.cell 0; have b1 : w3.cell? ⟨w.heap.size, 1, none⟩ = some (.slice none 0 0) := T0.out.cell 1; have hl3 : w.heap.size < w3.heap.size := T0.out.lt; have hn3 : w.heap.size ≠ w3.heap.size := Nat.ne_of_lt hl3; clear hw3))
  all_goals
    first
    | (have hb : Blk ((w3.setCell ⟨w2.heap.size, 0, none⟩ (.int .i64 0)).setCell ⟨w2.heap.size, 1, none⟩ (.slice none 0 0)) w2.heap.size 55 #[.int .i64 0, .slice none 0 0] := (HAF.out.set 0 (.int .i64 0)).set 1 (.slice none 0 0)
       have hx : Ext w2 ((w3.setCell ⟨w2.heap.size, 0, none⟩ (.int .i64 0)).setCell ⟨w2.heap.size, 1, none⟩ (.slice none 0 0)) := Below.setCell (Below.setCell HW3.out (p := ⟨w2.heap.size, 0, none⟩) (Nat.le_refl _) _) (p := ⟨w2.heap.size, 1, none⟩) (Nat.le_refl _) _
       generalize hWX : ((w3.setCell ⟨w2.heap.size, 0, none⟩ (.int .i64 0)).setCell ⟨w2.heap.size, 1, none⟩ (.slice none 0 0)) = WX at hb hx ⊢
       generalize hGG : (w2.heap.size : Nat) = G at hb ⊢
       have hle := Nat.le_of_eq hGG
       clear HAF q0 q1 q2 q3 hWX hGG)
    | (have hb := Blk.new w3 55 #[.int .i64 0, .slice none 0 0]
       have hx : Ext w2 (w3.alloc (.cells #[.int .i64 0, .slice none 0 0] 55)) := HW3.out.trans (ext_a1 _ _)
       have hle : w2.heap.size ≤ w3.heap.size := HW3.out.size
       generalize hWX : (w3.alloc (.cells #[.int .i64 0, .slice none 0 0] 55)) = WX at hb hx ⊢
       generalize hGG : (w3.heap.size : Nat) = G at hb hle ⊢
       clear hWX hGG)
    have HB := Lib.hid hb; have HX := Lib.hid hx
    have hglt : G < WX.heap.size := hb.lt
    clear hb hx b0 b1 T0 HW3
    have V3 := Lib.hid (V2.out.ext HX.out); have R3 := Lib.hid (S1.out.ext HX.out)
    have v0 : WX.cell? ⟨a, 0, none⟩ = some (.string ⟨s.toArray⟩) := V3.out.cell 0
    have v1 : WX.cell? ⟨a, 1, none⟩ = some (.int .i64 v) := V3.out.cell 1
    have v2 : WX.cell? ⟨a, 2, none⟩ = some (.string ⟨t.toArray⟩) := V3.out.cell 2
    have v3 : WX.cell? ⟨a, 3, none⟩ = some (.string ⟨d.toArray⟩) := V3.out.cell 3
    have v4 : WX.cell? ⟨a, 4, none⟩ = some (.float .f64 b) := V3.out.cell 4
    go_wp2_with fail
    refine wp_loop_rounds 2 ?_
    rw [rounds_succ]
    go_wp2_with fail
    refine (step1_c s t d v .f64 b G _ (HB.out.ext (ext_a1 _ _)) _ht _hd HOk.out hv).mono ?_
    rintro e w5 ⟨rfl, hw5⟩
    have HRB := Lib.hid ((R3.out.ext (ext_a1 WX (.cells (toldC s t d v .f64 b) 72))).ext hw5)
    have HX5 : Hid (Ext w w5) := Lib.hid ((HE1.out.trans (HW2.out.trans (HX.out.trans (ext_a1 WX (.cells (toldC s t d v .f64 b) 72))))).trans hw5)
    have r0 : w5.cell? ⟨w.heap.size + 1, 0, none⟩ = some (.int .i64 0) := HRB.out.cell 0
    have r1 : w5.cell? ⟨w.heap.size + 1, 1, none⟩ = some (.slice none 0 0) := HRB.out.cell 1
    have f0 := HRB.out.free 0; have f1 := HRB.out.free 1
    clear hw5 v0 v1 v2 v3 v4
    go_wp2_with fail
    ((try simp only [Exit.inBlock, Exit.then]); refine bodyPost_ret (v := .tuple #[.agg #[_, _], _]) (by rw [results_cell_tmp rfl]; go_simp; exact ⟨⟨rfl, rfl⟩, rfl⟩) rfl ?_)
    exact ⟨rfl, ext_set2 HX5.out _ (by omega) _ _⟩

end Go.Proofs.Ytkkafjknogfdnaa
