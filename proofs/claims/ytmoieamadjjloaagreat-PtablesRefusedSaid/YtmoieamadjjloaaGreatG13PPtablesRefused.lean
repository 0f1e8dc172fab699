/- Walks: the bytes of an entry, and the entry of bytes. -/
import Derived.Test.YtmoieamadjjloaaGreatG11PPtablesRefused
import Derived.Test.YtmoieamadjjloaaGreatG9PPtablesRefused
import Derived.Test.YtmoieamadjjloaaGreatG12PPtablesRefused
import Derived.Deep.RegionLaw
set_option linter.unusedVariables false
set_option linter.unusedSimpArgs false
namespace Go.Proofs.YtmoieamadjjloaaGreat
open Go.RowKit

set_option maxRecDepth 100000
set_option linter.unusedVariables false
set_option maxHeartbeats 3200000

theorem putent_c (e : En) (w : World) (h : okEn e = true) : Calls Tryz.prog 66 #[enV e] w fun r w' => r = .returned (.string ⟨(entB e).toArray⟩) ∧ Ext w w' := by
  obtain ⟨a0, a1, b0, b1, c0, c1⟩ := okEn_iff.1 h
  obtain ⟨x, y, z⟩ := e
  simp only at a0 a1 b0 b1 c0 c1
  have hE : entB (x, y, z) = be 8 x.toNat ++ (be 8 y.toNat ++ be 8 z.toNat) := rfl
  have HE := Lib.hid hE
  have l1 := be_length 8 x.toNat; have l2 := be_length 8 y.toNat; have l3 := be_length 8 z.toNat
  have P1 := Lib.hid (fun W => put_c x 8 W (by omega) (by omega) a0 a1)
  have P2 := Lib.hid (fun W => put_c y 8 W (by omega) (by omega) b0 (by omega))
  have P3 := Lib.hid (fun W => put_c z 8 W (by omega) (by omega) c0 (by omega))
  generalize entB (x, y, z) = EE at *
  generalize be 8 x.toNat = X at *
  generalize be 8 y.toNat = Y at *
  generalize be 8 z.toNat = Z at *
  have hw2 : IntKind.u64.wrap y = y := by rw [IntKind.wrap_u64]; omega
  have hw3 : IntKind.u64.wrap z = z := by rw [IntKind.wrap_u64]; omega
  have hbk := Blk.new w 44 #[.int .u64 x, .int .i64 y, .int .i64 z]
  have e0 : (w.alloc (.cells #[.int .u64 x, .int .i64 y, .int .i64 z] 44)).cell? ⟨w.heap.size, 0, none⟩ = some (.int .u64 x) := hbk.cell 0
  have e1 : (w.alloc (.cells #[.int .u64 x, .int .i64 y, .int .i64 z] 44)).cell? ⟨w.heap.size, 1, none⟩ = some (.int .i64 y) := hbk.cell 1
  have e2 : (w.alloc (.cells #[.int .u64 x, .int .i64 y, .int .i64 z] 44)).cell? ⟨w.heap.size, 2, none⟩ = some (.int .i64 z) := hbk.cell 2
  have u0 := cell_of e0; have u1 := cell_of e1; have u2 := cell_of e2
  have q1 : ¬ (9223372036854775807 < X.length + Y.length) := by omega
  have q2 : ¬ (9223372036854775807 < (X ++ Y).length + Z.length) := by rw [List.length_append]; omega
  have q3 : ¬ (9223372036854775807 < X.length + Y.length + Z.length) := by omega
  have HX := Lib.hid (ext_a1 w (.cells #[.int .u64 x, .int .i64 y, .int .i64 z] 44))
  clear hbk hE e0 e1 e2 h
  show Calls Tryz.prog 66 #[.agg #[.int .u64 x, .int .i64 y, .int .i64 z]] w _
  go_enter Tryz.func66, Tryz.ntmps66
  go_wp2_with fail
  refine wp_region_ext (by kernel_rfl) (by kernel_rfl) ?_
  repeat (go_big_quiet_step (fail))
  go_big_quiet_step (exact Calls.quiet_ext (P1.out _))
  repeat (go_big_quiet_step (fail))
  go_big_quiet_step (exact Calls.quiet_ext (P2.out _))
  repeat (go_big_quiet_step (fail))
  go_big_quiet_step (exact Calls.quiet_ext (P3.out _))
  repeat (go_big_quiet_step (fail))
  refine wpQuiet_nil ?_
  intro w2 hw
  have HB2 := Lib.hid (HX.out.trans hw)
  clear hw
  go_wp2_with fail
  go_ret
  exact ⟨by rw [HE.out, cat_mk, cat_mk]; simp, HB2.out⟩

end Go.Proofs.YtmoieamadjjloaaGreat
