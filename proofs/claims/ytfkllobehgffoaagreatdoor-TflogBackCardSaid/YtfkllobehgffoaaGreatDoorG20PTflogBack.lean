/- Walks: where a log ends, whether it is ready, what room there is. -/
import Derived.Test.YtfkllobehgffoaaGreatDoorG17PTflogBack
import Derived.Test.YtfkllobehgffoaaGreatDoorG19PTflogBack
set_option linter.unusedVariables false
set_option linter.unusedSimpArgs false
namespace Go.Proofs.YtfkllobehgffoaaGreatDoor
open Go.RowKit

set_option maxRecDepth 100000
set_option linter.unusedVariables false
set_option maxHeartbeats 1600000

theorem same_ext {f : FuncId} {args : Array Value} {w : World} {v : Value} (h : Calls Tryz.prog f args w fun e w' => e = .returned v ∧ w = w') : Calls Tryz.prog f args w fun e w' => e = .returned v ∧ Ext w w' :=
  h.mono fun _ w' ⟨e, h⟩ => ⟨e, h ▸ Ext.refl _⟩

theorem end_nil (w : World) : Calls Tryz.prog 11 #[.pointer none] w fun e w' => e = .returned (.int .i64 0) ∧ w = w' := by
  go_enter Tryz.func11, Tryz.ntmps11
  go_wp2_with fail
  go_ret
  exact ⟨rfl, rfl⟩
theorem sure_nil (w : World) : Calls Tryz.prog 12 #[.pointer none] w fun e w' => e = .returned (.int .i64 0) ∧ w = w' := by
  go_enter Tryz.func12, Tryz.ntmps12
  go_wp2_with fail
  go_ret
  exact ⟨rfl, rfl⟩
theorem sure_c {w : World} {gl : Nat} {sure : Int} (c4 : w.cell? ⟨gl, 4, none⟩ = some (.int .i64 sure)) : Calls Tryz.prog 12 #[.pointer (some ⟨gl, 0, none⟩)] w fun e w' => e = .returned (.int .i64 sure) ∧ w = w' := by
  go_enter Tryz.func12, Tryz.ntmps12
  go_wp2_with fail
  go_ret
  exact ⟨rfl, rfl⟩

theorem end_c {w : World} {gl g : Nat} {s sure : Int} {v : Value} {C : Cks} (h : LogM w gl g s v (sizesL C) sure) (hC : okC C) :
    Calls Tryz.prog 11 #[.pointer (some ⟨gl, 0, none⟩)] w fun e w' => e = .returned (.int .i64 (endL C)) ∧ w = w' := by
  obtain ⟨a, k, rfl, hx⟩ := h.slice
  have c3 := h.c3
  clear h
  rcases List.eq_nil_or_concat C with rfl | ⟨D, ps, rfl⟩
  · clear hx
    go_enter Tryz.func11, Tryz.ntmps11
    have e0 : (sizesL []).length = 0 := rfl
    go_wp2_with fail
    go_ret
    exact ⟨rfl, rfl⟩
  rw [List.concat_eq_append] at *
  have hn : (sizesL (D ++ [ps])).length = D.length + 1 := by simp [sizesL]
  have h200 : D.length + 1 ≤ 200 := by have := hC.few; simpa using this
  have hs : sizeC ps ≤ 4096 := hC.size ps (by simp)
  obtain ⟨b, off, rfl, hc⟩ := hx.at (j := D.length) (by omega)
  have hv : (sizesL (D ++ [ps])).getD D.length 0 = (sizeC ps : Int) := sizesL_last D ps
  rw [hv] at hc
  rw [hn] at c3 hx
  rw [endL_snoc]
  clear hx hC hn hv
  generalize D.length = n at *
  obtain ⟨z, hz⟩ : ∃ z : Int, (sizeC ps : Int) = z := ⟨_, rfl⟩
  have z0 : 0 ≤ z := by omega
  have z1 : z ≤ 4096 := by omega
  rw [hz] at hc ⊢
  clear hz hs
  go_enter Tryz.func11, Tryz.ntmps11
  go_wp2_with fail
  go_ret
  exact ⟨rn (by go_num), rfl⟩

section
variable {w0 w : World} {g gl : Nat} {F K : Nat → Prop} {v : Value} {σ : DM} {c s sure : Int} {xs : List Int} {C : Cks}

theorem room_c (h : LgF w0 w g gl F v σ s xs sure K) (hf : freeM σ = c) (h0 : 0 ≤ c) (h1 : c ≤ 1048576) (n : Int) (n0 : 0 ≤ n) (n1 : n ≤ 1048576) :
    Calls Tryz.prog 44 #[.pointer (some ⟨gl, 0, none⟩), .int .i64 n] w fun e w' => e = .returned (.bool (decide (6000 ≤ c - n))) ∧ Ext w w' := by
  have c0 := h.l.c0
  have HF := Lib.hid (free_c h.d)
  rw [hf] at HF
  clear h hf
  go_enter Tryz.func44, Tryz.ntmps44
  go_wp2_with fail
  refine HF.out.mono ?_
  rintro e w1 ⟨rfl, hb⟩
  have HB := Lib.hid hb; clear hb
  go_wp2_with fail
  go_ret
  exact ⟨rfl, HB.out⟩

theorem ready_c (h : LgF w0 w g gl F v σ s xs sure K) (hup : σ.down = false) (hs : σ.starts = s) :
    Calls Tryz.prog 19 #[.pointer (some ⟨gl, 0, none⟩)] w fun e w' => e = .returned (.int .i64 0) ∧ Ext w w' := by
  have c0 := h.l.c0; have c1 := h.l.c1; have c2 := h.l.c2
  have u0 := cell_of c0; have u1 := cell_of c1; have u2 := cell_of c2
  have HU := Lib.hid (fun x : ExtOf w => same_ext (up_c (h.d.ext x.h)))
  have HS := Lib.hid (fun x : ExtOf w => same_ext (starts_c (h.d.ext x.h)))
  rw [hup] at HU
  rw [hs] at HS
  clear h hup hs
  go_enter Tryz.func19, Tryz.ntmps19
  go_wp2_with fail
  refine wp_region_ext (by kernel_rfl) (by kernel_rfl) ?_
  repeat (go_big_quiet_step (first | (go_at_call 34; exact Calls.quiet_ext (HU.out _)) | (go_at_call 38; exact Calls.quiet_ext (HS.out _))))
  refine wpQuiet_nil ?_
  intro w1 hw1
  have HB := Lib.hid hw1; clear hw1
  go_wp2_with fail
  go_ret
  exact ⟨rfl, HB.out⟩

theorem note_c (h : LgF w0 w g gl F v σ s xs sure K) :
    Calls Tryz.prog 26 #[.pointer (some ⟨gl, 0, none⟩), .int .i64 0] w fun e w' => e = .returned (.int .i64 0) ∧ LgF w0 w' g gl F v σ s xs sure K ∧ Stay K w w' := by
  have c2 := h.l.c2
  have z2 := h.l.blk.free 2
  have H := Lib.hid h
  have HN : Hid (LgF w0 (w.setCell ⟨gl, 2, none⟩ (.bool false)) g gl F v σ s xs sure K ∧ Stay K w (w.setCell ⟨gl, 2, none⟩ (.bool false))) := Lib.hid (by
    refine h.log ⟨h.l.blk.set 2 (.bool false), row_setOther h.l.row _ h.l.apart⟩ (OffS.set w (.inl rfl) 2 _) fun i hi => .inl hi)
  clear h
  go_enter Tryz.func26, Tryz.ntmps26
  go_wp2_with fail
  go_ret
  exact ⟨rfl, HN.out⟩
end

end Go.Proofs.YtfkllobehgffoaaGreatDoor
