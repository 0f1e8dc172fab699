/- Walks: the sum of a text. -/
import Derived.Test.YtoibjhoebjcfeaaChecked
import Derived.Test.YtoibjhoebjcfeaaNA
import Derived.Test.YtoibjhoebjcfeaaCS
namespace Go.Proofs.Ytoibjhoebjcfeaa
open Go.RowKit

set_option maxRecDepth 100000 in
set_option maxHeartbeats 1600000 in
theorem step_c (s : BitVec 32) (c : UInt8) (S C : Int) (w : World) (hS : S = (s.toNat : Int)) (hC : C = (c.toNat : Int)) :
    Calls Try.prog 124 #[.int .u32 S, .int .u8 C] w fun e w' => e = .returned (.int .u32 ((crcStep s c).toNat : Int)) ∧ Ext w w' := by
  have hx := bits_xor_bv s (BitVec.ofNat 32 c.toNat)
  rw [byte_bv, ← hS, ← hC] at hx
  have HX := Lib.hid hx
  have b1 : 0 ≤ S := by omega
  have b2 : S < 4294967296 := by have := s.isLt; omega
  have b3 : 0 ≤ C := by omega
  have b4 : C < 256 := by have := c.toNat_lt; omega
  clear hS hC hx
  go_enter Try.func124, Try.ntmps124
  go_wp2_with fail
  go_loopw [0, 9] (fun v i w' => ∃ (k : Nat) (V : Int), k ≤ 8 ∧ i = .int .i64 k ∧ v = .int .u32 V ∧ V = ((crcIter k (s ^^^ BitVec.ofNat 32 c.toNat)).toNat : Int) ∧ Ext w w') (fun _ i _ => 8 - (intOf i).toNat)
  case atStart => exact ⟨0, _, Nat.zero_le _, rfl, rfl, HX.out, Ext.refl _⟩
  case round =>
    obtain ⟨k, V, hk, rfl, rfl, hv, hb⟩ := hrel
    have HV := Lib.hid hv; have Hb := Lib.hid hb
    have v1 : 0 ≤ V := by omega
    have v2 : V < 4294967296 := by have := (crcIter k (s ^^^ BitVec.ofNat 32 c.toNat)).isLt; omega
    clear hv hb
    by_cases hlt : k < 8
    · have hst := step_bv (crcIter k (s ^^^ BitVec.ofNat 32 c.toNat))
      rw [← HV.out] at hst
      have HST := Lib.hid hst; clear hst
      go_wp2_with fail
      go_roundw
      case rel => exact ⟨k + 1, _, by omega, by go_num, rfl, HST.out, Hb.out⟩
      case measure => simp [intOf]; omega
    · have hk8 : k = 8 := by omega
      have HK := Lib.hid hk8; clear hk8
      go_wp2_with fail
      go_ret
      exact ⟨rn (by rw [HV.out, HK.out]; rfl), Hb.out⟩

set_option maxRecDepth 100000 in
set_option maxHeartbeats 1600000 in
theorem more_c (l : List UInt8) (w : World) (hl : l.length ≤ 9223372036854775807) :
    Calls Try.prog 118 #[.int .u32 0, .string ⟨l.toArray⟩] w fun e w' => e = .returned (.int .u32 ((crcSum l).toNat : Int)) ∧ Ext w w' := by
  go_enter Try.func118, Try.ntmps118
  go_wp2_with fail
  go_loopw [5, 11] (fun v i w' => ∃ (k : Nat) (V : Int), k ≤ l.length ∧ i = .int .i64 k ∧ v = .int .u32 V ∧ V = (((l.take k).foldl crcStep (~~~ 0#32)).toNat : Int) ∧ Ext w w') (fun _ i _ => l.length - (intOf i).toNat)
  case atStart => exact ⟨0, _, Nat.zero_le _, rfl, rfl, rfl, Ext.refl _⟩
  case round =>
    obtain ⟨k, V, hk, rfl, rfl, hv, hb⟩ := hrel
    have HV := Lib.hid hv; have Hb := Lib.hid hb
    have v1 : 0 ≤ V := by omega
    have v2 : V < 4294967296 := by have := ((l.take k).foldl crcStep (~~~ 0#32)).isLt; omega
    clear hv hb
    by_cases hlt : k < l.length
    · go_wp2_with fail
      refine (step_c _ l[k] _ _ _ HV.out rfl).mono ?_
      rintro e w1 ⟨rfl, hb1⟩
      have HB1 := Lib.hid (Hb.out.trans hb1); clear hb1
      have hf : (l.take (k + 1)).foldl crcStep (~~~ 0#32) = crcStep ((l.take k).foldl crcStep (~~~ 0#32)) l[k] := by
        rw [List.take_succ_eq_append_getElem hlt, List.foldl_append]; rfl
      have HF := Lib.hid hf; clear hf
      generalize crcStep ((l.take k).foldl crcStep (~~~ 0#32)) l[k] = T at *
      go_wp2_with fail
      go_roundw
      case rel => exact ⟨k + 1, _, by omega, by go_num, rfl, by rw [HF.out], HB1.out⟩
      case measure => simp [intOf]; omega
    · have hkl : l.take k = l := List.take_of_length_le (by omega)
      have HK := Lib.hid hkl; clear hkl
      go_wp2_with fail
      go_ret
      exact ⟨rn (by rw [HV.out, HK.out, not_bv]; rfl), Hb.out⟩

theorem sum_c (l : List UInt8) (w : World) (hl : l.length ≤ 9223372036854775807) :
    Calls Try.prog 103 #[.string ⟨l.toArray⟩] w fun e w' => e = .returned (.int .u32 ((crcSum l).toNat : Int)) ∧ Ext w w' := by
  go_enter Try.func103, Try.ntmps103
  go_wp2_with fail
  refine (more_c l _ hl).mono ?_
  rintro e w1 ⟨rfl, hb⟩
  have HB := Lib.hid hb; clear hb
  go_wp2_with fail
  go_ret
  exact ⟨rfl, HB.out⟩

/-- a sum's bytes, the lowest one first -/
def lowS (s : BitVec 32) : List UInt8 := (be 4 s.toNat).reverse

theorem be4 (x : Nat) : be 4 x = [UInt8.ofNat (x / 16777216), UInt8.ofNat (x / 65536), UInt8.ofNat (x / 256), UInt8.ofNat x] := by
  simp [be]

set_option maxRecDepth 100000 in
set_option maxHeartbeats 3200000 in
theorem low_c (s : BitVec 32) (S : Int) (w : World) (hS : S = (s.toNat : Int)) :
    Calls Try.prog 102 #[.int .u32 S] w fun e w' => e = .returned (.string ⟨(lowS s).toArray⟩) ∧ Ext w w' := by
  have b1 : 0 ≤ S := by omega
  have b2 : S < 4294967296 := by have := s.isLt; omega
  have hSn : S.toNat = s.toNat := by omega
  have HSn := Lib.hid hSn
  clear hS hSn
  go_enter Try.func102, Try.ntmps102
  go_wp2_with fail
  refine (put_c S 4 _ (by omega) (by omega) b1 (by omega)).mono ?_
  rw [be4, HSn.out]
  rintro e w1 ⟨rfl, hb⟩
  have HB := Lib.hid hb; clear hb
  have hlow : lowS s = [UInt8.ofNat s.toNat, UInt8.ofNat (s.toNat / 256), UInt8.ofNat (s.toNat / 65536), UInt8.ofNat (s.toNat / 16777216)] := by
    unfold lowS; rw [be4]; rfl
  have HLow := Lib.hid hlow; clear hlow
  generalize UInt8.ofNat (s.toNat / 16777216) = c0 at *
  generalize UInt8.ofNat (s.toNat / 65536) = c1 at *
  generalize UInt8.ofNat (s.toNat / 256) = c2 at *
  generalize UInt8.ofNat s.toNat = c3 at *
  have hcv2 := fun w s => run_bytes_of_string (P := Try.prog) w 9 74 5 s Try.underlying9 Try.underlying74 Try.underlying5
  go_wp2_with fail
  obtain ⟨hrd, hfz, hex⟩ := bytes_world w1 5 [c0, c1, c2, c3] (grownCap w1 4 0 5)
  have HB2 := Lib.hid (HB.out.trans hex)
  clear hex hcv2
  generalize (w1.alloc (Obj.cells (bytesRow { data := #[c0, c1, c2, c3] } (grownCap w1 4 0 5)) 5 ((bytesRow { data := #[c0, c1, c2, c3] } (grownCap w1 4 0 5)).size, (bytesRow { data := #[c0, c1, c2, c3] } (grownCap w1 4 0 5)).size + 1))).drew = W at *
  have d0 : W.cell? ⟨w1.heap.size, 0, none⟩ = some (.int .u8 (c0.toNat : Int)) := by obtain ⟨_, _, e, h⟩ := hrd 0 _ rfl; cases e; exact h
  have d1 : W.cell? ⟨w1.heap.size, 1, none⟩ = some (.int .u8 (c1.toNat : Int)) := by obtain ⟨_, _, e, h⟩ := hrd 1 _ rfl; cases e; exact h
  have d2 : W.cell? ⟨w1.heap.size, 2, none⟩ = some (.int .u8 (c2.toNat : Int)) := by obtain ⟨_, _, e, h⟩ := hrd 2 _ rfl; cases e; exact h
  have d3 : W.cell? ⟨w1.heap.size, 3, none⟩ = some (.int .u8 (c3.toNat : Int)) := by obtain ⟨_, _, e, h⟩ := hrd 3 _ rfl; cases e; exact h
  have z0 := hfz 0 (by simp); have z1 := hfz 1 (by simp); have z2 := hfz 2 (by simp); have z3 := hfz 3 (by simp)
  have hg : Hid (w.heap.size ≤ w1.heap.size) := Lib.hid HB.out.size
  generalize w1.heap.size = g at *
  clear hrd hfz
  have hr4 := rd_set4 d0 d1 d2 d3 (byteV c3) (byteV c2) (byteV c1) (byteV c0)
  have hcv := run_tostr (P := Try.prog) _ 74 9 5 (n := 4) (l := [c3, c2, c1, c0]) (cap := grownCap w1 4 0 5) Try.underlying74 Try.underlying5 Try.underlying9 rfl hr4
  have HCV := Lib.hid hcv
  have HD : Hid (Below w.heap.size w ((((W.setCell ⟨g, 0, none⟩ (byteV c3)).setCell ⟨g, 1, none⟩ (byteV c2)).setCell ⟨g, 2, none⟩ (byteV c1)).setCell ⟨g, 3, none⟩ (byteV c0)).drew) :=
    Lib.hid (((((HB2.out.setCell (p := ⟨g, 0, none⟩) hg.out _).setCell (p := ⟨g, 1, none⟩) hg.out _).setCell (p := ⟨g, 2, none⟩) hg.out _).setCell (p := ⟨g, 3, none⟩) hg.out _).drew)
  clear hr4 hcv
  go_region
  have hcv := HCV.out
  clear d0 d1 d2 d3 z0 z1 z2 z3
  generalize ((((W.setCell ⟨g, 0, none⟩ (byteV c3)).setCell ⟨g, 1, none⟩ (byteV c2)).setCell ⟨g, 2, none⟩ (byteV c1)).setCell ⟨g, 3, none⟩ (byteV c0)).drew = W4 at *
  go_wp2_with fail
  go_ret
  exact ⟨by rw [HLow.out]; rfl, HD.out⟩

end Go.Proofs.Ytoibjhoebjcfeaa
