/- Walks: the document's sum. -/
import Derived.Test.YtoibjhoebjcfeaaChecked
import Derived.Test.YtoibjhoebjcfeaaCB
namespace Go.Proofs.Ytoibjhoebjcfeaa
open Go.RowKit

set_option maxRecDepth 100000 in
set_option maxHeartbeats 1600000 in
theorem into_c (s : BitVec 32) (c : UInt8) (S C : Int) (w : World) (hS : S = (s.toNat : Int)) (hC : C = (c.toNat : Int)) :
    Calls Try.prog 126 #[.int .u32 S, .int .u8 C] w fun e w' => e = .returned (.int .u32 ((crcStep s c).toNat : Int)) ∧ Ext w w' := by
  have HS := Lib.hid hS; have HC := Lib.hid hC
  have b3 : 0 ≤ C := by omega
  have b4 : C < 256 := by have := c.toNat_lt; omega
  clear hS hC
  go_enter Try.func126, Try.ntmps126
  go_wp2_with fail
  go_loopw [0, 5] (fun v i w' => ∃ (k : Nat) (V : Int), k ≤ 8 ∧ i = .int .i64 k ∧ v = .int .u32 V ∧ V = ((refIter s c k).toNat : Int) ∧ Ext w w') (fun _ i _ => 8 - (intOf i).toNat)
  case atStart => exact ⟨0, _, Nat.zero_le _, rfl, rfl, HS.out, Ext.refl _⟩
  case round =>
    obtain ⟨k, V, hk, rfl, rfl, hv, hb⟩ := hrel
    have HV := Lib.hid hv; have Hb := Lib.hid hb
    have v1 : 0 ≤ V := by omega
    have v2 : V < 4294967296 := by have := (refIter s c k).isLt; omega
    clear hv hb
    by_cases hlt : k < 8
    · go_wp2_with fail
      · have ht : ((V + C / 2 ^ k) % 2 == 1) = true := by assumption
        go_roundw
        case rel => exact ⟨k + 1, _, by omega, by go_num, rfl, ref_yes s c k V C HV.out HC.out ht, Hb.out⟩
        case measure => simp [intOf]; omega
      · have ht : ((V + C / 2 ^ k) % 2 == 1) = false := by assumption
        go_roundw
        case rel => exact ⟨k + 1, _, by omega, by go_num, rfl, ref_no s c k V C HV.out HC.out ht, Hb.out⟩
        case measure => simp [intOf]; omega
    · have hk8 : k = 8 := by omega
      have HK := Lib.hid hk8; clear hk8
      go_wp2_with fail
      go_ret
      exact ⟨rn (by rw [HV.out, HK.out, ref_step]), Hb.out⟩

set_option maxRecDepth 100000 in
set_option maxHeartbeats 1600000 in
theorem refmore_c (l : List UInt8) (w : World) (hl : l.length ≤ 9223372036854775807) :
    Calls Try.prog 122 #[.int .u32 0, .string ⟨l.toArray⟩] w fun e w' => e = .returned (.int .u32 ((crcSum l).toNat : Int)) ∧ Ext w w' := by
  go_enter Try.func122, Try.ntmps122
  go_wp2_with fail
  go_loopw [5, 6] (fun v i w' => ∃ (k : Nat) (V : Int), k ≤ l.length ∧ i = .int .i64 k ∧ v = .int .u32 V ∧ V = (((l.take k).foldl crcStep (~~~ 0#32)).toNat : Int) ∧ Ext w w') (fun _ i _ => l.length - (intOf i).toNat)
  case atStart => exact ⟨0, _, Nat.zero_le _, rfl, rfl, rfl, Ext.refl _⟩
  case round =>
    obtain ⟨k, V, hk, rfl, rfl, hv, hb⟩ := hrel
    have HV := Lib.hid hv; have Hb := Lib.hid hb
    have v1 : 0 ≤ V := by omega
    have v2 : V < 4294967296 := by have := ((l.take k).foldl crcStep (~~~ 0#32)).isLt; omega
    clear hv hb
    by_cases hlt : k < l.length
    · go_wp2_with fail
      refine (into_c _ l[k] _ _ _ HV.out rfl).mono ?_
      rintro e w1 ⟨rfl, hb1⟩
      have HB1 := Lib.hid (Hb.out.trans hb1); clear hb1
      have hf : (l.take (k + 1)).foldl crcStep (~~~ 0#32) = crcStep ((l.take k).foldl crcStep (~~~ 0#32)) l[k] := by
        rw [List.take_succ_eq_append_getElem hlt, List.foldl_append]; rfl
      have HF := Lib.hid hf; clear hf
      generalize crcStep ((l.take k).foldl crcStep (~~~ 0#32)) l[k] = T at *
      go_wp2_with fail
      go_roundw
      case rel => exact ⟨k + 1, _, by omega, by go_num, rfl, by rw [HF.out], HB1.out⟩
      case measure => simp [intOf]; omega
    · have hkl : l.take k = l := List.take_of_length_le (by omega)
      have HK := Lib.hid hkl; clear hkl
      go_wp2_with fail
      go_ret
      exact ⟨rn (by rw [HV.out, HK.out, sub_bv]; rfl), Hb.out⟩

theorem refsum_c (l : List UInt8) (w : World) (hl : l.length ≤ 9223372036854775807) :
    Calls Try.prog 111 #[.string ⟨l.toArray⟩] w fun e w' => e = .returned (.int .u32 ((crcSum l).toNat : Int)) ∧ Ext w w' := by
  go_enter Try.func111, Try.ntmps111
  go_wp2_with fail
  refine (refmore_c l _ hl).mono ?_
  rintro e w1 ⟨rfl, hb⟩
  have HB := Lib.hid hb; clear hb
  go_wp2_with fail
  go_ret
  exact ⟨rfl, HB.out⟩

theorem byte_of (x q : Nat) (_hq : 0 < q) : ((x : Int) / (q : Int)) % 256 = ((UInt8.ofNat (x / q)).toNat : Int) := by
  rw [UInt8.toNat_ofNat']; simp

set_option maxRecDepth 100000 in
set_option maxHeartbeats 1600000 in
theorem refseal_c (l : List UInt8) (w : World) (hl : l.length ≤ 4611686018427387903) :
    Calls Try.prog 86 #[.string ⟨l.toArray⟩] w fun e w' => e = .returned (.string ⟨(sealS l).toArray⟩) ∧ Ext w w' := by
  go_enter Try.func86, Try.ntmps86
  go_wp2_with fail
  refine (refsum_c l _ (by omega)).mono ?_
  rintro e w1 ⟨rfl, hb⟩
  have HB := Lib.hid hb; clear hb
  have hS : sealS l = l ++ [UInt8.ofNat (crcSum l).toNat, UInt8.ofNat ((crcSum l).toNat / 256), UInt8.ofNat ((crcSum l).toNat / 65536), UInt8.ofNat ((crcSum l).toNat / 16777216)] := by
    unfold sealS lowS; rw [be4]; rfl
  have e0 := byte_of (crcSum l).toNat 1 (by decide)
  have e1 := byte_of (crcSum l).toNat 256 (by decide)
  have e2 := byte_of (crcSum l).toNat 65536 (by decide)
  have e3 := byte_of (crcSum l).toNat 16777216 (by decide)
  have hlt : ((crcSum l).toNat : Int) < 4294967296 := by have := (crcSum l).isLt; omega
  have hge : 0 ≤ ((crcSum l).toNat : Int) := by omega
  rw [Nat.div_one] at e0
  have HS := Lib.hid hS; clear hS
  generalize UInt8.ofNat ((crcSum l).toNat / 16777216) = c3 at *
  generalize UInt8.ofNat ((crcSum l).toNat / 65536) = c2 at *
  generalize UInt8.ofNat ((crcSum l).toNat / 256) = c1 at *
  generalize UInt8.ofNat (crcSum l).toNat = c0 at *
  generalize ((crcSum l).toNat : Int) = X at *
  have hcv := run_tostr4 (P := Try.prog) w1 74 9 5 (X % 256) (X / 256 % 256) (X / 65536 % 256) (X / 16777216) c0 c1 c2 c3 Try.underlying74 Try.underlying5 Try.underlying9 (by rw [← e0]; simp) (by rw [← e1]; rfl) (by rw [← e2]; rfl) (by rw [← e3]; simp; omega)
  clear e0 e1 e2 e3
  go_wp2_with fail
  go_ret
  exact ⟨by rw [HS.out]; simp [ByteArray.mk_append_mk], HB.out.alloc _⟩

end Go.Proofs.Ytoibjhoebjcfeaa
