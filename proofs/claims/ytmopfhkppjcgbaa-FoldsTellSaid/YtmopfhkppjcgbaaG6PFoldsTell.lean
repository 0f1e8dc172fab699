/- Walks: numbers as bytes. Walks: the sum of a text. Walks: texts with their sums. Walks: the document's sum. -/
import Derived.Test.YtmopfhkppjcgbaaChecked
import Derived.Test.YtmopfhkppjcgbaaG3PFoldsTell
import Derived.Test.YtmopfhkppjcgbaaG4PFoldsTell
set_option linter.unusedVariables false
set_option linter.unusedSimpArgs false
namespace Go.Proofs.Ytmopfhkppjcgbaa
open Go.RowKit

theorem Try.infoU8 : (Try.prog.info? 5).map (fun i => (i.zero, i.size, i.bytes)) = some (some (.int .u8 0), 1, 1) := by kernel_rfl

set_option maxRecDepth 100000 in
set_option maxHeartbeats 1600000 in
theorem put_c (X : Int) (n : Nat) (w : World) (h1 : 1 ≤ n) (h8 : n ≤ 8) (hx0 : 0 ≤ X) (hX : X < 18446744073709551616) :
    Calls Try.prog 18 #[.int .u64 X, .int .i64 n] w fun e w' => e = .returned (.string ⟨(be n X.toNat).toArray⟩) ∧ Ext w w' := by
  obtain ⟨i, hi, hz, hsize, hby⟩ := info_parts Try.infoU8
  have hXx : X = (X.toNat : Int) := by omega
  have HXx := Lib.hid hXx; clear hXx
  generalize X.toNat = x at *
  go_enter Try.func18, Try.ntmps18
  go_wp2_with (at_make; refine wpList_make_full _ rfl _ _ 63 rfl w.heap.size 5 i (.int .u8 0) 1 Try.underlying63 hi hz hsize .i64 .i64 _ _ n rfl rfl rfl rfl (by rw [hby]; omega) (by unfold maxLen; omega) (Nat.le_refl _) ?_; intro w2 hown hg)
  clear hi hz hsize hby
  have ho := Own.of_row hown
  rw [Nat.mul_one, show (madeCells (Value.int .u8 0).cells n).toList = List.replicate n (.int .u8 0) from toList_madeCells_one _ _] at ho
  have hb0 : Ext w w2 := (Ext.refl w).grown hg (Nat.le_refl _) (fun k hk => by cases hk)
  have HO := Lib.hid ho; have HB0 := Lib.hid hb0
  clear hown hg ho hb0
  go_loopw [16] (fun i w' => ∃ k : Nat, k ≤ n ∧ i = .int .i64 k ∧ Own w' w.heap.size 5 1 (.slice (some ⟨w.heap.size, 0, none⟩) n n) n (List.replicate (n - k) (.int .u8 0) ++ (be k x).map byteV) ∧ Ext w w') (fun i _ => n - (intOf i).toNat)
  case atStart => exact ⟨0, Nat.zero_le _, rfl, by simpa [be] using HO.out, HB0.out⟩
  case round =>
    clear HO HB0
    obtain ⟨k, hk, rfl, ho, hb⟩ := hrel
    have Hb := Lib.hid hb; have HO := Lib.hid ho
    by_cases hlt : k < n
    · obtain ⟨g, c, u, e, d1, d2, d3⟩ := ho.cellE (j := n - 1 - k) (by omega)
      cases e
      have hst := ho.stored (g := w.heap.size) (cap := n) rfl (j := n - 1 - k) (.int .u8 ((UInt8.ofNat (x / 256 ^ k)).toNat : Int))
      have hset : (List.replicate (n - k) (Value.int .u8 0) ++ (be k x).map byteV).set (n - 1 - k) (.int .u8 ((UInt8.ofNat (x / 256 ^ k)).toNat : Int)) = List.replicate (n - (k + 1)) (.int .u8 0) ++ (be (k + 1) x).map byteV := by
        rw [show n - k = (n - (k + 1)) + 1 from by omega, show n - 1 - k = n - (k + 1) from by omega, set_pad]
        rfl
      rw [hset, ← put_byte, ← HXx.out] at hst
      have hbs := hb.setCell (p := ⟨w.heap.size, n - 1 - k, none⟩) (Nat.le_refl _) (.int .u8 (X / 2 ^ (8 * k) % 256))
      have HS := Lib.hid hst; have HBS := Lib.hid hbs
      clear ho hb hst hset hbs
      go_wp2_with fail
      go_roundw
      case rel => exact ⟨k + 1, by omega, by go_num, HS.out, HBS.out⟩
      case measure => simp [intOf]; omega
    · have hkn : k = n := by omega
      rw [hkn, Nat.sub_self, List.replicate_zero, List.nil_append] at ho
      have hcv := run_tostr (P := Try.prog) wr 63 9 5 (a := ⟨w.heap.size, 0, none⟩) (n := n) (cap := n) Try.underlying63 Try.underlying5 Try.underlying9 (be_length n x) (by obtain ⟨_, _, e, _, _, _, r⟩ := ho.rd; cases e; exact r)
      clear hkn ho hb
      go_wp2_with fail
      go_ret
      exact ⟨rfl, Hb.out⟩

set_option maxRecDepth 100000 in
set_option maxHeartbeats 1600000 in
theorem refput_c (X : Int) (n : Nat) (w : World) (h1 : 1 ≤ n) (h8 : n ≤ 8) (hx0 : 0 ≤ X) (hX : X < 18446744073709551616) :
    Calls Try.prog 21 #[.int .u64 X, .int .i64 n] w fun e w' => e = .returned (.string ⟨(be n X.toNat).toArray⟩) ∧ Ext w w' := by
  go_enter Try.func21, Try.ntmps21
  go_wp2_with fail
  go_loopw [0, 5, 6] (fun v s i w' => ∃ (k : Nat) (Z : Int), k ≤ n ∧ i = .int .i64 k ∧ v = .int .u64 Z ∧ 0 ≤ Z ∧ Z < 18446744073709551616 ∧ Z.toNat = X.toNat / 256 ^ k ∧ s = .string ⟨(be k X.toNat).toArray⟩ ∧ Ext w w') (fun _ _ i _ => n - (intOf i).toNat)
  case atStart => exact ⟨0, X, Nat.zero_le _, rfl, rfl, hx0, hX, by simp, rfl, Ext.refl _⟩
  case round =>
    obtain ⟨k, Z, hk, rfl, rfl, hz0, hz1, hzx, rfl, hb⟩ := hrel
    have Hb := Lib.hid hb; have HZ := Lib.hid hzx
    clear hb hzx
    have hbl : (be k X.toNat).length ≤ 8 := by rw [be_length]; omega
    generalize hL : be k X.toNat = L at *
    have HL := Lib.hid hL; clear hL
    by_cases hlt : k < n
    · have hby : Z % 256 = ((UInt8.ofNat (X.toNat / 256 ^ k)).toNat : Int) := by
        rw [← HZ.out, UInt8.toNat_ofNat']; omega
      have hcv := run_tostr1 (P := Try.prog) wr 63 9 5 (Z % 256) _ Try.underlying63 Try.underlying5 Try.underlying9 hby
      have hbe : be (k + 1) X.toNat = UInt8.ofNat (X.toNat / 256 ^ k) :: L := by rw [← HL.out]; rfl
      have HBE := Lib.hid hbe
      have hz2 : (Z / 256).toNat = X.toNat / 256 ^ (k + 1) := by rw [Nat.pow_succ, ← Nat.div_div_eq_div_mul, ← HZ.out]; omega
      have HZ2 := Lib.hid hz2
      clear hby hbe hz2
      generalize UInt8.ofNat (X.toNat / 256 ^ k) = b at *
      go_wp2_with fail
      go_roundw
      case rel => exact ⟨k + 1, Z / 256, by omega, by go_num, rfl, by omega, by omega, HZ2.out, by rw [HBE.out]; simp [ByteArray.mk_append_mk], Hb.out.alloc _⟩
      case measure => simp [intOf]; omega
    · have hkn : k = n := by omega
      have HK := Lib.hid hkn; clear hkn
      go_wp2_with fail
      go_ret
      exact ⟨by rw [← HK.out, HL.out]; rfl, Hb.out⟩

/-- the same, the size as a number of the program's -/
theorem put_z (X N : Int) (w : World) (h1 : 1 ≤ N) (h8 : N ≤ 8) (hx0 : 0 ≤ X) (hX : X < 18446744073709551616) :
    Calls Try.prog 18 #[.int .u64 X, .int .i64 N] w fun e w' => e = .returned (.string ⟨(be N.toNat X.toNat).toArray⟩) ∧ Ext w w' := by
  have e : N = (N.toNat : Int) := by omega
  have h := put_c X N.toNat w (by omega) (by omega) hx0 hX
  rwa [← e] at h
theorem put_k (X N : Int) (k : Nat) (w : World) (hN : N = (k : Int)) (h1 : 1 ≤ N) (h8 : N ≤ 8) (hx0 : 0 ≤ X) (hX : X < 18446744073709551616) :
    Calls Try.prog 18 #[.int .u64 X, .int .i64 N] w fun e w' => e = .returned (.string ⟨(be k X.toNat).toArray⟩) ∧ Ext w w' := by
  subst hN; exact put_c X k w (by omega) (by omega) hx0 hX
theorem put_n (x : Nat) (N : Int) (k : Nat) (w : World) (hN : N = (k : Int)) (h1 : 1 ≤ N) (h8 : N ≤ 8) (hX : (x : Int) < 18446744073709551616) :
    Calls Try.prog 18 #[.int .u64 (x : Int), .int .i64 N] w fun e w' => e = .returned (.string ⟨(be k x).toArray⟩) ∧ Ext w w' := by
  have h := put_k (x : Int) N k w hN h1 h8 (by omega) hX
  rwa [Int.toNat_natCast] at h
theorem refput_n (x : Nat) (N : Int) (k : Nat) (w : World) (hN : N = (k : Int)) (h1 : 1 ≤ N) (h8 : N ≤ 8) (hX : (x : Int) < 18446744073709551616) :
    Calls Try.prog 21 #[.int .u64 (x : Int), .int .i64 N] w fun e w' => e = .returned (.string ⟨(be k x).toArray⟩) ∧ Ext w w' := by
  subst hN
  have h := refput_c (x : Int) k w (by omega) (by omega) (by omega) hX
  rwa [Int.toNat_natCast] at h
theorem refput_k (X N : Int) (k : Nat) (w : World) (hN : N = (k : Int)) (h1 : 1 ≤ N) (h8 : N ≤ 8) (hx0 : 0 ≤ X) (hX : X < 18446744073709551616) :
    Calls Try.prog 21 #[.int .u64 X, .int .i64 N] w fun e w' => e = .returned (.string ⟨(be k X.toNat).toArray⟩) ∧ Ext w w' := by
  subst hN; exact refput_c X k w (by omega) (by omega) hx0 hX
theorem refput_z (X N : Int) (w : World) (h1 : 1 ≤ N) (h8 : N ≤ 8) (hx0 : 0 ≤ X) (hX : X < 18446744073709551616) :
    Calls Try.prog 21 #[.int .u64 X, .int .i64 N] w fun e w' => e = .returned (.string ⟨(be N.toNat X.toNat).toArray⟩) ∧ Ext w w' := by
  have e : N = (N.toNat : Int) := by omega
  have h := refput_c X N.toNat w (by omega) (by omega) hx0 hX
  rwa [← e] at h

end Go.Proofs.Ytmopfhkppjcgbaa
namespace Go.Proofs.Ytmopfhkppjcgbaa
open Go.RowKit

set_option maxRecDepth 100000 in
set_option maxHeartbeats 1600000 in
theorem step_c (s : BitVec 32) (c : UInt8) (S C : Int) (w : World) (hS : S = (s.toNat : Int)) (hC : C = (c.toNat : Int)) :
    Calls Try.prog 39 #[.int .u32 S, .int .u8 C] w fun e w' => e = .returned (.int .u32 ((crcStep s c).toNat : Int)) ∧ Ext w w' := by
  have hx := bits_xor_bv s (BitVec.ofNat 32 c.toNat)
  rw [byte_bv, ← hS, ← hC] at hx
  have HX := Lib.hid hx
  have b1 : 0 ≤ S := by omega
  have b2 : S < 4294967296 := by have := s.isLt; omega
  have b3 : 0 ≤ C := by omega
  have b4 : C < 256 := by have := c.toNat_lt; omega
  clear hS hC hx
  go_enter Try.func39, Try.ntmps39
  go_wp2_with fail
  go_loopw [0, 9] (fun v i w' => ∃ (k : Nat) (V : Int), k ≤ 8 ∧ i = .int .i64 k ∧ v = .int .u32 V ∧ V = ((crcIter k (s ^^^ BitVec.ofNat 32 c.toNat)).toNat : Int) ∧ Ext w w') (fun _ i _ => 8 - (intOf i).toNat)
  case atStart => exact ⟨0, _, Nat.zero_le _, rfl, rfl, HX.out, Ext.refl _⟩
  case round =>
    obtain ⟨k, V, hk, rfl, rfl, hv, hb⟩ := hrel
    have HV := Lib.hid hv; have Hb := Lib.hid hb
    have v1 : 0 ≤ V := by omega
    have v2 : V < 4294967296 := by have := (crcIter k (s ^^^ BitVec.ofNat 32 c.toNat)).isLt; omega
    clear hv hb
    by_cases hlt : k < 8
    · have hst := step_bv (crcIter k (s ^^^ BitVec.ofNat 32 c.toNat))
      rw [← HV.out] at hst
      have HST := Lib.hid hst; clear hst
      go_wp2_with fail
      go_roundw
      case rel => exact ⟨k + 1, _, by omega, by go_num, rfl, HST.out, Hb.out⟩
      case measure => simp [intOf]; omega
    · have hk8 : k = 8 := by omega
      have HK := Lib.hid hk8; clear hk8
      go_wp2_with fail
      go_ret
      exact ⟨rn (by rw [HV.out, HK.out]; rfl), Hb.out⟩

set_option maxRecDepth 100000 in
set_option maxHeartbeats 1600000 in
theorem more_c (l : List UInt8) (w : World) (hl : l.length ≤ 9223372036854775807) :
    Calls Try.prog 33 #[.int .u32 0, .string ⟨l.toArray⟩] w fun e w' => e = .returned (.int .u32 ((crcSum l).toNat : Int)) ∧ Ext w w' := by
  go_enter Try.func33, Try.ntmps33
  go_wp2_with fail
  go_loopw [5, 11] (fun v i w' => ∃ (k : Nat) (V : Int), k ≤ l.length ∧ i = .int .i64 k ∧ v = .int .u32 V ∧ V = (((l.take k).foldl crcStep (~~~ 0#32)).toNat : Int) ∧ Ext w w') (fun _ i _ => l.length - (intOf i).toNat)
  case atStart => exact ⟨0, _, Nat.zero_le _, rfl, rfl, rfl, Ext.refl _⟩
  case round =>
    obtain ⟨k, V, hk, rfl, rfl, hv, hb⟩ := hrel
    have HV := Lib.hid hv; have Hb := Lib.hid hb
    have v1 : 0 ≤ V := by omega
    have v2 : V < 4294967296 := by have := ((l.take k).foldl crcStep (~~~ 0#32)).isLt; omega
    clear hv hb
    by_cases hlt : k < l.length
    · go_wp2_with fail
      refine (step_c _ l[k] _ _ _ HV.out rfl).mono ?_
      rintro e w1 ⟨rfl, hb1⟩
      have HB1 := Lib.hid (Hb.out.trans hb1); clear hb1
      have hf : (l.take (k + 1)).foldl crcStep (~~~ 0#32) = crcStep ((l.take k).foldl crcStep (~~~ 0#32)) l[k] := by
        rw [List.take_succ_eq_append_getElem hlt, List.foldl_append]; rfl
      have HF := Lib.hid hf; clear hf
      generalize crcStep ((l.take k).foldl crcStep (~~~ 0#32)) l[k] = T at *
      go_wp2_with fail
      go_roundw
      case rel => exact ⟨k + 1, _, by omega, by go_num, rfl, by rw [HF.out], HB1.out⟩
      case measure => simp [intOf]; omega
    · have hkl : l.take k = l := List.take_of_length_le (by omega)
      have HK := Lib.hid hkl; clear hkl
      go_wp2_with fail
      go_ret
      exact ⟨rn (by rw [HV.out, HK.out, not_bv]; rfl), Hb.out⟩

theorem sum_c (l : List UInt8) (w : World) (hl : l.length ≤ 9223372036854775807) :
    Calls Try.prog 29 #[.string ⟨l.toArray⟩] w fun e w' => e = .returned (.int .u32 ((crcSum l).toNat : Int)) ∧ Ext w w' := by
  go_enter Try.func29, Try.ntmps29
  go_wp2_with fail
  refine (more_c l _ hl).mono ?_
  rintro e w1 ⟨rfl, hb⟩
  have HB := Lib.hid hb; clear hb
  go_wp2_with fail
  go_ret
  exact ⟨rfl, HB.out⟩

/-- a sum's bytes, the lowest one first -/
def lowS (s : BitVec 32) : List UInt8 := (be 4 s.toNat).reverse

theorem be4 (x : Nat) : be 4 x = [UInt8.ofNat (x / 16777216), UInt8.ofNat (x / 65536), UInt8.ofNat (x / 256), UInt8.ofNat x] := by
  simp [be]

set_option maxRecDepth 100000 in
set_option maxHeartbeats 3200000 in
theorem low_c (s : BitVec 32) (S : Int) (w : World) (hS : S = (s.toNat : Int)) :
    Calls Try.prog 28 #[.int .u32 S] w fun e w' => e = .returned (.string ⟨(lowS s).toArray⟩) ∧ Ext w w' := by
  have b1 : 0 ≤ S := by omega
  have b2 : S < 4294967296 := by have := s.isLt; omega
  have hSn : S.toNat = s.toNat := by omega
  have HSn := Lib.hid hSn
  clear hS hSn
  go_enter Try.func28, Try.ntmps28
  go_wp2_with fail
  refine (put_c S 4 _ (by omega) (by omega) b1 (by omega)).mono ?_
  rw [be4, HSn.out]
  rintro e w1 ⟨rfl, hb⟩
  have HB := Lib.hid hb; clear hb
  have hlow : lowS s = [UInt8.ofNat s.toNat, UInt8.ofNat (s.toNat / 256), UInt8.ofNat (s.toNat / 65536), UInt8.ofNat (s.toNat / 16777216)] := by
    unfold lowS; rw [be4]; rfl
  have HLow := Lib.hid hlow; clear hlow
  generalize UInt8.ofNat (s.toNat / 16777216) = c0 at *
  generalize UInt8.ofNat (s.toNat / 65536) = c1 at *
  generalize UInt8.ofNat (s.toNat / 256) = c2 at *
  generalize UInt8.ofNat s.toNat = c3 at *
  have hcv2 := fun w s => run_bytes_of_string (P := Try.prog) w 9 63 5 s Try.underlying9 Try.underlying63 Try.underlying5
  go_wp2_with fail
  obtain ⟨hrd, hfz, hex⟩ := bytes_world w1 5 [c0, c1, c2, c3] (grownCap w1 4 0 5)
  have HB2 := Lib.hid (HB.out.trans hex)
  clear hex hcv2
  generalize (w1.alloc (Obj.cells (bytesRow { data := #[c0, c1, c2, c3] } (grownCap w1 4 0 5)) 5 ((bytesRow { data := #[c0, c1, c2, c3] } (grownCap w1 4 0 5)).size, (bytesRow { data := #[c0, c1, c2, c3] } (grownCap w1 4 0 5)).size + 1))).drew = W at *
  have d0 : W.cell? ⟨w1.heap.size, 0, none⟩ = some (.int .u8 (c0.toNat : Int)) := by obtain ⟨_, _, e, h⟩ := hrd 0 _ rfl; cases e; exact h
  have d1 : W.cell? ⟨w1.heap.size, 1, none⟩ = some (.int .u8 (c1.toNat : Int)) := by obtain ⟨_, _, e, h⟩ := hrd 1 _ rfl; cases e; exact h
  have d2 : W.cell? ⟨w1.heap.size, 2, none⟩ = some (.int .u8 (c2.toNat : Int)) := by obtain ⟨_, _, e, h⟩ := hrd 2 _ rfl; cases e; exact h
  have d3 : W.cell? ⟨w1.heap.size, 3, none⟩ = some (.int .u8 (c3.toNat : Int)) := by obtain ⟨_, _, e, h⟩ := hrd 3 _ rfl; cases e; exact h
  have z0 := hfz 0 (by simp); have z1 := hfz 1 (by simp); have z2 := hfz 2 (by simp); have z3 := hfz 3 (by simp)
  have hg : Hid (w.heap.size ≤ w1.heap.size) := Lib.hid HB.out.size
  generalize w1.heap.size = g at *
  clear hrd hfz
  have hr4 := rd_set4 d0 d1 d2 d3 (byteV c3) (byteV c2) (byteV c1) (byteV c0)
  have hcv := run_tostr (P := Try.prog) _ 63 9 5 (n := 4) (l := [c3, c2, c1, c0]) (cap := grownCap w1 4 0 5) Try.underlying63 Try.underlying5 Try.underlying9 rfl hr4
  have HCV := Lib.hid hcv
  have HD : Hid (Below w.heap.size w ((((W.setCell ⟨g, 0, none⟩ (byteV c3)).setCell ⟨g, 1, none⟩ (byteV c2)).setCell ⟨g, 2, none⟩ (byteV c1)).setCell ⟨g, 3, none⟩ (byteV c0)).drew) :=
    Lib.hid (((((HB2.out.setCell (p := ⟨g, 0, none⟩) hg.out _).setCell (p := ⟨g, 1, none⟩) hg.out _).setCell (p := ⟨g, 2, none⟩) hg.out _).setCell (p := ⟨g, 3, none⟩) hg.out _).drew)
  clear hr4 hcv
  go_region
  have hcv := HCV.out
  clear d0 d1 d2 d3 z0 z1 z2 z3
  generalize ((((W.setCell ⟨g, 0, none⟩ (byteV c3)).setCell ⟨g, 1, none⟩ (byteV c2)).setCell ⟨g, 2, none⟩ (byteV c1)).setCell ⟨g, 3, none⟩ (byteV c0)).drew = W4 at *
  go_wp2_with fail
  go_ret
  exact ⟨by rw [HLow.out]; rfl, HD.out⟩

end Go.Proofs.Ytmopfhkppjcgbaa
namespace Go.Proofs.Ytmopfhkppjcgbaa
open Go.RowKit

/-- a text with its sum behind it -/
def sealS (l : List UInt8) : List UInt8 := l ++ lowS (crcSum l)
/-- a text whose sum stands behind it -/
def openB (l : List UInt8) : Bool := decide (4 ≤ l.length) && decide (sealS (l.take (l.length - 4)) = l)
def openT (l : List UInt8) : List UInt8 := if openB l then l.take (l.length - 4) else []

theorem lowS_length (s : BitVec 32) : (lowS s).length = 4 := by simp [lowS, be_length]
theorem sealS_length (l : List UInt8) : (sealS l).length = l.length + 4 := by simp [sealS, lowS_length]

theorem openB_eq (l : List UInt8) (h : 4 ≤ l.length) : openB l = decide (lowS (crcSum (l.take (l.length - 4))) = l.drop (l.length - 4)) := by
  unfold openB
  rw [decide_eq_true h, Bool.true_and]
  have e : l = l.take (l.length - 4) ++ l.drop (l.length - 4) := (List.take_append_drop _ _).symm
  have : (sealS (l.take (l.length - 4)) = l) ↔ (lowS (crcSum (l.take (l.length - 4))) = l.drop (l.length - 4)) := by
    unfold sealS
    constructor
    · intro h2
      have h3 : l.take (l.length - 4) ++ lowS (crcSum (l.take (l.length - 4))) = l.take (l.length - 4) ++ l.drop (l.length - 4) := by rw [h2]; exact e
      exact List.append_cancel_left h3
    · intro h2; rw [h2]; exact e.symm
  simp only [this]

theorem openB_short (l : List UInt8) (h : l.length < 4) : openB l = false := by
  unfold openB; rw [decide_eq_false (by omega)]; rfl

theorem seal_c (l : List UInt8) (w : World) (hl : l.length ≤ 4611686018427387903) :
    Calls Try.prog 20 #[.string ⟨l.toArray⟩] w fun e w' => e = .returned (.string ⟨(sealS l).toArray⟩) ∧ Ext w w' := by
  go_enter Try.func20, Try.ntmps20
  go_wp2_with fail
  refine (sum_c l _ (by omega)).mono ?_
  rintro e w1 ⟨rfl, hb⟩
  have HB := Lib.hid hb; clear hb
  go_wp2_with fail
  refine (low_c (crcSum l) _ _ rfl).mono ?_
  rintro e w2 ⟨rfl, hb⟩
  have HB2 := Lib.hid (HB.out.trans hb); clear hb
  have hlen := lowS_length (crcSum l)
  have HS : Hid (sealS l = l ++ lowS (crcSum l)) := Lib.hid rfl
  generalize lowS (crcSum l) = T at *
  go_wp2_with fail
  go_ret
  exact ⟨by rw [HS.out]; simp [ByteArray.mk_append_mk], HB2.out⟩

end Go.Proofs.Ytmopfhkppjcgbaa
namespace Go.Proofs.Ytmopfhkppjcgbaa
open Go.RowKit

set_option maxRecDepth 100000 in
set_option maxHeartbeats 1600000 in
theorem into_c (s : BitVec 32) (c : UInt8) (S C : Int) (w : World) (hS : S = (s.toNat : Int)) (hC : C = (c.toNat : Int)) :
    Calls Try.prog 40 #[.int .u32 S, .int .u8 C] w fun e w' => e = .returned (.int .u32 ((crcStep s c).toNat : Int)) ∧ Ext w w' := by
  have HS := Lib.hid hS; have HC := Lib.hid hC
  have b3 : 0 ≤ C := by omega
  have b4 : C < 256 := by have := c.toNat_lt; omega
  clear hS hC
  go_enter Try.func40, Try.ntmps40
  go_wp2_with fail
  go_loopw [0, 5] (fun v i w' => ∃ (k : Nat) (V : Int), k ≤ 8 ∧ i = .int .i64 k ∧ v = .int .u32 V ∧ V = ((refIter s c k).toNat : Int) ∧ Ext w w') (fun _ i _ => 8 - (intOf i).toNat)
  case atStart => exact ⟨0, _, Nat.zero_le _, rfl, rfl, HS.out, Ext.refl _⟩
  case round =>
    obtain ⟨k, V, hk, rfl, rfl, hv, hb⟩ := hrel
    have HV := Lib.hid hv; have Hb := Lib.hid hb
    have v1 : 0 ≤ V := by omega
    have v2 : V < 4294967296 := by have := (refIter s c k).isLt; omega
    clear hv hb
    by_cases hlt : k < 8
    · go_wp2_with fail
      · have ht : ((V + C / 2 ^ k) % 2 == 1) = true := by assumption
        go_roundw
        case rel => exact ⟨k + 1, _, by omega, by go_num, rfl, ref_yes s c k V C HV.out HC.out ht, Hb.out⟩
        case measure => simp [intOf]; omega
      · have ht : ((V + C / 2 ^ k) % 2 == 1) = false := by assumption
        go_roundw
        case rel => exact ⟨k + 1, _, by omega, by go_num, rfl, ref_no s c k V C HV.out HC.out ht, Hb.out⟩
        case measure => simp [intOf]; omega
    · have hk8 : k = 8 := by omega
      have HK := Lib.hid hk8; clear hk8
      go_wp2_with fail
      go_ret
      exact ⟨rn (by rw [HV.out, HK.out, ref_step]), Hb.out⟩

set_option maxRecDepth 100000 in
set_option maxHeartbeats 1600000 in
theorem refmore_c (l : List UInt8) (w : World) (hl : l.length ≤ 9223372036854775807) :
    Calls Try.prog 34 #[.int .u32 0, .string ⟨l.toArray⟩] w fun e w' => e = .returned (.int .u32 ((crcSum l).toNat : Int)) ∧ Ext w w' := by
  go_enter Try.func34, Try.ntmps34
  go_wp2_with fail
  go_loopw [5, 6] (fun v i w' => ∃ (k : Nat) (V : Int), k ≤ l.length ∧ i = .int .i64 k ∧ v = .int .u32 V ∧ V = (((l.take k).foldl crcStep (~~~ 0#32)).toNat : Int) ∧ Ext w w') (fun _ i _ => l.length - (intOf i).toNat)
  case atStart => exact ⟨0, _, Nat.zero_le _, rfl, rfl, rfl, Ext.refl _⟩
  case round =>
    obtain ⟨k, V, hk, rfl, rfl, hv, hb⟩ := hrel
    have HV := Lib.hid hv; have Hb := Lib.hid hb
    have v1 : 0 ≤ V := by omega
    have v2 : V < 4294967296 := by have := ((l.take k).foldl crcStep (~~~ 0#32)).isLt; omega
    clear hv hb
    by_cases hlt : k < l.length
    · go_wp2_with fail
      refine (into_c _ l[k] _ _ _ HV.out rfl).mono ?_
      rintro e w1 ⟨rfl, hb1⟩
      have HB1 := Lib.hid (Hb.out.trans hb1); clear hb1
      have hf : (l.take (k + 1)).foldl crcStep (~~~ 0#32) = crcStep ((l.take k).foldl crcStep (~~~ 0#32)) l[k] := by
        rw [List.take_succ_eq_append_getElem hlt, List.foldl_append]; rfl
      have HF := Lib.hid hf; clear hf
      generalize crcStep ((l.take k).foldl crcStep (~~~ 0#32)) l[k] = T at *
      go_wp2_with fail
      go_roundw
      case rel => exact ⟨k + 1, _, by omega, by go_num, rfl, by rw [HF.out], HB1.out⟩
      case measure => simp [intOf]; omega
    · have hkl : l.take k = l := List.take_of_length_le (by omega)
      have HK := Lib.hid hkl; clear hkl
      go_wp2_with fail
      go_ret
      exact ⟨rn (by rw [HV.out, HK.out, sub_bv]; rfl), Hb.out⟩

theorem refsum_c (l : List UInt8) (w : World) (hl : l.length ≤ 9223372036854775807) :
    Calls Try.prog 30 #[.string ⟨l.toArray⟩] w fun e w' => e = .returned (.int .u32 ((crcSum l).toNat : Int)) ∧ Ext w w' := by
  go_enter Try.func30, Try.ntmps30
  go_wp2_with fail
  refine (refmore_c l _ hl).mono ?_
  rintro e w1 ⟨rfl, hb⟩
  have HB := Lib.hid hb; clear hb
  go_wp2_with fail
  go_ret
  exact ⟨rfl, HB.out⟩

theorem byte_of (x q : Nat) (_hq : 0 < q) : ((x : Int) / (q : Int)) % 256 = ((UInt8.ofNat (x / q)).toNat : Int) := by
  rw [UInt8.toNat_ofNat']; simp

set_option maxRecDepth 100000 in
set_option maxHeartbeats 1600000 in
theorem refseal_c (l : List UInt8) (w : World) (hl : l.length ≤ 4611686018427387903) :
    Calls Try.prog 23 #[.string ⟨l.toArray⟩] w fun e w' => e = .returned (.string ⟨(sealS l).toArray⟩) ∧ Ext w w' := by
  go_enter Try.func23, Try.ntmps23
  go_wp2_with fail
  refine (refsum_c l _ (by omega)).mono ?_
  rintro e w1 ⟨rfl, hb⟩
  have HB := Lib.hid hb; clear hb
  have hS : sealS l = l ++ [UInt8.ofNat (crcSum l).toNat, UInt8.ofNat ((crcSum l).toNat / 256), UInt8.ofNat ((crcSum l).toNat / 65536), UInt8.ofNat ((crcSum l).toNat / 16777216)] := by
    unfold sealS lowS; rw [be4]; rfl
  have e0 := byte_of (crcSum l).toNat 1 (by decide)
  have e1 := byte_of (crcSum l).toNat 256 (by decide)
  have e2 := byte_of (crcSum l).toNat 65536 (by decide)
  have e3 := byte_of (crcSum l).toNat 16777216 (by decide)
  have hlt : ((crcSum l).toNat : Int) < 4294967296 := by have := (crcSum l).isLt; omega
  have hge : 0 ≤ ((crcSum l).toNat : Int) := by omega
  rw [Nat.div_one] at e0
  have HS := Lib.hid hS; clear hS
  generalize UInt8.ofNat ((crcSum l).toNat / 16777216) = c3 at *
  generalize UInt8.ofNat ((crcSum l).toNat / 65536) = c2 at *
  generalize UInt8.ofNat ((crcSum l).toNat / 256) = c1 at *
  generalize UInt8.ofNat (crcSum l).toNat = c0 at *
  generalize ((crcSum l).toNat : Int) = X at *
  have hcv := run_tostr4 (P := Try.prog) w1 63 9 5 (X % 256) (X / 256 % 256) (X / 65536 % 256) (X / 16777216) c0 c1 c2 c3 Try.underlying63 Try.underlying5 Try.underlying9 (by rw [← e0]; simp) (by rw [← e1]; rfl) (by rw [← e2]; rfl) (by rw [← e3]; simp; omega)
  clear e0 e1 e2 e3
  go_wp2_with fail
  go_ret
  exact ⟨by rw [HS.out]; simp [ByteArray.mk_append_mk], HB.out.alloc _⟩

end Go.Proofs.Ytmopfhkppjcgbaa
