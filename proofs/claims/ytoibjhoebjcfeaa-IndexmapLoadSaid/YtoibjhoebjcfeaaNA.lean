/- Walks: numbers as bytes. -/
import Derived.Test.YtoibjhoebjcfeaaChecked
import Derived.Test.YtoibjhoebjcfeaaKS
import Derived.Test.YtoibjhoebjcfeaaNS
namespace Go.Proofs.Ytoibjhoebjcfeaa
open Go.RowKit

theorem Try.infoU8 : (Try.prog.info? 5).map (fun i => (i.zero, i.size, i.bytes)) = some (some (.int .u8 0), 1, 1) := by kernel_rfl

set_option maxRecDepth 100000 in
set_option maxHeartbeats 1600000 in
theorem put_c (X : Int) (n : Nat) (w : World) (h1 : 1 ≤ n) (h8 : n ≤ 8) (hx0 : 0 ≤ X) (hX : X < 18446744073709551616) :
    Calls Try.prog 100 #[.int .u64 X, .int .i64 n] w fun e w' => e = .returned (.string ⟨(be n X.toNat).toArray⟩) ∧ Ext w w' := by
  obtain ⟨i, hi, hz, hsize, hby⟩ := info_parts Try.infoU8
  have hXx : X = (X.toNat : Int) := by omega
  have HXx := Lib.hid hXx; clear hXx
  generalize X.toNat = x at *
  go_enter Try.func100, Try.ntmps100
  go_wp2_with (at_make; refine wpList_make_full _ rfl _ _ 74 rfl w.heap.size 5 i (.int .u8 0) 1 Try.underlying74 hi hz hsize .i64 .i64 _ _ n rfl rfl rfl rfl (by rw [hby]; omega) (by unfold maxLen; omega) (Nat.le_refl _) ?_; intro w2 hown hg)
  clear hi hz hsize hby
  have ho := Own.of_row hown
  rw [Nat.mul_one, show (madeCells (Value.int .u8 0).cells n).toList = List.replicate n (.int .u8 0) from toList_madeCells_one _ _] at ho
  have hb0 : Ext w w2 := (Ext.refl w).grown hg (Nat.le_refl _) (fun k hk => by cases hk)
  have HO := Lib.hid ho; have HB0 := Lib.hid hb0
  clear hown hg ho hb0
  go_loopw [16] (fun i w' => ∃ k : Nat, k ≤ n ∧ i = .int .i64 k ∧ Own w' w.heap.size 5 1 (.slice (some ⟨w.heap.size, 0, none⟩) n n) n (List.replicate (n - k) (.int .u8 0) ++ (be k x).map byteV) ∧ Ext w w') (fun i _ => n - (intOf i).toNat)
  case atStart => exact ⟨0, Nat.zero_le _, rfl, by simpa [be] using HO.out, HB0.out⟩
  case round =>
    clear HO HB0
    obtain ⟨k, hk, rfl, ho, hb⟩ := hrel
    have Hb := Lib.hid hb; have HO := Lib.hid ho
    by_cases hlt : k < n
    · obtain ⟨g, c, u, e, d1, d2, d3⟩ := ho.cellE (j := n - 1 - k) (by omega)
      cases e
      have hst := ho.stored (g := w.heap.size) (cap := n) rfl (j := n - 1 - k) (.int .u8 ((UInt8.ofNat (x / 256 ^ k)).toNat : Int))
      have hset : (List.replicate (n - k) (Value.int .u8 0) ++ (be k x).map byteV).set (n - 1 - k) (.int .u8 ((UInt8.ofNat (x / 256 ^ k)).toNat : Int)) = List.replicate (n - (k + 1)) (.int .u8 0) ++ (be (k + 1) x).map byteV := by
        rw [show n - k = (n - (k + 1)) + 1 from by omega, show n - 1 - k = n - (k + 1) from by omega, set_pad]
        rfl
      rw [hset, ← put_byte, ← HXx.out] at hst
      have hbs := hb.setCell (p := ⟨w.heap.size, n - 1 - k, none⟩) (Nat.le_refl _) (.int .u8 (X / 2 ^ (8 * k) % 256))
      have HS := Lib.hid hst; have HBS := Lib.hid hbs
      clear ho hb hst hset hbs
      go_wp2_with fail
      go_roundw
      case rel => exact ⟨k + 1, by omega, by go_num, HS.out, HBS.out⟩
      case measure => simp [intOf]; omega
    · have hkn : k = n := by omega
      rw [hkn, Nat.sub_self, List.replicate_zero, List.nil_append] at ho
      have hcv := run_tostr (P := Try.prog) wr 74 9 5 (a := ⟨w.heap.size, 0, none⟩) (n := n) (cap := n) Try.underlying74 Try.underlying5 Try.underlying9 (be_length n x) (by obtain ⟨_, _, e, _, _, _, r⟩ := ho.rd; cases e; exact r)
      clear hkn ho hb
      go_wp2_with fail
      go_ret
      exact ⟨rfl, Hb.out⟩

set_option maxRecDepth 100000 in
set_option maxHeartbeats 1600000 in
theorem refput_c (X : Int) (n : Nat) (w : World) (h1 : 1 ≤ n) (h8 : n ≤ 8) (hx0 : 0 ≤ X) (hX : X < 18446744073709551616) :
    Calls Try.prog 85 #[.int .u64 X, .int .i64 n] w fun e w' => e = .returned (.string ⟨(be n X.toNat).toArray⟩) ∧ Ext w w' := by
  go_enter Try.func85, Try.ntmps85
  go_wp2_with fail
  go_loopw [0, 5, 6] (fun v s i w' => ∃ (k : Nat) (Z : Int), k ≤ n ∧ i = .int .i64 k ∧ v = .int .u64 Z ∧ 0 ≤ Z ∧ Z < 18446744073709551616 ∧ Z.toNat = X.toNat / 256 ^ k ∧ s = .string ⟨(be k X.toNat).toArray⟩ ∧ Ext w w') (fun _ _ i _ => n - (intOf i).toNat)
  case atStart => exact ⟨0, X, Nat.zero_le _, rfl, rfl, hx0, hX, by simp, rfl, Ext.refl _⟩
  case round =>
    obtain ⟨k, Z, hk, rfl, rfl, hz0, hz1, hzx, rfl, hb⟩ := hrel
    have Hb := Lib.hid hb; have HZ := Lib.hid hzx
    clear hb hzx
    have hbl : (be k X.toNat).length ≤ 8 := by rw [be_length]; omega
    generalize hL : be k X.toNat = L at *
    have HL := Lib.hid hL; clear hL
    by_cases hlt : k < n
    · have hby : Z % 256 = ((UInt8.ofNat (X.toNat / 256 ^ k)).toNat : Int) := by
        rw [← HZ.out, UInt8.toNat_ofNat']; omega
      have hcv := run_tostr1 (P := Try.prog) wr 74 9 5 (Z % 256) _ Try.underlying74 Try.underlying5 Try.underlying9 hby
      have hbe : be (k + 1) X.toNat = UInt8.ofNat (X.toNat / 256 ^ k) :: L := by rw [← HL.out]; rfl
      have HBE := Lib.hid hbe
      have hz2 : (Z / 256).toNat = X.toNat / 256 ^ (k + 1) := by rw [Nat.pow_succ, ← Nat.div_div_eq_div_mul, ← HZ.out]; omega
      have HZ2 := Lib.hid hz2
      clear hby hbe hz2
      generalize UInt8.ofNat (X.toNat / 256 ^ k) = b at *
      go_wp2_with fail
      go_roundw
      case rel => exact ⟨k + 1, Z / 256, by omega, by go_num, rfl, by omega, by omega, HZ2.out, by rw [HBE.out]; simp [ByteArray.mk_append_mk], Hb.out.alloc _⟩
      case measure => simp [intOf]; omega
    · have hkn : k = n := by omega
      have HK := Lib.hid hkn; clear hkn
      go_wp2_with fail
      go_ret
      exact ⟨by rw [← HK.out, HL.out]; rfl, Hb.out⟩

/-- the same, the size as a number of the program's -/
theorem put_z (X N : Int) (w : World) (h1 : 1 ≤ N) (h8 : N ≤ 8) (hx0 : 0 ≤ X) (hX : X < 18446744073709551616) :
    Calls Try.prog 100 #[.int .u64 X, .int .i64 N] w fun e w' => e = .returned (.string ⟨(be N.toNat X.toNat).toArray⟩) ∧ Ext w w' := by
  have e : N = (N.toNat : Int) := by omega
  have h := put_c X N.toNat w (by omega) (by omega) hx0 hX
  rwa [← e] at h
theorem put_k (X N : Int) (k : Nat) (w : World) (hN : N = (k : Int)) (h1 : 1 ≤ N) (h8 : N ≤ 8) (hx0 : 0 ≤ X) (hX : X < 18446744073709551616) :
    Calls Try.prog 100 #[.int .u64 X, .int .i64 N] w fun e w' => e = .returned (.string ⟨(be k X.toNat).toArray⟩) ∧ Ext w w' := by
  subst hN; exact put_c X k w (by omega) (by omega) hx0 hX
theorem put_n (x : Nat) (N : Int) (k : Nat) (w : World) (hN : N = (k : Int)) (h1 : 1 ≤ N) (h8 : N ≤ 8) (hX : (x : Int) < 18446744073709551616) :
    Calls Try.prog 100 #[.int .u64 (x : Int), .int .i64 N] w fun e w' => e = .returned (.string ⟨(be k x).toArray⟩) ∧ Ext w w' := by
  have h := put_k (x : Int) N k w hN h1 h8 (by omega) hX
  rwa [Int.toNat_natCast] at h
theorem refput_n (x : Nat) (N : Int) (k : Nat) (w : World) (hN : N = (k : Int)) (h1 : 1 ≤ N) (h8 : N ≤ 8) (hX : (x : Int) < 18446744073709551616) :
    Calls Try.prog 85 #[.int .u64 (x : Int), .int .i64 N] w fun e w' => e = .returned (.string ⟨(be k x).toArray⟩) ∧ Ext w w' := by
  subst hN
  have h := refput_c (x : Int) k w (by omega) (by omega) (by omega) hX
  rwa [Int.toNat_natCast] at h
theorem refput_k (X N : Int) (k : Nat) (w : World) (hN : N = (k : Int)) (h1 : 1 ≤ N) (h8 : N ≤ 8) (hx0 : 0 ≤ X) (hX : X < 18446744073709551616) :
    Calls Try.prog 85 #[.int .u64 X, .int .i64 N] w fun e w' => e = .returned (.string ⟨(be k X.toNat).toArray⟩) ∧ Ext w w' := by
  subst hN; exact refput_c X k w (by omega) (by omega) hx0 hX
theorem refput_z (X N : Int) (w : World) (h1 : 1 ≤ N) (h8 : N ≤ 8) (hx0 : 0 ≤ X) (hX : X < 18446744073709551616) :
    Calls Try.prog 85 #[.int .u64 X, .int .i64 N] w fun e w' => e = .returned (.string ⟨(be N.toNat X.toNat).toArray⟩) ∧ Ext w w' := by
  have e : N = (N.toNat : Int) := by omega
  have h := refput_c X N.toNat w (by omega) (by omega) hx0 hX
  rwa [← e] at h

set_option maxRecDepth 100000 in
set_option maxHeartbeats 1600000 in
theorem get_c (l : List UInt8) (w : World) (hl : l.length ≤ 9223372036854775807) :
    Calls Try.prog 104 #[.string ⟨l.toArray⟩] w fun e w' => e = .returned (.int .u64 (unbe (l.take 8))) ∧ Ext w w' := by
  obtain ⟨m, hm⟩ : ∃ m : Nat, m = min l.length 8 := ⟨_, rfl⟩
  have hmin : (if (8 : Int) < (l.length : Int) then (8 : Int) else (l.length : Int)) = (m : Int) := by split <;> omega
  have hm1 : m ≤ l.length := by omega
  have hm8 : m ≤ 8 := by omega
  have htk : l.take 8 = l.take m := by
    rw [hm]; rcases Nat.le_total l.length 8 with h | h
    · rw [Nat.min_eq_left h, List.take_of_length_le h, List.take_length]
    · rw [Nat.min_eq_right h]
  have HTK := Lib.hid htk
  clear hm htk
  go_enter Try.func104, Try.ntmps104
  go_wp2_with fail
  clear hmin
  go_loopw [3, 8] (fun v i w' => ∃ (k : Nat) (Z : Int), k ≤ m ∧ i = .int .i64 k ∧ v = .int .u64 Z ∧ Z = (unbe (l.take k) : Int) ∧ Ext w w') (fun _ i _ => m - (intOf i).toNat)
  case atStart => exact ⟨0, 0, Nat.zero_le _, rfl, rfl, rfl, Ext.refl _⟩
  case round =>
    obtain ⟨k, Z, hk, rfl, rfl, hz, hb⟩ := hrel
    have Hb := Lib.hid hb; have HZ := Lib.hid hz
    clear hb
    by_cases hlt : k < m
    · have hz0 : 0 ≤ Z := by omega
      have hz1 : Z < 72057594037927936 := by
        have h1 := unbe_lt (l.take k)
        have h2 : (l.take k).length = k := by simp; omega
        rw [h2] at h1
        have h3 : (256 : Nat) ^ k ≤ 256 ^ 7 := Nat.pow_le_pow_right (by decide) (by omega)
        omega
      clear hz
      have hkl : k < l.length := by omega
      go_wp2_with fail
      go_roundw
      case rel => exact ⟨k + 1, _, by omega, by go_num, rfl, by
        have e := u64_or_byte Z l[k] hz0 hz1
        rw [show ((⟨l.toArray⟩ : ByteArray)[k]) = l[k] from rfl, e, HZ.out, List.take_succ_eq_append_getElem hkl, unbe_snoc]
        omega, Hb.out⟩
      case measure => simp [intOf]; omega
    · have hkm : k = m := by omega
      have HK := Lib.hid hkm; clear hkm hz
      go_wp2_with fail
      go_ret
      exact ⟨rn (by rw [HTK.out, HZ.out, HK.out]), Hb.out⟩

set_option maxRecDepth 100000 in
set_option maxHeartbeats 1600000 in
theorem refget_c (l : List UInt8) (w : World) (hl : l.length ≤ 9223372036854775807) :
    Calls Try.prog 83 #[.string ⟨l.toArray⟩] w fun e w' => e = .returned (.int .u64 (unbe (l.take 8))) ∧ Ext w w' := by
  obtain ⟨m, hm⟩ : ∃ m : Nat, m = min l.length 8 := ⟨_, rfl⟩
  have hm1 : m ≤ l.length := by omega
  have hm8 : m ≤ 8 := by omega
  have hmm : m < 8 → l.length ≤ m := by omega
  have HMM := Lib.hid hmm
  have htk : l.take 8 = l.take m := by
    rw [hm]; rcases Nat.le_total l.length 8 with h | h
    · rw [Nat.min_eq_left h, List.take_of_length_le h, List.take_length]
    · rw [Nat.min_eq_right h]
  have HTK := Lib.hid htk
  clear hm htk hmm
  go_enter Try.func83, Try.ntmps83
  go_wp2_with fail
  go_loopw [3, 4] (fun v i w' => ∃ (k : Nat) (Z : Int), k ≤ m ∧ i = .int .i64 k ∧ v = .int .u64 Z ∧ Z = (unbe (l.take k) : Int) ∧ Ext w w') (fun _ i _ => m - (intOf i).toNat)
  case atStart => exact ⟨0, 0, Nat.zero_le _, rfl, rfl, rfl, Ext.refl _⟩
  case round =>
    obtain ⟨k, Z, hk, rfl, rfl, hz, hb⟩ := hrel
    have Hb := Lib.hid hb; have HZ := Lib.hid hz
    clear hb
    by_cases hlt : k < m
    · have hz0 : 0 ≤ Z := by omega
      have hz1 : Z < 72057594037927936 := by
        have h1 := unbe_lt (l.take k)
        have h2 : (l.take k).length = k := by simp; omega
        rw [h2] at h1
        have h3 : (256 : Nat) ^ k ≤ 256 ^ 7 := Nat.pow_le_pow_right (by decide) (by omega)
        omega
      clear hz
      have hkl : k < l.length := by omega
      have hk8 : k < 8 := by omega
      have hby : (l[k].toNat : Int) < 256 := by have := l[k].toNat_lt; omega
      have hby0 : 0 ≤ (l[k].toNat : Int) := by omega
      have hw : IntKind.u64.wrap (((⟨l.toArray⟩ : ByteArray)[k]).toNat : Int) = (l[k].toNat : Int) := by
        rw [show ((⟨l.toArray⟩ : ByteArray)[k]) = l[k] from rfl, IntKind.wrap_u64]; omega
      have HE : Hid (Z * 256 + (l[k].toNat : Int) = (unbe (l.take (k + 1)) : Int)) := Lib.hid (by
        rw [HZ.out, List.take_succ_eq_append_getElem hkl, unbe_snoc]; omega)
      generalize (l[k].toNat : Int) = Y at *
      go_wp2_with fail
      go_roundw
      case rel => exact ⟨k + 1, _, by omega, by go_num, rfl, HE.out, Hb.out⟩
      case measure => simp [intOf]; omega
    · have hkm : k = m := by omega
      have HK := Lib.hid hkm
      clear hz
      by_cases h8 : m < 8
      · have := HMM.out h8
        have hge : ¬ k < l.length := by omega
        clear hkm this
        go_wp2_with fail
        go_ret
        exact ⟨rn (by rw [HTK.out, HZ.out, HK.out]), Hb.out⟩
      · have hk8 : ¬ k < 8 := by omega
        by_cases hkl : k < l.length
        · clear hkm
          go_wp2_with fail
          go_ret
          exact ⟨rn (by rw [HTK.out, HZ.out, HK.out]), Hb.out⟩
        · clear hkm
          go_wp2_with fail
          go_ret
          exact ⟨rn (by rw [HTK.out, HZ.out, HK.out]), Hb.out⟩

end Go.Proofs.Ytoibjhoebjcfeaa
