/- Walks: names of files. -/
import Derived.Test.YtmoieamadjjloaaGreatChecked
import Derived.Test.YtmoieamadjjloaaGreatG7PPtablesRefused
import Derived.Test.YtmoieamadjjloaaGreatG33PPtablesRefused
set_option linter.unusedVariables false
set_option linter.unusedSimpArgs false
namespace Go.Proofs.YtmoieamadjjloaaGreat
open Go.RowKit

theorem Tryz.infoU8 : (Tryz.prog.info? 5).map (fun i => (i.zero, i.size, i.bytes)) = some (some (.int .u8 0), 1, 1) := by kernel_rfl

theorem conv_c : ∀ w, (convert 5 9 (.int .u8 99)).run Tryz.prog w = .ok (.string ⟨#[99]⟩) w := fun _ => by kernel_rfl
theorem conv_t : ∀ w, (convert 5 9 (.int .u8 116)).run Tryz.prog w = .ok (.string ⟨#[116]⟩) w := fun _ => by kernel_rfl
theorem conv_b : ∀ w, (convert 5 9 (.int .u8 98)).run Tryz.prog w = .ok (.string ⟨#[98]⟩) w := fun _ => by kernel_rfl

theorem dig_int (m : Nat) : (48 + (m : Int) % 10) % 256 = ((UInt8.ofNat (48 + m % 10)).toNat : Int) := by rw [dig_toNat]; omega
theorem dig_int' (m : Nat) : (48 + (m : Int) % 10) = ((UInt8.ofNat (48 + m % 10)).toNat : Int) := by rw [dig_toNat]; omega

theorem set_dig (k n : Nat) (hk : k < 6) : (List.replicate (6 - k) (Value.int .u8 0) ++ (digs k n).map byteV).set (5 - k) (byteV (UInt8.ofNat (48 + n / 10 ^ k % 10))) = List.replicate (6 - (k + 1)) (.int .u8 0) ++ (digs (k + 1) n).map byteV := by
  rw [show 6 - k = (6 - (k + 1)) + 1 from by omega, show 5 - k = 6 - (k + 1) from by omega]
  rw [List.replicate_succ', List.append_assoc, List.set_append]
  simp [digs]

set_option maxRecDepth 100000 in
set_option maxHeartbeats 1600000 in
theorem file_c (c : UInt8) (C n : Int) (w : World) (hC : C = (c.toNat : Int)) (hcv : ∀ w, (convert 5 9 (.int .u8 C)).run Tryz.prog w = .ok (.string ⟨#[c]⟩) w) :
    Calls Tryz.prog 50 #[.int .u8 C, .int .i64 n] w fun e w' => e = .returned (.string ⟨(nameS c n).toArray⟩) ∧ Ext w w' := by
  subst hC
  by_cases h0 : n < 0
  · have HN := Lib.hid (nameS_no (c := c) (n := n) (by omega))
    clear hcv
    go_enter Tryz.func50, Tryz.ntmps50
    go_wp2_with fail
    go_ret
    exact ⟨by rw [HN.out]; rfl, Ext.refl _⟩
  by_cases h1 : 999999 < n
  · have HN := Lib.hid (nameS_no (c := c) (n := n) (by omega))
    clear hcv
    go_enter Tryz.func50, Tryz.ntmps50
    go_wp2_with fail
    go_ret
    exact ⟨by rw [HN.out]; rfl, Ext.refl _⟩
  have HN := Lib.hid (nameS_yes (c := c) (n := n) (by omega))
  obtain ⟨N, hN⟩ : ∃ N : Nat, n = (N : Int) := ⟨n.toNat, by omega⟩
  subst hN
  have hN6 : N ≤ 999999 := by omega
  have HNb := Lib.hid hN6
  rw [Int.toNat_natCast] at HN
  obtain ⟨i, hi, hz, hsize, hby⟩ := info_parts Tryz.infoU8
  have HCV := Lib.hid hcv
  clear h0 h1 hcv
  have b0 : 0 ≤ (N : Int) := by omega
  have b1 : (N : Int) ≤ 999999 := by omega
  go_enter Tryz.func50, Tryz.ntmps50
  go_wp2_with (at_make; refine wpList_make_full _ rfl _ _ 97 rfl w.heap.size 5 i (.int .u8 0) 1 Tryz.underlying97 hi hz hsize .i64 .i64 _ _ 6 rfl rfl rfl rfl (by rw [hby]; omega) (by unfold maxLen; omega) (Nat.le_refl _) ?_; intro w2 hown hg)
  clear hi hz hsize hby
  have ho := Own.of_row hown
  rw [Nat.mul_one, show (madeCells (Value.int .u8 0).cells 6).toList = List.replicate 6 (.int .u8 0) from toList_madeCells_one _ _] at ho
  have hb0 : Ext w w2 := (Ext.refl w).grown hg (Nat.le_refl _) (fun k hk => by cases hk)
  have HO := Lib.hid ho; have HB0 := Lib.hid hb0
  clear hown hg ho hb0
  go_loopw [1, 14] (fun v i w' => ∃ k m : Nat, k ≤ 6 ∧ i = .int .i64 k ∧ v = .int .i64 m ∧ m = N / 10 ^ k ∧ Own w' w.heap.size 5 1 (.slice (some ⟨w.heap.size, 0, none⟩) 6 6) 6 (List.replicate (6 - k) (.int .u8 0) ++ (digs k N).map byteV) ∧ Ext w w') (fun _ i _ => 6 - (intOf i).toNat)
  case atStart => exact ⟨0, N, by omega, rfl, rfl, by simp, by simpa [digs] using HO.out, HB0.out⟩
  case round =>
    clear HO HB0
    obtain ⟨k, m, hk, rfl, rfl, hm, ho, hb⟩ := hrel
    have HM := Lib.hid hm
    have hm6 : (m : Int) ≤ 999999 := by have := Nat.div_le_self N (10 ^ k); have := HNb.out; omega
    have Hb := Lib.hid hb; have HO := Lib.hid ho
    clear hm
    by_cases hlt : k < 6
    · obtain ⟨g, c', u, e, d1, d2, d3⟩ := ho.cellE (j := 5 - k) (by omega)
      cases e
      have hst := ho.stored (g := w.heap.size) (cap := 6) rfl (j := 5 - k) (byteV (UInt8.ofNat (48 + N / 10 ^ k % 10)))
      rw [set_dig k N hlt, ← HM.out] at hst
      have hbs := hb.setCell (p := ⟨w.heap.size, 5 - k, none⟩) (Nat.le_refl _) (byteV (UInt8.ofNat (48 + m % 10)))
      rw [show byteV (UInt8.ofNat (48 + m % 10)) = .int .u8 (48 + (m : Int) % 10) from by rw [dig_int']] at hst hbs
      have HS := Lib.hid hst; have HBS := Lib.hid hbs
      clear ho hb hst hbs
      go_wp2_with fail
      go_roundw
      case rel => exact ⟨k + 1, m / 10, by omega, by go_num, by go_num, by rw [HM.out, Nat.div_div_eq_div_mul, Nat.pow_succ], HS.out, HBS.out⟩
      case measure => simp [intOf]; omega
    · have hk6 : k = 6 := by omega
      rw [hk6, Nat.sub_self, List.replicate_zero, List.nil_append] at ho
      have hcv2 := run_tostr (P := Tryz.prog) wr 97 9 5 (a := ⟨w.heap.size, 0, none⟩) (n := 6) (cap := 6) Tryz.underlying97 Tryz.underlying5 Tryz.underlying9 (digs_length 6 N) (by obtain ⟨_, _, e, _, _, _, r⟩ := ho.rd; cases e; exact r)
      have hcv := HCV.out
      clear hk6 ho hb
      go_wp2_with fail
      go_ret
      exact ⟨by rw [HN.out]; rfl, Hb.out⟩

set_option maxRecDepth 100000 in
theorem table_c (n : Int) (w : World) : Calls Tryz.prog 20 #[.int .i64 n] w fun e w' => e = .returned (.string ⟨(nameS 116 n).toArray⟩) ∧ Ext w w' := by
  go_enter Tryz.func20, Tryz.ntmps20
  go_wp2_with fail
  refine (file_c 116 _ _ _ rfl conv_t).mono ?_
  rintro e w1 ⟨rfl, hb⟩
  have HB := Lib.hid hb; clear hb
  go_wp2_with fail
  go_ret
  exact ⟨rfl, HB.out⟩

set_option maxRecDepth 100000 in
theorem bloom_c (n : Int) (w : World) : Calls Tryz.prog 26 #[.int .i64 n] w fun e w' => e = .returned (.string ⟨(nameS 98 n).toArray⟩) ∧ Ext w w' := by
  go_enter Tryz.func26, Tryz.ntmps26
  go_wp2_with fail
  refine (file_c 98 _ _ _ rfl conv_b).mono ?_
  rintro e w1 ⟨rfl, hb⟩
  have HB := Lib.hid hb; clear hb
  go_wp2_with fail
  go_ret
  exact ⟨rfl, HB.out⟩

def streamB (s : List UInt8) : Bool := decide (1 ≤ s.length) && decide (s.length ≤ 32)

end Go.Proofs.YtmoieamadjjloaaGreat
