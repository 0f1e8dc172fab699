/- Walks: the law PtablesFilter. -/
import Derived.Test.YtmoieamadjjloaaGreatG40PPtablesFilter
import Derived.Deep.CutRange
set_option linter.unusedVariables false
set_option linter.unusedSimpArgs false
namespace Go.Proofs.YtmoieamadjjloaaGreat
open Go.RowKit

set_option maxRecDepth 100000
set_option linter.unusedVariables false
set_option maxHeartbeats 12800000

theorem wrap_le (x : Int) : IntKind.i64.wrap x ≤ 9223372036854775807 := by rw [IntKind.wrap_i64]; omega

theorem filterlaw_c {ao bo : Option Addr} {n cap k bcap : Nat} {R A : List En} (s : List UInt8) (w : World) (hx : EnsIn w ao n cap R) (ha : AsksIn w bo k bcap A) (hsl : s.length ≤ 9223372036854775807) :
    Calls Tryz.prog 5 #[.slice ao n cap, .slice bo k bcap, .string ⟨s.toArray⟩] w fun e w' => e = .returned (.bool true) ∧ Ext w w' := by
  have HSm := Lib.hid small_c
  have b1 := hx.fits; have b2 := hx.bound; have b3 := ha.fits; have b4 := ha.bound
  by_cases hbig : 60 < n ∨ 20 < k ∨ 500 < s.length
  · have hd : decide ((60 : Int) < (n : Int)) = true ∨ (decide ((60 : Int) < (n : Int)) = false ∧ (decide ((20 : Int) < (k : Int)) = true ∨ (decide ((20 : Int) < (k : Int)) = false ∧ decide ((500 : Int) < (s.length : Int)) = true))) := by
      by_cases h : 60 < n
      · exact .inl (decide_eq_true (by omega))
      · by_cases h2 : 20 < k
        · exact .inr ⟨decide_eq_false (by omega), .inl (decide_eq_true (by omega))⟩
        · exact .inr ⟨decide_eq_false (by omega), .inr ⟨decide_eq_false (by omega), decide_eq_true (by omega)⟩⟩
    clear hbig hx ha
    rcases hd with hd | ⟨hd, hd2 | ⟨hd2, hd3⟩⟩
    all_goals
      go_enter Tryz.func5, Tryz.ntmps5
      go_wp2_with fail
      refine (HSm.out _).mono ?_
      rintro e w1 ⟨rfl, hb⟩
      have HB := Lib.hid hb
      clear hb
      go_wp2_with fail
      go_ret
      exact ⟨rfl, HB.out⟩
  · have hn : n ≤ 60 := by omega
    have hk : k ≤ 20 := by omega
    have hd1 : decide ((60 : Int) < (n : Int)) = false := decide_eq_false (by omega)
    have hd2 : decide ((20 : Int) < (k : Int)) = false := decide_eq_false (by omega)
    have hd3 : decide ((500 : Int) < (s.length : Int)) = false := decide_eq_false (by omega)
    have HMd := Lib.hid (made_c w hx.ens (by omega) (fun e he => (hx.ok e he).h0))
    obtain ⟨ms, mo, ml⟩ := madeL_ok R (fun e he => (hx.ok e he).h0)
    rw [hx.len] at ml
    generalize madeL R = M at *
    have HA := Lib.hid ha
    have HMs := Lib.hid ms; have HMo := Lib.hid mo
    have HBl := Lib.hid (fun W => bloom_c 1 W)
    have hnl := nameS_le 98 1
    have hne : nameS 98 1 ≠ nameS 116 1 := (name_tb 1 1 (by decide) (by decide)).symm
    have hs5 : s.length ≤ 500 := by omega
    clear hbig hx ha ms mo
    go_enter Tryz.func5, Tryz.ntmps5
    go_wp2_with fail
    refine HMd.out.mono ?_
    rintro e w1 ⟨v, rfl, hrow, hb1⟩
    have HX1 := Lib.hid hb1
    obtain ⟨va, vc, rfl, hens⟩ := Ens.of_own (Own.of_row hrow)
    have HEn := Lib.hid hens
    have HN := Lib.hid (DkW.make w1 40000 (by decide) (by decide))
    have hlf := hens.fits; have hlb := hens.bound
    clear hrow hb1 hens HMd
    go_wp2_with fail
    refine HN.out.mono ?_
    rintro e w2 ⟨g, rfl, hd2'⟩
    have HWr := Lib.hid (hd2'.write 1 4576918229304087675 (HEn.out.ext hd2'.base) (by omega) HMo.out)
    clear hd2' HN
    go_wp2_with fail
    refine HWr.out.mono ?_
    rintro e w4 ⟨f, f1, f2, he, hd4, hs4⟩
    obtain ⟨σ', e4, p4, r4⟩ := write_new (c := 40000) (n := 1) (by decide) (L := M) ((sortB_iff _).2 HMs.out) (f := f) (by
      have h1 := tabB_length M
      omega)
    rw [e4] at he hd4
    subst he
    have hwf : Wf σ' 1 M 0 := ⟨p4.wl (x := nameS 116 1) (by rfl), p4.fine, by rw [r4]; exact Int.le_refl _, by rw [r4]; exact Int.le_refl _⟩
    have HD4 := Lib.hid hd4
    have HWf := Lib.hid hwf
    clear hd4 hs4 e4 p4 r4 hwf HWr
    go_wp2_with fail
    refine (HBl.out _).mono ?_
    rintro e w5 ⟨rfl, hb5⟩
    have HD5 := Lib.hid (HD4.out.grow hb5)
    generalize nameS 98 1 = BN at *
    have HSz := Lib.hid (HD5.out.size BN hnl)
    have hzb := size_bounds HD5.out.ok BN
    obtain ⟨zz, hzz⟩ : ∃ zz, sizeM σ' BN = zz := ⟨_, rfl⟩
    rw [hzz] at HSz hzb
    obtain ⟨z, zc⟩ := zz
    simp only at hzb HSz
    clear hb5 hzz HD4 HBl
    go_wp2_with fail
    refine HSz.out.mono ?_
    rintro e w5' ⟨rfl, rfl⟩
    have q1 : IntKind.i64.wrap ((s.length : Int) * 7) = (s.length : Int) * 7 := by rw [IntKind.wrap_i64]; omega
    have q2 : IntKind.i64.wrap ((s.length : Int) * 13) = (s.length : Int) * 13 := by rw [IntKind.wrap_i64]; omega
    have q3 : IntKind.i64.wrap (z + 1) = z + 1 := by rw [IntKind.wrap_i64]; omega
    have q4 : ¬ (z + 1 = 0) := by omega
    have HML := Lib.hid ml
    clear HSz
    go_wp2_with fail
    go_loopw [13] (fun i W => ∃ (j : Nat) (τ : DM), j ≤ 4 ∧ i = .int .i64 (j : Int) ∧ DkW w1 W g τ (fun _ => False) ∧ Wf τ 1 M (j * 3000)) (fun i _ => 4 - (intOf i).toNat)
    case atStart => exact ⟨0, σ', Nat.zero_le _, rfl, HD5.out, by simpa using HWf.out⟩
    case round =>
      obtain ⟨j, τ, hj, rfl, hdk, hwf⟩ := hrel
      have HDk := Lib.hid hdk; have HWj := Lib.hid hwf
      have HSp := Lib.hid (fun (a : Int) (ha : a ≤ 9223372036854775807) => hdk.spoil BN s hnl (by omega) a ha)
      have HCu := Lib.hid (fun (a : Int) (ha : a ≤ 9223372036854775807) => hdk.cut BN hnl a ha)
      have HDe := Lib.hid (hdk.delete BN hnl)
      have HNe := Lib.hid hne
      clear hdk hwf
      by_cases hlt : j < 4
      · have hd : decide ((j : Int) < 4) = true := decide_eq_true (by omega)
        have q5 : IntKind.i64.wrap ((j : Int) + 1) = (j : Int) + 1 := by rw [IntKind.wrap_i64]; omega
        obtain ⟨a1, hA1⟩ : ∃ a1, ((s.length : Int) * 7).tmod (z + 1) = a1 := ⟨_, rfl⟩
        obtain ⟨a2, hA2⟩ : ∃ a2, ((s.length : Int) * 13).tmod (z + 1) = a2 := ⟨_, rfl⟩
        have r1 : IntKind.i64.wrap a1 = a1 ∧ a1 ≤ 9223372036854775807 := by
          rw [Int.tmod_eq_emod_of_nonneg (by omega)] at hA1
          have h1 := Int.emod_nonneg ((s.length : Int) * 7) q4
          have h2 := Int.emod_lt_of_pos ((s.length : Int) * 7) (show (0 : Int) < z + 1 by omega)
          rw [IntKind.wrap_i64]; omega
        have r2 : IntKind.i64.wrap a2 = a2 ∧ a2 ≤ 9223372036854775807 := by
          rw [Int.tmod_eq_emod_of_nonneg (by omega)] at hA2
          have h1 := Int.emod_nonneg ((s.length : Int) * 13) q4
          have h2 := Int.emod_lt_of_pos ((s.length : Int) * 13) (show (0 : Int) < z + 1 by omega)
          rw [IntKind.wrap_i64]; omega
        obtain ⟨r1, u1⟩ := r1
        obtain ⟨r2, u2⟩ := r2
        have HSp := Lib.hid (HSp.out a1 u1)
        have HCu := Lib.hid (HCu.out a2 u2)
        have hc : (((j : Int) == 1) = false ∧ ((j : Int) == 2) = false ∧ ((j : Int) == 3) = false) ∨ ((j : Int) == 1) = true ∨ (((j : Int) == 1) = false ∧ ((j : Int) == 2) = true) ∨ (((j : Int) == 1) = false ∧ ((j : Int) == 2) = false ∧ ((j : Int) == 3) = true) := by
          simp only [beq_iff_eq, beq_eq_false_iff_ne]; omega
        have HJ : Hid (j < 4) := Lib.hid hlt
        have HMl : Hid (M.length ≤ 60) := Lib.hid (by omega)
        clear hj hlt u1 u2
        rcases hc with ⟨g1, g2, g3⟩ | g1 | ⟨g1, g2⟩ | ⟨g1, g2, g3⟩
        · have HW8 := Lib.hid HWj.out
          have HD8 := Lib.hid HDk.out
          obtain ⟨c, hc, ho⟩ := openM_ok HW8.out.wl HMs.out HMo.out (by have := HMl.out; omega)
          have HOp := Lib.hid (HD8.out.openT 1 ho)
          have HWc := Lib.hid (HW8.out.tell c (by have := HJ.out; omega) (by omega))
          have HC := Lib.hid hc
          clear HSp HCu HDe HDk HWj HD8 HW8 ho hc
          go_wp2_with fail
          refine HOp.out.mono ?_
          rintro e w9 ⟨t, may, rfl, ht9, _⟩
          have HAn := Lib.hid (answers_c ht9 HWc.out.wl HEn.out (HA.out.ext HX1.out) (by omega) (by have := HMl.out; omega) HWc.out.r0 (by have := HWc.out.r1; have := HJ.out; have := HC.out; omega))
          clear ht9 HOp
          go_wp2_with fail
          refine HAn.out.mono ?_
          rintro e w10 ⟨rfl, d, hdd, ht10⟩
          have HT10 := Lib.hid ht10.disk0
          have HD := Lib.hid hdd
          clear ht10 hdd HAn
          go_wp2_with fail
          go_roundw
          case rel =>
            have h1 := HJ.out
            have h2 := HC.out
            have h3 : d ≤ 1400 := Nat.le_trans HD.out (by
              have := Nat.mul_le_mul hk (show M.length + 9 ≤ 69 by have := HMl.out; omega)
              omega)
            refine ⟨j + 1, _, by omega, by go_num, HT10.out, ?_⟩
            have h5 := HWc.out.tell d (by omega) (by omega)
            exact ⟨h5.wl, h5.fine, h5.r0, by have := h5.r1; push_cast; omega⟩
          case measure => have := HJ.out; simp [intOf]; omega
        · go_wp2_with fail
          refine HSp.out.mono ?_
          rintro e w8 ⟨rfl, hd8, _⟩
          have HW8 := Lib.hid (HWj.out.spoil HNe.out a1 s)
          have HD8 := Lib.hid hd8
          clear hd8
          obtain ⟨c, hc, ho⟩ := openM_ok HW8.out.wl HMs.out HMo.out (by have := HMl.out; omega)
          have HOp := Lib.hid (HD8.out.openT 1 ho)
          have HWc := Lib.hid (HW8.out.tell c (by have := HJ.out; omega) (by omega))
          have HC := Lib.hid hc
          clear HSp HCu HDe HDk HWj HD8 HW8 ho hc
          go_wp2_with fail
          refine HOp.out.mono ?_
          rintro e w9 ⟨t, may, rfl, ht9, _⟩
          have HAn := Lib.hid (answers_c ht9 HWc.out.wl HEn.out (HA.out.ext HX1.out) (by omega) (by have := HMl.out; omega) HWc.out.r0 (by have := HWc.out.r1; have := HJ.out; have := HC.out; omega))
          clear ht9 HOp
          go_wp2_with fail
          refine HAn.out.mono ?_
          rintro e w10 ⟨rfl, d, hdd, ht10⟩
          have HT10 := Lib.hid ht10.disk0
          have HD := Lib.hid hdd
          clear ht10 hdd HAn
          go_wp2_with fail
          go_roundw
          case rel =>
            have h1 := HJ.out
            have h2 := HC.out
            have h3 : d ≤ 1400 := Nat.le_trans HD.out (by
              have := Nat.mul_le_mul hk (show M.length + 9 ≤ 69 by have := HMl.out; omega)
              omega)
            refine ⟨j + 1, _, by omega, by go_num, HT10.out, ?_⟩
            have h5 := HWc.out.tell d (by omega) (by omega)
            exact ⟨h5.wl, h5.fine, h5.r0, by have := h5.r1; push_cast; omega⟩
          case measure => have := HJ.out; simp [intOf]; omega
        · go_wp2_with fail
          refine HCu.out.mono ?_
          rintro e w8 ⟨rfl, hd8, _⟩
          have HW8 := Lib.hid (HWj.out.cut HNe.out a2)
          have HD8 := Lib.hid hd8
          clear hd8
          obtain ⟨c, hc, ho⟩ := openM_ok HW8.out.wl HMs.out HMo.out (by have := HMl.out; omega)
          have HOp := Lib.hid (HD8.out.openT 1 ho)
          have HWc := Lib.hid (HW8.out.tell c (by have := HJ.out; omega) (by omega))
          have HC := Lib.hid hc
          clear HSp HCu HDe HDk HWj HD8 HW8 ho hc
          go_wp2_with fail
          refine HOp.out.mono ?_
          rintro e w9 ⟨t, may, rfl, ht9, _⟩
          have HAn := Lib.hid (answers_c ht9 HWc.out.wl HEn.out (HA.out.ext HX1.out) (by omega) (by have := HMl.out; omega) HWc.out.r0 (by have := HWc.out.r1; have := HJ.out; have := HC.out; omega))
          clear ht9 HOp
          go_wp2_with fail
          refine HAn.out.mono ?_
          rintro e w10 ⟨rfl, d, hdd, ht10⟩
          have HT10 := Lib.hid ht10.disk0
          have HD := Lib.hid hdd
          clear ht10 hdd HAn
          go_wp2_with fail
          go_roundw
          case rel =>
            have h1 := HJ.out
            have h2 := HC.out
            have h3 : d ≤ 1400 := Nat.le_trans HD.out (by
              have := Nat.mul_le_mul hk (show M.length + 9 ≤ 69 by have := HMl.out; omega)
              omega)
            refine ⟨j + 1, _, by omega, by go_num, HT10.out, ?_⟩
            have h5 := HWc.out.tell d (by omega) (by omega)
            exact ⟨h5.wl, h5.fine, h5.r0, by have := h5.r1; push_cast; omega⟩
          case measure => have := HJ.out; simp [intOf]; omega
        · go_wp2_with fail
          refine HDe.out.mono ?_
          rintro e w8 ⟨rfl, hd8, _⟩
          have HW8 := Lib.hid (HWj.out.delete HNe.out)
          have HD8 := Lib.hid hd8
          clear hd8
          obtain ⟨c, hc, ho⟩ := openM_ok HW8.out.wl HMs.out HMo.out (by have := HMl.out; omega)
          have HOp := Lib.hid (HD8.out.openT 1 ho)
          have HWc := Lib.hid (HW8.out.tell c (by have := HJ.out; omega) (by omega))
          have HC := Lib.hid hc
          clear HSp HCu HDe HDk HWj HD8 HW8 ho hc
          go_wp2_with fail
          refine HOp.out.mono ?_
          rintro e w9 ⟨t, may, rfl, ht9, _⟩
          have HAn := Lib.hid (answers_c ht9 HWc.out.wl HEn.out (HA.out.ext HX1.out) (by omega) (by have := HMl.out; omega) HWc.out.r0 (by have := HWc.out.r1; have := HJ.out; have := HC.out; omega))
          clear ht9 HOp
          go_wp2_with fail
          refine HAn.out.mono ?_
          rintro e w10 ⟨rfl, d, hdd, ht10⟩
          have HT10 := Lib.hid ht10.disk0
          have HD := Lib.hid hdd
          clear ht10 hdd HAn
          go_wp2_with fail
          go_roundw
          case rel =>
            have h1 := HJ.out
            have h2 := HC.out
            have h3 : d ≤ 1400 := Nat.le_trans HD.out (by
              have := Nat.mul_le_mul hk (show M.length + 9 ≤ 69 by have := HMl.out; omega)
              omega)
            refine ⟨j + 1, _, by omega, by go_num, HT10.out, ?_⟩
            have h5 := HWc.out.tell d (by omega) (by omega)
            exact ⟨h5.wl, h5.fine, h5.r0, by have := h5.r1; push_cast; omega⟩
          case measure => have := HJ.out; simp [intOf]; omega
      · have hd : decide ((j : Int) < 4) = false := decide_eq_false (by omega)
        have HX8 := Lib.hid (HX1.out.trans HDk.out.base)
        clear HSp HCu HDe HDk HWj
        go_wp2_with fail
        refine (HSm.out _).mono ?_
        rintro e w9 ⟨rfl, hb9⟩
        have HX9 := Lib.hid (HX8.out.trans hb9)
        clear hb9
        go_wp2_with fail
        go_ret
        exact ⟨rfl, HX9.out⟩

end Go.Proofs.YtmoieamadjjloaaGreat
