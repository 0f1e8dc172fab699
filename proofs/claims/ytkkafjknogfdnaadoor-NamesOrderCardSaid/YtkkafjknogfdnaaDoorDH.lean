/- Walks: names stand to each other as their numbers do. -/
import Derived.Test.YtkkafjknogfdnaaDoorChecked
import Derived.Test.YtkkafjknogfdnaaDoorDE
namespace Go.Proofs.YtkkafjknogfdnaaDoor
open Go.RowKit

set_option maxRecDepth 100000 in
set_option maxHeartbeats 3200000 in
theorem norder_c (a b : Int) (w : World) (ha0 : 0 ≤ a) (_ha1 : a ≤ 4294967295) (hb0 : 0 ≤ b) (_hb1 : b ≤ 4294967295) : Calls Tryd.prog 6 #[.int .u32 a, .int .u32 b] w fun e w' => e = .returned (.bool true) ∧ Ext w w' := by
  obtain ⟨m, hm⟩ : ∃ m, a % 1000000 = m := ⟨_, rfl⟩
  obtain ⟨n, hn⟩ : ∃ n, b % 1000000 = n := ⟨_, rfl⟩
  have m0 : 0 ≤ m := by omega
  have m1 : m ≤ 999999 := by omega
  have n0 : 0 ≤ n := by omega
  have n1 : n ≤ 999999 := by omega
  have HLc := Lib.hid (nameS_less 99 m n ⟨m0, m1⟩ ⟨n0, n1⟩)
  have HLt := Lib.hid (nameS_less 116 m n ⟨m0, m1⟩ ⟨n0, n1⟩)
  have HEb := Lib.hid (nameS_eq 98 m n ⟨m0, m1⟩ ⟨n0, n1⟩)
  go_enter Tryd.func6, Tryd.ntmps6
  go_wp2_with fail
  refine (parse_v (s := [109, 97, 112]) (c := 0) (n := 0) (ok := false) (by decide) 0 0 rfl rfl _ (by decide)).mono ?_
  rintro e w1 ⟨rfl, hb⟩
  have H1 := Lib.hid (hb); clear hb
  go_wp2_with fail
  refine (parse_v (s := [110, 101, 119]) (c := 0) (n := 0) (ok := false) (by decide) 0 0 rfl rfl _ (by decide)).mono ?_
  rintro e w2 ⟨rfl, hb⟩
  have H2 := Lib.hid (H1.out.trans hb); clear hb H1
  clear hm hn
  obtain ⟨Ncm, hncm⟩ : ∃ l, nameS 99 m = l := ⟨_, rfl⟩
  obtain ⟨Ncn, hncn⟩ : ∃ l, nameS 99 n = l := ⟨_, rfl⟩
  obtain ⟨Ntm, hntm⟩ : ∃ l, nameS 116 m = l := ⟨_, rfl⟩
  obtain ⟨Ntn, hntn⟩ : ∃ l, nameS 116 n = l := ⟨_, rfl⟩
  obtain ⟨Nbm, hnbm⟩ : ∃ l, nameS 98 m = l := ⟨_, rfl⟩
  obtain ⟨Nbn, hnbn⟩ : ∃ l, nameS 98 n = l := ⟨_, rfl⟩
  rw [hncm, hncn] at HLc
  rw [hntm, hntn] at HLt
  rw [hnbm, hnbn] at HEb
  have HNcm := Lib.hid hncm; clear hncm
  have HNcn := Lib.hid hncn; clear hncn
  have HNtm := Lib.hid hntm; clear hntm
  have HNtn := Lib.hid hntn; clear hntn
  have HNbm := Lib.hid hnbm; clear hnbm
  have HNbn := Lib.hid hnbn; clear hnbn
  obtain ⟨d, hd⟩ : ∃ d, decide (m < n) = d := ⟨_, rfl⟩
  obtain ⟨q, hq⟩ : ∃ q, decide (m = n) = q := ⟨_, rfl⟩
  have HLc2 : Hid (Op.bytesLess Ncm Ncn = d) := Lib.hid (by rw [HLc.out, hd])
  have HLt2 : Hid (Op.bytesLess Ntm Ntn = d) := Lib.hid (by rw [HLt.out, hd])
  have HEb2 : Hid ((Nbm == Nbn) = q) := Lib.hid (by rw [HEb.out, hq])
  have HQ2 : Hid ((m == n) = q) := Lib.hid (by rw [← hq]; rfl)
  have HD := Lib.hid hd; have HQ := Lib.hid hq
  clear hd hq HLc HLt HEb
  go_wp2_with fail
  refine (chunk_c m _).mono ?_
  rw [HNcm.out]
  rintro e w3 ⟨rfl, hb⟩
  have H3 := Lib.hid (H2.out.trans hb); clear hb H2
  go_wp2_with fail
  refine (chunk_c n _).mono ?_
  rw [HNcn.out]
  rintro e w4 ⟨rfl, hb⟩
  have H4 := Lib.hid (H3.out.trans hb); clear hb H3
  have hl1 := HLc2.out; have hd := HD.out
  go_wp2_with fail
  refine (table_c m _).mono ?_
  rw [HNtm.out]
  rintro e w5 ⟨rfl, hb⟩
  have H5 := Lib.hid (H4.out.trans hb); clear hb H4
  clear hl1
  go_wp2_with fail
  refine (table_c n _).mono ?_
  rw [HNtn.out]
  rintro e w6 ⟨rfl, hb⟩
  have H6 := Lib.hid (H5.out.trans hb); clear hb H5
  have hl1 := HLt2.out
  go_wp2_with fail
  refine (bloom_c m _).mono ?_
  rw [HNbm.out]
  rintro e w7 ⟨rfl, hb⟩
  have H7 := Lib.hid (H6.out.trans hb); clear hb H6
  clear hl1
  go_wp2_with fail
  refine (bloom_c n _).mono ?_
  rw [HNbn.out]
  rintro e w8 ⟨rfl, hb⟩
  have H8 := Lib.hid (H7.out.trans hb); clear hb H7
  have hl1 := HEb2.out; have hq := HQ2.out
  go_wp2_with fail
  refine (named_c _).mono ?_
  rintro e w9 ⟨rfl, hb⟩
  have H9 := Lib.hid (H8.out.trans hb); clear hb H8
  go_wp2_with fail
  go_ret
  exact ⟨rfl, H9.out⟩

end Go.Proofs.YtkkafjknogfdnaaDoor
