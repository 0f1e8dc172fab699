/- Walks: names that are told and parsed are the document's. -/
import Derived.Test.YtkkafjknogfdnaaDoorChecked
import Derived.Test.YtkkafjknogfdnaaDoorDE
namespace Go.Proofs.YtkkafjknogfdnaaDoor
open Go.RowKit

set_option maxRecDepth 100000 in
set_option maxHeartbeats 3200000 in
theorem ntell_c (n : Int) (s : List UInt8) (w : World) (hl : s.length ≤ 9223372036854775807) : Calls Tryd.prog 3 #[.int .i64 n, .string ⟨s.toArray⟩] w fun e w' => e = .returned (.bool true) ∧ Ext w w' := by
  go_enter Tryd.func3, Tryd.ntmps3
  by_cases h3 : 300 < (s.length : Int)
  · go_wp2_with fail
    refine (named_c _).mono ?_
    rintro e w1 ⟨rfl, hb⟩
    have H1 := Lib.hid (hb); clear hb
    go_wp2_with fail
    go_ret
    exact ⟨rfl, H1.out⟩
  obtain ⟨Nc, hnc⟩ : ∃ l, nameS 99 n = l := ⟨_, rfl⟩
  have HNc := Lib.hid hnc; clear hnc
  obtain ⟨Nt, hnt⟩ : ∃ l, nameS 116 n = l := ⟨_, rfl⟩
  have HNt := Lib.hid hnt; clear hnt
  obtain ⟨Nb, hnb⟩ : ∃ l, nameS 98 n = l := ⟨_, rfl⟩
  have HNb := Lib.hid hnb; clear hnb
  obtain ⟨B, hB⟩ : ∃ b, streamB s = b := ⟨_, rfl⟩
  have HBs := Lib.hid hB; clear hB
  go_wp2_with fail
  refine (chunk_c n _).mono ?_
  rw [HNc.out]
  rintro e w1 ⟨rfl, hb⟩
  have H1 := Lib.hid (hb); clear hb
  go_wp2_with fail
  refine (refname_c 99 n _).mono ?_
  rw [HNc.out]
  rintro e w2 ⟨rfl, hb⟩
  have H2 := Lib.hid (H1.out.trans hb); clear hb H1
  go_wp2_with fail
  refine (table_c n _).mono ?_
  rw [HNt.out]
  rintro e w3 ⟨rfl, hb⟩
  have H3 := Lib.hid (H2.out.trans hb); clear hb H2
  go_wp2_with fail
  refine (refname_c 116 n _).mono ?_
  rw [HNt.out]
  rintro e w4 ⟨rfl, hb⟩
  have H4 := Lib.hid (H3.out.trans hb); clear hb H3
  go_wp2_with fail
  refine (bloom_c n _).mono ?_
  rw [HNb.out]
  rintro e w5 ⟨rfl, hb⟩
  have H5 := Lib.hid (H4.out.trans hb); clear hb H4
  go_wp2_with fail
  refine (refname_c 98 n _).mono ?_
  rw [HNb.out]
  rintro e w6 ⟨rfl, hb⟩
  have H6 := Lib.hid (H5.out.trans hb); clear hb H5
  go_wp2_with fail
  refine (stream_c s _ hl).mono ?_
  rw [HBs.out]
  rintro e w7 ⟨rfl, hb⟩
  have H7 := Lib.hid (H6.out.trans hb); clear hb H6
  go_wp2_with fail
  refine (refstream_c s _ hl).mono ?_
  rw [HBs.out]
  rintro e w8 ⟨rfl, hb⟩
  have H8 := Lib.hid (H7.out.trans hb); clear hb H7
  go_wp2_with fail
  refine (named_c _).mono ?_
  rintro e w9 ⟨rfl, hb⟩
  have H9 := Lib.hid (H8.out.trans hb); clear hb H8
  go_wp2_with fail
  go_ret
  exact ⟨rfl, H9.out⟩

set_option maxRecDepth 100000 in
set_option maxHeartbeats 3200000 in
theorem nparse_c (s : List UInt8) (w : World) (hl : s.length ≤ 9223372036854775807) : Calls Tryd.prog 4 #[.string ⟨s.toArray⟩] w fun e w' => e = .returned (.bool true) ∧ Ext w w' := by
  go_enter Tryd.func4, Tryd.ntmps4
  by_cases h3 : 300 < (s.length : Int)
  · go_wp2_with fail
    refine (named_c _).mono ?_
    rintro e w1 ⟨rfl, hb⟩
    have H1 := Lib.hid (hb); clear hb
    go_wp2_with fail
    go_ret
    exact ⟨rfl, H1.out⟩
  obtain ⟨p, hp⟩ : ∃ p, parseS s = p := ⟨_, rfl⟩
  obtain ⟨c, n, ok⟩ := p
  have HP := Lib.hid hp; clear hp
  go_wp2_with fail
  refine (parse_c s _ hl).mono ?_
  rw [HP.out]
  rintro e w1 ⟨rfl, hb⟩
  have H1 := Lib.hid (hb); clear hb
  go_wp2_with fail
  refine (refparse_c s _ hl).mono ?_
  rw [HP.out]
  rintro e w2 ⟨rfl, hb⟩
  have H2 := Lib.hid (H1.out.trans hb); clear hb H1
  go_wp2_with fail
  refine (named_c _).mono ?_
  rintro e w3 ⟨rfl, hb⟩
  have H3 := Lib.hid (H2.out.trans hb); clear hb H2
  go_wp2_with fail
  go_ret
  exact ⟨rfl, H3.out⟩

end Go.Proofs.YtkkafjknogfdnaaDoor
