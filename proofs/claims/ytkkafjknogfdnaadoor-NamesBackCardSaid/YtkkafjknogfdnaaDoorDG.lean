/- Walks: what is told of a number is parsed as it. -/
import Derived.Test.YtkkafjknogfdnaaDoorChecked
import Derived.Test.YtkkafjknogfdnaaDoorDE
namespace Go.Proofs.YtkkafjknogfdnaaDoor
open Go.RowKit

theorem parse_not {s : List UInt8} (h : (parseS s).2.2 = false) : parseS s = (0, 0, false) := by
  unfold parseS at h ⊢
  split at h
  · cases h
  · rename_i hn; rw [if_neg hn]

theorem letter_of {c : UInt8} (h : letterB c = true) : c = 99 ∨ c = 116 ∨ c = 98 := by
  unfold letterB at h
  simpa [or_assoc] using h

theorem nameS_length {c : UInt8} {n : Int} (h : 0 ≤ n ∧ n ≤ 999999) : (nameS c n).length = 7 := by rw [nameS_yes h, List.length_cons, digs_length]

set_option maxRecDepth 100000 in
set_option maxHeartbeats 3200000 in
theorem nback_c (n : Int) (s : List UInt8) (w : World) (hl : s.length ≤ 9223372036854775807) : Calls Tryd.prog 5 #[.int .i64 n, .string ⟨s.toArray⟩] w fun e w' => e = .returned (.bool true) ∧ Ext w w' := by
  go_enter Tryd.func5, Tryd.ntmps5
  by_cases h3 : 100 < (s.length : Int)
  · go_wp2_with fail
    refine (named_c _).mono ?_
    rintro e w1 ⟨rfl, hb⟩
    have H1 := Lib.hid (hb); clear hb
    go_wp2_with fail
    go_ret
    exact ⟨rfl, H1.out⟩
  obtain ⟨Nc, hnc⟩ : ∃ l, nameS 99 n = l := ⟨_, rfl⟩
  have HNc := Lib.hid hnc; clear hnc
  obtain ⟨Nt, hnt⟩ : ∃ l, nameS 116 n = l := ⟨_, rfl⟩
  have HNt := Lib.hid hnt; clear hnt
  obtain ⟨Nb, hnb⟩ : ∃ l, nameS 98 n = l := ⟨_, rfl⟩
  have HNb := Lib.hid hnb; clear hnb
  go_wp2_with fail
  refine (chunk_c n _).mono ?_
  rw [HNc.out]
  rintro e w1 ⟨rfl, hb⟩
  have H1 := Lib.hid (hb); clear hb
  go_wp2_with fail
  refine (table_c n _).mono ?_
  rw [HNt.out]
  rintro e w2 ⟨rfl, hb⟩
  have H2 := Lib.hid (H1.out.trans hb); clear hb H1
  go_wp2_with fail
  refine (bloom_c n _).mono ?_
  rw [HNb.out]
  rintro e w3 ⟨rfl, hb⟩
  have H3 := Lib.hid (H2.out.trans hb); clear hb H2
  go_wp2_with fail
  have c0 : ((w3.alloc (.cells #[.string ⟨Nc.toArray⟩, .string ⟨Nt.toArray⟩, .string ⟨Nb.toArray⟩] 29)).alloc (.cells #[.int .u8 99, .int .u8 116, .int .u8 98] 30)).cell? ⟨w3.heap.size, 0, none⟩ = some (.string ⟨Nc.toArray⟩) := by simp
  have l0 : ((w3.alloc (.cells #[.string ⟨Nc.toArray⟩, .string ⟨Nt.toArray⟩, .string ⟨Nb.toArray⟩] 29)).alloc (.cells #[.int .u8 99, .int .u8 116, .int .u8 98] 30)).cell? ⟨w3.heap.size + 1, 0, none⟩ = some (.int .u8 99) := by simp
  have c1 : ((w3.alloc (.cells #[.string ⟨Nc.toArray⟩, .string ⟨Nt.toArray⟩, .string ⟨Nb.toArray⟩] 29)).alloc (.cells #[.int .u8 99, .int .u8 116, .int .u8 98] 30)).cell? ⟨w3.heap.size, 1, none⟩ = some (.string ⟨Nt.toArray⟩) := by simp
  have l1 : ((w3.alloc (.cells #[.string ⟨Nc.toArray⟩, .string ⟨Nt.toArray⟩, .string ⟨Nb.toArray⟩] 29)).alloc (.cells #[.int .u8 99, .int .u8 116, .int .u8 98] 30)).cell? ⟨w3.heap.size + 1, 1, none⟩ = some (.int .u8 116) := by simp
  have c2 : ((w3.alloc (.cells #[.string ⟨Nc.toArray⟩, .string ⟨Nt.toArray⟩, .string ⟨Nb.toArray⟩] 29)).alloc (.cells #[.int .u8 99, .int .u8 116, .int .u8 98] 30)).cell? ⟨w3.heap.size, 2, none⟩ = some (.string ⟨Nb.toArray⟩) := by simp
  have l2 : ((w3.alloc (.cells #[.string ⟨Nc.toArray⟩, .string ⟨Nt.toArray⟩, .string ⟨Nb.toArray⟩] 29)).alloc (.cells #[.int .u8 99, .int .u8 116, .int .u8 98] 30)).cell? ⟨w3.heap.size + 1, 2, none⟩ = some (.int .u8 98) := by simp
  have X0 := Lib.hid (ext_a2 w3 (.cells #[.string ⟨Nc.toArray⟩, .string ⟨Nt.toArray⟩, .string ⟨Nb.toArray⟩] 29) (.cells #[.int .u8 99, .int .u8 116, .int .u8 98] 30))
  have C0 := Lib.hid c0; have D0 := Lib.hid l0; clear c0 l0
  have C1 := Lib.hid c1; have D1 := Lib.hid l1; clear c1 l1
  have C2 := Lib.hid c2; have D2 := Lib.hid l2; clear c2 l2
  generalize hW0 : ((w3.alloc (.cells #[.string ⟨Nc.toArray⟩, .string ⟨Nt.toArray⟩, .string ⟨Nb.toArray⟩] 29)).alloc (.cells #[.int .u8 99, .int .u8 116, .int .u8 98] 30)) = W0 at *
  clear hW0
  go_loopw [7] (fun i w' => ∃ k : Nat, k ≤ 3 ∧ i = .int .i64 k ∧ Ext W0 w') (fun i _ => 3 - (intOf i).toNat)
  case atStart => exact ⟨0, by omega, rfl, Ext.refl _⟩
  case round =>
    obtain ⟨k, hk, rfl, hb⟩ := hrel
    have Hb := Lib.hid hb; clear hb
    by_cases hlt : k < 3
    · by_cases hr : 0 ≤ n ∧ n ≤ 999999
      · obtain ⟨hr0, hr1⟩ := hr
        have hk3 : k = 0 ∨ k = 1 ∨ k = 2 := by omega
        clear hlt hk
        have hnn : (n.toNat : Int) = n := by omega
        have HNN := Lib.hid hnn
        have HNR : Hid (0 ≤ n ∧ n ≤ 999999) := Lib.hid ⟨hr0, hr1⟩
        clear hnn
        rcases hk3 with rfl | rfl | rfl
        · have c0 := cell_ext Hb.out C0.out; have l0 := cell_ext Hb.out D0.out
          have hlen : Nc.length = 7 := by rw [← HNc.out]; exact nameS_length HNR.out
          have HLen := Lib.hid hlen; clear hlen
          have HPv : Hid (parseS Nc = (99, n.toNat, true)) := Lib.hid (by rw [← HNc.out]; exact parse_name (by decide) HNR.out)
          go_wp2_with fail
          refine (parse_v (s := Nc) HPv.out 99 n rfl HNN.out _ (by rw [HLen.out]; decide)).mono ?_
          rintro e w4 ⟨rfl, hb4⟩
          have HB4 := Lib.hid (Hb.out.trans hb4)
          have c1 := cell_ext hb4 c0; have l1 := cell_ext hb4 l0
          have hlen := HLen.out
          clear hb4 c0 l0
          go_wp2_with fail
          go_roundw
          case rel => exact ⟨0 + 1, by omega, by go_num, HB4.out⟩
          case measure => simp [intOf]
        · have c0 := cell_ext Hb.out C1.out; have l0 := cell_ext Hb.out D1.out
          have hlen : Nt.length = 7 := by rw [← HNt.out]; exact nameS_length HNR.out
          have HLen := Lib.hid hlen; clear hlen
          have HPv : Hid (parseS Nt = (116, n.toNat, true)) := Lib.hid (by rw [← HNt.out]; exact parse_name (by decide) HNR.out)
          go_wp2_with fail
          refine (parse_v (s := Nt) HPv.out 116 n rfl HNN.out _ (by rw [HLen.out]; decide)).mono ?_
          rintro e w4 ⟨rfl, hb4⟩
          have HB4 := Lib.hid (Hb.out.trans hb4)
          have c1 := cell_ext hb4 c0; have l1 := cell_ext hb4 l0
          have hlen := HLen.out
          clear hb4 c0 l0
          go_wp2_with fail
          go_roundw
          case rel => exact ⟨1 + 1, by omega, by go_num, HB4.out⟩
          case measure => simp [intOf]
        · have c0 := cell_ext Hb.out C2.out; have l0 := cell_ext Hb.out D2.out
          have hlen : Nb.length = 7 := by rw [← HNb.out]; exact nameS_length HNR.out
          have HLen := Lib.hid hlen; clear hlen
          have HPv : Hid (parseS Nb = (98, n.toNat, true)) := Lib.hid (by rw [← HNb.out]; exact parse_name (by decide) HNR.out)
          go_wp2_with fail
          refine (parse_v (s := Nb) HPv.out 98 n rfl HNN.out _ (by rw [HLen.out]; decide)).mono ?_
          rintro e w4 ⟨rfl, hb4⟩
          have HB4 := Lib.hid (Hb.out.trans hb4)
          have c1 := cell_ext hb4 c0; have l1 := cell_ext hb4 l0
          have hlen := HLen.out
          clear hb4 c0 l0
          go_wp2_with fail
          go_roundw
          case rel => exact ⟨2 + 1, by omega, by go_num, HB4.out⟩
          case measure => simp [intOf]
      · have e1 : Nc = [] := by rw [← HNc.out]; exact nameS_no hr
        have e2 : Nt = [] := by rw [← HNt.out]; exact nameS_no hr
        have e3 : Nb = [] := by rw [← HNb.out]; exact nameS_no hr
        have hor : (decide (n < 0) || decide (999999 < n)) = true := by rw [Bool.or_eq_true, decide_eq_true_iff, decide_eq_true_iff]; omega
        have hcase : n < 0 ∨ (¬ n < 0 ∧ 999999 < n) := by omega
        have hk3 : k = 0 ∨ k = 1 ∨ k = 2 := by omega
        have q0 := cell_ext Hb.out C0.out; have q1 := cell_ext Hb.out C1.out; have q2 := cell_ext Hb.out C2.out
        rw [e1] at q0; rw [e2] at q1; rw [e3] at q2
        clear hlt hk hor e1 e2 e3 hr
        rcases hcase with hn0 | ⟨hn0, hn1⟩
        all_goals
          rcases hk3 with rfl | rfl | rfl
          all_goals
            go_wp2_with fail
            go_roundw
            case rel => first | exact ⟨1, by omega, rfl, Hb.out⟩ | exact ⟨2, by omega, rfl, Hb.out⟩ | exact ⟨3, by omega, rfl, Hb.out⟩
            case measure => simp [intOf]
    · obtain ⟨p, hp⟩ : ∃ p, parseS s = p := ⟨_, rfl⟩
      obtain ⟨c, m, ok⟩ := p
      have HP := Lib.hid hp
      have HE := Lib.hid (H3.out.trans (X0.out.trans Hb.out))
      go_wp2_with fail
      refine (parse_c s _ hl).mono ?_
      rw [HP.out]
      rintro e w4 ⟨rfl, hb4⟩
      have HB4 := Lib.hid (HE.out.trans hb4)
      clear hb4
      cases ok with
      | false =>
        have hpn := parse_not (s := s) (by rw [hp])
        rw [hp] at hpn
        cases hpn
        clear hp
        go_wp2_with fail
        refine (named_c _).mono ?_
        rintro e w5 ⟨rfl, hb⟩
        have H5 := Lib.hid (HB4.out.trans hb); clear hb HB4
        go_wp2_with fail
        go_ret
        exact ⟨rfl, H5.out⟩
      | true =>
        obtain ⟨hc, hm, hn⟩ := name_parse (s := s) (by rw [hp])
        rw [hp] at hc hm hn
        have hm' : (m : Int) ≤ 999999 := by have : m ≤ 999999 := hm; omega
        have hn' : nameS c (m : Int) = s := hn
        have HNs := Lib.hid hn'
        clear hp hm hn hn'
        rcases letter_of hc with rfl | rfl | rfl
        · go_wp2_with fail
          refine (chunk_c (m : Int) _).mono ?_
          rw [HNs.out]
          rintro e w5 ⟨rfl, hb⟩
          have H5 := Lib.hid (HB4.out.trans hb); clear hb HB4
          go_wp2_with fail
          refine (named_c _).mono ?_
          rintro e w6 ⟨rfl, hb⟩
          have H6 := Lib.hid (H5.out.trans hb); clear hb H5
          go_wp2_with fail
          go_ret
          exact ⟨rfl, H6.out⟩
        · go_wp2_with fail
          refine (table_c (m : Int) _).mono ?_
          rw [HNs.out]
          rintro e w5 ⟨rfl, hb⟩
          have H5 := Lib.hid (HB4.out.trans hb); clear hb HB4
          go_wp2_with fail
          refine (named_c _).mono ?_
          rintro e w6 ⟨rfl, hb⟩
          have H6 := Lib.hid (H5.out.trans hb); clear hb H5
          go_wp2_with fail
          go_ret
          exact ⟨rfl, H6.out⟩
        · go_wp2_with fail
          refine (bloom_c (m : Int) _).mono ?_
          rw [HNs.out]
          rintro e w5 ⟨rfl, hb⟩
          have H5 := Lib.hid (HB4.out.trans hb); clear hb HB4
          go_wp2_with fail
          refine (named_c _).mono ?_
          rintro e w6 ⟨rfl, hb⟩
          have H6 := Lib.hid (H5.out.trans hb); clear hb H5
          go_wp2_with fail
          go_ret
          exact ⟨rfl, H6.out⟩

end Go.Proofs.YtkkafjknogfdnaaDoor
