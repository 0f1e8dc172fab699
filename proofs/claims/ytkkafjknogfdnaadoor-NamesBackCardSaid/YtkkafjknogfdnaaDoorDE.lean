/- Walks: the chapter's names. -/
import Derived.Test.YtkkafjknogfdnaaDoorChecked
import Derived.Test.YtkkafjknogfdnaaDoorDC
namespace Go.Proofs.YtkkafjknogfdnaaDoor
open Go.RowKit

/-- what a name says, as values -/
theorem parse_v {s : List UInt8} {c : UInt8} {n : Nat} {ok : Bool} (h : parseS s = (c, n, ok)) (C N : Int) (hC : (c.toNat : Int) = C) (hN : (n : Int) = N) (w : World) (hl : s.length ≤ 9223372036854775807) :
    Calls Tryd.prog 14 #[.string ⟨s.toArray⟩] w fun e w' => e = .returned (.tuple #[.int .u8 C, .int .i64 N, .bool ok]) ∧ Ext w w' := by
  have := parse_c s w hl
  rw [h] at this
  subst hC hN
  exact this

set_option maxRecDepth 100000 in
set_option maxHeartbeats 3200000 in
theorem named_c (w : World) : Calls Tryd.prog 7 #[] w fun e w' => e = .returned (.bool true) ∧ Ext w w' := by
  obtain ⟨i, hi, hz, hsize, hby⟩ := info_parts Tryd.infoU8
  obtain ⟨LG, hLG⟩ : ∃ l : List UInt8, List.replicate 33 0 = l := ⟨_, rfl⟩
  have hlg : LG.length = 33 := by rw [← hLG]; rfl
  have HLG : Hid (LG.map byteV = List.replicate 33 (.int .u8 0)) := Lib.hid (by rw [← hLG]; rfl)
  have HL1 : Hid (streamB (LG.take 32) = true) := Lib.hid (by rw [← hLG]; decide)
  have HL2 : Hid (streamB LG = false) := Lib.hid (by rw [← hLG]; decide)
  have ht32 : (LG.take 32).length = 32 := by rw [List.length_take, hlg]; rfl
  have HT32 := Lib.hid ht32
  have HLGn := Lib.hid hlg
  clear hLG ht32 hlg
  go_enter Tryd.func7, Tryd.ntmps7
  go_wp2_with fail
  refine (parse_v (s := [116, 48, 48, 48, 48, 49, 50]) (c := 116) (n := 12) (ok := true) (by decide) 116 12 rfl rfl _ (by decide)).mono ?_
  rintro e w1 ⟨rfl, hb⟩
  have H1 := Lib.hid (hb); clear hb
  go_wp2_with fail
  refine (parse_v (s := [116, 49, 50]) (c := 0) (n := 0) (ok := false) (by decide) 0 0 rfl rfl _ (by decide)).mono ?_
  rintro e w2 ⟨rfl, hb⟩
  have H2 := Lib.hid (H1.out.trans hb); clear hb H1
  go_wp2_with fail
  refine (parse_v (s := [120, 48, 48, 48, 48, 49, 50]) (c := 0) (n := 0) (ok := false) (by decide) 0 0 rfl rfl _ (by decide)).mono ?_
  rintro e w3 ⟨rfl, hb⟩
  have H3 := Lib.hid (H2.out.trans hb); clear hb H2
  go_wp2_with fail
  refine (parse_v (s := [99, 48, 48, 48, 48, 49, 97]) (c := 0) (n := 0) (ok := false) (by decide) 0 0 rfl rfl _ (by decide)).mono ?_
  rintro e w4 ⟨rfl, hb⟩
  have H4 := Lib.hid (H3.out.trans hb); clear hb H3
  have hlg := HLGn.out
  go_wp2_with (at_make; refine wpList_make_full _ rfl _ _ 33 rfl w4.heap.size 5 i (.int .u8 0) 1 Tryd.underlying33 hi hz hsize .i64 .i64 _ _ 33 rfl rfl rfl rfl (by rw [hby]; omega) (by unfold maxLen; omega) (Nat.le_refl _) ?_; intro w5 hown hg; have ho := Own.of_row hown; rw [Nat.mul_one, show (madeCells (Value.int .u8 0).cells 33).toList = List.replicate 33 (.int .u8 0) from toList_madeCells_one _ _, ← HLG.out] at ho; have H5 := Lib.hid (H4.out.trans ((Ext.refl w4).grown hg (Nat.le_refl _) (fun k hk => by cases hk))); have hcv2 := run_tostr (P := Tryd.prog) w5 33 9 5 (a := ⟨w4.heap.size, 0, none⟩) (n := 33) (cap := 33) Tryd.underlying33 Tryd.underlying5 Tryd.underlying9 hlg (by obtain ⟨_, _, e, _, _, _, r⟩ := ho.rd; cases e; exact r); clear ho hown hg)
  refine (chunk_c 0 _).mono ?_
  rw [show nameS 99 0 = [99, 48, 48, 48, 48, 48, 48] by decide]
  rintro e w6 ⟨rfl, hb⟩
  have H6 := Lib.hid (H5.out.trans hb); clear hb hcv2 hi hz hsize hby H4 H5
  go_wp2_with fail
  refine (table_c 12 _).mono ?_
  rw [show nameS 116 12 = [116, 48, 48, 48, 48, 49, 50] by decide]
  rintro e w7 ⟨rfl, hb⟩
  have H7 := Lib.hid (H6.out.trans hb); clear hb H6
  go_wp2_with fail
  refine (bloom_c 1000000 _).mono ?_
  rw [show nameS 98 1000000 = [] by decide]
  rintro e w8 ⟨rfl, hb⟩
  have H8 := Lib.hid (H7.out.trans hb); clear hb H7
  go_wp2_with fail
  refine (bloom_c (-1) _).mono ?_
  rw [show nameS 98 (-1) = [] by decide]
  rintro e w9 ⟨rfl, hb⟩
  have H9 := Lib.hid (H8.out.trans hb); clear hb H8
  go_wp2_with fail
  refine (stream_c [] _ (by decide)).mono ?_
  rw [show streamB [] = false by decide]
  rintro e w10 ⟨rfl, hb⟩
  have H10 := Lib.hid (H9.out.trans hb); clear hb H9
  have ht32 := HT32.out
  go_wp2_with fail
  refine (stream_c (LG.take 32) _ (by rw [HT32.out]; omega)).mono ?_
  rw [HL1.out]
  rintro e w11 ⟨rfl, hb⟩
  have H11 := Lib.hid (H10.out.trans hb); clear hb H10
  go_wp2_with fail
  refine (stream_c LG _ (by rw [HLGn.out]; omega)).mono ?_
  rw [HL2.out]
  rintro e w12 ⟨rfl, hb⟩
  have H12 := Lib.hid (H11.out.trans hb); clear hb H11
  go_wp2_with fail
  go_ret
  exact ⟨rfl, H12.out⟩

end Go.Proofs.YtkkafjknogfdnaaDoor
