/- Walks: all tables, by levels. -/
import Derived.Test.YtoibjhoebjcfeaaChecked
import Derived.Test.YtoibjhoebjcfeaaK
namespace Go.Proofs.Ytoibjhoebjcfeaa
open Go.RowKit

theorem Try.infoInt : (Try.prog.info? 3).map (fun i => (i.zero, i.size, i.bytes)) = some (some (.int .i64 0), 1, 8) := by kernel_rfl
theorem Try.infoInts : (Try.prog.info? 30).map (fun i => (i.zero, i.size, i.bytes)) = some (some (.slice none 0 0), 1, 24) := by kernel_rfl

set_option maxHeartbeats 400000 in
theorem refall_c (ao : Option Addr) (n cap : Nat) (L : List (List Int)) (w : World) (hx : Grid w ao n cap L) (hsum : L.flatten.length ≤ 17592186044416) :
    Calls Try.prog 110 #[.slice ao n cap] w (RetI 3 w L.flatten) := by
  have Hx := Lib.hid hx
  have b1 := hx.fits; have b2 := hx.bound
  clear hx
  go_enter Try.func110, Try.ntmps110
  go_wp2_with fail
  go_loopw [3, 4] (fun v i w' => ∃ k : Nat, k ≤ n ∧ i = .int .i64 k ∧ Own w' w.heap.size 3 1 v (L.take k).flatten.length ((L.take k).flatten.map (Value.int .i64)) ∧ Ext w w') (fun _ i _ => n - (intOf i).toNat)
  case atStart => exact ⟨0, Nat.zero_le _, rfl, Own.nil _ _ _ _, Ext.refl _⟩
  case round =>
    obtain ⟨k, hk, rfl, hown, hb⟩ := hrel
    have Hb := Lib.hid hb; clear hb
    have Hown := Lib.hid hown; clear hown
    by_cases hlt : k < n
    · obtain ⟨b, off, ai, ni, ci, rfl, c1, r1⟩ := (Hx.out.ext Hb.out).at hlt
      have R1 := Lib.hid r1; clear r1
      have hkl : k < L.length := by rw [Hx.out.len]; exact hlt
      have hs := flatten_take_succ L k hkl
      have hle := flatten_take_le L (k + 1)
      have hlen : (L.take k).flatten.length + ni = (L.take (k + 1)).flatten.length := by rw [hs, List.length_append, R1.out.len]
      have HS := Lib.hid hs; clear hs
      have HL := Lib.hid hlen; clear hlen
      go_wp2_with (at_builtin; refine wpList_append_any rfl _ _ 30 rfl w.heap.size 3 _ 1 8 Try.underlying30 Try.infoInt rfl (by decide) _ _ _ rfl Hown.out _ _ _ ((L.getD k []).map (Value.int .i64)) rfl (by rw [List.length_map, R1.out.len]; omega) R1.out.nil R1.out.rd (ints_oneCell _ _) (by have := HL.out; omega) (by have := HL.out; omega) Hb.out.size ?_; intro v' w1 hown' hg _)
      have hb1 := below_own Hb.out Hown.out hg Hb.out.size
      have HB1 := Lib.hid hb1; clear hb1
      rw [← List.map_append, ← HS.out, HL.out] at hown'
      have HO := Lib.hid hown'; clear hown' hg
      go_wp2_with fail
      go_roundw
      case rel => exact ⟨k + 1, by omega, by go_num, HO.out, HB1.out⟩
      case measure => simp [intOf]; omega
    · have hk2 : L.take k = L := List.take_of_length_le (by have := Hx.out.len; omega)
      have HK := Lib.hid hk2; clear hk2
      go_wp2_with fail
      go_ret
      exact ⟨_, rfl, by have := Hown.out; rw [HK.out] at this; exact this, Hb.out⟩

set_option maxRecDepth 100000 in
set_option maxHeartbeats 400000 in
theorem grow_c (n : Nat) (w : World) (hn : n ≤ 17592186044416) :
    Calls Try.prog 125 #[.slice none 0 0, .int .i64 n] w (RetI 3 w []) := by
  by_cases h0 : n = 0
  · subst h0
    go_enter Try.func125, Try.ntmps125
    go_wp2_with fail
    go_ret
    exact ⟨_, rfl, Own.nil _ _ _ _, Ext.refl _⟩
  · have h1 : 0 < n := by omega
    obtain ⟨i, hi, hz, hsize, hby⟩ := info_parts Try.infoInt
    have hr := Lib.run_append_nil_zeros (P := Try.prog) w 30 3 30 3 i (.int .i64 0) .i64 .i64 Try.underlying30 Try.underlying3 hi hz n h1 (by omega) (by omega) (by rw [hby]; omega)
    have HR := Lib.hid hr; clear hr
    have Hge := Lib.hid (grownCap_ge w n 0 3)
    have Hle := Lib.hid (grownCap_le_maxLen w n 0 3 (by unfold maxLen; omega))
    have HS := Lib.hid hsize; clear hi hz hsize hby
    go_enter Try.func125, Try.ntmps125
    go_wp2_with (at_builtin; refine Lib.wpList_append_run _ rfl _ _ _ _ rfl _ _ rfl rfl _ _ HR.out ?_)
    go_ret
    refine ⟨_, rfl, Own.of_row ⟨rfl, .inr ⟨w.heap.size, grownCap w n 0 3, _, rfl, Nat.le_refl _, heap_alloc_new w.drew _, Nat.zero_le _, Hle.out, ?_, rfl⟩⟩, (Ext.refl w).drew.alloc _⟩
    have := Hge.out
    simp [size_zeroCells]; omega

set_option maxRecDepth 100000 in
set_option maxHeartbeats 800000 in
theorem concat_c (ao : Option Addr) (n cap : Nat) (L : List (List Int)) (w : World) (hx : Grid w ao n cap L) (hsum : L.flatten.length ≤ 17592186044416) :
    Calls Try.prog 120 #[.slice ao n cap] w (RetI 3 w L.flatten) := by
  have Hx := Lib.hid hx
  have b1 := hx.fits; have b2 := hx.bound
  clear hx
  go_enter Try.func120, Try.ntmps120
  go_wp2_with fail
  go_loopw [3, 11] (fun s i w' => ∃ k : Nat, k ≤ n ∧ i = .int .i64 k ∧ s = .int .i64 (L.take k).flatten.length ∧ Ext w w') (fun _ i _ => n - (intOf i).toNat)
  case atStart => exact ⟨0, Nat.zero_le _, rfl, rfl, Ext.refl _⟩
  case round =>
    obtain ⟨k, hk, rfl, rfl, hb⟩ := hrel
    have Hb := Lib.hid hb; clear hb
    by_cases hlt : k < n
    · obtain ⟨b, off, ai, ni, ci, rfl, c1, r1⟩ := (Hx.out.ext Hb.out).at hlt
      have R1 := Lib.hid r1; clear r1
      have hkl : k < L.length := by rw [Hx.out.len]; exact hlt
      have hs := flatten_take_succ L k hkl
      have hle := flatten_take_le L (k + 1)
      have hlen : (L.take k).flatten.length + ni = (L.take (k + 1)).flatten.length := by rw [hs, List.length_append, R1.out.len]
      have HL := Lib.hid hlen
      have g1 : (L.take k).flatten.length + ni ≤ 17592186044416 := by omega
      clear hs hle hlen
      generalize (L.take k).flatten.length = F at *
      go_wp2_with fail
      go_roundw
      case rel => exact ⟨k + 1, by omega, by go_num, by rw [← HL.out]; go_num, Hb.out⟩
      case measure => simp [intOf]; omega
    · have hk2 : L.take k = L := List.take_of_length_le (by have := Hx.out.len; omega)
      have HK := Lib.hid hk2
      have hF : (L.take k).flatten.length = L.flatten.length := by rw [hk2]
      rw [hF]
      clear hk2 hF
      generalize hF : L.flatten.length = F at *
      have HF := Lib.hid hF; clear hF
      go_wp2_with (go_at_call 125; (with_reducible refine (grow_c F _ (by omega)).mono ?_); rintro e w1 ⟨v1, rfl, hown, hb1⟩)
      have HB := Lib.hid (Hb.out.trans hb1)
      have hown0 : Own w1 w.heap.size 3 1 v1 0 [] := hown.base Hb.out.size
      have HO := Lib.hid hown0
      clear hown hown0 hb1 Hb
      go_loopw [6, 27] (fun v i w' => ∃ k : Nat, k ≤ n ∧ i = .int .i64 k ∧ Own w' w.heap.size 3 1 v (L.take k).flatten.length ((L.take k).flatten.map (Value.int .i64)) ∧ Ext w w') (fun _ i _ => n - (intOf i).toNat)
      case atStart => exact ⟨0, Nat.zero_le _, rfl, HO.out, HB.out⟩
      case round =>
        clear HO HB
        obtain ⟨k, hk, rfl, hown, hb⟩ := hrel
        have Hb := Lib.hid hb; clear hb
        have Hown := Lib.hid hown; clear hown
        by_cases hlt : k < n
        · obtain ⟨b, off, ai, ni, ci, rfl, c1, r1⟩ := (Hx.out.ext Hb.out).at hlt
          have R1 := Lib.hid r1; clear r1
          have hkl : k < L.length := by rw [Hx.out.len]; exact hlt
          have hs := flatten_take_succ L k hkl
          have hle := flatten_take_le L (k + 1)
          have hlen : (L.take k).flatten.length + ni = (L.take (k + 1)).flatten.length := by rw [hs, List.length_append, R1.out.len]
          have HS := Lib.hid hs; clear hs
          have HL := Lib.hid hlen; clear hlen
          have HFF := HF.out
          have hle2 : (L.take (k + 1)).flatten.length ≤ F := by omega
          clear HFF hle
          go_wp2_with (at_builtin; refine wpList_append_any rfl _ _ 30 rfl w.heap.size 3 _ 1 8 Try.underlying30 Try.infoInt rfl (by decide) _ _ _ rfl Hown.out _ _ _ ((L.getD k []).map (Value.int .i64)) rfl (by rw [List.length_map, R1.out.len]; omega) R1.out.nil R1.out.rd (ints_oneCell _ _) (by have := HL.out; omega) (by have := HL.out; omega) Hb.out.size ?_; intro v' w2 hown' hg _)
          have hb1 := below_own Hb.out Hown.out hg Hb.out.size
          have HB1 := Lib.hid hb1; clear hb1
          rw [← List.map_append, ← HS.out, HL.out] at hown'
          have HO := Lib.hid hown'; clear hown' hg
          go_wp2_with fail
          go_roundw
          case rel => exact ⟨k + 1, by omega, by go_num, HO.out, HB1.out⟩
          case measure => simp [intOf]; omega
        · have hk2 : L.take k = L := List.take_of_length_le (by have := Hx.out.len; omega)
          have HK := Lib.hid hk2; clear hk2
          go_wp2_with fail
          go_ret
          exact ⟨_, rfl, by have := Hown.out; rw [HK.out] at this; exact this, Hb.out⟩

theorem all_c (ao : Option Addr) (n cap : Nat) (L : List (List Int)) (w : World) (hx : Grid w ao n cap L) (hsum : L.flatten.length ≤ 17592186044416) :
    Calls Try.prog 107 #[.slice ao n cap] w (RetI 3 w L.flatten) := by
  have Hx := Lib.hid hx
  clear hx
  go_enter Try.func107, Try.ntmps107
  go_wp2_with (go_at_call 120; (with_reducible refine (concat_c _ _ _ L _ Hx.out hsum).mono ?_); rintro e w1 ⟨v1, rfl, hown, hb1⟩)
  go_ret
  exact ⟨_, rfl, by assumption, by assumption⟩

end Go.Proofs.Ytoibjhoebjcfeaa
