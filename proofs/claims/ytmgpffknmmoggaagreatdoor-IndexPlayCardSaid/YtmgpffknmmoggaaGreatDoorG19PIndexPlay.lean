/- Walks: all tables, by levels. Walks: great levels, a number among some, the first place of a number. Walks: whether levels may be, by the document. Walks: the small helpers of the statements on levels. -/
import Derived.Test.YtmgpffknmmoggaaGreatDoorChecked
import Derived.Test.YtmgpffknmmoggaaGreatDoorG1PIndexPlay
set_option linter.unusedVariables false
set_option linter.unusedSimpArgs false
namespace Go.Proofs.YtmgpffknmmoggaaGreatDoor
open Go.RowKit
theorem Tryz.infoInt : (Tryz.prog.info? 3).map (fun i => (i.zero, i.size, i.bytes)) = some (some (.int .i64 0), 1, 8) := by kernel_rfl
theorem Tryz.infoInts : (Tryz.prog.info? 88).map (fun i => (i.zero, i.size, i.bytes)) = some (some (.slice none 0 0), 1, 24) := by kernel_rfl
set_option maxHeartbeats 400000 in
theorem refall_c (ao : Option Addr) (n cap : Nat) (L : List (List Int)) (w : World) (hx : Grid w ao n cap L) (hsum : L.flatten.length ≤ 17592186044416) :
    Calls Tryz.prog 122 #[.slice ao n cap] w (RetI 3 w L.flatten) := by
  have Hx := Lib.hid hx
  have b1 := hx.fits; have b2 := hx.bound
  clear hx
  go_enter Tryz.func122, Tryz.ntmps122
  go_wp2_with fail
  go_loopw [3, 4] (fun v i w' => ∃ k : Nat, k ≤ n ∧ i = .int .i64 k ∧ Own w' w.heap.size 3 1 v (L.take k).flatten.length ((L.take k).flatten.map (Value.int .i64)) ∧ Ext w w') (fun _ i _ => n - (intOf i).toNat)
  case atStart => exact ⟨0, Nat.zero_le _, rfl, Own.nil _ _ _ _, Ext.refl _⟩
  case round =>
    obtain ⟨k, hk, rfl, hown, hb⟩ := hrel
    have Hb := Lib.hid hb; clear hb
    have Hown := Lib.hid hown; clear hown
    by_cases hlt : k < n
    · obtain ⟨b, off, ai, ni, ci, rfl, c1, r1⟩ := (Hx.out.ext Hb.out).at hlt
      have R1 := Lib.hid r1; clear r1
      have hkl : k < L.length := by rw [Hx.out.len]; exact hlt
      have hs := flatten_take_succ L k hkl
      have hle := flatten_take_le L (k + 1)
      have hlen : (L.take k).flatten.length + ni = (L.take (k + 1)).flatten.length := by rw [hs, List.length_append, R1.out.len]
      have HS := Lib.hid hs; clear hs
      have HL := Lib.hid hlen; clear hlen
      go_wp2_with (at_builtin; refine wpList_append_any rfl _ _ 88 rfl w.heap.size 3 _ 1 8 Tryz.underlying88 Tryz.infoInt rfl (by decide) _ _ _ rfl Hown.out _ _ _ ((L.getD k []).map (Value.int .i64)) rfl (by rw [List.length_map, R1.out.len]; omega) R1.out.nil R1.out.rd (ints_oneCell _ _) (by have := HL.out; omega) (by have := HL.out; omega) Hb.out.size ?_; intro v' w1 hown' hg _)
      have hb1 := below_own Hb.out Hown.out hg Hb.out.size
      have HB1 := Lib.hid hb1; clear hb1
      rw [← List.map_append, ← HS.out, HL.out] at hown'
      have HO := Lib.hid hown'; clear hown' hg
      go_wp2_with fail
      go_roundw
      case rel => exact ⟨k + 1, by omega, by go_num, HO.out, HB1.out⟩
      case measure => simp [intOf]; omega
    · have hk2 : L.take k = L := List.take_of_length_le (by have := Hx.out.len; omega)
      have HK := Lib.hid hk2; clear hk2
      go_wp2_with fail
      go_ret
      exact ⟨_, rfl, by have := Hown.out; rw [HK.out] at this; exact this, Hb.out⟩
set_option maxRecDepth 100000 in
set_option maxHeartbeats 400000 in
theorem grow_c (n : Nat) (w : World) (hn : n ≤ 17592186044416) :
    Calls Tryz.prog 162 #[.slice none 0 0, .int .i64 n] w (RetI 3 w []) := by
  by_cases h0 : n = 0
  · subst h0
    go_enter Tryz.func162, Tryz.ntmps162
    go_wp2_with fail
    go_ret
    exact ⟨_, rfl, Own.nil _ _ _ _, Ext.refl _⟩
  · have h1 : 0 < n := by omega
    obtain ⟨i, hi, hz, hsize, hby⟩ := info_parts Tryz.infoInt
    have hr := Lib.run_append_nil_zeros (P := Tryz.prog) w 88 3 88 3 i (.int .i64 0) .i64 .i64 Tryz.underlying88 Tryz.underlying3 hi hz n h1 (by omega) (by omega) (by rw [hby]; omega)
    have HR := Lib.hid hr; clear hr
    have Hge := Lib.hid (grownCap_ge w n 0 3)
    have Hle := Lib.hid (grownCap_le_maxLen w n 0 3 (by unfold maxLen; omega))
    have HS := Lib.hid hsize; clear hi hz hsize hby
    go_enter Tryz.func162, Tryz.ntmps162
    go_wp2_with (at_builtin; refine Lib.wpList_append_run _ rfl _ _ _ _ rfl _ _ rfl rfl _ _ HR.out ?_)
    go_ret
    refine ⟨_, rfl, Own.of_row ⟨rfl, .inr ⟨w.heap.size, grownCap w n 0 3, _, rfl, Nat.le_refl _, heap_alloc_new w.drew _, Nat.zero_le _, Hle.out, ?_, rfl⟩⟩, (Ext.refl w).drew.alloc _⟩
    have := Hge.out
    simp [size_zeroCells]; omega
set_option maxRecDepth 100000 in
set_option maxHeartbeats 800000 in
theorem concat_c (ao : Option Addr) (n cap : Nat) (L : List (List Int)) (w : World) (hx : Grid w ao n cap L) (hsum : L.flatten.length ≤ 17592186044416) :
    Calls Tryz.prog 104 #[.slice ao n cap] w (RetI 3 w L.flatten) := by
  have Hx := Lib.hid hx
  have b1 := hx.fits; have b2 := hx.bound
  clear hx
  go_enter Tryz.func104, Tryz.ntmps104
  go_wp2_with fail
  go_loopw [3, 11] (fun s i w' => ∃ k : Nat, k ≤ n ∧ i = .int .i64 k ∧ s = .int .i64 (L.take k).flatten.length ∧ Ext w w') (fun _ i _ => n - (intOf i).toNat)
  case atStart => exact ⟨0, Nat.zero_le _, rfl, rfl, Ext.refl _⟩
  case round =>
    obtain ⟨k, hk, rfl, rfl, hb⟩ := hrel
    have Hb := Lib.hid hb; clear hb
    by_cases hlt : k < n
    · obtain ⟨b, off, ai, ni, ci, rfl, c1, r1⟩ := (Hx.out.ext Hb.out).at hlt
      have R1 := Lib.hid r1; clear r1
      have hkl : k < L.length := by rw [Hx.out.len]; exact hlt
      have hs := flatten_take_succ L k hkl
      have hle := flatten_take_le L (k + 1)
      have hlen : (L.take k).flatten.length + ni = (L.take (k + 1)).flatten.length := by rw [hs, List.length_append, R1.out.len]
      have HL := Lib.hid hlen
      have g1 : (L.take k).flatten.length + ni ≤ 17592186044416 := by omega
      clear hs hle hlen
      generalize (L.take k).flatten.length = F at *
      go_wp2_with fail
      go_roundw
      case rel => exact ⟨k + 1, by omega, by go_num, by rw [← HL.out]; go_num, Hb.out⟩
      case measure => simp [intOf]; omega
    · have hk2 : L.take k = L := List.take_of_length_le (by have := Hx.out.len; omega)
      have HK := Lib.hid hk2
      have hF : (L.take k).flatten.length = L.flatten.length := by rw [hk2]
      rw [hF]
      clear hk2 hF
      generalize hF : L.flatten.length = F at *
      have HF := Lib.hid hF; clear hF
      go_wp2_with (go_at_call 162; (with_reducible refine (grow_c F _ (by omega)).mono ?_); rintro e w1 ⟨v1, rfl, hown, hb1⟩)
      have HB := Lib.hid (Hb.out.trans hb1)
      have hown0 : Own w1 w.heap.size 3 1 v1 0 [] := hown.base Hb.out.size
      have HO := Lib.hid hown0
      clear hown hown0 hb1 Hb
      go_loopw [6, 27] (fun v i w' => ∃ k : Nat, k ≤ n ∧ i = .int .i64 k ∧ Own w' w.heap.size 3 1 v (L.take k).flatten.length ((L.take k).flatten.map (Value.int .i64)) ∧ Ext w w') (fun _ i _ => n - (intOf i).toNat)
      case atStart => exact ⟨0, Nat.zero_le _, rfl, HO.out, HB.out⟩
      case round =>
        clear HO HB
        obtain ⟨k, hk, rfl, hown, hb⟩ := hrel
        have Hb := Lib.hid hb; clear hb
        have Hown := Lib.hid hown; clear hown
        by_cases hlt : k < n
        · obtain ⟨b, off, ai, ni, ci, rfl, c1, r1⟩ := (Hx.out.ext Hb.out).at hlt
          have R1 := Lib.hid r1; clear r1
          have hkl : k < L.length := by rw [Hx.out.len]; exact hlt
          have hs := flatten_take_succ L k hkl
          have hle := flatten_take_le L (k + 1)
          have hlen : (L.take k).flatten.length + ni = (L.take (k + 1)).flatten.length := by rw [hs, List.length_append, R1.out.len]
          have HS := Lib.hid hs; clear hs
          have HL := Lib.hid hlen; clear hlen
          have HFF := HF.out
          have hle2 : (L.take (k + 1)).flatten.length ≤ F := by omega
          clear HFF hle
          go_wp2_with (at_builtin; refine wpList_append_any rfl _ _ 88 rfl w.heap.size 3 _ 1 8 Tryz.underlying88 Tryz.infoInt rfl (by decide) _ _ _ rfl Hown.out _ _ _ ((L.getD k []).map (Value.int .i64)) rfl (by rw [List.length_map, R1.out.len]; omega) R1.out.nil R1.out.rd (ints_oneCell _ _) (by have := HL.out; omega) (by have := HL.out; omega) Hb.out.size ?_; intro v' w2 hown' hg _)
          have hb1 := below_own Hb.out Hown.out hg Hb.out.size
          have HB1 := Lib.hid hb1; clear hb1
          rw [← List.map_append, ← HS.out, HL.out] at hown'
          have HO := Lib.hid hown'; clear hown' hg
          go_wp2_with fail
          go_roundw
          case rel => exact ⟨k + 1, by omega, by go_num, HO.out, HB1.out⟩
          case measure => simp [intOf]; omega
        · have hk2 : L.take k = L := List.take_of_length_le (by have := Hx.out.len; omega)
          have HK := Lib.hid hk2; clear hk2
          go_wp2_with fail
          go_ret
          exact ⟨_, rfl, by have := Hown.out; rw [HK.out] at this; exact this, Hb.out⟩
theorem all_c (ao : Option Addr) (n cap : Nat) (L : List (List Int)) (w : World) (hx : Grid w ao n cap L) (hsum : L.flatten.length ≤ 17592186044416) :
    Calls Tryz.prog 46 #[.slice ao n cap] w (RetI 3 w L.flatten) := by
  have Hx := Lib.hid hx
  clear hx
  go_enter Tryz.func46, Tryz.ntmps46
  go_wp2_with (go_at_call 104; (with_reducible refine (concat_c _ _ _ L _ Hx.out hsum).mono ?_); rintro e w1 ⟨v1, rfl, hown, hb1⟩)
  go_ret
  exact ⟨_, rfl, by assumption, by assumption⟩
end Go.Proofs.YtmgpffknmmoggaaGreatDoor
namespace Go.Proofs.YtmgpffknmmoggaaGreatDoor
open Go.RowKit
theorem any_take_succ {α : Type} (p : α → Bool) (d : α) (L : List α) (k : Nat) (h : k < L.length) (h0 : (L.take k).any p = false) (h1 : p (L.getD k d) = false) : (L.take (k + 1)).any p = false := by
  rw [take_succ_getD L d k h, List.any_append, h0]; simp only [List.any_cons, List.any_nil, h1, Bool.or_self]
theorem any_of_getD {α : Type} (p : α → Bool) (d : α) (L : List α) (k : Nat) (h : k < L.length) (h1 : p (L.getD k d) = true) : L.any p = true := by
  rw [List.any_eq_true]
  refine ⟨L[k], List.getElem_mem h, ?_⟩
  rw [List.getD_eq_getElem?_getD, List.getElem?_eq_getElem h] at h1
  exact h1
theorem any_of_take {α : Type} (p : α → Bool) (L : List α) (n k : Nat) (hn : L.length = n) (hk : n ≤ k) (h0 : (L.take k).any p = false) : L.any p = false := by
  rwa [List.take_of_length_le (by omega)] at h0
theorem not_mem_take_succ (xs : List Int) (x : Int) (k : Nat) (h : k < xs.length) (h0 : x ∉ xs.take k) (h1 : xs.getD k 0 ≠ x) : x ∉ xs.take (k + 1) := by
  rw [take_succ_getD xs 0 k h, List.mem_append]
  rintro (h2 | h2)
  · exact h0 h2
  · exact h1 (List.mem_singleton.1 h2).symm
theorem mem_of_getD (xs : List Int) (x : Int) (k : Nat) (h : k < xs.length) (h1 : xs.getD k 0 = x) : x ∈ xs := by
  rw [← h1, List.getD_eq_getElem?_getD, List.getElem?_eq_getElem h]; exact List.getElem_mem h
theorem not_mem_of_take (xs : List Int) (x : Int) (n k : Nat) (hn : xs.length = n) (hk : n ≤ k) (h0 : x ∉ xs.take k) : x ∉ xs := by
  rwa [List.take_of_length_le (by omega)] at h0
set_option maxHeartbeats 400000 in
theorem has_c (ao : Option Addr) (n cap : Nat) (xs : List Int) (x : Int) (w : World) (hx : Ints w ao n cap xs) :
    Calls Tryz.prog 121 #[.slice ao n cap, .int .i64 x] w fun e w' => e = .returned (.bool (decide (x ∈ xs))) ∧ Ext w w' := by
  have Hx := Lib.hid hx
  have b1 := hx.fits; have b2 := hx.bound
  clear hx
  go_enter Tryz.func121, Tryz.ntmps121
  go_wp2_with fail
  go_loopw [5] (fun i w' => ∃ k : Nat, k ≤ n ∧ i = .int .i64 k ∧ x ∉ xs.take k ∧ Ext w w') (fun i _ => n - (intOf i).toNat)
  case atStart => exact ⟨0, Nat.zero_le _, rfl, by simp, Ext.refl _⟩
  case round =>
    obtain ⟨k, hk, rfl, heq, hb⟩ := hrel
    have Heq := Lib.hid heq; clear heq
    have Hb := Lib.hid hb; clear hb
    by_cases hlt : k < n
    · obtain ⟨b, off, rfl, c1⟩ := (Hx.out.ext Hb.out).at hlt
      generalize hX : xs.getD k 0 = X at *
      have HX := Lib.hid hX; clear hX
      by_cases hg : X = x
      · have hg' : (X == x) = true := by simpa using hg
        have Hg := Lib.hid hg; clear hg
        go_wp2_with fail
        go_ret
        exact ⟨rb (decide_eq_true (mem_of_getD xs x k (by rw [Hx.out.len]; exact hlt) (HX.out.trans Hg.out))), Hb.out⟩
      · have hg' : (X == x) = false := by simpa using hg
        have Hg := Lib.hid hg; clear hg
        go_wp2_with fail
        go_roundw
        case rel => exact ⟨k + 1, by omega, by go_num, not_mem_take_succ xs x k (by rw [Hx.out.len]; exact hlt) Heq.out (by rw [HX.out]; exact Hg.out), Hb.out⟩
        case measure => simp [intOf]; omega
    · go_wp2_with fail
      go_ret
      exact ⟨rb (decide_eq_false (not_mem_of_take xs x n k Hx.out.len (by omega) Heq.out)), Hb.out⟩
def idxI (xs : List Int) (x : Int) : Int := if x ∈ xs then (xs.idxOf x : Int) else -1
theorem idxI_hit (xs : List Int) (x : Int) (k : Nat) (h : k < xs.length) (h0 : x ∉ xs.take k) (h1 : xs.getD k 0 = x) : idxI xs x = k := by
  have hm := mem_of_getD xs x k h h1
  rw [idxI, if_pos hm]
  have e : xs = xs.take k ++ xs.drop k := (List.take_append_drop k xs).symm
  have e2 : xs.drop k = x :: xs.drop (k + 1) := by
    rw [List.drop_eq_getElem_cons h]
    rw [List.getD_eq_getElem?_getD, List.getElem?_eq_getElem h] at h1
    simp at h1
    rw [h1]
  have : xs.idxOf x = k := by
    rw [e, e2, List.idxOf_append, if_neg h0, List.idxOf_cons_self]
    simp; omega
  omega
theorem idxI_miss (xs : List Int) (x : Int) (h : x ∉ xs) : idxI xs x = -1 := by rw [idxI, if_neg h]
theorem idxI_pos (xs : List Int) (x : Int) : decide (0 ≤ idxI xs x) = decide (x ∈ xs) := by
  unfold idxI
  by_cases h : x ∈ xs
  · simp [h]
  · simp [h]
set_option maxHeartbeats 400000 in
theorem index_c (ao : Option Addr) (n cap : Nat) (xs : List Int) (x : Int) (w : World) (hx : Ints w ao n cap xs) :
    Calls Tryz.prog 139 #[.slice ao n cap, .int .i64 x] w fun e w' => e = .returned (.int .i64 (idxI xs x)) ∧ Ext w w' := by
  have Hx := Lib.hid hx
  have b1 := hx.fits; have b2 := hx.bound
  clear hx
  go_enter Tryz.func139, Tryz.ntmps139
  go_wp2_with fail
  go_loopw [8] (fun i w' => ∃ k : Nat, k ≤ n ∧ i = .int .i64 k ∧ x ∉ xs.take k ∧ Ext w w') (fun i _ => n - (intOf i).toNat)
  case atStart => exact ⟨0, Nat.zero_le _, rfl, by simp, Ext.refl _⟩
  case round =>
    obtain ⟨k, hk, rfl, heq, hb⟩ := hrel
    have Heq := Lib.hid heq; clear heq
    have Hb := Lib.hid hb; clear hb
    by_cases hlt : k < n
    · obtain ⟨b, off, rfl, c1⟩ := (Hx.out.ext Hb.out).at hlt
      generalize hX : xs.getD k 0 = X at *
      have HX := Lib.hid hX; clear hX
      by_cases hg : X = x
      · have hg' : (x == X) = true := by simpa using hg.symm
        have Hg := Lib.hid hg; clear hg
        go_wp2_with fail
        go_ret
        exact ⟨rn (idxI_hit xs x k (by rw [Hx.out.len]; exact hlt) Heq.out (HX.out.trans Hg.out)), Hb.out⟩
      · have hg' : (x == X) = false := by simpa using (Ne.symm hg)
        have Hg := Lib.hid hg; clear hg
        go_wp2_with fail
        go_roundw
        case rel => exact ⟨k + 1, by omega, by go_num, not_mem_take_succ xs x k (by rw [Hx.out.len]; exact hlt) Heq.out (by rw [HX.out]; exact Hg.out), Hb.out⟩
        case measure => simp [intOf]; omega
    · go_wp2_with fail
      go_ret
      exact ⟨rn (idxI_miss xs x (not_mem_of_take xs x n k Hx.out.len (by omega) Heq.out)), Hb.out⟩
theorem contains_c (ao : Option Addr) (n cap : Nat) (xs : List Int) (x : Int) (w : World) (hx : Ints w ao n cap xs) :
    Calls Tryz.prog 75 #[.slice ao n cap, .int .i64 x] w fun e w' => e = .returned (.bool (decide (x ∈ xs))) ∧ Ext w w' := by
  have Hx := Lib.hid hx
  clear hx
  go_enter Tryz.func75, Tryz.ntmps75
  go_wp2_with (go_at_call 139; (with_reducible refine (index_c _ _ _ xs x _ Hx.out).mono ?_); rintro e w' ⟨rfl, hb⟩)
  go_ret
  exact ⟨rb (by rw [← idxI_pos]), by assumption⟩
end Go.Proofs.YtmgpffknmmoggaaGreatDoor
namespace Go.Proofs.YtmgpffknmmoggaaGreatDoor
open Go.RowKit
set_option maxRecDepth 100000 in
set_option maxHeartbeats 1600000 in
theorem refvalid_c (ao : Option Addr) (n cap : Nat) (L : List (List Int)) (w : World) (hx : Grid w ao n cap L) (hsum : L.flatten.length ≤ 17592186044416) :
    Calls Tryz.prog 120 #[.slice ao n cap] w fun e w' => e = .returned (.bool (validB L)) ∧ Ext w w' := by
  have Hx := Lib.hid hx
  have b1 := hx.fits; have b2 := hx.bound; have hl := hx.len
  have HL := Lib.hid hl
  clear hx hl
  go_enter Tryz.func120, Tryz.ntmps120
  go_wp2_with fail
  refine (refall_c _ _ _ L _ Hx.out hsum).mono ?_
  rintro e w1 ⟨v1, rfl, hown, hb1⟩
  obtain ⟨a1, c1, rfl, hi⟩ := own_ints hown
  have HB1 := Lib.hid hb1
  have HI := Lib.hid hi
  have f1 := hi.fits; have f2 := hi.bound
  clear hown hb1 hi
  have V1 := Lib.hid (validB_many L); have V2 := Lib.hid (validB_great L); have V3 := Lib.hid (validB_neg L); have V4 := Lib.hid (validB_dup L); have V5 := Lib.hid (validB_ok L)
  generalize L.flatten = xs at *
  by_cases h5 : 5 < n
  · go_wp2_with fail
    go_ret
    exact ⟨rb (V1.out (by rw [HL.out]; exact h5)), HB1.out⟩
  by_cases h40 : 40 < xs.length
  · go_wp2_with fail
    go_ret
    exact ⟨rb (V2.out h40), HB1.out⟩
  go_wp2_with fail
  go_loopw [4] (fun i w' => ∃ k : Nat, k ≤ xs.length ∧ i = .int .i64 k ∧ (∀ x ∈ xs.take k, 0 ≤ x) ∧ (xs.take k).Nodup ∧ Ext w1 w') (fun i _ => xs.length - (intOf i).toNat)
  case atStart => exact ⟨0, Nat.zero_le _, rfl, by simp, by simp, Ext.refl _⟩
  case round =>
    obtain ⟨k, hk, rfl, hpos, hnd, hb⟩ := hrel
    have HP := Lib.hid hpos; have HN := Lib.hid hnd; have Hb := Lib.hid hb
    clear hpos hnd hb
    by_cases hlt : k < xs.length
    · obtain ⟨b, off, rfl, d1⟩ := (HI.out.ext Hb.out).at hlt
      have d2 := cell_of d1
      have v3 := V3.out k hlt
      have v4 := V4.out k hlt
      have n1 := nonneg_take_succ xs k hlt HP.out
      have n2 := nodup_take_succ xs k hlt HN.out
      generalize xs.getD k 0 = X at *
      have V3' := Lib.hid v3; have V4' := Lib.hid v4; have N1 := Lib.hid n1; have N2 := Lib.hid n2
      clear v3 v4 n1 n2
      go_wp2_with fail
      by_cases hneg : X < 0
      · have hd : decide (X < 0) = true := decide_eq_true hneg
        refine wp_region_ext (by kernel_rfl) (by kernel_rfl) ?_
        repeat (go_big_quiet_step (fail))
        refine wpQuiet_nil ?_
        intro w2 hw2
        have HW := Lib.hid hw2; clear hw2
        go_wp2_with fail
        go_ret
        exact ⟨rb (V3'.out hneg), HB1.out.trans (Hb.out.trans HW.out)⟩
      · have hd : decide (X < 0) = false := decide_eq_false hneg
        by_cases hin : X ∈ xs.take k
        · have hm := Lib.hid (decide_eq_true hin)
          have HIN := Lib.hid hin; clear hin
          refine wp_region_ext (by kernel_rfl) (by kernel_rfl) ?_
          repeat (go_big_quiet_step (exact Calls.quiet_ext (Calls.to (congrArg Value.bool hm.out) (has_c _ _ _ _ _ _ (((HI.out.ext Hb.out).ext (ExtOf.h _)).cut (by omega))))))
          refine wpQuiet_nil ?_
          intro w2 hw2
          have HW := Lib.hid hw2; clear hw2
          go_wp2_with fail
          go_ret
          exact ⟨rb (V4'.out HIN.out), HB1.out.trans (Hb.out.trans HW.out)⟩
        · have hm := Lib.hid (decide_eq_false hin)
          have HIN := Lib.hid hin; clear hin
          refine wp_region_ext (by kernel_rfl) (by kernel_rfl) ?_
          repeat (go_big_quiet_step (exact Calls.quiet_ext (Calls.to (congrArg Value.bool hm.out) (has_c _ _ _ _ _ _ (((HI.out.ext Hb.out).ext (ExtOf.h _)).cut (by omega))))))
          refine wpQuiet_nil ?_
          intro w2 hw2
          have HW := Lib.hid hw2; clear hw2
          go_wp2_with fail
          go_roundw
          case rel => exact ⟨k + 1, by omega, by go_num, N1.out (by omega), N2.out HIN.out, Hb.out.trans HW.out⟩
          case measure => simp [intOf]; omega
    · have hk2 : xs.take k = xs := List.take_of_length_le (by omega)
      have HK := Lib.hid hk2; clear hk2
      go_wp2_with fail
      go_ret
      exact ⟨rb (V5.out (by rw [HL.out]; omega) (by omega) (by have := HP.out; rwa [HK.out] at this) (by have := HN.out; rwa [HK.out] at this)), HB1.out.trans Hb.out⟩
end Go.Proofs.YtmgpffknmmoggaaGreatDoor
namespace Go.Proofs.YtmgpffknmmoggaaGreatDoor
open Go.RowKit
theorem take_eq_succ (xs ys : List Int) (k : Nat) (h1 : k < xs.length) (h2 : k < ys.length) (h : xs.take k = ys.take k) (he : xs.getD k 0 = ys.getD k 0) : xs.take (k + 1) = ys.take (k + 1) := by
  rw [take_succ_getD xs 0 k h1, take_succ_getD ys 0 k h2, h, he]
theorem decide_ne_of_getD (xs ys : List Int) (k : Nat) (he : xs.getD k 0 ≠ ys.getD k 0) : decide (xs = ys) = false := by
  rw [decide_eq_false_iff_not]; intro h; exact he (by rw [h])
theorem decide_ne_of_len (xs ys : List Int) (he : xs.length ≠ ys.length) : decide (xs = ys) = false := by
  rw [decide_eq_false_iff_not]; intro h; exact he (by rw [h])
theorem decide_eq_of_take (xs ys : List Int) (n k : Nat) (h1 : xs.length = n) (h2 : ys.length = n) (hk : n ≤ k) (he : xs.take k = ys.take k) : decide (xs = ys) = true := by
  rw [decide_eq_true_iff]
  rwa [List.take_of_length_le (by omega), List.take_of_length_le (by omega)] at he
set_option maxHeartbeats 400000 in
theorem ints_c (ao bo : Option Addr) (n m cap cap2 : Nat) (xs ys : List Int) (w : World) (hx : Ints w ao n cap xs) (hy : Ints w bo m cap2 ys) :
    Calls Tryz.prog 136 #[.slice ao n cap, .slice bo m cap2] w fun e w' => e = .returned (.bool (decide (xs = ys))) ∧ Ext w w' := by
  have Hx := Lib.hid hx; have Hy := Lib.hid hy
  have b1 := hx.fits; have b2 := hx.bound; have b3 := hy.fits; have b4 := hy.bound
  clear hx hy
  by_cases hlen : (n : Int) = m
  · have hlen1 : ((n : Int) != m) = false := by simp [hlen]
    have Hl := Lib.hid hlen; clear hlen
    go_enter Tryz.func136, Tryz.ntmps136
    go_wp2_with fail
    go_loopw [5] (fun i w' => ∃ k : Nat, k ≤ n ∧ i = .int .i64 k ∧ xs.take k = ys.take k ∧ Ext w w') (fun i _ => n - (intOf i).toNat)
    case atStart => exact ⟨0, Nat.zero_le _, rfl, rfl, Ext.refl _⟩
    case round =>
      obtain ⟨k, hk, rfl, heq, hb⟩ := hrel
      have Heq := Lib.hid heq; clear heq
      have Hb := Lib.hid hb; clear hb
      by_cases hlt : k < n
      · have hk2 : k < m := by have := Hl.out; omega
        obtain ⟨b, off, rfl, c1⟩ := (Hx.out.ext Hb.out).at hlt
        obtain ⟨b', off', rfl, c2⟩ := (Hy.out.ext Hb.out).at hk2
        generalize hX : xs.getD k 0 = X at *
        generalize hY : ys.getD k 0 = Y at *
        have HX := Lib.hid hX; clear hX
        have HY := Lib.hid hY; clear hY
        go_wp2_with fail
        go_quiet (fail)
        go_wp2_with fail
        · have hne : (X != Y) = true := by assumption
          go_ret
          exact ⟨rb (decide_ne_of_getD xs ys k (by rw [HX.out, HY.out]; simpa using hne)), Hb.out.drewN _⟩
        · have hne : (X != Y) = false := by assumption
          go_roundw
          case rel => exact ⟨k + 1, by omega, by go_num, take_eq_succ xs ys k (by have := Hx.out.len; omega) (by have := Hy.out.len; omega) Heq.out (by rw [HX.out, HY.out]; simpa using hne), Hb.out.drewN _⟩
          case measure => simp [intOf]; omega
      · go_wp2_with fail
        go_ret
        exact ⟨rb (decide_eq_of_take xs ys n k Hx.out.len (by have := Hy.out.len; have := Hl.out; omega) (by omega) Heq.out), Hb.out⟩
  · have hlen1 : ((n : Int) != m) = true := by simpa using hlen
    have Hl := Lib.hid hlen; clear hlen
    go_enter Tryz.func136, Tryz.ntmps136
    go_wp2_with fail
    go_ret
    exact ⟨rb (decide_ne_of_len xs ys (by have := Hx.out.len; have := Hy.out.len; have := Hl.out; omega)), Ext.refl _⟩
theorem gtake_eq_succ (xs ys : List (List Int)) (k : Nat) (h1 : k < xs.length) (h2 : k < ys.length) (h : xs.take k = ys.take k) (he : xs.getD k [] = ys.getD k []) : xs.take (k + 1) = ys.take (k + 1) := by
  rw [take_succ_getD xs [] k h1, take_succ_getD ys [] k h2, h, he]
theorem gdecide_ne_of_getD (xs ys : List (List Int)) (k : Nat) (he : xs.getD k [] ≠ ys.getD k []) : decide (xs = ys) = false := by
  rw [decide_eq_false_iff_not]; intro h; exact he (by rw [h])
theorem gdecide_ne_of_len (xs ys : List (List Int)) (he : xs.length ≠ ys.length) : decide (xs = ys) = false := by
  rw [decide_eq_false_iff_not]; intro h; exact he (by rw [h])
theorem gdecide_eq_of_take (xs ys : List (List Int)) (n k : Nat) (h1 : xs.length = n) (h2 : ys.length = n) (hk : n ≤ k) (he : xs.take k = ys.take k) : decide (xs = ys) = true := by
  rw [decide_eq_true_iff]
  rwa [List.take_of_length_le (by omega), List.take_of_length_le (by omega)] at he
set_option maxHeartbeats 400000 in
theorem same_c (ao bo : Option Addr) (n m cap cap2 : Nat) (xs ys : List (List Int)) (w : World) (hx : Grid w ao n cap xs) (hy : Grid w bo m cap2 ys) :
    Calls Tryz.prog 71 #[.slice ao n cap, .slice bo m cap2] w fun e w' => e = .returned (.bool (decide (xs = ys))) ∧ Ext w w' := by
  have Hx := Lib.hid hx; have Hy := Lib.hid hy
  have b1 := hx.fits; have b2 := hx.bound; have b3 := hy.fits; have b4 := hy.bound
  clear hx hy
  by_cases hlen : (n : Int) = m
  · have hlen1 : ((n : Int) != m) = false := by simp [hlen]
    have Hl := Lib.hid hlen; clear hlen
    go_enter Tryz.func71, Tryz.ntmps71
    go_wp2_with fail
    go_loopw [5] (fun i w' => ∃ k : Nat, k ≤ n ∧ i = .int .i64 k ∧ xs.take k = ys.take k ∧ Ext w w') (fun i _ => n - (intOf i).toNat)
    case atStart => exact ⟨0, Nat.zero_le _, rfl, rfl, Ext.refl _⟩
    case round =>
      obtain ⟨k, hk, rfl, heq, hb⟩ := hrel
      have Heq := Lib.hid heq; clear heq
      have Hb := Lib.hid hb; clear hb
      by_cases hlt : k < n
      · have hk2 : k < m := by have := Hl.out; omega
        obtain ⟨b, off, ai, ni, ci, rfl, c1, r1⟩ := (Hx.out.ext Hb.out).at hlt
        obtain ⟨b', off', ai', ni', ci', rfl, c2, r2⟩ := (Hy.out.ext Hb.out).at hk2
        have d1 := cell_of c1; have d2 := cell_of c2
        have R1 := Lib.hid r1; have R2 := Lib.hid r2; clear r1 r2
        go_wp2_with fail
        by_cases hne : xs.getD k [] = ys.getD k []
        · have hd : decide (xs.getD k [] = ys.getD k []) = true := decide_eq_true hne
          have Hd := Lib.hid hd; have Hne := Lib.hid hne; clear hd hne
          refine wp_region_ext (by kernel_rfl) (by kernel_rfl) ?_
          repeat (go_big_quiet_step (exact Calls.quiet_ext (Calls.to (congrArg Value.bool Hd.out) (ints_c _ _ _ _ _ _ _ _ _ (R1.out.ext (ExtOf.h _)) (R2.out.ext (ExtOf.h _))))))
          refine wpQuiet_nil ?_
          intro w2 hw2
          have HW := Lib.hid hw2; clear hw2
          go_wp2_with fail
          go_roundw
          case rel => exact ⟨k + 1, by omega, by go_num, gtake_eq_succ xs ys k (by have := Hx.out.len; omega) (by have := Hy.out.len; omega) Heq.out Hne.out, Hb.out.trans HW.out⟩
          case measure => simp [intOf]; omega
        · have hd : decide (xs.getD k [] = ys.getD k []) = false := decide_eq_false hne
          have Hd := Lib.hid hd; have Hne := Lib.hid hne; clear hd hne
          refine wp_region_ext (by kernel_rfl) (by kernel_rfl) ?_
          repeat (go_big_quiet_step (exact Calls.quiet_ext (Calls.to (congrArg Value.bool Hd.out) (ints_c _ _ _ _ _ _ _ _ _ (R1.out.ext (ExtOf.h _)) (R2.out.ext (ExtOf.h _))))))
          refine wpQuiet_nil ?_
          intro w2 hw2
          have HW := Lib.hid hw2; clear hw2
          go_wp2_with fail
          go_ret
          exact ⟨rb (gdecide_ne_of_getD xs ys k Hne.out), Hb.out.trans HW.out⟩
      · go_wp2_with fail
        go_ret
        exact ⟨rb (gdecide_eq_of_take xs ys n k Hx.out.len (by have := Hy.out.len; have := Hl.out; omega) (by omega) Heq.out), Hb.out⟩
  · have hlen1 : ((n : Int) != m) = true := by simpa using hlen
    have Hl := Lib.hid hlen; clear hlen
    go_enter Tryz.func71, Tryz.ntmps71
    go_wp2_with fail
    go_ret
    exact ⟨rb (gdecide_ne_of_len xs ys (by have := Hx.out.len; have := Hy.out.len; have := Hl.out; omega)), Ext.refl _⟩
end Go.Proofs.YtmgpffknmmoggaaGreatDoor
