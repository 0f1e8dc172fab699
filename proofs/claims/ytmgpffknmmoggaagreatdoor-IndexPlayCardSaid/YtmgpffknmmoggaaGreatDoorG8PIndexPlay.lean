/- Walks: entries. Walks: whether two lists of entries are the same (law18's Same). -/
import Derived.Test.YtmgpffknmmoggaaGreatDoorChecked
import Derived.Test.YtmgpffknmmoggaaGreatDoorG4PIndexPlay
import Derived.Test.YtmgpffknmmoggaaGreatDoorG7PIndexPlay
import Derived.Laws.BitsLemmas
set_option linter.unusedVariables false
set_option linter.unusedSimpArgs false
namespace Go.Proofs.YtmgpffknmmoggaaGreatDoor
open Go.RowKit
set_option maxRecDepth 100000
set_option linter.unusedVariables false
set_option maxHeartbeats 3200000
theorem less_e (a b : En) (w : World) : Calls Tryz.prog 126 #[enV a, enV b] w fun e w' => e = .returned (.bool (lessE a b)) ∧ Ext w w' := by
  obtain ⟨a1, a2, a3⟩ := a
  obtain ⟨b1, b2, b3⟩ := b
  have HB := Lib.hid (ext_a2 w (.cells #[.int .u64 a1, .int .i64 a2, .int .i64 a3] 44) (.cells #[.int .u64 b1, .int .i64 b2, .int .i64 b3] 44))
  have HL : Hid (lessE (a1, a2, a3) (b1, b2, b3) = if a1 ≠ b1 then decide (a1 < b1) else if a2 ≠ b2 then decide (a2 < b2) else decide (a3 < b3)) := Lib.hid rfl
  show Calls Tryz.prog 126 #[.agg #[.int .u64 a1, .int .i64 a2, .int .i64 a3], .agg #[.int .u64 b1, .int .i64 b2, .int .i64 b3]] w _
  by_cases h1 : a1 = b1
  · subst h1
    by_cases h2 : a2 = b2
    · subst h2
      go_enter Tryz.func126, Tryz.ntmps126
      go_wp2_with fail
      go_ret
      exact ⟨rb (by rw [HL.out]; simp), HB.out⟩
    · have hn : (a2 != b2) = true := by simpa using h2
      go_enter Tryz.func126, Tryz.ntmps126
      go_wp2_with fail
      go_ret
      exact ⟨rb (by rw [HL.out]; simp [h2]), HB.out⟩
  · have hn : (a1 != b1) = true := by simpa using h1
    go_enter Tryz.func126, Tryz.ntmps126
    go_wp2_with fail
    go_ret
    exact ⟨rb (by rw [HL.out]; simp [h1]), HB.out⟩
theorem sortB_take {L : List En} {k : Nat} (hk : k + 1 < L.length) : sortB (L.take (k + 2)) = (sortB (L.take (k + 1)) && lessE (L.getD k en0) (L.getD (k + 1) en0)) := by
  rw [Bool.eq_iff_iff, Bool.and_eq_true, sortB_iff, sortB_iff]
  have e1 : L.take (k + 2) = L.take (k + 1) ++ [L.getD (k + 1) en0] := take_succ_getD L en0 (k + 1) hk
  have e2 : L.take (k + 1) = L.take k ++ [L.getD k en0] := take_succ_getD L en0 k (by omega)
  rw [e1]
  unfold sortE
  rw [List.pairwise_append]
  constructor
  · rintro ⟨h1, _, h3⟩
    exact ⟨h1, h3 _ (by rw [e2]; simp) _ (by simp)⟩
  · rintro ⟨h1, h2⟩
    refine ⟨h1, by simp, fun x hx y hy => ?_⟩
    obtain rfl := List.mem_singleton.1 hy
    rw [e2] at hx h1
    rcases List.mem_append.1 hx with hx | hx
    · exact lessE_trans ((List.pairwise_append.1 h1).2.2 x hx _ (by simp)) h2
    · obtain rfl := List.mem_singleton.1 hx; exact h2
theorem sortB_false {L : List En} {k : Nat} (hk : k + 1 < L.length) (h : lessE (L.getD k en0) (L.getD (k + 1) en0) = false) : sortB L = false := by
  cases hs : sortB L with
  | false => rfl
  | true =>
    rw [sortB_iff] at hs
    have h1 : sortE (L.take (k + 2)) := hs.sublist (List.take_sublist _ _)
    rw [← sortB_iff, sortB_take hk, h, Bool.and_false] at h1
    cases h1
theorem sorted_e {ao : Option Addr} {n cap : Nat} {L : List En} (w : World) (hx : Ens w ao n cap L) : Calls Tryz.prog 167 #[.slice ao n cap] w fun e w' => e = .returned (.bool (sortB L)) ∧ Ext w w' := by
  have Hx := Lib.hid hx
  have b1 := hx.fits; have b2 := hx.bound
  have HLen := Lib.hid hx.len
  clear hx
  go_enter Tryz.func167, Tryz.ntmps167
  go_wp2_with fail
  go_loopw [3] (fun i W => ∃ k : Nat, k + 1 ≤ max n 1 ∧ i = .int .i64 ((k : Int) + 1) ∧ sortB (L.take (k + 1)) = true ∧ Ext w W) (fun i _ => n - (intOf i).toNat)
  case atStart =>
    refine ⟨0, by omega, rfl, ?_, Ext.refl _⟩
    cases L with
    | nil => rfl
    | cons a r => rfl
  case round =>
    obtain ⟨k, hk, rfl, hs, hb⟩ := hrel
    have HS := Lib.hid hs; have HB := Lib.hid hb
    by_cases hlt : k + 1 < n
    · have hd : decide (((k : Int) + 1) < (n : Int)) = true := by simp; omega
      obtain ⟨b, off, rfl, c0, c1, c2⟩ := (Hx.out.ext hb).at (i := k) (by omega)
      obtain ⟨_, _, e1, d0, d1, d2⟩ := (Hx.out.ext hb).at (i := k + 1) hlt
      cases e1
      have HT := Lib.hid (sortB_take (L := L) (k := k) (by rw [HLen.out]; exact hlt))
      have HF := Lib.hid (sortB_false (L := L) (k := k) (by rw [HLen.out]; exact hlt))
      obtain ⟨x, hx⟩ : ∃ x, L.getD k en0 = x := ⟨_, rfl⟩
      obtain ⟨y, hy⟩ : ∃ y, L.getD (k + 1) en0 = y := ⟨_, rfl⟩
      rw [hx] at c0 c1 c2
      rw [hy] at d0 d1 d2
      rw [hx, hy] at HT HF
      obtain ⟨q, hq⟩ : ∃ q, lessE x y = q := ⟨_, rfl⟩
      have HLs := Lib.hid (fun W => less_e x y W)
      rw [hq] at HLs HT HF
      obtain ⟨x1, x2, x3⟩ := x
      obtain ⟨y1, y2, y3⟩ := y
      unfold enV ec at HLs
      have u0 := cell_of c0; have u1 := cell_of c1; have u2 := cell_of c2
      have v0 := cell_of d0; have v1 := cell_of d1; have v2 := cell_of d2
      have hw1 : IntKind.i64.wrap ((k : Int) + 1 - 1) = (k : Int) := by rw [IntKind.wrap_i64]; omega
      have hw2 : IntKind.i64.wrap (k : Int) = (k : Int) := by rw [IntKind.wrap_i64]; omega
      clear hx hy hs hb hq
      cases q with
      | true =>
        go_wp2_with fail
        refine wp_region_ext (by kernel_rfl) (by kernel_rfl) ?_
        repeat (go_big_quiet_step (first | (go_at_call 126; exact Calls.quiet_ext (HLs.out _))))
        refine wpQuiet_nil ?_
        intro w2 hw2
        have HB2 := Lib.hid (HB.out.trans hw2)
        clear hw2
        go_wp2_with fail
        go_roundw
        case rel => exact ⟨k + 1, by omega, by go_num, by rw [HT.out, HS.out]; rfl, HB2.out⟩
        case measure => simp [intOf]; omega
      | false =>
        go_wp2_with fail
        refine wp_region_ext (by kernel_rfl) (by kernel_rfl) ?_
        repeat (go_big_quiet_step (first | (go_at_call 126; exact Calls.quiet_ext (HLs.out _))))
        refine wpQuiet_nil ?_
        intro w2 hw2
        have HB2 := Lib.hid (HB.out.trans hw2)
        clear hw2
        go_wp2_with fail
        go_ret
        exact ⟨rb (HF.out (by first | rfl | trivial)), HB2.out⟩
    · have hd : decide (((k : Int) + 1) < (n : Int)) = false := by simp; omega
      have HF : Hid (sortB L = true) := Lib.hid (by rwa [List.take_of_length_le (by rw [HLen.out]; omega)] at hs)
      clear hs hb
      go_wp2_with fail
      go_ret
      exact ⟨rb HF.out, HB.out⟩
end Go.Proofs.YtmgpffknmmoggaaGreatDoor
namespace Go.Proofs.YtmgpffknmmoggaaGreatDoor
open Go.RowKit
set_option maxRecDepth 100000
set_option linter.unusedVariables false
set_option maxHeartbeats 6400000
theorem ens_same {L M : List En} (hl : L.length = M.length) (h : L.take L.length = M.take L.length) : L = M := by
  rw [List.take_length, hl, List.take_length] at h; exact h
theorem take_same {L M : List En} {k : Nat} (hl : k < L.length) (hm : k < M.length) (h : L.take k = M.take k) (he : L.getD k en0 = M.getD k en0) : L.take (k + 1) = M.take (k + 1) := by
  rw [List.take_succ_eq_append_getElem hl, List.take_succ_eq_append_getElem hm, h]
  simp [List.getD, List.getElem?_eq_getElem hl, List.getElem?_eq_getElem hm] at he
  rw [he]
theorem same18_c {ao bo : Option Addr} {n m cap bcap : Nat} {L M : List En} (w : World) (hx : Ens w ao n cap L) (hy : Ens w bo m bcap M) :
    Calls Tryz.prog 21 #[.slice ao n cap, .slice bo m bcap] w fun r w' => r = .returned (.bool (decide (L = M))) ∧ Ext w w' := by
  have Hx := Lib.hid hx; have Hy := Lib.hid hy
  have b1 := hx.fits; have b2 := hx.bound; have c1 := hy.fits; have c2 := hy.bound
  have HLx := Lib.hid hx.len; have HLy := Lib.hid hy.len
  clear hx hy
  by_cases hnm : n = m
  case neg =>
    have hd : ((n : Int) != (m : Int)) = true := by simp; omega
    have HE : Hid (decide (L = M) = false) := Lib.hid (decide_eq_false fun h => hnm (by rw [← HLx.out, ← HLy.out, h]))
    clear hnm
    go_enter Tryz.func21, Tryz.ntmps21
    go_wp2_with fail
    go_ret
    exact ⟨rb HE.out, Ext.refl _⟩
  case pos =>
  subst hnm
  go_enter Tryz.func21, Tryz.ntmps21
  go_wp2_with fail
  go_loopw [5] (fun i W => ∃ k : Nat, k ≤ n ∧ i = .int .i64 (k : Int) ∧ L.take k = M.take k ∧ Ext w W) (fun i _ => n - (intOf i).toNat)
  case atStart => exact ⟨0, Nat.zero_le _, rfl, rfl, Ext.refl _⟩
  case round =>
    obtain ⟨k, hk, rfl, ht, hb⟩ := hrel
    have HBk := Lib.hid hb; have HT := Lib.hid ht
    by_cases hlt : k < n
    · have hd : decide ((k : Int) < (n : Int)) = true := by simp; omega
      have q1 : IntKind.i64.wrap ((k : Int) + 1) = (k : Int) + 1 := by rw [IntKind.wrap_i64]; omega
      obtain ⟨b, off, rfl, a0, a1, a2⟩ := (Hx.out.ext hb).at hlt
      obtain ⟨b', off', rfl, d0, d1, d2⟩ := (Hy.out.ext hb).at hlt
      have HTk := Lib.hid (fun h => take_same (by rw [HLx.out]; exact hlt) (by rw [HLy.out]; exact hlt) ht h)
      have HNo : Hid (L.getD k en0 ≠ M.getD k en0 → decide (L = M) = false) := Lib.hid fun h => decide_eq_false fun e => h (by rw [e])
      generalize L.getD k en0 = x at *
      generalize M.getD k en0 = y at *
      obtain ⟨x1, x2, x3⟩ := x; obtain ⟨y1, y2, y3⟩ := y
      have u0 := cell_of a0; have u1 := cell_of a1; have u2 := cell_of a2
      have v0 := cell_of d0; have v1 := cell_of d1; have v2 := cell_of d2
      clear hb ht
      by_cases hxy : (x1, x2, x3) = (y1, y2, y3)
      · have HTn := Lib.hid (HTk.out hxy)
        obtain ⟨rfl, rfl, rfl⟩ : x1 = y1 ∧ x2 = y2 ∧ x3 = y3 := by cases hxy; exact ⟨rfl, rfl, rfl⟩
        clear hxy
        go_wp2_with fail
        refine wp_region_ext (by kernel_rfl) (by kernel_rfl) ?_
        repeat (go_big_quiet_step (fail))
        refine wpQuiet_nil ?_
        intro w2 hw2
        have HB2 := Lib.hid (HBk.out.trans hw2)
        clear hw2
        go_wp2_with fail
        go_roundw
        case rel => exact ⟨k + 1, hlt, by go_num, HTn.out, HB2.out⟩
        case measure => simp [intOf]; omega
      · have HE := Lib.hid (HNo.out hxy)
        have h3 : (¬ x1 = y1) ∨ (x1 = y1 ∧ ¬ x2 = y2) ∨ (x1 = y1 ∧ x2 = y2 ∧ ¬ x3 = y3) := by
          by_cases e1 : x1 = y1
          · by_cases e2 : x2 = y2
            · by_cases e3 : x3 = y3
              · exact absurd (by rw [e1, e2, e3]) hxy
              · exact .inr (.inr ⟨e1, e2, e3⟩)
            · exact .inr (.inl ⟨e1, e2⟩)
          · exact .inl e1
        clear hxy
        rcases h3 with h3 | ⟨rfl, h3⟩ | ⟨rfl, rfl, h3⟩
        all_goals
          go_wp2_with fail
          refine wp_region_ext (by kernel_rfl) (by kernel_rfl) ?_
          repeat (go_big_quiet_step (fail))
          refine wpQuiet_nil ?_
          intro w2 hw2
          have HB2 := Lib.hid (HBk.out.trans hw2)
          clear hw2
          go_wp2_with fail
          go_ret
          exact ⟨rb HE.out, HB2.out⟩
    · have hd : decide ((k : Int) < (n : Int)) = false := by simp; omega
      have HE : Hid (decide (L = M) = true) := Lib.hid (decide_eq_true (by
        obtain rfl : k = n := by omega
        exact ens_same (by rw [HLx.out, HLy.out]) (by rw [HLx.out]; exact ht)))
      clear hb ht
      go_wp2_with fail
      go_ret
      exact ⟨rb HE.out, HBk.out⟩
end Go.Proofs.YtmgpffknmmoggaaGreatDoor
