/- Walks: whether a manifest may be. -/
import Derived.Test.YtmgpffknmmoggaaGreatDoorChecked
import Derived.Test.YtmgpffknmmoggaaGreatDoorG19PIndexPlay
import Derived.Test.YtmgpffknmmoggaaGreatDoorG21PIndexPlay
import Derived.Test.YtmgpffknmmoggaaGreatDoorG3PIndexPlay
set_option linter.unusedVariables false
set_option linter.unusedSimpArgs false
namespace Go.Proofs.YtmgpffknmmoggaaGreatDoor
open Go.RowKit
def mvalid (nx ck : Int) (L : List (List Int)) : Bool := decide (0 ≤ nx ∧ nx ≤ 1000000 ∧ 0 ≤ ck ∧ ck ≤ 2147483647) && validB L && L.flatten.all fun x => decide (x < nx)
theorem mvalid_num {nx ck : Int} {L : List (List Int)} (h : ¬ (0 ≤ nx ∧ nx ≤ 1000000 ∧ 0 ≤ ck ∧ ck ≤ 2147483647)) : mvalid nx ck L = false := by
  unfold mvalid; rw [decide_eq_false h]; rfl
theorem mvalid_lev {nx ck : Int} {L : List (List Int)} (h : validB L = false) : mvalid nx ck L = false := by
  unfold mvalid; rw [h, Bool.and_false, Bool.false_and]
theorem mvalid_all {nx ck : Int} {L : List (List Int)} (h : 0 ≤ nx ∧ nx ≤ 1000000 ∧ 0 ≤ ck ∧ ck ≤ 2147483647) (h2 : validB L = true) : mvalid nx ck L = L.flatten.all fun x => decide (x < nx) := by
  unfold mvalid; rw [decide_eq_true h, h2, Bool.true_and, Bool.true_and]
theorem box4 {w w1 : World} {a b c d : Value} {t : TypeId} (h : Ext (w.alloc (.cells #[a, b, c, d] t)) w1) :
    w1.cell? ⟨w.heap.size, 0, none⟩ = some a ∧ w1.cell? ⟨w.heap.size, 1, none⟩ = some b ∧ w1.cell? ⟨w.heap.size, 2, none⟩ = some c ∧ w1.cell? ⟨w.heap.size, 3, none⟩ = some d :=
  ⟨cell_ext h (by simp), cell_ext h (by simp), cell_ext h (by simp), cell_ext h (by simp)⟩
theorem above_c (x nx : Int) (g : Nat) (w : World) (h : w.cell? ⟨g, 0, none⟩ = some (.int .i64 nx)) :
    Calls Tryz.prog 103 #[.int .i64 x, .pointer (some ⟨g, 0, none⟩)] w fun e w' => e = .returned (.bool (decide (nx ≤ x))) ∧ Ext w w' := by
  go_enter Tryz.func103, Tryz.ntmps103
  go_wp2_with fail
  go_ret
  exact ⟨rfl, Ext.refl _⟩
def idxAbove (xs : List Int) (nx : Int) : Int := if xs.any (fun x => decide (nx ≤ x)) then (xs.findIdx (fun x => decide (nx ≤ x)) : Int) else -1
theorem idxAbove_hit (xs : List Int) (nx : Int) (k : Nat) (hk : k < xs.length) (h0 : (xs.take k).any (fun x => decide (nx ≤ x)) = false) (h1 : nx ≤ xs.getD k 0) : idxAbove xs nx = k := by
  have ha : xs.any (fun x => decide (nx ≤ x)) = true := any_of_getD _ 0 xs k hk (decide_eq_true h1)
  unfold idxAbove
  rw [if_pos ha]
  have : xs.findIdx (fun x => decide (nx ≤ x)) = k := by
    rw [List.findIdx_eq hk]
    refine ⟨?_, fun j hj => ?_⟩
    · rw [List.getD_eq_getElem?_getD, List.getElem?_eq_getElem hk] at h1
      exact decide_eq_true h1
    · rw [List.any_eq_false] at h0
      have := h0 xs[j] (List.mem_take_iff_getElem.2 ⟨j, by omega, rfl⟩)
      simpa using this
  rw [this]
theorem idxAbove_miss (xs : List Int) (nx : Int) (h : xs.any (fun x => decide (nx ≤ x)) = false) : idxAbove xs nx = -1 := by
  unfold idxAbove; rw [h]; rfl
theorem idxAbove_pos (xs : List Int) (nx : Int) : decide (0 ≤ idxAbove xs nx) = xs.any (fun x => decide (nx ≤ x)) := by
  unfold idxAbove
  cases h : xs.any (fun x => decide (nx ≤ x))
  · simp
  · simp
theorem all_not_above (xs : List Int) (nx : Int) : (!(xs.any fun x => decide (nx ≤ x))) = xs.all fun x => decide (x < nx) := by
  rw [List.not_any_eq_all_not]
  congr 1
  funext x
  by_cases h : nx ≤ x
  · rw [decide_eq_true h, decide_eq_false (by omega)]; rfl
  · rw [decide_eq_false h, decide_eq_true (by omega)]; rfl
set_option maxRecDepth 100000 in
set_option maxHeartbeats 1600000 in
theorem idxf_c (ao : Option Addr) (n cap : Nat) (xs : List Int) (nx : Int) (g : Nat) (w : World) (hx : Ints w ao n cap xs) (hg : w.cell? ⟨g, 0, none⟩ = some (.int .i64 nx)) :
    Calls Tryz.prog 161 #[.slice ao n cap, .func (Fn.func 103) #[] #[.pointer (some ⟨g, 0, none⟩)]] w fun e w' => e = .returned (.int .i64 (idxAbove xs nx)) ∧ Ext w w' := by
  have Hx := Lib.hid hx
  have HG := Lib.hid hg
  have b1 := hx.fits; have b2 := hx.bound
  clear hx hg
  go_enter Tryz.func161, Tryz.ntmps161
  go_wp2_with fail
  go_loopw [8] (fun i w' => ∃ k : Nat, k ≤ n ∧ i = .int .i64 k ∧ (xs.take k).any (fun x => decide (nx ≤ x)) = false ∧ Ext w w') (fun i _ => n - (intOf i).toNat)
  case atStart => exact ⟨0, Nat.zero_le _, rfl, by simp, Ext.refl _⟩
  case round =>
    obtain ⟨k, hk, rfl, heq, hb⟩ := hrel
    have Heq := Lib.hid heq; have Hb := Lib.hid hb
    clear heq hb
    by_cases hlt : k < n
    · obtain ⟨b, off, rfl, c1⟩ := (Hx.out.ext Hb.out).at hlt
      generalize hX : xs.getD k 0 = X at *
      have HX := Lib.hid hX; clear hX
      go_wp2_with fail
      refine (above_c X nx g _ (cell_ext Hb.out HG.out)).mono ?_
      rintro e w1 ⟨rfl, hb1⟩
      have HB1 := Lib.hid (Hb.out.trans hb1); clear hb1
      by_cases hge : nx ≤ X
      · go_wp2_with fail
        go_ret
        exact ⟨rn (idxAbove_hit xs nx k (by rw [Hx.out.len]; exact hlt) Heq.out (by rw [HX.out]; exact hge)), HB1.out⟩
      · go_wp2_with fail
        go_roundw
        case rel => exact ⟨k + 1, by omega, by go_num, any_take_succ _ 0 xs k (by rw [Hx.out.len]; exact hlt) Heq.out (by rw [HX.out]; exact decide_eq_false (by omega)), HB1.out⟩
        case measure => simp [intOf]; omega
    · go_wp2_with fail
      go_ret
      exact ⟨rn (idxAbove_miss xs nx (any_of_take _ xs n k Hx.out.len (by omega) Heq.out)), Hb.out⟩
theorem containsf_c (ao : Option Addr) (n cap : Nat) (xs : List Int) (nx : Int) (g : Nat) (w : World) (hx : Ints w ao n cap xs) (hg : w.cell? ⟨g, 0, none⟩ = some (.int .i64 nx)) :
    Calls Tryz.prog 102 #[.slice ao n cap, .func (Fn.func 103) #[] #[.pointer (some ⟨g, 0, none⟩)]] w fun e w' => e = .returned (.bool (xs.any fun x => decide (nx ≤ x))) ∧ Ext w w' := by
  have Hx := Lib.hid hx
  have HG := Lib.hid hg
  clear hx hg
  go_enter Tryz.func102, Tryz.ntmps102
  go_wp2_with fail
  refine (idxf_c _ _ _ xs nx g _ Hx.out HG.out).mono ?_
  rintro e w1 ⟨rfl, hb⟩
  have HB := Lib.hid hb; clear hb
  go_wp2_with fail
  go_ret
  exact ⟨rb (by rw [← idxAbove_pos]), HB.out⟩
set_option maxRecDepth 100000 in
set_option maxHeartbeats 1600000 in
theorem mvalid_c (nx ck sd : Int) (ao : Option Addr) (n cap : Nat) (L : List (List Int)) (w : World) (hx : Grid w ao n cap L) (hsum : L.flatten.length ≤ 17592186044416) (hwf : ∀ x ∈ L.flatten, (Lit.int .i64 x).wf = true) :
    Calls Tryz.prog 43 #[.agg #[.int .i64 nx, .int .i64 ck, .int .u64 sd, .slice ao n cap]] w fun e w' => e = .returned (.bool (mvalid nx ck L)) ∧ Ext w w' := by
  have Hx := Lib.hid hx
  have HWF := Lib.hid hwf
  clear hx hwf
  by_cases h1 : nx < 0
  · have hm : mvalid nx ck L = false := mvalid_num (by omega)
    have HM := Lib.hid hm; clear hm
    go_enter Tryz.func43, Tryz.ntmps43
    go_wp2_with fail
    go_ret
    exact ⟨by rw [HM.out]; rfl, ext_a1 _ _⟩
  by_cases h2 : 1000000 < nx
  · have hm : mvalid nx ck L = false := mvalid_num (by omega)
    have HM := Lib.hid hm; clear hm
    go_enter Tryz.func43, Tryz.ntmps43
    go_wp2_with fail
    go_ret
    exact ⟨by rw [HM.out]; rfl, ext_a1 _ _⟩
  by_cases h3 : ck < 0
  · have hm : mvalid nx ck L = false := mvalid_num (by omega)
    have HM := Lib.hid hm; clear hm
    go_enter Tryz.func43, Tryz.ntmps43
    go_wp2_with fail
    go_ret
    exact ⟨by rw [HM.out]; rfl, ext_a1 _ _⟩
  by_cases h4 : 2147483647 < ck
  · have hm : mvalid nx ck L = false := mvalid_num (by omega)
    have HM := Lib.hid hm; clear hm
    go_enter Tryz.func43, Tryz.ntmps43
    go_wp2_with fail
    go_ret
    exact ⟨by rw [HM.out]; rfl, ext_a1 _ _⟩
  go_enter Tryz.func43, Tryz.ntmps43
  go_wp2_with fail
  refine (valid_c _ _ _ L _ (Hx.out.ext (ext_a1 _ _)) hsum HWF.out).mono ?_
  rintro e w1 ⟨rfl, hb⟩
  obtain ⟨d0, d1, d2, d3⟩ := box4 hb
  have HB := Lib.hid hb; clear hb
  by_cases h5 : validB L = false
  · have hm : mvalid nx ck L = false := mvalid_lev h5
    have HM := Lib.hid hm; clear hm
    go_wp2_with fail
    go_ret
    exact ⟨by rw [HM.out]; rfl, (ext_a1 _ _).trans HB.out⟩
  have h5' : validB L = true := by simpa using h5
  have hm : mvalid nx ck L = !(L.flatten.any fun x => decide (nx ≤ x)) := by rw [all_not_above]; exact mvalid_all (by omega) h5'
  have HM := Lib.hid hm; clear hm h5
  generalize hF : L.flatten = xs at *
  have HF := Lib.hid hF; clear hF
  go_wp2_with fail
  refine (all_c _ _ _ L _ ((Hx.out.ext (ext_a1 _ _)).ext HB.out) (by rw [HF.out]; exact hsum)).mono ?_
  rw [HF.out]
  rintro e w2 ⟨v2, rfl, hown, hb⟩
  obtain ⟨a2, c2, rfl, hi2⟩ := own_ints hown
  have HB2 := Lib.hid (HB.out.trans hb)
  obtain ⟨e0, e1, e2, e3⟩ := box4 HB2.out
  have HI2 := Lib.hid hi2
  have E0 := Lib.hid e0
  clear hown hb hi2 HB d0 d1 d2 d3
  go_wp2_with fail
  refine (containsf_c _ _ _ xs nx w.heap.size _ HI2.out E0.out).mono ?_
  rintro e w3 ⟨rfl, hb⟩
  have HB3 := Lib.hid (HB2.out.trans hb); clear hb e0 e1 e2 e3
  go_wp2_with fail
  go_ret
  exact ⟨rb HM.out, (ext_a1 _ _).trans HB3.out⟩
end Go.Proofs.YtmgpffknmmoggaaGreatDoor
