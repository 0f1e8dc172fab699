/- Walks: merged from the top down, all tables are one at the last level. -/
import Derived.Test.YtkkafjknogfdnaaChecked
import Derived.Test.YtkkafjknogfdnaaLM
import Derived.Test.YtkkafjknogfdnaaLL
namespace Go.Proofs.Ytkkafjknogfdnaa
open Go.RowKit

/-- the levels behind so many adds -/
def sinkS : Nat → List (List Int)
  | 0 => []
  | n + 1 => [(List.range (n + 1)).map fun i : Nat => (i : Int)]

/-- and behind so many merges -/
def sinkD (m : Nat) : Nat → List (List Int)
  | 0 => sinkS m
  | l + 1 => List.replicate (min (l + 1) 4) [] ++ [[(m : Int) + l]]

def okB (L : List (List Int)) : Bool := decide (L.flatten.length ≤ 40) && decide (L.length ≤ 5) && L.flatten.all fun x => (Lit.int .i64 x).wf

theorem okB_of {L : List (List Int)} (h : okB L = true) : L.flatten.length ≤ 40 ∧ L.length ≤ 5 ∧ ∀ x ∈ L.flatten, (Lit.int .i64 x).wf = true := by
  unfold okB at h
  rw [Bool.and_eq_true, Bool.and_eq_true] at h
  exact ⟨of_decide_eq_true h.1.1, of_decide_eq_true h.1.2, List.all_eq_true.1 h.2⟩

theorem sink_add : ∀ i, i < 40 → addS (sinkS i) i = (sinkS (i + 1), 0) ∧ okB (sinkS i) = true := of_decide_eq_true (by kernel_rfl)
theorem sink_rep : ∀ m, m < 40 → ∀ l, l < 5 → replaceS (sinkD (m + 1) l) l (((m + 1 : Nat) : Int) + l) = (sinkD (m + 1) (l + 1), 0) ∧ okB (sinkD (m + 1) l) = true ∧ (sinkD (m + 1) (l + 1)).flatten.length = 1 ∧ okB (sinkD (m + 1) (l + 1)) = true := of_decide_eq_true (by kernel_rfl)

set_option maxRecDepth 100000 in
set_option maxHeartbeats 3200000 in
theorem sink_c (a : Int) (w : World) (h0 : 0 ≤ a) (h1 : a ≤ 255) : Calls Try.prog 5 #[.int .u8 a] w fun e w' => e = .returned (.bool true) ∧ Ext w w' := by
  obtain ⟨m, hm⟩ : ∃ m : Nat, (m : Int) = a % 40 := ⟨(a % 40).toNat, by omega⟩
  have hm40 : m < 40 := by omega
  have hmod : a % 40 = (m : Int) := hm.symm
  clear hm
  have SA := Lib.hid sink_add
  have SR := Lib.hid (sink_rep m hm40)
  go_enter Try.func5, Try.ntmps5
  go_wp2_with fail
  clear hmod
  go_loopw [4, 5, 6] (fun v e i w' => ∃ k : Nat, k ≤ m + 1 ∧ i = .int .i64 k ∧ e = .int .i64 0 ∧ (∃ ao c, v = .slice ao (sinkS k).length c ∧ Grid w' ao (sinkS k).length c (sinkS k)) ∧ Ext w w') (fun _ _ i _ => m + 1 - (intOf i).toNat)
  case atStart => exact ⟨0, Nat.zero_le _, rfl, rfl, ⟨_, _, rfl, Grid.empty _⟩, Ext.refl _⟩
  case round =>
    obtain ⟨k, hk, rfl, rfl, ⟨ao, c, rfl, hg⟩, hb⟩ := hrel
    have Hb := Lib.hid hb; have HG := Lib.hid hg
    clear hb hg
    by_cases hlt : k < m + 1
    · obtain ⟨s1, s2⟩ := SA.out k (by omega)
      obtain ⟨o1, o2, o3⟩ := okB_of s2
      have S1 := Lib.hid s1; have O3 := Lib.hid o3
      clear s1 s2 o3
      have o1' := Lib.hid o1; have o2' := Lib.hid o2
      clear o1 o2
      generalize hL : sinkS k = L at *
      clear hL
      go_wp2_with fail
      refine (add_c _ _ _ L k _ HG.out (by have := o1'.out; omega) (by have := o2'.out; omega) O3.out).mono ?_
      rw [S1.out]
      rintro e w1 ⟨v1, vs1, rfl, hgr1, hb1⟩
      obtain ⟨a1, c1, rfl, hg1⟩ := hgr1.grid
      have HG1 := Lib.hid hg1; have HB1 := Lib.hid (Hb.out.trans hb1)
      clear hgr1 hg1 hb1
      go_wp2_with fail
      go_roundw
      case rel => exact ⟨k + 1, by omega, by go_num, rfl, ⟨_, _, rfl, HG1.out⟩, HB1.out⟩
      case measure => simp [intOf]; omega
    · have hkm : k = m + 1 := by omega
      have hse : sinkS k = sinkD (m + 1) 0 := by rw [hkm]; rfl
      rw [hse] at HG ⊢
      have HKM := Lib.hid hkm
      clear SA hse hkm
      generalize hln : (sinkD (m + 1) 0).length = ln at *
      have HLN := Lib.hid hln
      clear hln
      go_wp2_with fail
      go_loopw [4, 5, 7] (fun v e i w' => ∃ k : Nat, k ≤ 5 ∧ i = .int .i64 k ∧ (∃ e0, e = .int .i64 e0) ∧ (∃ ao c, v = .slice ao (sinkD (m + 1) k).length c ∧ Grid w' ao (sinkD (m + 1) k).length c (sinkD (m + 1) k)) ∧ Ext w w') (fun _ _ i _ => 5 - (intOf i).toNat)
      case atStart => exact ⟨0, Nat.zero_le _, rfl, ⟨_, rfl⟩, ⟨ao, c, by rw [HLN.out], by rw [HLN.out]; exact HG.out⟩, Hb.out⟩
      case round =>
        clear HG Hb HLN
        obtain ⟨k, hk5, rfl, ⟨e0, rfl⟩, ⟨ao, c, rfl, hg⟩, hb⟩ := hrel
        have Hb := Lib.hid hb; have HG := Lib.hid hg
        clear hb hg
        by_cases hlt5 : k < 5
        · obtain ⟨s1, s2, s3, s4⟩ := SR.out k hlt5
          obtain ⟨o1, o2, o3⟩ := okB_of s2
          obtain ⟨q1, q2, q3⟩ := okB_of s4
          rw [show (((m + 1 : Nat) : Int) + k) = 1 + (m : Int) + k from by omega] at s1
          have S1 := Lib.hid s1; have O3 := Lib.hid o3; have S3 := Lib.hid s3
          clear s1 s2 s3 s4 o3 q3
          have o1' := Lib.hid o1; have o2' := Lib.hid o2; have q1' := Lib.hid q1
          clear o1 o2 q1 q2
          generalize hL : sinkD (m + 1) k = L at *
          generalize hM : sinkD (m + 1) (k + 1) = M at *
          have HM := Lib.hid hM
          clear hL hM
          go_wp2_with fail
          refine (replace_c _ _ _ L k (1 + (m : Int) + k) _ HG.out (by have := o1'.out; omega) (by have := o2'.out; omega) O3.out).mono ?_
          rw [S1.out]
          rintro e w1 ⟨v1, vs1, rfl, hgr1, hb1⟩
          obtain ⟨a1, c1, rfl, hg1⟩ := hgr1.grid
          have HG1 := Lib.hid hg1; have HB1 := Lib.hid (Hb.out.trans hb1)
          clear hgr1 hg1 hb1
          go_wp2_with fail
          refine (all_c _ _ _ M _ HG1.out (by have := q1'.out; omega)).mono ?_
          rintro e w2 ⟨v2, rfl, hown, hb2⟩
          obtain ⟨a2, c2, rfl⟩ := hown.slice
          rw [S3.out]
          have HB2 := Lib.hid (HB1.out.trans hb2); have HG2 := Lib.hid (HG1.out.ext hb2)
          clear hown hb2 HB1 HG1
          go_wp2_with fail
          go_roundw
          case rel => exact ⟨k + 1, by omega, by go_num, ⟨_, rfl⟩, ⟨a1, c1, by rw [HM.out], by rw [HM.out]; exact HG2.out⟩, HB2.out⟩
          case measure => simp [intOf]; omega
        · have hk : k = 5 := by omega
          subst hk
          have hD : sinkD (m + 1) 5 = [[], [], [], [], [((m + 1 : Nat) : Int) + 4]] := rfl
          rw [hD, show ((m + 1 : Nat) : Int) + 4 = 1 + (m : Int) + 5 - 1 from by omega] at HG
          rw [hD]
          obtain ⟨b, off, a1, n1, c1, rfl, d1, r1⟩ := HG.out.at (i := 4) (by simp)
          have r2 : Ints wr a1 n1 c1 [1 + (m : Int) + 5 - 1] := r1
          have R1 := Lib.hid r2
          have hrl := r2.len
          clear hD r1 r2
          obtain rfl : n1 = 1 := by simpa using hrl.symm
          clear hrl
          have hlit := Ints.lit wr [1 + (m : Int) + 5 - 1] 3 1 rfl (by decide)
          simp only [List.map_cons, List.map_nil] at hlit
          have HLIT := Lib.hid hlit; clear hlit
          have hpm : (0 : Int) ≤ m := by omega
          go_wp2_with fail
          refine (ints_c _ _ _ _ _ _ _ _ _ (R1.out.ext (ext_a1 wr _)) HLIT.out).mono ?_
          rw [decide_eq_true (rfl : [1 + (m : Int) + 5 - 1] = [1 + (m : Int) + 5 - 1])]
          rintro e w3 ⟨rfl, hb3⟩
          have HB3 := Lib.hid (Hb.out.trans ((ext_a1 wr _).trans hb3))
          clear hb3
          go_wp2_with fail
          refine (stand_c _).mono ?_
          rintro e w4 ⟨rfl, hb4⟩
          have HB4 := Lib.hid (HB3.out.trans hb4)
          clear hb4
          go_wp2_with fail
          go_ret
          exact ⟨rfl, HB4.out⟩

end Go.Proofs.Ytkkafjknogfdnaa
