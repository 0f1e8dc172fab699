/- Walks: great states, and whether two are the same. -/
import Derived.Test.YtkkafjknogfdnaaChecked
import Derived.Test.YtkkafjknogfdnaaFA
import Derived.Test.YtkkafjknogfdnaaLA
namespace Go.Proofs.Ytkkafjknogfdnaa
open Go.RowKit

def fgreatB (K : List Kd) : Bool := (K.any fun k => decide (100 < k.t.length)) || decide (300 < K.length)

theorem fgreatB_hit {K : List Kd} {k : Nat} (hk : k < K.length) (h : 100 < (K.getD k kd0).t.length) : fgreatB K = true := by
  unfold fgreatB
  rw [Bool.or_eq_true]
  left
  rw [List.any_eq_true]
  rw [List.getD_eq_getElem?_getD, List.getElem?_eq_getElem hk] at h
  exact ⟨_, List.getElem_mem hk, by simpa using h⟩

theorem fgreatB_end {K : List Kd} (h : ∀ j, j < K.length → ¬ 100 < (K.getD j kd0).t.length) : fgreatB K = decide (300 < K.length) := by
  unfold fgreatB
  have : (K.any fun k => decide (100 < k.t.length)) = false := by
    rw [List.any_eq_false]
    intro x hx
    obtain ⟨j, hj, rfl⟩ := List.mem_iff_getElem.1 hx
    have := h j hj
    rw [List.getD_eq_getElem?_getD, List.getElem?_eq_getElem hj] at this
    simpa using this
  rw [this, Bool.false_or]

theorem fgreat_no {K : List Kd} (h : fgreatB K = false) : K.length ≤ 300 ∧ ∀ j, j < K.length → (K.getD j kd0).t.length ≤ 100 := by
  refine ⟨?_, fun j hj => ?_⟩
  · by_cases h2 : ∀ j, j < K.length → ¬ 100 < (K.getD j kd0).t.length
    · rw [fgreatB_end h2] at h; have := of_decide_eq_false h; omega
    · unfold fgreatB at h; rw [Bool.or_eq_false_iff] at h; have := of_decide_eq_false h.2; omega
  · rcases Nat.lt_or_ge 100 (K.getD j kd0).t.length with h2 | h2
    · rw [fgreatB_hit hj h2] at h; cases h
    · exact h2

theorem not_more {K : List Kd} {k : Nat} (h : ∀ j, j < k → ¬ 100 < (K.getD j kd0).t.length) (h2 : ¬ 100 < (K.getD k kd0).t.length) : ∀ j, j < k + 1 → ¬ 100 < (K.getD j kd0).t.length := by
  intro j hj
  rcases Nat.lt_or_ge j k with h3 | h3
  · exact h j h3
  · obtain rfl : j = k := by omega
    exact h2

set_option maxRecDepth 100000 in
set_option maxHeartbeats 1600000 in
theorem fgreat_c (nx : Int) (ao : Option Addr) (n cap : Nat) (K : List Kd) (w : World) (hx : Kds w ao n cap K) (htx : ∀ j, j < n → (K.getD j kd0).t.length ≤ 9223372036854775807) :
    Calls Try.prog 35 #[.agg #[.int .i64 nx, .slice ao n cap]] w fun e w' => e = .returned (.bool (fgreatB K)) ∧ Ext w w' := by
  have Hx := Lib.hid hx
  have b1 := hx.fits; have b2 := hx.bound
  have HLen := Lib.hid hx.len
  have HTx := Lib.hid htx
  clear hx htx
  go_enter Try.func35, Try.ntmps35
  go_wp2_with fail
  go_loopw [3] (fun i w' => ∃ k : Nat, k ≤ n ∧ i = .int .i64 k ∧ (∀ j, j < k → ¬ 100 < (K.getD j kd0).t.length) ∧ Ext (w.alloc (.cells #[.int .i64 nx, .slice ao n cap] 55)) w') (fun i _ => n - (intOf i).toNat)
  case atStart => exact ⟨0, Nat.zero_le _, rfl, by omega, Ext.refl _⟩
  case round =>
    obtain ⟨k, hk, rfl, hno, hb⟩ := hrel
    have HNo := Lib.hid hno; have Hb := Lib.hid hb
    have s1 := (box2 hb).2
    clear hno hb
    by_cases hlt : k < n
    · obtain ⟨b, off, rfl, c0, _, _⟩ := (Hx.out.ext ((ext_a1 _ _).trans Hb.out)).at hlt
      have htl := HTx.out k hlt
      obtain ⟨t, hq⟩ : ∃ q, (K.getD k kd0).t = q := ⟨_, rfl⟩
      rw [hq] at c0 htl
      have HQ := Lib.hid hq; clear hq
      by_cases hg : 100 < (t.length : Int)
      · have HN := Lib.hid (fgreatB_hit (K := K) (k := k) (by rw [HLen.out]; exact hlt) (by rw [HQ.out]; omega))
        go_wp2_with fail
        go_ret
        exact ⟨by rw [HN.out]; rfl, (ext_a1 _ _).trans Hb.out⟩
      · have hg' : (t.length : Int) ≤ 100 := by omega
        clear hg
        go_wp2_with fail
        go_roundw
        case rel => exact ⟨k + 1, by omega, by go_num, not_more HNo.out (by rw [HQ.out]; omega), Hb.out⟩
        case measure => simp [intOf]; omega
    · have HN := Lib.hid (fgreatB_end (K := K) (fun j hj => HNo.out j (by rw [HLen.out] at hj; omega)))
      go_wp2_with fail
      go_ret
      exact ⟨rb (by rw [HN.out, HLen.out, decide_eq_decide]; omega), (ext_a1 _ _).trans Hb.out⟩

end Go.Proofs.Ytkkafjknogfdnaa
