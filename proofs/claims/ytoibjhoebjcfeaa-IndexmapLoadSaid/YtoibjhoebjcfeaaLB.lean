/- Walks: great levels, a number among some, the first place of a number. -/
import Derived.Test.YtoibjhoebjcfeaaChecked
import Derived.Test.YtoibjhoebjcfeaaK
namespace Go.Proofs.Ytoibjhoebjcfeaa
open Go.RowKit

def greatB (L : List (List Int)) : Bool := (L.any fun r => decide (60 < r.length)) || decide (10 < L.length)

theorem any_take_succ {α : Type} (p : α → Bool) (d : α) (L : List α) (k : Nat) (h : k < L.length) (h0 : (L.take k).any p = false) (h1 : p (L.getD k d) = false) : (L.take (k + 1)).any p = false := by
  rw [take_succ_getD L d k h, List.any_append, h0]; simp only [List.any_cons, List.any_nil, h1, Bool.or_self]

theorem any_of_getD {α : Type} (p : α → Bool) (d : α) (L : List α) (k : Nat) (h : k < L.length) (h1 : p (L.getD k d) = true) : L.any p = true := by
  rw [List.any_eq_true]
  refine ⟨L[k], List.getElem_mem h, ?_⟩
  rw [List.getD_eq_getElem?_getD, List.getElem?_eq_getElem h] at h1
  exact h1

theorem any_of_take {α : Type} (p : α → Bool) (L : List α) (n k : Nat) (hn : L.length = n) (hk : n ≤ k) (h0 : (L.take k).any p = false) : L.any p = false := by
  rwa [List.take_of_length_le (by omega)] at h0

theorem not_mem_take_succ (xs : List Int) (x : Int) (k : Nat) (h : k < xs.length) (h0 : x ∉ xs.take k) (h1 : xs.getD k 0 ≠ x) : x ∉ xs.take (k + 1) := by
  rw [take_succ_getD xs 0 k h, List.mem_append]
  rintro (h2 | h2)
  · exact h0 h2
  · exact h1 (List.mem_singleton.1 h2).symm

theorem mem_of_getD (xs : List Int) (x : Int) (k : Nat) (h : k < xs.length) (h1 : xs.getD k 0 = x) : x ∈ xs := by
  rw [← h1, List.getD_eq_getElem?_getD, List.getElem?_eq_getElem h]; exact List.getElem_mem h

theorem not_mem_of_take (xs : List Int) (x : Int) (n k : Nat) (hn : xs.length = n) (hk : n ≤ k) (h0 : x ∉ xs.take k) : x ∉ xs := by
  rwa [List.take_of_length_le (by omega)] at h0

set_option maxHeartbeats 400000 in
theorem has_c (ao : Option Addr) (n cap : Nat) (xs : List Int) (x : Int) (w : World) (hx : Ints w ao n cap xs) :
    Calls Try.prog 121 #[.slice ao n cap, .int .i64 x] w fun e w' => e = .returned (.bool (decide (x ∈ xs))) ∧ Ext w w' := by
  have Hx := Lib.hid hx
  have b1 := hx.fits; have b2 := hx.bound
  clear hx
  go_enter Try.func121, Try.ntmps121
  go_wp2_with fail
  go_loopw [5] (fun i w' => ∃ k : Nat, k ≤ n ∧ i = .int .i64 k ∧ x ∉ xs.take k ∧ Ext w w') (fun i _ => n - (intOf i).toNat)
  case atStart => exact ⟨0, Nat.zero_le _, rfl, by simp, Ext.refl _⟩
  case round =>
    obtain ⟨k, hk, rfl, heq, hb⟩ := hrel
    have Heq := Lib.hid heq; clear heq
    have Hb := Lib.hid hb; clear hb
    by_cases hlt : k < n
    · obtain ⟨b, off, rfl, c1⟩ := (Hx.out.ext Hb.out).at hlt
      generalize hX : xs.getD k 0 = X at *
      have HX := Lib.hid hX; clear hX
      by_cases hg : X = x
      · have hg' : (X == x) = true := by simpa using hg
        have Hg := Lib.hid hg; clear hg
        go_wp2_with fail
        go_ret
        exact ⟨rb (decide_eq_true (mem_of_getD xs x k (by rw [Hx.out.len]; exact hlt) (HX.out.trans Hg.out))), Hb.out⟩
      · have hg' : (X == x) = false := by simpa using hg
        have Hg := Lib.hid hg; clear hg
        go_wp2_with fail
        go_roundw
        case rel => exact ⟨k + 1, by omega, by go_num, not_mem_take_succ xs x k (by rw [Hx.out.len]; exact hlt) Heq.out (by rw [HX.out]; exact Hg.out), Hb.out⟩
        case measure => simp [intOf]; omega
    · go_wp2_with fail
      go_ret
      exact ⟨rb (decide_eq_false (not_mem_of_take xs x n k Hx.out.len (by omega) Heq.out)), Hb.out⟩

/-- the first place of x in xs, or -1 -/
def idxI (xs : List Int) (x : Int) : Int := if x ∈ xs then (xs.idxOf x : Int) else -1

theorem idxI_hit (xs : List Int) (x : Int) (k : Nat) (h : k < xs.length) (h0 : x ∉ xs.take k) (h1 : xs.getD k 0 = x) : idxI xs x = k := by
  have hm := mem_of_getD xs x k h h1
  rw [idxI, if_pos hm]
  have e : xs = xs.take k ++ xs.drop k := (List.take_append_drop k xs).symm
  have e2 : xs.drop k = x :: xs.drop (k + 1) := by
    rw [List.drop_eq_getElem_cons h]
    rw [List.getD_eq_getElem?_getD, List.getElem?_eq_getElem h] at h1
    simp at h1
    rw [h1]
  have : xs.idxOf x = k := by
    rw [e, e2, List.idxOf_append, if_neg h0, List.idxOf_cons_self]
    simp; omega
  omega

theorem idxI_miss (xs : List Int) (x : Int) (h : x ∉ xs) : idxI xs x = -1 := by rw [idxI, if_neg h]
theorem idxI_pos (xs : List Int) (x : Int) : decide (0 ≤ idxI xs x) = decide (x ∈ xs) := by
  unfold idxI
  by_cases h : x ∈ xs
  · simp [h]
  · simp [h]

end Go.Proofs.Ytoibjhoebjcfeaa
