/- Walks: the small helpers of the statements on levels. -/
import Derived.Test.YtmopfhkppjcgbaaChecked
import Derived.Test.YtmopfhkppjcgbaaG1PFoldsTell
set_option linter.unusedVariables false
set_option linter.unusedSimpArgs false
namespace Go.Proofs.Ytmopfhkppjcgbaa
open Go.RowKit

theorem take_eq_succ (xs ys : List Int) (k : Nat) (h1 : k < xs.length) (h2 : k < ys.length) (h : xs.take k = ys.take k) (he : xs.getD k 0 = ys.getD k 0) : xs.take (k + 1) = ys.take (k + 1) := by
  rw [take_succ_getD xs 0 k h1, take_succ_getD ys 0 k h2, h, he]

theorem decide_ne_of_getD (xs ys : List Int) (k : Nat) (he : xs.getD k 0 ≠ ys.getD k 0) : decide (xs = ys) = false := by
  rw [decide_eq_false_iff_not]; intro h; exact he (by rw [h])

theorem decide_ne_of_len (xs ys : List Int) (he : xs.length ≠ ys.length) : decide (xs = ys) = false := by
  rw [decide_eq_false_iff_not]; intro h; exact he (by rw [h])

theorem decide_eq_of_take (xs ys : List Int) (n k : Nat) (h1 : xs.length = n) (h2 : ys.length = n) (hk : n ≤ k) (he : xs.take k = ys.take k) : decide (xs = ys) = true := by
  rw [decide_eq_true_iff]
  rwa [List.take_of_length_le (by omega), List.take_of_length_le (by omega)] at he

theorem gtake_eq_succ (xs ys : List (List Int)) (k : Nat) (h1 : k < xs.length) (h2 : k < ys.length) (h : xs.take k = ys.take k) (he : xs.getD k [] = ys.getD k []) : xs.take (k + 1) = ys.take (k + 1) := by
  rw [take_succ_getD xs [] k h1, take_succ_getD ys [] k h2, h, he]
theorem gdecide_ne_of_getD (xs ys : List (List Int)) (k : Nat) (he : xs.getD k [] ≠ ys.getD k []) : decide (xs = ys) = false := by
  rw [decide_eq_false_iff_not]; intro h; exact he (by rw [h])
theorem gdecide_ne_of_len (xs ys : List (List Int)) (he : xs.length ≠ ys.length) : decide (xs = ys) = false := by
  rw [decide_eq_false_iff_not]; intro h; exact he (by rw [h])
theorem gdecide_eq_of_take (xs ys : List (List Int)) (n k : Nat) (h1 : xs.length = n) (h2 : ys.length = n) (hk : n ≤ k) (he : xs.take k = ys.take k) : decide (xs = ys) = true := by
  rw [decide_eq_true_iff]
  rwa [List.take_of_length_le (by omega), List.take_of_length_le (by omega)] at he

end Go.Proofs.Ytmopfhkppjcgbaa
