/- Walks: numbers and texts, taken off bytes. -/
import Derived.Test.YtmopfhkppjcgbaaChecked
import Derived.Test.YtmopfhkppjcgbaaG8PFoldsTell
import Derived.Test.YtmopfhkppjcgbaaG9PFoldsTell
import Derived.Test.YtmopfhkppjcgbaaG6PFoldsTell
set_option linter.unusedVariables false
set_option linter.unusedSimpArgs false
namespace Go.Proofs.Ytmopfhkppjcgbaa
open Go.RowKit

/-- a number of so many bytes that stands ahead; what is left; is all well? -/
def nuV (k : Nat) (s : List UInt8) : Int := if s.length < k then 0 else min (unbe (s.take k) : Int) 4611686018427387904
def nuR (k : Nat) (s : List UInt8) : List UInt8 := if s.length < k then s else s.drop k
def nuO (k : Nat) (s : List UInt8) (ok : Bool) : Bool := if s.length < k then false else ok

/-- a text that stands ahead, what is behind it, and whether there is one -/
def rdOk (s : List UInt8) : Bool := decide (2 ≤ s.length) && decide (unbe (s.take 2) + 2 ≤ s.length)
def rdT (s : List UInt8) : List UInt8 := if rdOk s then (s.take (2 + unbe (s.take 2))).drop 2 else []
def rdR (s : List UInt8) : List UInt8 := if rdOk s then s.drop (2 + unbe (s.take 2)) else []

theorem nuV_b {k : Nat} (s : List UInt8) : 0 ≤ nuV k s ∧ nuV k s ≤ 4611686018427387904 := by
  unfold nuV; split
  · omega
  · omega
theorem nuV_2 (s : List UInt8) : nuV 2 s ≤ 65535 := by
  unfold nuV; split
  · omega
  · have := unbe_lt (s.take 2)
    rw [List.length_take, Nat.min_eq_left (by omega)] at this
    omega
theorem nuR_le (k : Nat) (s : List UInt8) : (nuR k s).length ≤ s.length := by unfold nuR; split <;> simp
theorem rdR_le (s : List UInt8) : (rdR s).length ≤ s.length := by unfold rdR; split <;> simp
theorem rdT_le (s : List UInt8) : (rdT s).length ≤ s.length := by unfold rdT; split <;> simp; omega

/-- what is read of the kinds -/
def kdG : Nat → List UInt8 → Bool → List Kd → List Kd × List UInt8 × Bool
  | 0, s, ok, acc => (acc, s, ok)
  | i + 1, s, ok, acc =>
    if ok then kdG i (nuR 8 (nuR 4 (rdR s))) (nuO 8 (nuR 4 (rdR s)) (nuO 4 (rdR s) (ok && rdOk s))) (acc ++ [⟨rdT s, nuV 4 (rdR s), nuV 8 (nuR 4 (rdR s))⟩])
    else (acc, s, ok)
theorem kdG_no {i : Nat} {s : List UInt8} {acc : List Kd} : kdG i s false acc = (acc, s, false) := by
  cases i with
  | zero => rfl
  | succ i => rw [kdG]; simp

structure GotS where
  nx : Int
  K : List Kd
  en : Int
def badS : GotS := ⟨0, [], 10⟩

/-- what is read of the opened bytes -/
def fparse (t : List UInt8) (o : Bool) : Int × List Kd × List UInt8 × Bool :=
  (nuV 4 t, kdG (nuV 2 (nuR 4 t)).toNat (nuR 2 (nuR 4 t)) (nuO 2 (nuR 4 t) (nuO 4 t o)) [])
open Classical in
noncomputable def fgetS (s : List UInt8) : GotS :=
  if (fparse (openT s) (openB s)).2.2.2 = true ∧ (fparse (openT s) (openB s)).2.2.1 = [] ∧ okState (fparse (openT s) (openB s)).1 (fparse (openT s) (openB s)).2.1 then ⟨(fparse (openT s) (openB s)).1, (fparse (openT s) (openB s)).2.1, 0⟩ else badS

end Go.Proofs.Ytmopfhkppjcgbaa
