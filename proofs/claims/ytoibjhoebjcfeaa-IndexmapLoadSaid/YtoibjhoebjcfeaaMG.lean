/- Walks: the document's manifest of some bytes. -/
import Derived.Test.YtoibjhoebjcfeaaChecked
import Derived.Test.YtoibjhoebjcfeaaMF
namespace Go.Proofs.Ytoibjhoebjcfeaa
open Go.RowKit

/-- the number of n bytes at a place; 0 behind the end -/
def numV (s : List UInt8) (at_ n : Nat) : Nat := if s.length < at_ + n then 0 else unbe ((s.take (at_ + n)).drop at_)

theorem numV_lt (s : List UInt8) (at_ n : Nat) : numV s at_ n < 256 ^ n := by
  unfold numV
  split
  · exact Nat.pow_pos (by decide)
  · have := unbe_lt ((s.take (at_ + n)).drop at_)
    rwa [List.length_drop, List.length_take, Nat.min_eq_left (by omega), Nat.add_sub_cancel_left] at this

set_option maxRecDepth 100000 in
set_option maxHeartbeats 800000 in
theorem refnumber_c (s : List UInt8) (at_ n : Nat) (AT N : Int) (w : World) (hA : AT = (at_ : Int)) (hN : N = (n : Int)) (hl : s.length ≤ 4611686018427387903) (ha : at_ ≤ 4611686018427387903) (h8 : n ≤ 8) :
    Calls Try.prog 65 #[.string ⟨s.toArray⟩, .int .i64 AT, .int .i64 N] w fun e w' => e = .returned (.int .u64 (numV s at_ n)) ∧ Ext w w' := by
  subst hA hN
  by_cases hk : s.length < at_ + n
  · have hk' : (s.length : Int) < (at_ : Int) + (n : Int) := by omega
    have HV : Hid (numV s at_ n = 0) := Lib.hid (by unfold numV; rw [if_pos hk])
    go_enter Try.func65, Try.ntmps65
    go_wp2_with fail
    go_ret
    exact ⟨by rw [HV.out]; rfl, Ext.refl _⟩
  · have HV : Hid (numV s at_ n = unbe ((s.take (at_ + n)).drop at_)) := Lib.hid (by unfold numV; rw [if_neg hk])
    have hlt : ((s.take (at_ + n)).drop at_).length ≤ 9223372036854775807 := by simp; omega
    have ht : ((s.take (at_ + n)).drop at_).take 8 = (s.take (at_ + n)).drop at_ := List.take_of_length_le (by simp; omega)
    have HT := Lib.hid ht; clear ht
    obtain ⟨m, hm⟩ : ∃ m : Nat, m = at_ + n := ⟨_, rfl⟩
    have hmi : (at_ : Int) + (n : Int) = (m : Int) := by omega
    rw [← hm] at hk HV hlt HT
    have hms : m ≤ s.length := by omega
    have ham : at_ ≤ m := by omega
    clear hm hk
    go_enter Try.func65, Try.ntmps65
    go_wp2_with fail
    refine (refget_c _ _ hlt).mono ?_
    rw [HT.out]
    rintro e w1 ⟨rfl, hb⟩
    have HB := Lib.hid hb; clear hb
    go_wp2_with fail
    go_ret
    exact ⟨by rw [HV.out]; rfl, HB.out⟩

/-- the document's loops: a level's numbers, and levels -/
def rlevG : Nat → List UInt8 → Nat → List Int → List Int × Nat
  | 0, _, at_, acc => (acc, at_)
  | i + 1, s, at_, acc => if at_ + 4 ≤ s.length then rlevG i s (at_ + 4) (acc ++ [(numV s at_ 4 : Int)]) else (acc, at_)

def rlevsG : Nat → List UInt8 → Nat → List (List Int) → List (List Int)
  | 0, _, _, acc => acc
  | k + 1, s, at_, acc => if at_ < s.length then rlevsG k s (rlevG (numV s at_ 1) s (at_ + 1) []).2 (acc ++ [(rlevG (numV s at_ 1) s (at_ + 1) []).1]) else acc

structure RParsed where
  nx : Int
  ck : Int
  sd : Int
  L : List (List Int)

def rparseG (s : List UInt8) : RParsed := ⟨numV s 4 4, numV s 8 4, numV s 12 8, rlevsG (numV s 20 1) s 21 []⟩

/-- the document's answer: the manifest that has these bytes -/
def rgetS (s : List UInt8) : Got :=
  if mputS (rparseG s).nx (rparseG s).ck (rparseG s).sd (rparseG s).L = (s, 0) then ⟨(rparseG s).nx, (rparseG s).ck, (rparseG s).sd, (rparseG s).L, 0⟩ else badM

end Go.Proofs.Ytoibjhoebjcfeaa
