/- Plain laws on names of files: no program here. -/
import Derived.Test.YtmgpffknmmoggaaGreatDoorG2PIndexPlay
import Derived.WalkLawsBesides
import Derived.Lib.SlTrimSet
set_option linter.unusedVariables false
set_option linter.unusedSimpArgs false
namespace Go.Proofs.YtmgpffknmmoggaaGreatDoor
open Go.RowKit
def digs : Nat → Nat → List UInt8
  | 0, _ => []
  | k + 1, n => UInt8.ofNat (48 + n / 10 ^ k % 10) :: digs k n
theorem digs_length (k n : Nat) : (digs k n).length = k := by
  induction k with
  | zero => rfl
  | succ k ih => simp [digs, ih]
def nameS (c : UInt8) (n : Int) : List UInt8 := if 0 ≤ n ∧ n ≤ 999999 then c :: digs 6 n.toNat else []
theorem nameS_no {c : UInt8} {n : Int} (h : ¬ (0 ≤ n ∧ n ≤ 999999)) : nameS c n = [] := by unfold nameS; rw [if_neg h]
theorem nameS_yes {c : UInt8} {n : Int} (h : 0 ≤ n ∧ n ≤ 999999) : nameS c n = c :: digs 6 n.toNat := by unfold nameS; rw [if_pos h]
def digitB (b : UInt8) : Bool := decide (48 ≤ b.toNat) && decide (b.toNat ≤ 57)
def unD (l : List UInt8) : Nat := l.foldl (fun a b => a * 10 + (b.toNat - 48)) 0
def letterB (c : UInt8) : Bool := c == 99 || c == 116 || c == 98
def parseS (s : List UInt8) : UInt8 × Nat × Bool :=
  if s.length = 7 ∧ letterB (s.getD 0 0) = true ∧ (s.drop 1).all digitB = true then (s.getD 0 0, unD (s.drop 1), true) else (0, 0, false)
theorem parseS_no {s : List UInt8} (h : ¬ (s.length = 7 ∧ letterB (s.getD 0 0) = true ∧ (s.drop 1).all digitB = true)) : parseS s = (0, 0, false) := by unfold parseS; rw [if_neg h]
theorem parseS_yes {s : List UInt8} (h : s.length = 7 ∧ letterB (s.getD 0 0) = true ∧ (s.drop 1).all digitB = true) : parseS s = (s.getD 0 0, unD (s.drop 1), true) := by unfold parseS; rw [if_pos h]
theorem unD_snoc (l : List UInt8) (b : UInt8) : unD (l ++ [b]) = unD l * 10 + (b.toNat - 48) := by unfold unD; rw [List.foldl_append]; rfl
theorem unD_foldl (l : List UInt8) : ∀ a, l.foldl (fun a b => a * 10 + (b.toNat - 48)) a = a * 10 ^ l.length + unD l := by
  induction l with
  | nil => intro a; simp [unD]
  | cons b l ih =>
    intro a
    have h2 : unD (b :: l) = (0 * 10 + (b.toNat - 48)) * 10 ^ l.length + unD l := by
      unfold unD; rw [List.foldl_cons]; exact ih _
    rw [List.foldl_cons, ih, h2, List.length_cons, Nat.pow_succ, Nat.add_mul, Nat.zero_mul, Nat.zero_add, Nat.mul_assoc, Nat.mul_comm 10, Nat.add_assoc]
theorem unD_cons (b : UInt8) (l : List UInt8) : unD (b :: l) = (b.toNat - 48) * 10 ^ l.length + unD l := by
  unfold unD
  rw [List.foldl_cons, unD_foldl]
  simp [unD]
theorem dig_toNat (x : Nat) : (UInt8.ofNat (48 + x % 10)).toNat = 48 + x % 10 := by
  rw [UInt8.toNat_ofNat']; omega
theorem unD_digs (k n : Nat) : unD (digs k n) = n % 10 ^ k := by
  induction k with
  | zero => simp [digs, unD, Nat.mod_one]
  | succ k ih =>
    rw [digs, unD_cons, digs_length, ih, dig_toNat, Nat.pow_succ, Nat.mod_mul, Nat.add_sub_cancel_left, Nat.mul_comm, Nat.add_comm]
theorem digs_all (k n : Nat) : (digs k n).all digitB = true := by
  induction k with
  | zero => rfl
  | succ k ih =>
    rw [digs, List.all_cons, ih, Bool.and_true]
    unfold digitB
    rw [dig_toNat, Bool.and_eq_true, decide_eq_true_iff, decide_eq_true_iff]
    omega
theorem unD_lt (l : List UInt8) (h : l.all digitB = true) : unD l < 10 ^ l.length := by
  induction l with
  | nil => simp [unD]
  | cons b l ih =>
    rw [List.all_cons, Bool.and_eq_true] at h
    have h2 := ih h.2
    have hb : b.toNat - 48 ≤ 9 := by
      have := h.1
      unfold digitB at this
      rw [Bool.and_eq_true, decide_eq_true_iff, decide_eq_true_iff] at this
      omega
    rw [unD_cons, List.length_cons, Nat.pow_succ]
    have h3 : (b.toNat - 48) * 10 ^ l.length ≤ 9 * 10 ^ l.length := Nat.mul_le_mul_right _ hb
    omega
theorem parse_name {c : UInt8} {n : Int} (hc : letterB c = true) (h : 0 ≤ n ∧ n ≤ 999999) : parseS (nameS c n) = (c, n.toNat, true) := by
  rw [nameS_yes h, parseS_yes (s := c :: digs 6 n.toNat) ⟨by rw [List.length_cons, digs_length], by simpa using hc, by simpa using digs_all 6 n.toNat⟩]
  have e : (c :: digs 6 n.toNat).drop 1 = digs 6 n.toNat := rfl
  rw [e, unD_digs, Nat.mod_eq_of_lt (by omega)]
  rfl
theorem nameS_eq (c : UInt8) (m n : Int) (hm : 0 ≤ m ∧ m ≤ 999999) (hn : 0 ≤ n ∧ n ≤ 999999) : (nameS c m == nameS c n) = decide (m = n) := by
  rw [Bool.eq_iff_iff, beq_iff_eq, decide_eq_true_iff]
  constructor
  · intro h
    rw [nameS_yes hm, nameS_yes hn] at h
    have h2 := congrArg unD (List.cons.inj h).2
    rw [unD_digs, unD_digs, Nat.mod_eq_of_lt (by omega), Nat.mod_eq_of_lt (by omega)] at h2
    omega
  · rintro rfl; rfl
theorem cut_digits (b : UInt8) : ([48, 49, 50, 51, 52, 53, 54, 55, 56, 57] : List UInt8).contains b = digitB b := by
  have h : ∀ i : Fin 256, ([48, 49, 50, 51, 52, 53, 54, 55, 56, 57] : List UInt8).contains (UInt8.ofNat i.val) = digitB (UInt8.ofNat i.val) := by decide +kernel
  have := h ⟨b.toNat, b.toNat_lt⟩
  simpa using this
theorem dropWhile_nil {α : Type} (p : α → Bool) (l : List α) : l.dropWhile p = [] ↔ l.all p = true := by
  induction l with
  | nil => simp
  | cons a l ih =>
    rw [List.dropWhile_cons, List.all_cons]
    cases h : p a
    · simp
    · simp [ih]
theorem trim_digits (l : List UInt8) : (Lib.trimS l [48, 49, 50, 51, 52, 53, 54, 55, 56, 57] = []) ↔ l.all digitB = true := by
  unfold Lib.trimS Lib.trimLeftS Lib.trimRightS
  rw [dropWhile_nil]
  have e : (fun x => ([48, 49, 50, 51, 52, 53, 54, 55, 56, 57] : List UInt8).contains x) = digitB := funext cut_digits
  rw [e, List.all_reverse]
  constructor
  · intro h
    by_cases hn : l.reverse.dropWhile digitB = []
    · rw [dropWhile_nil, List.all_reverse] at hn; exact hn
    · exfalso
      have h2 := List.head_dropWhile_not digitB hn
      have h3 := List.all_eq_true.1 h _ (List.head_mem hn)
      rw [h3] at h2; cases h2
  · intro h
    have : l.reverse.dropWhile digitB = [] := by rw [dropWhile_nil, List.all_reverse]; exact h
    rw [this]; rfl
end Go.Proofs.YtmgpffknmmoggaaGreatDoor
