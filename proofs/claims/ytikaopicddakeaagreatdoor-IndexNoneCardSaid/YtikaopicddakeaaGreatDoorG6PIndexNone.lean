/- Plain laws on names of files: no program here. -/
import Derived.Test.YtikaopicddakeaaGreatDoorG3PIndexNone
import Derived.WalkLawsBesides
import Derived.Lib.SlTrimSet
set_option linter.unusedVariables false
set_option linter.unusedSimpArgs false
namespace Go.Proofs.YtikaopicddakeaaGreatDoor
open Go.RowKit

/-- the last k digits of n, the highest first -/
def digs : Nat → Nat → List UInt8
  | 0, _ => []
  | k + 1, n => UInt8.ofNat (48 + n / 10 ^ k % 10) :: digs k n

theorem digs_length (k n : Nat) : (digs k n).length = k := by
  induction k with
  | zero => rfl
  | succ k ih => simp [digs, ih]

/-- the name of a file: a letter, and a number of six digits -/
def nameS (c : UInt8) (n : Int) : List UInt8 := if 0 ≤ n ∧ n ≤ 999999 then c :: digs 6 n.toNat else []

theorem nameS_no {c : UInt8} {n : Int} (h : ¬ (0 ≤ n ∧ n ≤ 999999)) : nameS c n = [] := by unfold nameS; rw [if_neg h]
theorem nameS_yes {c : UInt8} {n : Int} (h : 0 ≤ n ∧ n ≤ 999999) : nameS c n = c :: digs 6 n.toNat := by unfold nameS; rw [if_pos h]

def digitB (b : UInt8) : Bool := decide (48 ≤ b.toNat) && decide (b.toNat ≤ 57)
/-- the number that digits are -/
def unD (l : List UInt8) : Nat := l.foldl (fun a b => a * 10 + (b.toNat - 48)) 0
def letterB (c : UInt8) : Bool := c == 99 || c == 116 || c == 98

/-- what a name says: a letter, a number, and whether it is one -/
def parseS (s : List UInt8) : UInt8 × Nat × Bool :=
  if s.length = 7 ∧ letterB (s.getD 0 0) = true ∧ (s.drop 1).all digitB = true then (s.getD 0 0, unD (s.drop 1), true) else (0, 0, false)

theorem parseS_no {s : List UInt8} (h : ¬ (s.length = 7 ∧ letterB (s.getD 0 0) = true ∧ (s.drop 1).all digitB = true)) : parseS s = (0, 0, false) := by unfold parseS; rw [if_neg h]
theorem parseS_yes {s : List UInt8} (h : s.length = 7 ∧ letterB (s.getD 0 0) = true ∧ (s.drop 1).all digitB = true) : parseS s = (s.getD 0 0, unD (s.drop 1), true) := by unfold parseS; rw [if_pos h]

theorem unD_snoc (l : List UInt8) (b : UInt8) : unD (l ++ [b]) = unD l * 10 + (b.toNat - 48) := by unfold unD; rw [List.foldl_append]; rfl

theorem unD_foldl (l : List UInt8) : ∀ a, l.foldl (fun a b => a * 10 + (b.toNat - 48)) a = a * 10 ^ l.length + unD l := by
  induction l with
  | nil => intro a; simp [unD]
  | cons b l ih =>
    intro a
    have h2 : unD (b :: l) = (0 * 10 + (b.toNat - 48)) * 10 ^ l.length + unD l := by
      unfold unD; rw [List.foldl_cons]; exact ih _
    rw [List.foldl_cons, ih, h2, List.length_cons, Nat.pow_succ, Nat.add_mul, Nat.zero_mul, Nat.zero_add, Nat.mul_assoc, Nat.mul_comm 10, Nat.add_assoc]

theorem unD_cons (b : UInt8) (l : List UInt8) : unD (b :: l) = (b.toNat - 48) * 10 ^ l.length + unD l := by
  unfold unD
  rw [List.foldl_cons, unD_foldl]
  simp [unD]

theorem dig_toNat (x : Nat) : (UInt8.ofNat (48 + x % 10)).toNat = 48 + x % 10 := by
  rw [UInt8.toNat_ofNat']; omega

theorem unD_digs (k n : Nat) : unD (digs k n) = n % 10 ^ k := by
  induction k with
  | zero => simp [digs, unD, Nat.mod_one]
  | succ k ih =>
    rw [digs, unD_cons, digs_length, ih, dig_toNat, Nat.pow_succ, Nat.mod_mul, Nat.add_sub_cancel_left, Nat.mul_comm, Nat.add_comm]

theorem digs_all (k n : Nat) : (digs k n).all digitB = true := by
  induction k with
  | zero => rfl
  | succ k ih =>
    rw [digs, List.all_cons, ih, Bool.and_true]
    unfold digitB
    rw [dig_toNat, Bool.and_eq_true, decide_eq_true_iff, decide_eq_true_iff]
    omega

theorem unD_lt (l : List UInt8) (h : l.all digitB = true) : unD l < 10 ^ l.length := by
  induction l with
  | nil => simp [unD]
  | cons b l ih =>
    rw [List.all_cons, Bool.and_eq_true] at h
    have h2 := ih h.2
    have hb : b.toNat - 48 ≤ 9 := by
      have := h.1
      unfold digitB at this
      rw [Bool.and_eq_true, decide_eq_true_iff, decide_eq_true_iff] at this
      omega
    rw [unD_cons, List.length_cons, Nat.pow_succ]
    have h3 : (b.toNat - 48) * 10 ^ l.length ≤ 9 * 10 ^ l.length := Nat.mul_le_mul_right _ hb
    omega

theorem digs_mod (k n m : Nat) : digs k (m * 10 ^ k + n) = digs k n := by
  induction k generalizing m with
  | zero => rfl
  | succ k ih =>
    have e : m * 10 ^ (k + 1) + n = m * 10 * 10 ^ k + n := by rw [Nat.pow_succ, Nat.mul_assoc, Nat.mul_comm 10 (10 ^ k)]
    rw [e, digs, digs, ih]
    congr 2
    have hp : 0 < 10 ^ k := Nat.pow_pos (by decide)
    rw [Nat.add_comm (m * 10 * 10 ^ k) n, Nat.add_mul_div_right _ _ hp]
    omega

theorem digs_unD (l : List UInt8) (h : l.all digitB = true) : digs l.length (unD l) = l := by
  induction l with
  | nil => rfl
  | cons b l ih =>
    rw [List.all_cons, Bool.and_eq_true] at h
    have h2 := unD_lt l h.2
    have hb := h.1
    unfold digitB at hb
    rw [Bool.and_eq_true, decide_eq_true_iff, decide_eq_true_iff] at hb
    have hp : 0 < 10 ^ l.length := Nat.pow_pos (by decide)
    rw [unD_cons, List.length_cons, digs, digs_mod, ih h.2]
    congr 1
    apply UInt8.toNat_inj.1
    rw [dig_toNat, Nat.add_comm ((b.toNat - 48) * _), Nat.add_mul_div_right _ _ hp, Nat.div_eq_of_lt h2]
    omega

theorem letterB_of {c : UInt8} (h : c = 99 ∨ c = 116 ∨ c = 98) : letterB c = true := by rcases h with rfl | rfl | rfl <;> rfl

/-- what is told of a number is parsed as it -/
theorem parse_name {c : UInt8} {n : Int} (hc : letterB c = true) (h : 0 ≤ n ∧ n ≤ 999999) : parseS (nameS c n) = (c, n.toNat, true) := by
  rw [nameS_yes h, parseS_yes (s := c :: digs 6 n.toNat) ⟨by rw [List.length_cons, digs_length], by simpa using hc, by simpa using digs_all 6 n.toNat⟩]
  have e : (c :: digs 6 n.toNat).drop 1 = digs 6 n.toNat := rfl
  rw [e, unD_digs, Nat.mod_eq_of_lt (by omega)]
  rfl

/-- what is parsed of a name is told as it -/
theorem name_parse {s : List UInt8} (h : (parseS s).2.2 = true) : letterB (parseS s).1 = true ∧ (parseS s).2.1 ≤ 999999 ∧ nameS (parseS s).1 ((parseS s).2.1 : Int) = s := by
  by_cases hp : s.length = 7 ∧ letterB (s.getD 0 0) = true ∧ (s.drop 1).all digitB = true
  · rw [parseS_yes hp]
    obtain ⟨h7, hl, ha⟩ := hp
    have hlt := unD_lt _ ha
    have hdl : (s.drop 1).length = 6 := by rw [List.length_drop]; omega
    rw [hdl] at hlt
    refine ⟨hl, by show unD (s.drop 1) ≤ 999999; omega, ?_⟩
    show nameS (s.getD 0 0) ((unD (s.drop 1) : Nat) : Int) = s
    rw [nameS_yes ⟨by omega, by omega⟩, Int.toNat_natCast]
    have := digs_unD _ ha
    rw [hdl] at this
    rw [this]
    cases s with
    | nil => simp at h7
    | cons c r => rfl
  · rw [parseS_no hp] at h
    cases h

/-! how texts stand to each other -/
theorem bytesLess_digs (k m n : Nat) (hm : m < 10 ^ k) (hn : n < 10 ^ k) : Op.bytesLess (digs k m) (digs k n) = decide (m < n) := by
  induction k generalizing m n with
  | zero =>
    have : m = 0 := by omega
    have : n = 0 := by omega
    subst m n
    rfl
  | succ k ih =>
    have hp : 0 < 10 ^ k := Nat.pow_pos (by decide)
    rw [Nat.pow_succ] at hm hn
    have qm : m / 10 ^ k < 10 := Nat.div_lt_of_lt_mul (by rw [Nat.mul_comm]; omega)
    have qn : n / 10 ^ k < 10 := Nat.div_lt_of_lt_mul (by rw [Nat.mul_comm]; omega)
    have em : digs k m = digs k (m % 10 ^ k) := by
      conv => lhs; rw [← Nat.div_add_mod m (10 ^ k), Nat.mul_comm]
      exact digs_mod k _ _
    have en : digs k n = digs k (n % 10 ^ k) := by
      conv => lhs; rw [← Nat.div_add_mod n (10 ^ k), Nat.mul_comm]
      exact digs_mod k _ _
    have dm := Nat.div_add_mod m (10 ^ k)
    have dn := Nat.div_add_mod n (10 ^ k)
    have lm := Nat.mod_lt m hp
    have ln := Nat.mod_lt n hp
    rw [digs, digs, em, en]
    unfold Op.bytesLess
    rw [ih _ _ lm ln]
    have e1 : ∀ x : Nat, x < 10 → (UInt8.ofNat (48 + x % 10)).toNat = 48 + x := fun x hx => by rw [dig_toNat]; omega
    have hlt : (UInt8.ofNat (48 + m / 10 ^ k % 10) < UInt8.ofNat (48 + n / 10 ^ k % 10)) ↔ m / 10 ^ k < n / 10 ^ k := by
      rw [UInt8.lt_iff_toNat_lt, e1 _ qm, e1 _ qn]; omega
    have heq : (UInt8.ofNat (48 + m / 10 ^ k % 10) = UInt8.ofNat (48 + n / 10 ^ k % 10)) ↔ m / 10 ^ k = n / 10 ^ k := by
      rw [← UInt8.toNat_inj, e1 _ qm, e1 _ qn]; omega
    by_cases h1 : m / 10 ^ k < n / 10 ^ k
    · rw [decide_eq_true (hlt.2 h1), Bool.true_or, eq_comm, decide_eq_true_iff]
      have : 10 ^ k * (m / 10 ^ k + 1) ≤ 10 ^ k * (n / 10 ^ k) := Nat.mul_le_mul_left _ h1
      rw [Nat.mul_add, Nat.mul_one] at this
      omega
    · rw [decide_eq_false (fun hh => h1 (hlt.1 hh)), Bool.false_or]
      by_cases h2 : m / 10 ^ k = n / 10 ^ k
      · rw [beq_iff_eq.2 (heq.2 h2), Bool.true_and]
        rw [h2] at dm
        rw [Bool.eq_iff_iff, decide_eq_true_iff, decide_eq_true_iff]
        omega
      · have hb : (UInt8.ofNat (48 + m / 10 ^ k % 10) == UInt8.ofNat (48 + n / 10 ^ k % 10)) = false := beq_eq_false_iff_ne.2 fun hh => h2 (heq.1 hh)
        rw [hb, Bool.false_and, eq_comm, decide_eq_false_iff_not]
        have : 10 ^ k * (n / 10 ^ k + 1) ≤ 10 ^ k * (m / 10 ^ k) := Nat.mul_le_mul_left _ (by omega)
        rw [Nat.mul_add, Nat.mul_one] at this
        omega

/-- names of one letter stand to each other as their numbers do -/
theorem nameS_less (c : UInt8) (m n : Int) (hm : 0 ≤ m ∧ m ≤ 999999) (hn : 0 ≤ n ∧ n ≤ 999999) : Op.bytesLess (nameS c m) (nameS c n) = decide (m < n) := by
  rw [nameS_yes hm, nameS_yes hn]
  unfold Op.bytesLess
  have h1 : decide (c < c) = false := decide_eq_false (UInt8.lt_irrefl c)
  rw [h1, Bool.false_or, beq_self_eq_true, Bool.true_and, bytesLess_digs 6 _ _ (by omega) (by omega), Bool.eq_iff_iff, decide_eq_true_iff, decide_eq_true_iff]
  omega

theorem nameS_eq (c : UInt8) (m n : Int) (hm : 0 ≤ m ∧ m ≤ 999999) (hn : 0 ≤ n ∧ n ≤ 999999) : (nameS c m == nameS c n) = decide (m = n) := by
  rw [Bool.eq_iff_iff, beq_iff_eq, decide_eq_true_iff]
  constructor
  · intro h
    rw [nameS_yes hm, nameS_yes hn] at h
    have h2 := congrArg unD (List.cons.inj h).2
    rw [unD_digs, unD_digs, Nat.mod_eq_of_lt (by omega), Nat.mod_eq_of_lt (by omega)] at h2
    omega
  · rintro rfl; rfl

/-- the digits, of which nothing stays if all is digits -/
theorem cut_digits (b : UInt8) : ([48, 49, 50, 51, 52, 53, 54, 55, 56, 57] : List UInt8).contains b = digitB b := by
  have h : ∀ i : Fin 256, ([48, 49, 50, 51, 52, 53, 54, 55, 56, 57] : List UInt8).contains (UInt8.ofNat i.val) = digitB (UInt8.ofNat i.val) := by decide +kernel
  have := h ⟨b.toNat, b.toNat_lt⟩
  simpa using this

theorem dropWhile_nil {α : Type} (p : α → Bool) (l : List α) : l.dropWhile p = [] ↔ l.all p = true := by
  induction l with
  | nil => simp
  | cons a l ih =>
    rw [List.dropWhile_cons, List.all_cons]
    cases h : p a
    · simp
    · simp [ih]

theorem trim_digits (l : List UInt8) : (Lib.trimS l [48, 49, 50, 51, 52, 53, 54, 55, 56, 57] = []) ↔ l.all digitB = true := by
  unfold Lib.trimS Lib.trimLeftS Lib.trimRightS
  rw [dropWhile_nil]
  have e : (fun x => ([48, 49, 50, 51, 52, 53, 54, 55, 56, 57] : List UInt8).contains x) = digitB := funext cut_digits
  rw [e, List.all_reverse]
  constructor
  · intro h
    by_cases hn : l.reverse.dropWhile digitB = []
    · rw [dropWhile_nil, List.all_reverse] at hn; exact hn
    · exfalso
      have h2 := List.head_dropWhile_not digitB hn
      have h3 := List.all_eq_true.1 h _ (List.head_mem hn)
      rw [h3] at h2; cases h2
  · intro h
    have : l.reverse.dropWhile digitB = [] := by rw [dropWhile_nil, List.all_reverse]; exact h
    rw [this]; rfl

end Go.Proofs.YtikaopicddakeaaGreatDoor
