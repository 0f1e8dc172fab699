/- Plain laws on numbers as bytes: no program here. Plain laws on the sum: no program here. -/
import Derived.Test.YtikaopicddakeaaGreatDoorG1PIndexNone
import Derived.Lib.EndianBits
set_option linter.unusedVariables false
set_option linter.unusedSimpArgs false
namespace Go.Proofs.YtikaopicddakeaaGreatDoor

/-- the last k bytes of x, the highest first -/
def be : Nat → Nat → List UInt8
  | 0, _ => []
  | k + 1, x => UInt8.ofNat (x / 256 ^ k) :: be k x

/-- the number of bytes, the highest first -/
def unbe (l : List UInt8) : Nat := l.foldl (fun a b => a * 256 + b.toNat) 0

theorem be_length (k x : Nat) : (be k x).length = k := by
  induction k with
  | zero => rfl
  | succ k ih => simp [be, ih]

theorem unbe_foldl (l : List UInt8) : ∀ a, l.foldl (fun a b => a * 256 + b.toNat) a = a * 256 ^ l.length + unbe l := by
  induction l with
  | nil => intro a; simp [unbe]
  | cons b l ih =>
    intro a
    have h2 : unbe (b :: l) = (0 * 256 + b.toNat) * 256 ^ l.length + unbe l := by
      unfold unbe; rw [List.foldl_cons]; exact ih _
    rw [List.foldl_cons, ih, h2, List.length_cons, Nat.pow_succ, Nat.add_mul, Nat.zero_mul, Nat.zero_add, Nat.mul_assoc, Nat.mul_comm 256, Nat.add_assoc]

theorem unbe_cons (b : UInt8) (l : List UInt8) : unbe (b :: l) = b.toNat * 256 ^ l.length + unbe l := by
  unfold unbe
  rw [List.foldl_cons, unbe_foldl]
  simp [unbe]

theorem unbe_snoc (l : List UInt8) (b : UInt8) : unbe (l ++ [b]) = unbe l * 256 + b.toNat := by
  unfold unbe; rw [List.foldl_append]; rfl

theorem unbe_lt (l : List UInt8) : unbe l < 256 ^ l.length := by
  induction l with
  | nil => simp [unbe]
  | cons b l ih =>
    rw [unbe_cons, List.length_cons, Nat.pow_succ]
    have := b.toNat_lt
    have h : b.toNat * 256 ^ l.length ≤ 255 * 256 ^ l.length := Nat.mul_le_mul_right _ (by omega)
    omega

theorem unbe_be (k x : Nat) : unbe (be k x) = x % 256 ^ k := by
  induction k with
  | zero => simp [be, unbe, Nat.mod_one]
  | succ k ih =>
    rw [be, unbe_cons, be_length, ih, Nat.pow_succ, Nat.mod_mul]
    simp only [UInt8.toNat_ofNat']
    rw [Nat.mul_comm (256 ^ k), Nat.add_comm]

theorem be_unbe (l : List UInt8) : be l.length (unbe l) = l := by
  induction l with
  | nil => rfl
  | cons b l ih =>
    have h := unbe_lt l
    have hp : 0 < 256 ^ l.length := Nat.pow_pos (by decide)
    rw [List.length_cons, be, unbe_cons]
    have e1 : (b.toNat * 256 ^ l.length + unbe l) / 256 ^ l.length = b.toNat := by
      rw [Nat.add_comm, Nat.add_mul_div_right _ _ hp, Nat.div_eq_of_lt h]; omega
    have e2 : ∀ k, k ≤ l.length → be k (b.toNat * 256 ^ l.length + unbe l) = be k (unbe l) := by
      intro k
      induction k with
      | zero => intro _; rfl
      | succ k ih2 =>
        intro hk
        rw [be, be, ih2 (by omega)]
        congr 1
        have e3 : 256 ^ l.length = 256 ^ k * (256 * 256 ^ (l.length - k - 1)) := by
          rw [← Nat.mul_assoc, ← Nat.pow_succ, ← Nat.pow_add]; congr 1; omega
        have hk0 : 0 < 256 ^ k := Nat.pow_pos (by decide)
        have e4 : (b.toNat * 256 ^ l.length + unbe l) / 256 ^ k = b.toNat * 256 ^ (l.length - k - 1) * 256 + unbe l / 256 ^ k := by
          rw [e3, show b.toNat * (256 ^ k * (256 * 256 ^ (l.length - k - 1))) + unbe l = unbe l + 256 ^ k * (b.toNat * 256 ^ (l.length - k - 1) * 256) from by
            rw [Nat.add_comm]; congr 1
            rw [Nat.mul_left_comm, Nat.mul_comm 256 (256 ^ _), ← Nat.mul_assoc b.toNat],
            Nat.add_mul_div_left _ _ hk0, Nat.add_comm]
        rw [e4]
        apply UInt8.toNat_inj.1
        simp only [UInt8.toNat_ofNat']
        omega
    rw [e1, e2 _ (Nat.le_refl _), ih]
    congr 1
    apply UInt8.toNat_inj.1
    simp

theorem set_pad (n : Nat) (L : List Value) (z v : Value) : (List.replicate (n + 1) z ++ L).set n v = List.replicate n z ++ v :: L := by
  rw [List.replicate_succ', List.append_assoc, List.set_append]
  simp

/-- the byte that nums.Put writes -/
theorem put_byte (X k : Nat) : ((X : Int) / 2 ^ (8 * k) % 256) = ((UInt8.ofNat (X / 256 ^ k)).toNat : Int) := by
  have : (2 : Nat) ^ (8 * k) = 256 ^ k := by rw [Nat.pow_mul]
  rw [UInt8.toNat_ofNat']
  rw [← this]
  simp

theorem u64_or_byte (Z : Int) (b : UInt8) (h0 : 0 ≤ Z) (h1 : Z < 72057594037927936) : bits .or .u64 (Z * 256) (IntKind.u64.wrap (b.toNat : Int)) = Z * 256 + (b.toNat : Int) := by
  have hb := b.toNat_lt
  have hw : IntKind.u64.wrap (b.toNat : Int) = (b.toNat : Int) := by rw [Go.IntKind.wrap_u64]; omega
  rw [hw]
  exact bits_join .u64 64 (by decide) wraps_u64 8 _ _ (by omega) (by omega) (by omega) (by omega) (by omega) (by omega)

/-- the parts by times: the document's way to put a number -/
theorem be_div (k x : Nat) : ∀ i, be i (x / 256 ^ k) ++ be k x = be (i + k) x := by
  intro i
  induction i with
  | zero => simp [be]
  | succ i ih =>
    rw [Nat.add_right_comm, be, be, List.cons_append, ih, Nat.div_div_eq_div_mul, ← Nat.pow_add, Nat.add_comm k i]

end Go.Proofs.YtikaopicddakeaaGreatDoor
namespace Go.Proofs.YtikaopicddakeaaGreatDoor

def crcPoly : BitVec 32 := 0xedb88320#32

/-- one bit goes out of a state -/
def crcShift (s : BitVec 32) : BitVec 32 := (s >>> 1) ^^^ (crcPoly &&& -(s &&& 1#32))

def crcIter : Nat → BitVec 32 → BitVec 32
  | 0, s => s
  | k + 1, s => crcShift (crcIter k s)

/-- a byte goes into a state -/
def crcStep (s : BitVec 32) (c : UInt8) : BitVec 32 := crcIter 8 (s ^^^ BitVec.ofNat 32 c.toNat)

/-- the sum of a text -/
def crcSum (l : List UInt8) : BitVec 32 := ~~~ (l.foldl crcStep (~~~ 0#32))

theorem and_one (s : BitVec 32) : s &&& 1#32 = if s.getLsbD 0 then 1#32 else 0#32 := by
  apply BitVec.eq_of_getLsbD_eq
  intro i hi
  rw [BitVec.getLsbD_and]
  have h1 : (1#32).getLsbD i = decide (i = 0) := by
    rw [BitVec.getLsbD_one]; simp
  rw [h1]
  by_cases h : i = 0
  · subst h
    cases hb : s.getLsbD 0 <;> simp
  · simp only [h, decide_false, Bool.and_false]
    cases s.getLsbD 0
    · simp
    · simp [h]

theorem crcShift_eq (s : BitVec 32) : crcShift s = if s.getLsbD 0 then (s >>> 1) ^^^ crcPoly else s >>> 1 := by
  unfold crcShift
  rw [and_one]
  cases s.getLsbD 0
  · simp
  · have : crcPoly &&& 4294967295#32 = crcPoly := by decide
    simp [this]

theorem crcShift_inj {s t : BitVec 32} (h : crcShift s = crcShift t) : s = t := by
  have top : ∀ s : BitVec 32, (crcShift s).getLsbD 31 = s.getLsbD 0 := by
    intro s
    rw [crcShift_eq]
    cases hb : s.getLsbD 0
    · simp
    · have : crcPoly.getLsbD 31 = true := by decide
      simp [this]
  have h0 : s.getLsbD 0 = t.getLsbD 0 := by rw [← top s, ← top t, h]
  have h1 : s >>> 1 = t >>> 1 := by
    rw [crcShift_eq, crcShift_eq, h0] at h
    cases hb : t.getLsbD 0
    · rw [hb] at h
      simp only [Bool.false_eq_true, if_false] at h
      exact h
    · rw [hb] at h
      simp only [if_true] at h
      have h2 : (s >>> 1 ^^^ crcPoly) ^^^ crcPoly = (t >>> 1 ^^^ crcPoly) ^^^ crcPoly := by rw [h]
      simpa [BitVec.xor_assoc] using h2
  apply BitVec.eq_of_getLsbD_eq
  intro i hi
  cases i with
  | zero => exact h0
  | succ i =>
    have := congrArg (fun x => x.getLsbD i) h1
    simp only [BitVec.getLsbD_ushiftRight] at this
    rwa [Nat.add_comm] at this

theorem crcIter_inj {s t : BitVec 32} : ∀ k, crcIter k s = crcIter k t → s = t
  | 0, h => h
  | k + 1, h => crcIter_inj k (crcShift_inj h)

theorem crcStep_inj_state {s t : BitVec 32} {c : UInt8} (h : crcStep s c = crcStep t c) : s = t := by
  have h1 := crcIter_inj 8 h
  have h2 : (s ^^^ BitVec.ofNat 32 c.toNat) ^^^ BitVec.ofNat 32 c.toNat = (t ^^^ BitVec.ofNat 32 c.toNat) ^^^ BitVec.ofNat 32 c.toNat := by rw [h1]
  simpa [BitVec.xor_assoc] using h2

theorem crcStep_inj_byte {s : BitVec 32} {c d : UInt8} (h : crcStep s c = crcStep s d) : c = d := by
  have h1 := crcIter_inj 8 h
  have h2 : s ^^^ (s ^^^ BitVec.ofNat 32 c.toNat) = s ^^^ (s ^^^ BitVec.ofNat 32 d.toNat) := by rw [h1]
  have h3 : BitVec.ofNat 32 c.toNat = BitVec.ofNat 32 d.toNat := by simpa [← BitVec.xor_assoc] using h2
  have h4 := congrArg BitVec.toNat h3
  simp only [BitVec.toNat_ofNat] at h4
  have := c.toNat_lt; have := d.toNat_lt
  apply UInt8.toNat_inj.1
  omega

theorem crcFold_inj {s t : BitVec 32} : ∀ l : List UInt8, l.foldl crcStep s = l.foldl crcStep t → s = t := by
  intro l
  induction l generalizing s t with
  | nil => intro h; exact h
  | cons c l ih => intro h; exact crcStep_inj_state (ih h)

/-- of two texts that part in just one byte the sums part -/
theorem crcSum_byte (a b : List UInt8) (c d : UInt8) (h : crcSum (a ++ c :: b) = crcSum (a ++ d :: b)) : c = d := by
  unfold crcSum at h
  have h1 : (a ++ c :: b).foldl crcStep (~~~ 0#32) = (a ++ d :: b).foldl crcStep (~~~ 0#32) := by
    have := congrArg (fun x => ~~~ x) h
    simpa using this
  rw [List.foldl_append, List.foldl_append, List.foldl_cons, List.foldl_cons] at h1
  exact crcStep_inj_byte (crcFold_inj b h1)

/-! how the program's own bits read -/
theorem ofInt_toNat (s : BitVec 32) : BitVec.ofInt 32 (s.toNat : Int) = s := by
  rw [BitVec.ofInt_natCast]; simp

theorem wrap_bv (s : BitVec 32) : IntKind.u32.wrap (s.toNat : Int) = (s.toNat : Int) := by
  have := s.isLt
  rw [IntKind.wrap_u32]; omega

theorem bits_xor_bv (s t : BitVec 32) : bits .xor .u32 (s.toNat : Int) (t.toNat : Int) = ((s ^^^ t).toNat : Int) := by
  show IntKind.u32.wrap ((BitVec.ofInt 32 (s.toNat : Int) ^^^ BitVec.ofInt 32 (t.toNat : Int)).toNat : Int) = _
  rw [ofInt_toNat, ofInt_toNat, wrap_bv]

theorem bits_and_bv (s t : BitVec 32) : bits .and .u32 (s.toNat : Int) (t.toNat : Int) = ((s &&& t).toNat : Int) := by
  show IntKind.u32.wrap ((BitVec.ofInt 32 (s.toNat : Int) &&& BitVec.ofInt 32 (t.toNat : Int)).toNat : Int) = _
  rw [ofInt_toNat, ofInt_toNat, wrap_bv]

theorem shr_bv (s : BitVec 32) : ((s.toNat : Nat) : Int) / (2 : Int) = ((s >>> 1).toNat : Int) := by
  rw [BitVec.toNat_ushiftRight, Nat.shiftRight_eq_div_pow]
  simp

theorem neg_bv (s : BitVec 32) : -(s.toNat : Int) % 4294967296 = ((-s).toNat : Int) := by
  have := s.isLt
  rw [BitVec.toNat_neg]
  omega

theorem not_bv (s : BitVec 32) : bits .xor .u32 IntKind.u32.max (s.toNat : Int) = ((~~~ s).toNat : Int) := by
  have h : IntKind.u32.max = ((BitVec.allOnes 32).toNat : Int) := by decide
  rw [h, bits_xor_bv]
  congr 2

theorem sub_bv (s : BitVec 32) : 4294967295 - (s.toNat : Int) = ((~~~ s).toNat : Int) := by
  have := s.isLt
  rw [BitVec.toNat_not]
  omega

/-- a round of the program's step -/
theorem step_bv (s : BitVec 32) : bits .xor .u32 ((s.toNat : Int) / 2) (bits .and .u32 3988292384 (-bits .and .u32 (s.toNat : Int) 1 % 4294967296)) = ((crcShift s).toNat : Int) := by
  have h1 : (1 : Int) = ((1#32).toNat : Int) := rfl
  have h2 : (3988292384 : Int) = (crcPoly.toNat : Int) := rfl
  rw [h1, bits_and_bv, neg_bv, h2, bits_and_bv, shr_bv, bits_xor_bv]
  rfl

theorem byte_bv (c : UInt8) : ((BitVec.ofNat 32 c.toNat).toNat : Int) = (c.toNat : Int) := by
  have := c.toNat_lt
  rw [BitVec.toNat_ofNat]; omega

/-- the document's way: the byte's bits one by one -/
def refIter (s : BitVec 32) (c : UInt8) : Nat → BitVec 32
  | 0 => s
  | k + 1 => if ((refIter s c k).toNat + c.toNat / 2 ^ k) % 2 = 1 then (refIter s c k >>> 1) ^^^ crcPoly else refIter s c k >>> 1

theorem ref_iter (s : BitVec 32) (c : UInt8) : ∀ k, crcIter k (s ^^^ BitVec.ofNat 32 c.toNat) = refIter s c k ^^^ BitVec.ofNat 32 (c.toNat / 2 ^ k) := by
  intro k
  induction k with
  | zero => simp [crcIter, refIter]
  | succ k ih =>
    have hc := c.toNat_lt
    have hd : c.toNat / 2 ^ k < 4294967296 := Nat.lt_of_le_of_lt (Nat.div_le_self _ _) (by omega)
    rw [crcIter, ih, crcShift_eq, refIter]
    have hb : (refIter s c k ^^^ BitVec.ofNat 32 (c.toNat / 2 ^ k)).getLsbD 0 = decide (((refIter s c k).toNat + c.toNat / 2 ^ k) % 2 = 1) := by
      rw [BitVec.getLsbD_xor, BitVec.getLsbD_ofNat]
      have e1 : (refIter s c k).getLsbD 0 = decide ((refIter s c k).toNat % 2 = 1) := by
        rw [BitVec.getLsbD, Nat.testBit_zero]
      have e2 : (c.toNat / 2 ^ k).testBit 0 = decide ((c.toNat / 2 ^ k) % 2 = 1) := by rw [Nat.testBit_zero]
      rw [e1, e2]
      have p1 := Nat.mod_two_eq_zero_or_one (refIter s c k).toNat
      have p2 := Nat.mod_two_eq_zero_or_one (c.toNat / 2 ^ k)
      have p3 : ((refIter s c k).toNat + c.toNat / 2 ^ k) % 2 = ((refIter s c k).toNat % 2 + c.toNat / 2 ^ k % 2) % 2 := Nat.add_mod _ _ _
      rcases p1 with p1 | p1 <;> rcases p2 with p2 | p2 <;> simp [p1, p2, p3]
    have hs : (refIter s c k ^^^ BitVec.ofNat 32 (c.toNat / 2 ^ k)) >>> 1 = (refIter s c k >>> 1) ^^^ BitVec.ofNat 32 (c.toNat / 2 ^ (k + 1)) := by
      rw [BitVec.ushiftRight_xor_distrib]
      congr 1
      apply BitVec.eq_of_toNat_eq
      rw [BitVec.toNat_ushiftRight, Nat.shiftRight_eq_div_pow, BitVec.toNat_ofNat, BitVec.toNat_ofNat, show 2 ^ (k + 1) = 2 ^ k * 2 from Nat.pow_succ _ _, ← Nat.div_div_eq_div_mul]
      generalize c.toNat / 2 ^ k = q at hd ⊢
      rw [Nat.mod_eq_of_lt (show q < 2 ^ 32 from hd), Nat.mod_eq_of_lt (show q / 2 < 2 ^ 32 from Nat.lt_of_le_of_lt (Nat.div_le_self _ _) hd)]
    rw [hb, hs]
    by_cases h : ((refIter s c k).toNat + c.toNat / 2 ^ k) % 2 = 1
    · simp only [h, decide_true, if_true]
      rw [BitVec.xor_assoc, BitVec.xor_comm (BitVec.ofNat 32 _), ← BitVec.xor_assoc]
    · simp only [h, decide_false, if_false]
      rfl

theorem ref_step (s : BitVec 32) (c : UInt8) : refIter s c 8 = crcStep s c := by
  unfold crcStep
  rw [ref_iter]
  have hc := c.toNat_lt
  have : c.toNat / 2 ^ 8 = 0 := Nat.div_eq_of_lt hc
  rw [this]
  simp

theorem ref_bit (s : BitVec 32) (c : UInt8) (k : Nat) (V C : Int) (hV : V = ((refIter s c k).toNat : Int)) (hC : C = (c.toNat : Int)) :
    ((V + C / 2 ^ k) % 2 == 1) = decide (((refIter s c k).toNat + c.toNat / 2 ^ k) % 2 = 1) := by
  have h : (V + C / 2 ^ k) % 2 = ((((refIter s c k).toNat + c.toNat / 2 ^ k) % 2 : Nat) : Int) := by
    rw [hV, hC]; simp
  rw [h]
  rw [Bool.eq_iff_iff, beq_iff_eq, decide_eq_true_iff]
  omega

theorem ref_yes (s : BitVec 32) (c : UInt8) (k : Nat) (V C : Int) (hV : V = ((refIter s c k).toNat : Int)) (hC : C = (c.toNat : Int)) (h : ((V + C / 2 ^ k) % 2 == 1) = true) :
    bits .xor .u32 (V / 2) 3988292384 = ((refIter s c (k + 1)).toNat : Int) := by
  rw [ref_bit s c k V C hV hC] at h
  rw [refIter, if_pos (of_decide_eq_true h), hV, shr_bv, show (3988292384 : Int) = (crcPoly.toNat : Int) from rfl, bits_xor_bv]

theorem ref_no (s : BitVec 32) (c : UInt8) (k : Nat) (V C : Int) (hV : V = ((refIter s c k).toNat : Int)) (hC : C = (c.toNat : Int)) (h : ((V + C / 2 ^ k) % 2 == 1) = false) :
    V / 2 = ((refIter s c (k + 1)).toNat : Int) := by
  rw [ref_bit s c k V C hV hC] at h
  rw [refIter, if_neg (of_decide_eq_false h), hV, shr_bv]

end Go.Proofs.YtikaopicddakeaaGreatDoor
