/- Plain laws on numbers as bytes: no program here. Plain laws on the sum: no program here. -/
import Derived.Test.YtmgpffknmmoggaaGreatDoorG1PIndexPlay
import Derived.Lib.EndianBits
set_option linter.unusedVariables false
set_option linter.unusedSimpArgs false
namespace Go.Proofs.YtmgpffknmmoggaaGreatDoor
def be : Nat → Nat → List UInt8
  | 0, _ => []
  | k + 1, x => UInt8.ofNat (x / 256 ^ k) :: be k x
def unbe (l : List UInt8) : Nat := l.foldl (fun a b => a * 256 + b.toNat) 0
theorem be_length (k x : Nat) : (be k x).length = k := by
  induction k with
  | zero => rfl
  | succ k ih => simp [be, ih]
theorem unbe_foldl (l : List UInt8) : ∀ a, l.foldl (fun a b => a * 256 + b.toNat) a = a * 256 ^ l.length + unbe l := by
  induction l with
  | nil => intro a; simp [unbe]
  | cons b l ih =>
    intro a
    have h2 : unbe (b :: l) = (0 * 256 + b.toNat) * 256 ^ l.length + unbe l := by
      unfold unbe; rw [List.foldl_cons]; exact ih _
    rw [List.foldl_cons, ih, h2, List.length_cons, Nat.pow_succ, Nat.add_mul, Nat.zero_mul, Nat.zero_add, Nat.mul_assoc, Nat.mul_comm 256, Nat.add_assoc]
theorem unbe_cons (b : UInt8) (l : List UInt8) : unbe (b :: l) = b.toNat * 256 ^ l.length + unbe l := by
  unfold unbe
  rw [List.foldl_cons, unbe_foldl]
  simp [unbe]
theorem unbe_snoc (l : List UInt8) (b : UInt8) : unbe (l ++ [b]) = unbe l * 256 + b.toNat := by
  unfold unbe; rw [List.foldl_append]; rfl
theorem unbe_lt (l : List UInt8) : unbe l < 256 ^ l.length := by
  induction l with
  | nil => simp [unbe]
  | cons b l ih =>
    rw [unbe_cons, List.length_cons, Nat.pow_succ]
    have := b.toNat_lt
    have h : b.toNat * 256 ^ l.length ≤ 255 * 256 ^ l.length := Nat.mul_le_mul_right _ (by omega)
    omega
theorem unbe_be (k x : Nat) : unbe (be k x) = x % 256 ^ k := by
  induction k with
  | zero => simp [be, unbe, Nat.mod_one]
  | succ k ih =>
    rw [be, unbe_cons, be_length, ih, Nat.pow_succ, Nat.mod_mul]
    simp only [UInt8.toNat_ofNat']
    rw [Nat.mul_comm (256 ^ k), Nat.add_comm]
theorem be_unbe (l : List UInt8) : be l.length (unbe l) = l := by
  induction l with
  | nil => rfl
  | cons b l ih =>
    have h := unbe_lt l
    have hp : 0 < 256 ^ l.length := Nat.pow_pos (by decide)
    rw [List.length_cons, be, unbe_cons]
    have e1 : (b.toNat * 256 ^ l.length + unbe l) / 256 ^ l.length = b.toNat := by
      rw [Nat.add_comm, Nat.add_mul_div_right _ _ hp, Nat.div_eq_of_lt h]; omega
    have e2 : ∀ k, k ≤ l.length → be k (b.toNat * 256 ^ l.length + unbe l) = be k (unbe l) := by
      intro k
      induction k with
      | zero => intro _; rfl
      | succ k ih2 =>
        intro hk
        rw [be, be, ih2 (by omega)]
        congr 1
        have e3 : 256 ^ l.length = 256 ^ k * (256 * 256 ^ (l.length - k - 1)) := by
          rw [← Nat.mul_assoc, ← Nat.pow_succ, ← Nat.pow_add]; congr 1; omega
        have hk0 : 0 < 256 ^ k := Nat.pow_pos (by decide)
        have e4 : (b.toNat * 256 ^ l.length + unbe l) / 256 ^ k = b.toNat * 256 ^ (l.length - k - 1) * 256 + unbe l / 256 ^ k := by
          rw [e3, show b.toNat * (256 ^ k * (256 * 256 ^ (l.length - k - 1))) + unbe l = unbe l + 256 ^ k * (b.toNat * 256 ^ (l.length - k - 1) * 256) from by
            rw [Nat.add_comm]; congr 1
            rw [Nat.mul_left_comm, Nat.mul_comm 256 (256 ^ _), ← Nat.mul_assoc b.toNat],
            Nat.add_mul_div_left _ _ hk0, Nat.add_comm]
        rw [e4]
        apply UInt8.toNat_inj.1
        simp only [UInt8.toNat_ofNat']
        omega
    rw [e1, e2 _ (Nat.le_refl _), ih]
    congr 1
    apply UInt8.toNat_inj.1
    simp
theorem set_pad (n : Nat) (L : List Value) (z v : Value) : (List.replicate (n + 1) z ++ L).set n v = List.replicate n z ++ v :: L := by
  rw [List.replicate_succ', List.append_assoc, List.set_append]
  simp
theorem put_byte (X k : Nat) : ((X : Int) / 2 ^ (8 * k) % 256) = ((UInt8.ofNat (X / 256 ^ k)).toNat : Int) := by
  have : (2 : Nat) ^ (8 * k) = 256 ^ k := by rw [Nat.pow_mul]
  rw [UInt8.toNat_ofNat']
  rw [← this]
  simp
theorem u64_or_byte (Z : Int) (b : UInt8) (h0 : 0 ≤ Z) (h1 : Z < 72057594037927936) : bits .or .u64 (Z * 256) (IntKind.u64.wrap (b.toNat : Int)) = Z * 256 + (b.toNat : Int) := by
  have hb := b.toNat_lt
  have hw : IntKind.u64.wrap (b.toNat : Int) = (b.toNat : Int) := by rw [Go.IntKind.wrap_u64]; omega
  rw [hw]
  exact bits_join .u64 64 (by decide) wraps_u64 8 _ _ (by omega) (by omega) (by omega) (by omega) (by omega) (by omega)
end Go.Proofs.YtmgpffknmmoggaaGreatDoor
namespace Go.Proofs.YtmgpffknmmoggaaGreatDoor
def crcPoly : BitVec 32 := 0xedb88320#32
def crcShift (s : BitVec 32) : BitVec 32 := (s >>> 1) ^^^ (crcPoly &&& -(s &&& 1#32))
def crcIter : Nat → BitVec 32 → BitVec 32
  | 0, s => s
  | k + 1, s => crcShift (crcIter k s)
def crcStep (s : BitVec 32) (c : UInt8) : BitVec 32 := crcIter 8 (s ^^^ BitVec.ofNat 32 c.toNat)
def crcSum (l : List UInt8) : BitVec 32 := ~~~ (l.foldl crcStep (~~~ 0#32))
theorem ofInt_toNat (s : BitVec 32) : BitVec.ofInt 32 (s.toNat : Int) = s := by
  rw [BitVec.ofInt_natCast]; simp
theorem wrap_bv (s : BitVec 32) : IntKind.u32.wrap (s.toNat : Int) = (s.toNat : Int) := by
  have := s.isLt
  rw [IntKind.wrap_u32]; omega
theorem bits_xor_bv (s t : BitVec 32) : bits .xor .u32 (s.toNat : Int) (t.toNat : Int) = ((s ^^^ t).toNat : Int) := by
  show IntKind.u32.wrap ((BitVec.ofInt 32 (s.toNat : Int) ^^^ BitVec.ofInt 32 (t.toNat : Int)).toNat : Int) = _
  rw [ofInt_toNat, ofInt_toNat, wrap_bv]
theorem bits_and_bv (s t : BitVec 32) : bits .and .u32 (s.toNat : Int) (t.toNat : Int) = ((s &&& t).toNat : Int) := by
  show IntKind.u32.wrap ((BitVec.ofInt 32 (s.toNat : Int) &&& BitVec.ofInt 32 (t.toNat : Int)).toNat : Int) = _
  rw [ofInt_toNat, ofInt_toNat, wrap_bv]
theorem shr_bv (s : BitVec 32) : ((s.toNat : Nat) : Int) / (2 : Int) = ((s >>> 1).toNat : Int) := by
  rw [BitVec.toNat_ushiftRight, Nat.shiftRight_eq_div_pow]
  simp
theorem neg_bv (s : BitVec 32) : -(s.toNat : Int) % 4294967296 = ((-s).toNat : Int) := by
  have := s.isLt
  rw [BitVec.toNat_neg]
  omega
theorem not_bv (s : BitVec 32) : bits .xor .u32 IntKind.u32.max (s.toNat : Int) = ((~~~ s).toNat : Int) := by
  have h : IntKind.u32.max = ((BitVec.allOnes 32).toNat : Int) := by decide
  rw [h, bits_xor_bv]
  congr 2
theorem step_bv (s : BitVec 32) : bits .xor .u32 ((s.toNat : Int) / 2) (bits .and .u32 3988292384 (-bits .and .u32 (s.toNat : Int) 1 % 4294967296)) = ((crcShift s).toNat : Int) := by
  have h1 : (1 : Int) = ((1#32).toNat : Int) := rfl
  have h2 : (3988292384 : Int) = (crcPoly.toNat : Int) := rfl
  rw [h1, bits_and_bv, neg_bv, h2, bits_and_bv, shr_bv, bits_xor_bv]
  rfl
theorem byte_bv (c : UInt8) : ((BitVec.ofNat 32 c.toNat).toNat : Int) = (c.toNat : Int) := by
  have := c.toNat_lt
  rw [BitVec.toNat_ofNat]; omega
end Go.Proofs.YtmgpffknmmoggaaGreatDoor
