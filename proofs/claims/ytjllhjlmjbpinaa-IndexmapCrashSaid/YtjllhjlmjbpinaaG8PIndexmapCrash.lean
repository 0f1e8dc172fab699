/- Plain laws on the sum: no program here. Walks: the sum of a text. Walks: texts with their sums. Walks: the document's sum. Walks: a manifest's bytes. Walks: the document's bytes of a manifest. -/
import Derived.Test.YtjllhjlmjbpinaaG1PIndexmapCrash
import Derived.Lib.EndianBits
import Derived.Test.YtjllhjlmjbpinaaChecked
import Derived.Test.YtjllhjlmjbpinaaG7PIndexmapCrash
namespace Go.Proofs.Ytjllhjlmjbpinaa

def crcPoly : BitVec 32 := 0xedb88320#32

/-- one bit goes out of a state -/
def crcShift (s : BitVec 32) : BitVec 32 := (s >>> 1) ^^^ (crcPoly &&& -(s &&& 1#32))

def crcIter : Nat → BitVec 32 → BitVec 32
  | 0, s => s
  | k + 1, s => crcShift (crcIter k s)

/-- a byte goes into a state -/
def crcStep (s : BitVec 32) (c : UInt8) : BitVec 32 := crcIter 8 (s ^^^ BitVec.ofNat 32 c.toNat)

/-- the sum of a text -/
def crcSum (l : List UInt8) : BitVec 32 := ~~~ (l.foldl crcStep (~~~ 0#32))

theorem and_one (s : BitVec 32) : s &&& 1#32 = if s.getLsbD 0 then 1#32 else 0#32 := by
  apply BitVec.eq_of_getLsbD_eq
  intro i hi
  rw [BitVec.getLsbD_and]
  have h1 : (1#32).getLsbD i = decide (i = 0) := by
    rw [BitVec.getLsbD_one]; simp
  rw [h1]
  by_cases h : i = 0
  · subst h
    cases hb : s.getLsbD 0 <;> simp
  · simp only [h, decide_false, Bool.and_false]
    cases s.getLsbD 0
    · simp
    · simp [h]

theorem crcShift_eq (s : BitVec 32) : crcShift s = if s.getLsbD 0 then (s >>> 1) ^^^ crcPoly else s >>> 1 := by
  unfold crcShift
  rw [and_one]
  cases s.getLsbD 0
  · simp
  · have : crcPoly &&& 4294967295#32 = crcPoly := by decide
    simp [this]

theorem crcShift_inj {s t : BitVec 32} (h : crcShift s = crcShift t) : s = t := by
  have top : ∀ s : BitVec 32, (crcShift s).getLsbD 31 = s.getLsbD 0 := by
    intro s
    rw [crcShift_eq]
    cases hb : s.getLsbD 0
    · simp
    · have : crcPoly.getLsbD 31 = true := by decide
      simp [this]
  have h0 : s.getLsbD 0 = t.getLsbD 0 := by rw [← top s, ← top t, h]
  have h1 : s >>> 1 = t >>> 1 := by
    rw [crcShift_eq, crcShift_eq, h0] at h
    cases hb : t.getLsbD 0
    · rw [hb] at h
      simp only [Bool.false_eq_true, if_false] at h
      exact h
    · rw [hb] at h
      simp only [if_true] at h
      have h2 : (s >>> 1 ^^^ crcPoly) ^^^ crcPoly = (t >>> 1 ^^^ crcPoly) ^^^ crcPoly := by rw [h]
      simpa [BitVec.xor_assoc] using h2
  apply BitVec.eq_of_getLsbD_eq
  intro i hi
  cases i with
  | zero => exact h0
  | succ i =>
    have := congrArg (fun x => x.getLsbD i) h1
    simp only [BitVec.getLsbD_ushiftRight] at this
    rwa [Nat.add_comm] at this

theorem crcIter_inj {s t : BitVec 32} : ∀ k, crcIter k s = crcIter k t → s = t
  | 0, h => h
  | k + 1, h => crcIter_inj k (crcShift_inj h)

theorem crcStep_inj_state {s t : BitVec 32} {c : UInt8} (h : crcStep s c = crcStep t c) : s = t := by
  have h1 := crcIter_inj 8 h
  have h2 : (s ^^^ BitVec.ofNat 32 c.toNat) ^^^ BitVec.ofNat 32 c.toNat = (t ^^^ BitVec.ofNat 32 c.toNat) ^^^ BitVec.ofNat 32 c.toNat := by rw [h1]
  simpa [BitVec.xor_assoc] using h2

theorem crcStep_inj_byte {s : BitVec 32} {c d : UInt8} (h : crcStep s c = crcStep s d) : c = d := by
  have h1 := crcIter_inj 8 h
  have h2 : s ^^^ (s ^^^ BitVec.ofNat 32 c.toNat) = s ^^^ (s ^^^ BitVec.ofNat 32 d.toNat) := by rw [h1]
  have h3 : BitVec.ofNat 32 c.toNat = BitVec.ofNat 32 d.toNat := by simpa [← BitVec.xor_assoc] using h2
  have h4 := congrArg BitVec.toNat h3
  simp only [BitVec.toNat_ofNat] at h4
  have := c.toNat_lt; have := d.toNat_lt
  apply UInt8.toNat_inj.1
  omega

theorem crcFold_inj {s t : BitVec 32} : ∀ l : List UInt8, l.foldl crcStep s = l.foldl crcStep t → s = t := by
  intro l
  induction l generalizing s t with
  | nil => intro h; exact h
  | cons c l ih => intro h; exact crcStep_inj_state (ih h)

/-- of two texts that part in just one byte the sums part -/
theorem crcSum_byte (a b : List UInt8) (c d : UInt8) (h : crcSum (a ++ c :: b) = crcSum (a ++ d :: b)) : c = d := by
  unfold crcSum at h
  have h1 : (a ++ c :: b).foldl crcStep (~~~ 0#32) = (a ++ d :: b).foldl crcStep (~~~ 0#32) := by
    have := congrArg (fun x => ~~~ x) h
    simpa using this
  rw [List.foldl_append, List.foldl_append, List.foldl_cons, List.foldl_cons] at h1
  exact crcStep_inj_byte (crcFold_inj b h1)

/-! how the program's own bits read -/
theorem ofInt_toNat (s : BitVec 32) : BitVec.ofInt 32 (s.toNat : Int) = s := by
  rw [BitVec.ofInt_natCast]; simp

theorem wrap_bv (s : BitVec 32) : IntKind.u32.wrap (s.toNat : Int) = (s.toNat : Int) := by
  have := s.isLt
  rw [IntKind.wrap_u32]; omega

theorem bits_xor_bv (s t : BitVec 32) : bits .xor .u32 (s.toNat : Int) (t.toNat : Int) = ((s ^^^ t).toNat : Int) := by
  show IntKind.u32.wrap ((BitVec.ofInt 32 (s.toNat : Int) ^^^ BitVec.ofInt 32 (t.toNat : Int)).toNat : Int) = _
  rw [ofInt_toNat, ofInt_toNat, wrap_bv]

theorem bits_and_bv (s t : BitVec 32) : bits .and .u32 (s.toNat : Int) (t.toNat : Int) = ((s &&& t).toNat : Int) := by
  show IntKind.u32.wrap ((BitVec.ofInt 32 (s.toNat : Int) &&& BitVec.ofInt 32 (t.toNat : Int)).toNat : Int) = _
  rw [ofInt_toNat, ofInt_toNat, wrap_bv]

theorem shr_bv (s : BitVec 32) : ((s.toNat : Nat) : Int) / (2 : Int) = ((s >>> 1).toNat : Int) := by
  rw [BitVec.toNat_ushiftRight, Nat.shiftRight_eq_div_pow]
  simp

theorem neg_bv (s : BitVec 32) : -(s.toNat : Int) % 4294967296 = ((-s).toNat : Int) := by
  have := s.isLt
  rw [BitVec.toNat_neg]
  omega

theorem not_bv (s : BitVec 32) : bits .xor .u32 IntKind.u32.max (s.toNat : Int) = ((~~~ s).toNat : Int) := by
  have h : IntKind.u32.max = ((BitVec.allOnes 32).toNat : Int) := by decide
  rw [h, bits_xor_bv]
  congr 2

theorem sub_bv (s : BitVec 32) : 4294967295 - (s.toNat : Int) = ((~~~ s).toNat : Int) := by
  have := s.isLt
  rw [BitVec.toNat_not]
  omega

/-- a round of the program's step -/
theorem step_bv (s : BitVec 32) : bits .xor .u32 ((s.toNat : Int) / 2) (bits .and .u32 3988292384 (-bits .and .u32 (s.toNat : Int) 1 % 4294967296)) = ((crcShift s).toNat : Int) := by
  have h1 : (1 : Int) = ((1#32).toNat : Int) := rfl
  have h2 : (3988292384 : Int) = (crcPoly.toNat : Int) := rfl
  rw [h1, bits_and_bv, neg_bv, h2, bits_and_bv, shr_bv, bits_xor_bv]
  rfl

theorem byte_bv (c : UInt8) : ((BitVec.ofNat 32 c.toNat).toNat : Int) = (c.toNat : Int) := by
  have := c.toNat_lt
  rw [BitVec.toNat_ofNat]; omega

/-- the document's way: the byte's bits one by one -/
def refIter (s : BitVec 32) (c : UInt8) : Nat → BitVec 32
  | 0 => s
  | k + 1 => if ((refIter s c k).toNat + c.toNat / 2 ^ k) % 2 = 1 then (refIter s c k >>> 1) ^^^ crcPoly else refIter s c k >>> 1

theorem ref_iter (s : BitVec 32) (c : UInt8) : ∀ k, crcIter k (s ^^^ BitVec.ofNat 32 c.toNat) = refIter s c k ^^^ BitVec.ofNat 32 (c.toNat / 2 ^ k) := by
  intro k
  induction k with
  | zero => simp [crcIter, refIter]
  | succ k ih =>
    have hc := c.toNat_lt
    have hd : c.toNat / 2 ^ k < 4294967296 := Nat.lt_of_le_of_lt (Nat.div_le_self _ _) (by omega)
    rw [crcIter, ih, crcShift_eq, refIter]
    have hb : (refIter s c k ^^^ BitVec.ofNat 32 (c.toNat / 2 ^ k)).getLsbD 0 = decide (((refIter s c k).toNat + c.toNat / 2 ^ k) % 2 = 1) := by
      rw [BitVec.getLsbD_xor, BitVec.getLsbD_ofNat]
      have e1 : (refIter s c k).getLsbD 0 = decide ((refIter s c k).toNat % 2 = 1) := by
        rw [BitVec.getLsbD, Nat.testBit_zero]
      have e2 : (c.toNat / 2 ^ k).testBit 0 = decide ((c.toNat / 2 ^ k) % 2 = 1) := by rw [Nat.testBit_zero]
      rw [e1, e2]
      have p1 := Nat.mod_two_eq_zero_or_one (refIter s c k).toNat
      have p2 := Nat.mod_two_eq_zero_or_one (c.toNat / 2 ^ k)
      have p3 : ((refIter s c k).toNat + c.toNat / 2 ^ k) % 2 = ((refIter s c k).toNat % 2 + c.toNat / 2 ^ k % 2) % 2 := Nat.add_mod _ _ _
      rcases p1 with p1 | p1 <;> rcases p2 with p2 | p2 <;> simp [p1, p2, p3]
    have hs : (refIter s c k ^^^ BitVec.ofNat 32 (c.toNat / 2 ^ k)) >>> 1 = (refIter s c k >>> 1) ^^^ BitVec.ofNat 32 (c.toNat / 2 ^ (k + 1)) := by
      rw [BitVec.ushiftRight_xor_distrib]
      congr 1
      apply BitVec.eq_of_toNat_eq
      rw [BitVec.toNat_ushiftRight, Nat.shiftRight_eq_div_pow, BitVec.toNat_ofNat, BitVec.toNat_ofNat, show 2 ^ (k + 1) = 2 ^ k * 2 from Nat.pow_succ _ _, ← Nat.div_div_eq_div_mul]
      generalize c.toNat / 2 ^ k = q at hd ⊢
      rw [Nat.mod_eq_of_lt (show q < 2 ^ 32 from hd), Nat.mod_eq_of_lt (show q / 2 < 2 ^ 32 from Nat.lt_of_le_of_lt (Nat.div_le_self _ _) hd)]
    rw [hb, hs]
    by_cases h : ((refIter s c k).toNat + c.toNat / 2 ^ k) % 2 = 1
    · simp only [h, decide_true, if_true]
      rw [BitVec.xor_assoc, BitVec.xor_comm (BitVec.ofNat 32 _), ← BitVec.xor_assoc]
    · simp only [h, decide_false, if_false]
      rfl

theorem ref_step (s : BitVec 32) (c : UInt8) : refIter s c 8 = crcStep s c := by
  unfold crcStep
  rw [ref_iter]
  have hc := c.toNat_lt
  have : c.toNat / 2 ^ 8 = 0 := Nat.div_eq_of_lt hc
  rw [this]
  simp

theorem ref_bit (s : BitVec 32) (c : UInt8) (k : Nat) (V C : Int) (hV : V = ((refIter s c k).toNat : Int)) (hC : C = (c.toNat : Int)) :
    ((V + C / 2 ^ k) % 2 == 1) = decide (((refIter s c k).toNat + c.toNat / 2 ^ k) % 2 = 1) := by
  have h : (V + C / 2 ^ k) % 2 = ((((refIter s c k).toNat + c.toNat / 2 ^ k) % 2 : Nat) : Int) := by
    rw [hV, hC]; simp
  rw [h]
  rw [Bool.eq_iff_iff, beq_iff_eq, decide_eq_true_iff]
  omega

theorem ref_yes (s : BitVec 32) (c : UInt8) (k : Nat) (V C : Int) (hV : V = ((refIter s c k).toNat : Int)) (hC : C = (c.toNat : Int)) (h : ((V + C / 2 ^ k) % 2 == 1) = true) :
    bits .xor .u32 (V / 2) 3988292384 = ((refIter s c (k + 1)).toNat : Int) := by
  rw [ref_bit s c k V C hV hC] at h
  rw [refIter, if_pos (of_decide_eq_true h), hV, shr_bv, show (3988292384 : Int) = (crcPoly.toNat : Int) from rfl, bits_xor_bv]

theorem ref_no (s : BitVec 32) (c : UInt8) (k : Nat) (V C : Int) (hV : V = ((refIter s c k).toNat : Int)) (hC : C = (c.toNat : Int)) (h : ((V + C / 2 ^ k) % 2 == 1) = false) :
    V / 2 = ((refIter s c (k + 1)).toNat : Int) := by
  rw [ref_bit s c k V C hV hC] at h
  rw [refIter, if_neg (of_decide_eq_false h), hV, shr_bv]

end Go.Proofs.Ytjllhjlmjbpinaa
namespace Go.Proofs.Ytjllhjlmjbpinaa
open Go.RowKit

set_option maxRecDepth 100000 in
set_option maxHeartbeats 1600000 in
theorem step_c (s : BitVec 32) (c : UInt8) (S C : Int) (w : World) (hS : S = (s.toNat : Int)) (hC : C = (c.toNat : Int)) :
    Calls Try.prog 122 #[.int .u32 S, .int .u8 C] w fun e w' => e = .returned (.int .u32 ((crcStep s c).toNat : Int)) ∧ Ext w w' := by
  have hx := bits_xor_bv s (BitVec.ofNat 32 c.toNat)
  rw [byte_bv, ← hS, ← hC] at hx
  have HX := Lib.hid hx
  have b1 : 0 ≤ S := by omega
  have b2 : S < 4294967296 := by have := s.isLt; omega
  have b3 : 0 ≤ C := by omega
  have b4 : C < 256 := by have := c.toNat_lt; omega
  clear hS hC hx
  go_enter Try.func122, Try.ntmps122
  go_wp2_with fail
  go_loopw [0, 9] (fun v i w' => ∃ (k : Nat) (V : Int), k ≤ 8 ∧ i = .int .i64 k ∧ v = .int .u32 V ∧ V = ((crcIter k (s ^^^ BitVec.ofNat 32 c.toNat)).toNat : Int) ∧ Ext w w') (fun _ i _ => 8 - (intOf i).toNat)
  case atStart => exact ⟨0, _, Nat.zero_le _, rfl, rfl, HX.out, Ext.refl _⟩
  case round =>
    obtain ⟨k, V, hk, rfl, rfl, hv, hb⟩ := hrel
    have HV := Lib.hid hv; have Hb := Lib.hid hb
    have v1 : 0 ≤ V := by omega
    have v2 : V < 4294967296 := by have := (crcIter k (s ^^^ BitVec.ofNat 32 c.toNat)).isLt; omega
    clear hv hb
    by_cases hlt : k < 8
    · have hst := step_bv (crcIter k (s ^^^ BitVec.ofNat 32 c.toNat))
      rw [← HV.out] at hst
      have HST := Lib.hid hst; clear hst
      go_wp2_with fail
      go_roundw
      case rel => exact ⟨k + 1, _, by omega, by go_num, rfl, HST.out, Hb.out⟩
      case measure => simp [intOf]; omega
    · have hk8 : k = 8 := by omega
      have HK := Lib.hid hk8; clear hk8
      go_wp2_with fail
      go_ret
      exact ⟨rn (by rw [HV.out, HK.out]; rfl), Hb.out⟩

set_option maxRecDepth 100000 in
set_option maxHeartbeats 1600000 in
theorem more_c (l : List UInt8) (w : World) (hl : l.length ≤ 9223372036854775807) :
    Calls Try.prog 113 #[.int .u32 0, .string ⟨l.toArray⟩] w fun e w' => e = .returned (.int .u32 ((crcSum l).toNat : Int)) ∧ Ext w w' := by
  go_enter Try.func113, Try.ntmps113
  go_wp2_with fail
  go_loopw [5, 11] (fun v i w' => ∃ (k : Nat) (V : Int), k ≤ l.length ∧ i = .int .i64 k ∧ v = .int .u32 V ∧ V = (((l.take k).foldl crcStep (~~~ 0#32)).toNat : Int) ∧ Ext w w') (fun _ i _ => l.length - (intOf i).toNat)
  case atStart => exact ⟨0, _, Nat.zero_le _, rfl, rfl, rfl, Ext.refl _⟩
  case round =>
    obtain ⟨k, V, hk, rfl, rfl, hv, hb⟩ := hrel
    have HV := Lib.hid hv; have Hb := Lib.hid hb
    have v1 : 0 ≤ V := by omega
    have v2 : V < 4294967296 := by have := ((l.take k).foldl crcStep (~~~ 0#32)).isLt; omega
    clear hv hb
    by_cases hlt : k < l.length
    · go_wp2_with fail
      refine (step_c _ l[k] _ _ _ HV.out rfl).mono ?_
      rintro e w1 ⟨rfl, hb1⟩
      have HB1 := Lib.hid (Hb.out.trans hb1); clear hb1
      have hf : (l.take (k + 1)).foldl crcStep (~~~ 0#32) = crcStep ((l.take k).foldl crcStep (~~~ 0#32)) l[k] := by
        rw [List.take_succ_eq_append_getElem hlt, List.foldl_append]; rfl
      have HF := Lib.hid hf; clear hf
      generalize crcStep ((l.take k).foldl crcStep (~~~ 0#32)) l[k] = T at *
      go_wp2_with fail
      go_roundw
      case rel => exact ⟨k + 1, _, by omega, by go_num, rfl, by rw [HF.out], HB1.out⟩
      case measure => simp [intOf]; omega
    · have hkl : l.take k = l := List.take_of_length_le (by omega)
      have HK := Lib.hid hkl; clear hkl
      go_wp2_with fail
      go_ret
      exact ⟨rn (by rw [HV.out, HK.out, not_bv]; rfl), Hb.out⟩

theorem sum_c (l : List UInt8) (w : World) (hl : l.length ≤ 9223372036854775807) :
    Calls Try.prog 96 #[.string ⟨l.toArray⟩] w fun e w' => e = .returned (.int .u32 ((crcSum l).toNat : Int)) ∧ Ext w w' := by
  go_enter Try.func96, Try.ntmps96
  go_wp2_with fail
  refine (more_c l _ hl).mono ?_
  rintro e w1 ⟨rfl, hb⟩
  have HB := Lib.hid hb; clear hb
  go_wp2_with fail
  go_ret
  exact ⟨rfl, HB.out⟩

/-- a sum's bytes, the lowest one first -/
def lowS (s : BitVec 32) : List UInt8 := (be 4 s.toNat).reverse

theorem be4 (x : Nat) : be 4 x = [UInt8.ofNat (x / 16777216), UInt8.ofNat (x / 65536), UInt8.ofNat (x / 256), UInt8.ofNat x] := by
  simp [be]

set_option maxRecDepth 100000 in
set_option maxHeartbeats 3200000 in
theorem low_c (s : BitVec 32) (S : Int) (w : World) (hS : S = (s.toNat : Int)) :
    Calls Try.prog 95 #[.int .u32 S] w fun e w' => e = .returned (.string ⟨(lowS s).toArray⟩) ∧ Ext w w' := by
  have b1 : 0 ≤ S := by omega
  have b2 : S < 4294967296 := by have := s.isLt; omega
  have hSn : S.toNat = s.toNat := by omega
  have HSn := Lib.hid hSn
  clear hS hSn
  go_enter Try.func95, Try.ntmps95
  go_wp2_with fail
  refine (put_c S 4 _ (by omega) (by omega) b1 (by omega)).mono ?_
  rw [be4, HSn.out]
  rintro e w1 ⟨rfl, hb⟩
  have HB := Lib.hid hb; clear hb
  have hlow : lowS s = [UInt8.ofNat s.toNat, UInt8.ofNat (s.toNat / 256), UInt8.ofNat (s.toNat / 65536), UInt8.ofNat (s.toNat / 16777216)] := by
    unfold lowS; rw [be4]; rfl
  have HLow := Lib.hid hlow; clear hlow
  generalize UInt8.ofNat (s.toNat / 16777216) = c0 at *
  generalize UInt8.ofNat (s.toNat / 65536) = c1 at *
  generalize UInt8.ofNat (s.toNat / 256) = c2 at *
  generalize UInt8.ofNat s.toNat = c3 at *
  have hcv2 := fun w s => run_bytes_of_string (P := Try.prog) w 9 53 5 s Try.underlying9 Try.underlying53 Try.underlying5
  go_wp2_with fail
  obtain ⟨hrd, hfz, hex⟩ := bytes_world w1 5 [c0, c1, c2, c3] (grownCap w1 4 0 5)
  have HB2 := Lib.hid (HB.out.trans hex)
  clear hex hcv2
  generalize (w1.alloc (Obj.cells (bytesRow { data := #[c0, c1, c2, c3] } (grownCap w1 4 0 5)) 5 ((bytesRow { data := #[c0, c1, c2, c3] } (grownCap w1 4 0 5)).size, (bytesRow { data := #[c0, c1, c2, c3] } (grownCap w1 4 0 5)).size + 1))).drew = W at *
  have d0 : W.cell? ⟨w1.heap.size, 0, none⟩ = some (.int .u8 (c0.toNat : Int)) := by obtain ⟨_, _, e, h⟩ := hrd 0 _ rfl; cases e; exact h
  have d1 : W.cell? ⟨w1.heap.size, 1, none⟩ = some (.int .u8 (c1.toNat : Int)) := by obtain ⟨_, _, e, h⟩ := hrd 1 _ rfl; cases e; exact h
  have d2 : W.cell? ⟨w1.heap.size, 2, none⟩ = some (.int .u8 (c2.toNat : Int)) := by obtain ⟨_, _, e, h⟩ := hrd 2 _ rfl; cases e; exact h
  have d3 : W.cell? ⟨w1.heap.size, 3, none⟩ = some (.int .u8 (c3.toNat : Int)) := by obtain ⟨_, _, e, h⟩ := hrd 3 _ rfl; cases e; exact h
  have z0 := hfz 0 (by simp); have z1 := hfz 1 (by simp); have z2 := hfz 2 (by simp); have z3 := hfz 3 (by simp)
  have hg : Hid (w.heap.size ≤ w1.heap.size) := Lib.hid HB.out.size
  generalize w1.heap.size = g at *
  clear hrd hfz
  have hr4 := rd_set4 d0 d1 d2 d3 (byteV c3) (byteV c2) (byteV c1) (byteV c0)
  have hcv := run_tostr (P := Try.prog) _ 53 9 5 (n := 4) (l := [c3, c2, c1, c0]) (cap := grownCap w1 4 0 5) Try.underlying53 Try.underlying5 Try.underlying9 rfl hr4
  have HCV := Lib.hid hcv
  have HD : Hid (Below w.heap.size w ((((W.setCell ⟨g, 0, none⟩ (byteV c3)).setCell ⟨g, 1, none⟩ (byteV c2)).setCell ⟨g, 2, none⟩ (byteV c1)).setCell ⟨g, 3, none⟩ (byteV c0)).drew) :=
    Lib.hid (((((HB2.out.setCell (p := ⟨g, 0, none⟩) hg.out _).setCell (p := ⟨g, 1, none⟩) hg.out _).setCell (p := ⟨g, 2, none⟩) hg.out _).setCell (p := ⟨g, 3, none⟩) hg.out _).drew)
  clear hr4 hcv
  go_region
  have hcv := HCV.out
  clear d0 d1 d2 d3 z0 z1 z2 z3
  generalize ((((W.setCell ⟨g, 0, none⟩ (byteV c3)).setCell ⟨g, 1, none⟩ (byteV c2)).setCell ⟨g, 2, none⟩ (byteV c1)).setCell ⟨g, 3, none⟩ (byteV c0)).drew = W4 at *
  go_wp2_with fail
  go_ret
  exact ⟨by rw [HLow.out]; rfl, HD.out⟩

end Go.Proofs.Ytjllhjlmjbpinaa
namespace Go.Proofs.Ytjllhjlmjbpinaa
open Go.RowKit

/-- a text with its sum behind it -/
def sealS (l : List UInt8) : List UInt8 := l ++ lowS (crcSum l)
/-- a text whose sum stands behind it -/
def openB (l : List UInt8) : Bool := decide (4 ≤ l.length) && decide (sealS (l.take (l.length - 4)) = l)
def openT (l : List UInt8) : List UInt8 := if openB l then l.take (l.length - 4) else []

theorem lowS_length (s : BitVec 32) : (lowS s).length = 4 := by simp [lowS, be_length]
theorem sealS_length (l : List UInt8) : (sealS l).length = l.length + 4 := by simp [sealS, lowS_length]

theorem openB_eq (l : List UInt8) (h : 4 ≤ l.length) : openB l = decide (lowS (crcSum (l.take (l.length - 4))) = l.drop (l.length - 4)) := by
  unfold openB
  rw [decide_eq_true h, Bool.true_and]
  have e : l = l.take (l.length - 4) ++ l.drop (l.length - 4) := (List.take_append_drop _ _).symm
  have : (sealS (l.take (l.length - 4)) = l) ↔ (lowS (crcSum (l.take (l.length - 4))) = l.drop (l.length - 4)) := by
    unfold sealS
    constructor
    · intro h2
      have h3 : l.take (l.length - 4) ++ lowS (crcSum (l.take (l.length - 4))) = l.take (l.length - 4) ++ l.drop (l.length - 4) := by rw [h2]; exact e
      exact List.append_cancel_left h3
    · intro h2; rw [h2]; exact e.symm
  simp only [this]

theorem openB_short (l : List UInt8) (h : l.length < 4) : openB l = false := by
  unfold openB; rw [decide_eq_false (by omega)]; rfl

theorem seal_c (l : List UInt8) (w : World) (hl : l.length ≤ 4611686018427387903) :
    Calls Try.prog 90 #[.string ⟨l.toArray⟩] w fun e w' => e = .returned (.string ⟨(sealS l).toArray⟩) ∧ Ext w w' := by
  go_enter Try.func90, Try.ntmps90
  go_wp2_with fail
  refine (sum_c l _ (by omega)).mono ?_
  rintro e w1 ⟨rfl, hb⟩
  have HB := Lib.hid hb; clear hb
  go_wp2_with fail
  refine (low_c (crcSum l) _ _ rfl).mono ?_
  rintro e w2 ⟨rfl, hb⟩
  have HB2 := Lib.hid (HB.out.trans hb); clear hb
  have hlen := lowS_length (crcSum l)
  have HS : Hid (sealS l = l ++ lowS (crcSum l)) := Lib.hid rfl
  generalize lowS (crcSum l) = T at *
  go_wp2_with fail
  go_ret
  exact ⟨by rw [HS.out]; simp [ByteArray.mk_append_mk], HB2.out⟩

set_option maxRecDepth 100000 in
set_option maxHeartbeats 1600000 in
theorem open_c (l : List UInt8) (w : World) (hl : l.length ≤ 4611686018427387903) :
    Calls Try.prog 81 #[.string ⟨l.toArray⟩] w fun e w' => e = .returned (.tuple #[.string ⟨(openT l).toArray⟩, .bool (openB l)]) ∧ Ext w w' := by
  by_cases h4 : l.length < 4
  · have ho := openB_short l h4
    have HO := Lib.hid ho; clear ho
    have hd : decide ((l.length : Int) < 4) = true := by simp; omega
    go_enter Try.func81, Try.ntmps81
    go_wp2_with fail
    refine wp_region_ext (by kernel_rfl) (by kernel_rfl) ?_
    repeat (go_big_quiet_step (fail))
    refine wpQuiet_nil ?_
    intro w2 hw2
    have HW := Lib.hid hw2; clear hw2
    go_wp2_with fail
    go_ret2
    exact ⟨by rw [openT, HO.out]; rfl, HW.out⟩
  · have ho := openB_eq l (by omega)
    have HO := Lib.hid ho; clear ho
    have hd : decide ((l.length : Int) < 4) = false := by simp; omega
    have h4' : 4 ≤ l.length := by omega
    have htl : (l.take (l.length - 4)).length ≤ 9223372036854775807 := by simp; omega
    have HTL := Lib.hid htl; clear htl
    have HOT : Hid (openT l = if openB l then l.take (l.length - 4) else []) := Lib.hid rfl
    by_cases heq : lowS (crcSum (l.take (l.length - 4))) = l.drop (l.length - 4)
    · have hq : (lowS (crcSum (l.take (l.length - 4))) == l.drop (l.length - 4)) = true := by rw [beq_iff_eq]; exact heq
      have HEQ := Lib.hid heq; clear heq
      go_enter Try.func81, Try.ntmps81
      go_wp2_with fail
      refine wp_region_ext (by kernel_rfl) (by kernel_rfl) ?_
      repeat (go_big_quiet_step (first | (go_at_call 96; exact Calls.quiet_ext (sum_c _ _ HTL.out)) | (go_at_call 95; exact Calls.quiet_ext (low_c (crcSum _) _ _ rfl))))
      refine wpQuiet_nil ?_
      intro w2 hw2
      have HW := Lib.hid hw2; clear hw2
      go_wp2_with fail
      go_ret2
      exact ⟨by rw [HOT.out, HO.out, decide_eq_true HEQ.out]; rfl, HW.out⟩
    · have hq : (lowS (crcSum (l.take (l.length - 4))) == l.drop (l.length - 4)) = false := by rw [beq_eq_false_iff_ne]; exact heq
      have HEQ := Lib.hid heq; clear heq
      go_enter Try.func81, Try.ntmps81
      go_wp2_with fail
      refine wp_region_ext (by kernel_rfl) (by kernel_rfl) ?_
      repeat (go_big_quiet_step (first | (go_at_call 96; exact Calls.quiet_ext (sum_c _ _ HTL.out)) | (go_at_call 95; exact Calls.quiet_ext (low_c (crcSum _) _ _ rfl))))
      refine wpQuiet_nil ?_
      intro w2 hw2
      have HW := Lib.hid hw2; clear hw2
      go_wp2_with fail
      go_ret2
      exact ⟨by rw [HOT.out, HO.out, decide_eq_false HEQ.out]; rfl, HW.out⟩

end Go.Proofs.Ytjllhjlmjbpinaa
namespace Go.Proofs.Ytjllhjlmjbpinaa
open Go.RowKit

set_option maxRecDepth 100000 in
set_option maxHeartbeats 1600000 in
theorem into_c (s : BitVec 32) (c : UInt8) (S C : Int) (w : World) (hS : S = (s.toNat : Int)) (hC : C = (c.toNat : Int)) :
    Calls Try.prog 123 #[.int .u32 S, .int .u8 C] w fun e w' => e = .returned (.int .u32 ((crcStep s c).toNat : Int)) ∧ Ext w w' := by
  have HS := Lib.hid hS; have HC := Lib.hid hC
  have b3 : 0 ≤ C := by omega
  have b4 : C < 256 := by have := c.toNat_lt; omega
  clear hS hC
  go_enter Try.func123, Try.ntmps123
  go_wp2_with fail
  go_loopw [0, 5] (fun v i w' => ∃ (k : Nat) (V : Int), k ≤ 8 ∧ i = .int .i64 k ∧ v = .int .u32 V ∧ V = ((refIter s c k).toNat : Int) ∧ Ext w w') (fun _ i _ => 8 - (intOf i).toNat)
  case atStart => exact ⟨0, _, Nat.zero_le _, rfl, rfl, HS.out, Ext.refl _⟩
  case round =>
    obtain ⟨k, V, hk, rfl, rfl, hv, hb⟩ := hrel
    have HV := Lib.hid hv; have Hb := Lib.hid hb
    have v1 : 0 ≤ V := by omega
    have v2 : V < 4294967296 := by have := (refIter s c k).isLt; omega
    clear hv hb
    by_cases hlt : k < 8
    · go_wp2_with fail
      · have ht : ((V + C / 2 ^ k) % 2 == 1) = true := by assumption
        go_roundw
        case rel => exact ⟨k + 1, _, by omega, by go_num, rfl, ref_yes s c k V C HV.out HC.out ht, Hb.out⟩
        case measure => simp [intOf]; omega
      · have ht : ((V + C / 2 ^ k) % 2 == 1) = false := by assumption
        go_roundw
        case rel => exact ⟨k + 1, _, by omega, by go_num, rfl, ref_no s c k V C HV.out HC.out ht, Hb.out⟩
        case measure => simp [intOf]; omega
    · have hk8 : k = 8 := by omega
      have HK := Lib.hid hk8; clear hk8
      go_wp2_with fail
      go_ret
      exact ⟨rn (by rw [HV.out, HK.out, ref_step]), Hb.out⟩

set_option maxRecDepth 100000 in
set_option maxHeartbeats 1600000 in
theorem refmore_c (l : List UInt8) (w : World) (hl : l.length ≤ 9223372036854775807) :
    Calls Try.prog 115 #[.int .u32 0, .string ⟨l.toArray⟩] w fun e w' => e = .returned (.int .u32 ((crcSum l).toNat : Int)) ∧ Ext w w' := by
  go_enter Try.func115, Try.ntmps115
  go_wp2_with fail
  go_loopw [5, 6] (fun v i w' => ∃ (k : Nat) (V : Int), k ≤ l.length ∧ i = .int .i64 k ∧ v = .int .u32 V ∧ V = (((l.take k).foldl crcStep (~~~ 0#32)).toNat : Int) ∧ Ext w w') (fun _ i _ => l.length - (intOf i).toNat)
  case atStart => exact ⟨0, _, Nat.zero_le _, rfl, rfl, rfl, Ext.refl _⟩
  case round =>
    obtain ⟨k, V, hk, rfl, rfl, hv, hb⟩ := hrel
    have HV := Lib.hid hv; have Hb := Lib.hid hb
    have v1 : 0 ≤ V := by omega
    have v2 : V < 4294967296 := by have := ((l.take k).foldl crcStep (~~~ 0#32)).isLt; omega
    clear hv hb
    by_cases hlt : k < l.length
    · go_wp2_with fail
      refine (into_c _ l[k] _ _ _ HV.out rfl).mono ?_
      rintro e w1 ⟨rfl, hb1⟩
      have HB1 := Lib.hid (Hb.out.trans hb1); clear hb1
      have hf : (l.take (k + 1)).foldl crcStep (~~~ 0#32) = crcStep ((l.take k).foldl crcStep (~~~ 0#32)) l[k] := by
        rw [List.take_succ_eq_append_getElem hlt, List.foldl_append]; rfl
      have HF := Lib.hid hf; clear hf
      generalize crcStep ((l.take k).foldl crcStep (~~~ 0#32)) l[k] = T at *
      go_wp2_with fail
      go_roundw
      case rel => exact ⟨k + 1, _, by omega, by go_num, rfl, by rw [HF.out], HB1.out⟩
      case measure => simp [intOf]; omega
    · have hkl : l.take k = l := List.take_of_length_le (by omega)
      have HK := Lib.hid hkl; clear hkl
      go_wp2_with fail
      go_ret
      exact ⟨rn (by rw [HV.out, HK.out, sub_bv]; rfl), Hb.out⟩

theorem refsum_c (l : List UInt8) (w : World) (hl : l.length ≤ 9223372036854775807) :
    Calls Try.prog 100 #[.string ⟨l.toArray⟩] w fun e w' => e = .returned (.int .u32 ((crcSum l).toNat : Int)) ∧ Ext w w' := by
  go_enter Try.func100, Try.ntmps100
  go_wp2_with fail
  refine (refmore_c l _ hl).mono ?_
  rintro e w1 ⟨rfl, hb⟩
  have HB := Lib.hid hb; clear hb
  go_wp2_with fail
  go_ret
  exact ⟨rfl, HB.out⟩

theorem byte_of (x q : Nat) (_hq : 0 < q) : ((x : Int) / (q : Int)) % 256 = ((UInt8.ofNat (x / q)).toNat : Int) := by
  rw [UInt8.toNat_ofNat']; simp

set_option maxRecDepth 100000 in
set_option maxHeartbeats 1600000 in
theorem refseal_c (l : List UInt8) (w : World) (hl : l.length ≤ 4611686018427387903) :
    Calls Try.prog 86 #[.string ⟨l.toArray⟩] w fun e w' => e = .returned (.string ⟨(sealS l).toArray⟩) ∧ Ext w w' := by
  go_enter Try.func86, Try.ntmps86
  go_wp2_with fail
  refine (refsum_c l _ (by omega)).mono ?_
  rintro e w1 ⟨rfl, hb⟩
  have HB := Lib.hid hb; clear hb
  have hS : sealS l = l ++ [UInt8.ofNat (crcSum l).toNat, UInt8.ofNat ((crcSum l).toNat / 256), UInt8.ofNat ((crcSum l).toNat / 65536), UInt8.ofNat ((crcSum l).toNat / 16777216)] := by
    unfold sealS lowS; rw [be4]; rfl
  have e0 := byte_of (crcSum l).toNat 1 (by decide)
  have e1 := byte_of (crcSum l).toNat 256 (by decide)
  have e2 := byte_of (crcSum l).toNat 65536 (by decide)
  have e3 := byte_of (crcSum l).toNat 16777216 (by decide)
  have hlt : ((crcSum l).toNat : Int) < 4294967296 := by have := (crcSum l).isLt; omega
  have hge : 0 ≤ ((crcSum l).toNat : Int) := by omega
  rw [Nat.div_one] at e0
  have HS := Lib.hid hS; clear hS
  generalize UInt8.ofNat ((crcSum l).toNat / 16777216) = c3 at *
  generalize UInt8.ofNat ((crcSum l).toNat / 65536) = c2 at *
  generalize UInt8.ofNat ((crcSum l).toNat / 256) = c1 at *
  generalize UInt8.ofNat (crcSum l).toNat = c0 at *
  generalize ((crcSum l).toNat : Int) = X at *
  have hcv := run_tostr4 (P := Try.prog) w1 53 9 5 (X % 256) (X / 256 % 256) (X / 65536 % 256) (X / 16777216) c0 c1 c2 c3 Try.underlying53 Try.underlying5 Try.underlying9 (by rw [← e0]; simp) (by rw [← e1]; rfl) (by rw [← e2]; rfl) (by rw [← e3]; simp; omega)
  clear e0 e1 e2 e3
  go_wp2_with fail
  go_ret
  exact ⟨by rw [HS.out]; simp [ByteArray.mk_append_mk], HB.out.alloc _⟩

end Go.Proofs.Ytjllhjlmjbpinaa
namespace Go.Proofs.Ytjllhjlmjbpinaa
open Go.RowKit

set_option maxRecDepth 100000 in
set_option maxHeartbeats 1600000 in
theorem mtrim_c (ao : Option Addr) (n cap : Nat) (L : List (List Int)) (w : World) (hx : Grid w ao n cap L) :
    Calls Try.prog 88 #[.slice ao n cap] w fun e w' => e = .returned (.slice ao (trimN L n) cap) ∧ Ext w w' := by
  have Hx := Lib.hid hx
  have b1 := hx.fits; have b2 := hx.bound
  clear hx
  go_enter Try.func88, Try.ntmps88
  go_wp2_with fail
  go_loopw [0] (fun v w' => ∃ m : Nat, m ≤ n ∧ v = .slice ao m cap ∧ trimN L m = trimN L n ∧ Ext w w') (fun v _ => lenS v)
  case atStart => exact ⟨n, Nat.le_refl _, rfl, rfl, Ext.refl _⟩
  case round =>
    obtain ⟨m, hm, rfl, htn, hb⟩ := hrel
    have HTN := Lib.hid htn; clear htn
    have Hb := Lib.hid hb; clear hb
    cases m with
    | zero =>
      have ht : trimN L n = 0 := HTN.out.symm
      have HT := Lib.hid ht; clear ht
      go_wp2_with fail
      go_ret
      exact ⟨by rw [HT.out]; rfl, Hb.out⟩
    | succ m =>
      obtain ⟨b, off, ai, ni, ci, rfl, c1, r1⟩ := (Hx.out.ext Hb.out).at (show m < n by omega)
      have hR := r1.len
      have g1 := r1.fits; have g2 := r1.bound
      have HR := Lib.hid hR
      clear r1 hR
      by_cases h0 : ni = 0
      · have he : L.getD m [] = [] := List.eq_nil_of_length_eq_zero (by have := HR.out; omega)
        have HE := Lib.hid he; clear he
        subst h0
        go_wp2_with fail
        go_roundw
        case rel => exact ⟨m, by omega, rfl, by rw [← trimN_empty L m HE.out]; exact HTN.out, Hb.out⟩
        case measure => simp [lenS]
      · have hne : L.getD m [] ≠ [] := by intro h; have := HR.out; rw [h] at this; simp at this; omega
        have hz : ((ni : Int) == 0) = false := by simpa using h0
        have hT : trimN L n = m + 1 := by rw [← HTN.out]; exact trimN_stop L m hne
        have HNE := Lib.hid hne; clear hne h0
        have HT := Lib.hid hT; clear hT
        go_wp2_with fail
        go_ret
        exact ⟨by rw [HT.out]; rfl, Hb.out⟩

theorem Grid.cut {w : World} {ao : Option Addr} {n cap : Nat} {L : List (List Int)} (h : Grid w ao n cap L) {m : Nat} (hm : m ≤ n) : Grid w ao m cap (L.take m) := by
  have hl := h.len
  have hlm : (L.take m).length = m := by simp; omega
  refine ⟨hlm, Nat.le_trans hm h.fits, h.bound, h.nil, fun i hi => ?_⟩
  obtain ⟨b, off, ai, ci, x1, x2, x3⟩ := h.rd i (by omega)
  rw [List.getElem_take]
  exact ⟨b, off, ai, ci, x1, x2, x3⟩

theorem Grid.trim {w : World} {ao : Option Addr} {n cap : Nat} {L : List (List Int)} (h : Grid w ao n cap L) : Grid w ao (trimN L n) cap (trimL L) := by
  have e : trimL L = L.take (trimN L n) := by unfold trimL; rw [h.len]
  rw [e]
  exact h.cut (trimN_le L n)

/-- the bytes of a level, and of levels -/
def levBytes (l : List Int) : List UInt8 := be 1 l.length ++ (l.map fun x => be 4 x.toNat).flatten
def manHead (nx ck sd : Int) (k : Nat) : List UInt8 := [105, 109, 97, 112] ++ be 4 nx.toNat ++ be 4 ck.toNat ++ be 8 sd.toNat ++ be 1 k
def manBody (nx ck sd : Int) (L : List (List Int)) : List UInt8 := manHead nx ck sd (trimL L).length ++ ((trimL L).map levBytes).flatten

/-- the bytes, and the error's number -/
def mputS (nx ck sd : Int) (L : List (List Int)) : List UInt8 × Int := if mvalid nx ck L then (sealS (manBody nx ck sd L), 0) else ([], 2)

theorem flat4_length (l : List Int) : (l.map fun x => be 4 x.toNat).flatten.length = 4 * l.length := by
  induction l with
  | nil => rfl
  | cons x l ih => simp only [List.map_cons, List.flatten_cons, List.length_append, ih, be_length, List.length_cons]; omega

theorem levBytes_length (l : List Int) : (levBytes l).length = 1 + 4 * l.length := by
  unfold levBytes; rw [List.length_append, be_length, flat4_length]

theorem levs_length (T : List (List Int)) : (T.map levBytes).flatten.length = T.length + 4 * T.flatten.length := by
  induction T with
  | nil => rfl
  | cons x l ih => simp only [List.map_cons, List.flatten_cons, List.length_append, ih, levBytes_length, List.length_cons]; omega

theorem manHead_length (nx ck sd : Int) (k : Nat) : (manHead nx ck sd k).length = 21 := by simp [manHead, be_length]

theorem mvalid_parts {nx ck : Int} {L : List (List Int)} (h : mvalid nx ck L = true) : (0 ≤ nx ∧ nx ≤ 1000000 ∧ 0 ≤ ck ∧ ck ≤ 2147483647) ∧ validB L = true ∧ ∀ x ∈ L.flatten, x < nx := by
  unfold mvalid at h
  rw [Bool.and_eq_true, Bool.and_eq_true] at h
  exact ⟨of_decide_eq_true h.1.1, h.1.2, fun x hx => of_decide_eq_true (List.all_eq_true.1 h.2 x hx)⟩

theorem map_take_succ {α β : Type} (f : α → List β) (l : List α) (d : α) (k : Nat) (h : k < l.length) : ((l.take (k + 1)).map f).flatten = ((l.take k).map f).flatten ++ f (l.getD k d) := by
  rw [take_succ_getD l d k h]; simp

set_option maxRecDepth 100000 in
set_option maxHeartbeats 3200000 in
theorem mput_c (nx ck sd : Int) (ao : Option Addr) (n cap : Nat) (L : List (List Int)) (w : World) (hx : Grid w ao n cap L) (hsum : L.flatten.length ≤ 17592186044416) (hwf : ∀ x ∈ L.flatten, (Lit.int .i64 x).wf = true) (hs0 : 0 ≤ sd) (hs1 : sd < 18446744073709551616) :
    Calls Try.prog 63 #[.agg #[.int .i64 nx, .int .i64 ck, .int .u64 sd, .slice ao n cap]] w fun e w' => e = .returned (.tuple #[.string ⟨(mputS nx ck sd L).1.toArray⟩, .int .i64 (mputS nx ck sd L).2]) ∧ Ext w w' := by
  have Hx := Lib.hid hx
  have HLen := Lib.hid hx.len
  clear hx
  go_enter Try.func63, Try.ntmps63
  go_wp2_with fail
  refine (mvalid_c nx ck sd _ _ _ L _ (Hx.out.ext (ext_a1 _ _)) hsum hwf).mono ?_
  rintro e w1 ⟨rfl, hb⟩
  obtain ⟨d0, d1, d2, d3⟩ := box4 hb
  have HB := Lib.hid hb; clear hb hwf
  by_cases hv : mvalid nx ck L = false
  · have HV : Hid (mputS nx ck sd L = ([], 2)) := Lib.hid (by unfold mputS; rw [hv]; rfl)
    go_wp2_with fail
    go_ret2
    exact ⟨by rw [HV.out]; rfl, (ext_a1 _ _).trans HB.out⟩
  have hv' : mvalid nx ck L = true := by simpa using hv
  have HV : Hid (mputS nx ck sd L = (sealS (manBody nx ck sd L), 0)) := Lib.hid (by unfold mputS; rw [hv']; rfl)
  obtain ⟨⟨n1, n2, n3, n4⟩, hvb, hlt⟩ := mvalid_parts hv'
  obtain ⟨v1, v2, v3, _⟩ := (by unfold validB at hvb; exact of_decide_eq_true hvb : L.length ≤ 5 ∧ L.flatten.length ≤ 40 ∧ (∀ x ∈ L.flatten, 0 ≤ x) ∧ L.flatten.Nodup)
  have V2 := Lib.hid v2; have V3 := Lib.hid v3; have HLT := Lib.hid hlt
  have hn5 : n ≤ 5 := by have := HLen.out; omega
  clear hv hvb v1 v2 v3 hlt
  go_wp2_with fail
  refine (mtrim_c _ _ _ L _ ((Hx.out.ext (ext_a1 _ _)).ext HB.out)).mono ?_
  rintro e w2 ⟨rfl, hb⟩
  have HB2 := Lib.hid (HB.out.trans hb)
  obtain ⟨e0, e1, e2, e3⟩ := box4 HB2.out
  clear hb HB d0 d1 d2 d3
  have f0 := cell_of e0; have f1 := cell_of e1; have f2 := cell_of e2
  have hT : (trimL L).length = trimN L n := by rw [trimL_length, HLen.out]
  have htn : trimN L n ≤ n := trimN_le L n
  have hGT : Grid w2 ao (trimN L n) cap (trimL L) := ((Hx.out.ext (ext_a1 _ _)).ext HB2.out).trim
  have HGT := Lib.hid hGT
  have HTN := Lib.hid hT
  have HHead : Hid (manHead nx ck sd (trimN L n) = [105, 109, 97, 112] ++ be 4 nx.toNat ++ be 4 ck.toNat ++ be 8 sd.toNat ++ be 1 (trimN L n)) := Lib.hid rfl
  have hl4a := be_length 4 nx.toNat; have hl4b := be_length 4 ck.toNat; have hl8 := be_length 8 sd.toNat; have hl1 := be_length 1 (trimN L n)
  have tl5 : trimN L n ≤ 5 := by omega
  have HBody : Hid (manBody nx ck sd L = manHead nx ck sd (trimL L).length ++ ((trimL L).map levBytes).flatten) := Lib.hid rfl
  have hbt : cap ≤ 9223372036854775807 := hGT.bound
  have htc : trimN L n ≤ cap := hGT.fits
  have HTF : Hid ((trimL L).flatten.length ≤ 40) := Lib.hid (by rw [trimL_flatten]; exact V2.out)
  have HTR : Hid (∀ k, ∀ x ∈ (trimL L).getD k [], 0 ≤ x ∧ x ≤ 1000000) := Lib.hid (by
    intro k x hx
    rw [trimL_getD] at hx
    have hxm : x ∈ L.flatten := by
      rcases Nat.lt_or_ge k L.length with h | h
      · rw [List.getD_eq_getElem?_getD, List.getElem?_eq_getElem h] at hx
        exact List.mem_flatten.2 ⟨_, List.getElem_mem h, hx⟩
      · rw [getD_ge _ _ _ h] at hx; cases hx
    have := V3.out x hxm; have := HLT.out x hxm
    omega)
  clear hGT hT e0 e1 e2 e3
  generalize trimN L n = m at *
  generalize trimL L = T at *
  go_wp2_with fail
  refine wp_region_ext (by kernel_rfl) (by kernel_rfl) ?_
  repeat (go_big_quiet_step (first | exact Calls.quiet_ext (put_k _ _ 4 _ (by decide) (by omega) (by omega) (by omega) (by omega)) | exact Calls.quiet_ext (put_k _ _ 8 _ (by decide) (by omega) (by omega) (by omega) (by omega)) | exact Calls.quiet_ext (put_n _ _ 1 _ (by decide) (by omega) (by omega) (by omega))))
  refine wpQuiet_nil ?_
  intro w3 hw3
  have HB3 := Lib.hid (HB2.out.trans hw3)
  have HG3 := Lib.hid (HGT.out.ext hw3)
  have hst : (({ data := #[105, 109, 97, 112] } ++ { data := (be 4 nx.toNat).toArray } ++ { data := (be 4 ck.toNat).toArray } ++ { data := (be 8 sd.toNat).toArray } ++ { data := (be 1 m).toArray }) : ByteArray) = ⟨(manHead nx ck sd m ++ ((T.take 0).map levBytes).flatten).toArray⟩ := by
    rw [HHead.out]
    have e0 : ({ data := #[105, 109, 97, 112] } : ByteArray) = ⟨([105, 109, 97, 112] : List UInt8).toArray⟩ := rfl
    rw [e0, ByteArray.mk_append_mk, ByteArray.mk_append_mk, ByteArray.mk_append_mk, ByteArray.mk_append_mk]
    simp
  have HST := Lib.hid hst
  have hml := levs_length T
  have HML := Lib.hid hml
  have hfl : ∀ k, (manHead nx ck sd m ++ ((T.take k).map levBytes).flatten).length ≤ 300 := by
    intro k
    rw [List.length_append, manHead_length, levs_length]
    have h1 : (T.take k).length ≤ T.length := by simp; omega
    have h2 := flatten_take_le T k
    have h3 := HTF.out; have h4 := HTN.out
    omega
  have HFL := Lib.hid hfl
  clear hw3 hst hml hfl HB2 HGT HHead f0 f1 f2 hl4a hl4b hl8 hl1
  go_wp2_with fail
  go_loopw [5, 37] (fun s i w' => ∃ k : Nat, k ≤ m ∧ i = .int .i64 k ∧ s = .string ⟨(manHead nx ck sd m ++ ((T.take k).map levBytes).flatten).toArray⟩ ∧ Ext w3 w') (fun _ i _ => m - (intOf i).toNat)
  case atStart => exact ⟨0, Nat.zero_le _, rfl, by rw [HST.out], Ext.refl _⟩
  case round =>
    obtain ⟨k, hk, rfl, rfl, hb⟩ := hrel
    have Hb := Lib.hid hb
    clear hb
    by_cases hlt : k < m
    · obtain ⟨b, off, ai, ni, ci, rfl, c1, r1⟩ := (HG3.out.ext Hb.out).at hlt
      have hkT : k < T.length := by have := HTN.out; omega
      have hnext := map_take_succ levBytes T [] k hkT
      have hrows : ∀ x ∈ T.getD k [], 0 ≤ x ∧ x ≤ 1000000 := HTR.out k
      have hpl := HFL.out k
      have hrl : (T.getD k []).length ≤ 40 := by have := row_le_flatten T k; have := HTF.out; omega
      generalize T.getD k [] = R at *
      generalize hP : manHead nx ck sd m ++ ((T.take k).map levBytes).flatten = P at *
      have HNX : Hid (manHead nx ck sd m ++ ((T.take (k + 1)).map levBytes).flatten = P ++ levBytes R) := Lib.hid (by rw [hnext, ← List.append_assoc, hP])
      have R1 := Lib.hid r1
      have g1 := r1.fits; have g2 := r1.bound; have g3 := r1.len
      have hni : ni ≤ 40 := by omega
      have HR := Lib.hid hrows
      have G3 := Lib.hid g3
      clear r1 hnext hP hrows g3
      go_wp2_with fail
      have hc := put_c (ni : Int) 1 wr (by omega) (by omega) (by omega) (by omega)
      rw [Int.toNat_natCast] at hc
      refine hc.mono ?_
      clear hc
      rintro e w4 ⟨rfl, hb4⟩
      have HB4 := Lib.hid (Hb.out.trans hb4)
      have R1' := Lib.hid (R1.out.ext hb4)
      clear hb4
      have hs1 : (({ data := P.toArray } ++ { data := (be 1 ni).toArray }) : ByteArray) = ⟨(P ++ (be 1 ni ++ ((R.take 0).map fun x => be 4 x.toNat).flatten)).toArray⟩ := by
        rw [ByteArray.mk_append_mk]; simp
      have HS1 := Lib.hid hs1; clear hs1
      have hb1 := be_length 1 ni
      go_wp2_with fail
      go_loopw [5, 49] (fun s i w' => ∃ j : Nat, j ≤ ni ∧ i = .int .i64 j ∧ s = .string ⟨(P ++ (be 1 ni ++ ((R.take j).map fun x => be 4 x.toNat).flatten)).toArray⟩ ∧ Ext w4 w') (fun _ i _ => ni - (intOf i).toNat)
      case atStart => exact ⟨0, Nat.zero_le _, rfl, by rw [HS1.out], Ext.refl _⟩
      case round =>
        obtain ⟨j, hj, rfl, rfl, hb5⟩ := hrel
        have Hb5 := Lib.hid hb5
        clear hb5
        by_cases hjl : j < ni
        · obtain ⟨b', off', rfl, d1⟩ := (R1'.out.ext Hb5.out).at hjl
          have hjR : j < R.length := by have := G3.out; omega
          have hnx := map_take_succ (fun x : Int => be 4 x.toNat) R 0 j hjR
          have hx := HR.out _ (getD_mem R j hjR)
          have hql : (P ++ (be 1 ni ++ ((R.take j).map fun x => be 4 x.toNat).flatten)).length ≤ 500 := by
            rw [List.length_append, List.length_append, hb1, flat4_length]
            have := List.length_take_le j R; omega
          generalize R.getD j 0 = X at *
          have HQ : Hid (P ++ (be 1 ni ++ ((R.take (j + 1)).map fun x => be 4 x.toNat).flatten) = (P ++ (be 1 ni ++ ((R.take j).map fun x => be 4 x.toNat).flatten)) ++ be 4 X.toNat) := Lib.hid (by rw [hnx]; simp)
          generalize P ++ (be 1 ni ++ ((R.take j).map fun x => be 4 x.toNat).flatten) = Q at *
          obtain ⟨x1, x2⟩ := hx
          clear hnx
          go_wp2_with fail
          refine (put_c X 4 _ (by omega) (by omega) (by omega) (by omega)).mono ?_
          rintro e w5 ⟨rfl, hb6⟩
          have HB6 := Lib.hid (Hb5.out.trans hb6)
          have hb4 := be_length 4 X.toNat
          clear hb6
          go_wp2_with fail
          go_roundw
          case rel => exact ⟨j + 1, by omega, by go_num, by rw [HQ.out, ← ByteArray.mk_append_mk], HB6.out⟩
          case measure => simp [intOf]; omega
        · have hjn : R.take j = R := List.take_of_length_le (by have := G3.out; omega)
          have HJN := Lib.hid hjn; clear hjn
          go_wp2_with fail
          go_roundw
          case rel => exact ⟨k + 1, by omega, by go_num, by rw [HNX.out, HJN.out]; unfold levBytes; rw [G3.out], HB4.out.trans Hb5.out⟩
          case measure => simp [intOf]; omega
    · have hkm : k = m := by omega
      have hTk : T.take k = T := List.take_of_length_le (by have := HTN.out; omega)
      have hbody : manHead nx ck sd m ++ ((T.take k).map levBytes).flatten = manBody nx ck sd L := by rw [HBody.out, HTN.out, hTk]
      rw [hbody]
      have hbl : (manBody nx ck sd L).length ≤ 300 := by have := HFL.out k; rwa [hbody] at this
      clear hbody hkm hTk
      go_wp2_with fail
      refine (seal_c _ _ (by omega)).mono ?_
      rintro e w6 ⟨rfl, hb6⟩
      have HB6 := Lib.hid (Hb.out.trans hb6); clear hb6
      go_wp2_with fail
      go_ret2
      exact ⟨by rw [HV.out]; rfl, (ext_a1 _ _).trans (HB3.out.trans HB6.out)⟩

end Go.Proofs.Ytjllhjlmjbpinaa
namespace Go.Proofs.Ytjllhjlmjbpinaa
open Go.RowKit

set_option maxRecDepth 100000 in
set_option maxHeartbeats 3200000 in
theorem refmput_c (nx ck sd : Int) (ao : Option Addr) (n cap : Nat) (L : List (List Int)) (w : World) (hx : Grid w ao n cap L) (hsum : L.flatten.length ≤ 17592186044416) (hs0 : 0 ≤ sd) (hs1 : sd < 18446744073709551616) :
    Calls Try.prog 60 #[.agg #[.int .i64 nx, .int .i64 ck, .int .u64 sd, .slice ao n cap]] w fun e w' => e = .returned (.tuple #[.string ⟨(mputS nx ck sd L).1.toArray⟩, .int .i64 (mputS nx ck sd L).2]) ∧ Ext w w' := by
  have Hx := Lib.hid hx
  have HLen := Lib.hid hx.len
  clear hx
  go_enter Try.func60, Try.ntmps60
  go_wp2_with fail
  refine (refmvalid_c nx ck sd _ _ _ L _ (Hx.out.ext (ext_a1 _ _)) hsum).mono ?_
  rintro e w1 ⟨rfl, hb⟩
  obtain ⟨d0, d1, d2, d3⟩ := box4 hb
  have HB := Lib.hid hb; clear hb
  by_cases hv : mvalid nx ck L = false
  · have HV : Hid (mputS nx ck sd L = ([], 2)) := Lib.hid (by unfold mputS; rw [hv]; rfl)
    go_wp2_with fail
    go_ret2
    exact ⟨by rw [HV.out]; rfl, (ext_a1 _ _).trans HB.out⟩
  have hv' : mvalid nx ck L = true := by simpa using hv
  have HV : Hid (mputS nx ck sd L = (sealS (manBody nx ck sd L), 0)) := Lib.hid (by unfold mputS; rw [hv']; rfl)
  obtain ⟨⟨n1, n2, n3, n4⟩, hvb, hlt⟩ := mvalid_parts hv'
  obtain ⟨v1, v2, v3, _⟩ := (by unfold validB at hvb; exact of_decide_eq_true hvb : L.length ≤ 5 ∧ L.flatten.length ≤ 40 ∧ (∀ x ∈ L.flatten, 0 ≤ x) ∧ L.flatten.Nodup)
  have V2 := Lib.hid v2; have V3 := Lib.hid v3; have HLT := Lib.hid hlt
  have hn5 : n ≤ 5 := by have := HLen.out; omega
  clear hv hvb v1 v2 v3 hlt
  go_wp2_with fail
  refine (reftrim_c _ _ _ L _ ((Hx.out.ext (ext_a1 _ _)).ext HB.out)).mono ?_
  rintro e w2 ⟨rfl, hb⟩
  have HB2 := Lib.hid (HB.out.trans hb)
  obtain ⟨e0, e1, e2, e3⟩ := box4 HB2.out
  clear hb HB d0 d1 d2 d3
  have f0 := cell_of e0; have f1 := cell_of e1; have f2 := cell_of e2
  have hT : (trimL L).length = trimN L n := by rw [trimL_length, HLen.out]
  have htn : trimN L n ≤ n := trimN_le L n
  have hGT : Grid w2 ao (trimN L n) cap (trimL L) := ((Hx.out.ext (ext_a1 _ _)).ext HB2.out).trim
  have HGT := Lib.hid hGT
  have HTN := Lib.hid hT
  have HHead : Hid (manHead nx ck sd (trimN L n) = [105, 109, 97, 112] ++ be 4 nx.toNat ++ be 4 ck.toNat ++ be 8 sd.toNat ++ be 1 (trimN L n)) := Lib.hid rfl
  have hl4a := be_length 4 nx.toNat; have hl4b := be_length 4 ck.toNat; have hl8 := be_length 8 sd.toNat; have hl1 := be_length 1 (trimN L n)
  have tl5 : trimN L n ≤ 5 := by omega
  have HBody : Hid (manBody nx ck sd L = manHead nx ck sd (trimL L).length ++ ((trimL L).map levBytes).flatten) := Lib.hid rfl
  have hbt : cap ≤ 9223372036854775807 := hGT.bound
  have htc : trimN L n ≤ cap := hGT.fits
  have HTF : Hid ((trimL L).flatten.length ≤ 40) := Lib.hid (by rw [trimL_flatten]; exact V2.out)
  have HTR : Hid (∀ k, ∀ x ∈ (trimL L).getD k [], 0 ≤ x ∧ x ≤ 1000000) := Lib.hid (by
    intro k x hx
    rw [trimL_getD] at hx
    have hxm : x ∈ L.flatten := by
      rcases Nat.lt_or_ge k L.length with h | h
      · rw [List.getD_eq_getElem?_getD, List.getElem?_eq_getElem h] at hx
        exact List.mem_flatten.2 ⟨_, List.getElem_mem h, hx⟩
      · rw [getD_ge _ _ _ h] at hx; cases hx
    have := V3.out x hxm; have := HLT.out x hxm
    omega)
  clear hGT hT e0 e1 e2 e3
  generalize trimN L n = m at *
  generalize trimL L = T at *
  go_wp2_with fail
  refine wp_region_ext (by kernel_rfl) (by kernel_rfl) ?_
  repeat (go_big_quiet_step (first | exact Calls.quiet_ext (refput_k _ _ 4 _ (by decide) (by omega) (by omega) (by omega) (by omega)) | exact Calls.quiet_ext (refput_k _ _ 8 _ (by decide) (by omega) (by omega) (by omega) (by omega)) | exact Calls.quiet_ext (refput_n _ _ 1 _ (by decide) (by omega) (by omega) (by omega))))
  refine wpQuiet_nil ?_
  intro w3 hw3
  have HB3 := Lib.hid (HB2.out.trans hw3)
  have HG3 := Lib.hid (HGT.out.ext hw3)
  have hst : (({ data := #[105, 109, 97, 112] } ++ { data := (be 4 nx.toNat).toArray } ++ { data := (be 4 ck.toNat).toArray } ++ { data := (be 8 sd.toNat).toArray } ++ { data := (be 1 m).toArray }) : ByteArray) = ⟨(manHead nx ck sd m ++ ((T.take 0).map levBytes).flatten).toArray⟩ := by
    rw [HHead.out]
    have e0 : ({ data := #[105, 109, 97, 112] } : ByteArray) = ⟨([105, 109, 97, 112] : List UInt8).toArray⟩ := rfl
    rw [e0, ByteArray.mk_append_mk, ByteArray.mk_append_mk, ByteArray.mk_append_mk, ByteArray.mk_append_mk]
    simp
  have HST := Lib.hid hst
  have hml := levs_length T
  have HML := Lib.hid hml
  have hfl : ∀ k, (manHead nx ck sd m ++ ((T.take k).map levBytes).flatten).length ≤ 300 := by
    intro k
    rw [List.length_append, manHead_length, levs_length]
    have h1 : (T.take k).length ≤ T.length := by simp; omega
    have h2 := flatten_take_le T k
    have h3 := HTF.out; have h4 := HTN.out
    omega
  have HFL := Lib.hid hfl
  clear hw3 hst hml hfl HB2 HGT HHead f0 f1 f2 hl4a hl4b hl8 hl1
  go_wp2_with fail
  go_loopw [5, 6] (fun s i w' => ∃ k : Nat, k ≤ m ∧ i = .int .i64 k ∧ s = .string ⟨(manHead nx ck sd m ++ ((T.take k).map levBytes).flatten).toArray⟩ ∧ Ext w3 w') (fun _ i _ => m - (intOf i).toNat)
  case atStart => exact ⟨0, Nat.zero_le _, rfl, by rw [HST.out], Ext.refl _⟩
  case round =>
    obtain ⟨k, hk, rfl, rfl, hb⟩ := hrel
    have Hb := Lib.hid hb
    clear hb
    by_cases hlt : k < m
    · obtain ⟨b, off, ai, ni, ci, rfl, c1, r1⟩ := (HG3.out.ext Hb.out).at hlt
      have hkT : k < T.length := by have := HTN.out; omega
      have hnext := map_take_succ levBytes T [] k hkT
      have hrows : ∀ x ∈ T.getD k [], 0 ≤ x ∧ x ≤ 1000000 := HTR.out k
      have hpl := HFL.out k
      have hrl : (T.getD k []).length ≤ 40 := by have := row_le_flatten T k; have := HTF.out; omega
      generalize T.getD k [] = R at *
      generalize hP : manHead nx ck sd m ++ ((T.take k).map levBytes).flatten = P at *
      have HNX : Hid (manHead nx ck sd m ++ ((T.take (k + 1)).map levBytes).flatten = P ++ levBytes R) := Lib.hid (by rw [hnext, ← List.append_assoc, hP])
      have R1 := Lib.hid r1
      have g1 := r1.fits; have g2 := r1.bound; have g3 := r1.len
      have hni : ni ≤ 40 := by omega
      have HR := Lib.hid hrows
      have G3 := Lib.hid g3
      have C1 := Lib.hid c1
      clear r1 hnext hP hrows g3
      go_wp2_with fail
      have hc := refput_c (ni : Int) 1 wr (by omega) (by omega) (by omega) (by omega)
      rw [Int.toNat_natCast] at hc
      refine hc.mono ?_
      clear hc
      rintro e w4 ⟨rfl, hb4⟩
      have HB4 := Lib.hid (Hb.out.trans hb4)
      have C4 := Lib.hid (cell_ext hb4 C1.out)
      have R1' := Lib.hid (R1.out.ext hb4)
      clear hb4
      have hs1 : (({ data := P.toArray } ++ { data := (be 1 ni).toArray }) : ByteArray) = ⟨(P ++ (be 1 ni ++ ((R.take 0).map fun x => be 4 x.toNat).flatten)).toArray⟩ := by
        rw [ByteArray.mk_append_mk]; simp
      have HS1 := Lib.hid hs1; clear hs1
      have hb1 := be_length 1 ni
      go_wp2_with fail
      go_loopw [5, 7] (fun s i w' => ∃ j : Nat, j ≤ ni ∧ i = .int .i64 j ∧ s = .string ⟨(P ++ (be 1 ni ++ ((R.take j).map fun x => be 4 x.toNat).flatten)).toArray⟩ ∧ Ext w4 w') (fun _ i _ => ni - (intOf i).toNat)
      case atStart => exact ⟨0, Nat.zero_le _, rfl, by rw [HS1.out], Ext.refl _⟩
      case round =>
        obtain ⟨j, hj, rfl, rfl, hb5⟩ := hrel
        have Hb5 := Lib.hid hb5
        have c5 := cell_ext hb5 C4.out
        clear hb5
        by_cases hjl : j < ni
        · obtain ⟨b', off', rfl, d1⟩ := (R1'.out.ext Hb5.out).at hjl
          have hjR : j < R.length := by have := G3.out; omega
          have hnx := map_take_succ (fun x : Int => be 4 x.toNat) R 0 j hjR
          have hx := HR.out _ (getD_mem R j hjR)
          have hql : (P ++ (be 1 ni ++ ((R.take j).map fun x => be 4 x.toNat).flatten)).length ≤ 500 := by
            rw [List.length_append, List.length_append, hb1, flat4_length]
            have := List.length_take_le j R; omega
          generalize R.getD j 0 = X at *
          have HQ : Hid (P ++ (be 1 ni ++ ((R.take (j + 1)).map fun x => be 4 x.toNat).flatten) = (P ++ (be 1 ni ++ ((R.take j).map fun x => be 4 x.toNat).flatten)) ++ be 4 X.toNat) := Lib.hid (by rw [hnx]; simp)
          generalize P ++ (be 1 ni ++ ((R.take j).map fun x => be 4 x.toNat).flatten) = Q at *
          obtain ⟨x1, x2⟩ := hx
          clear hnx
          go_wp2_with fail
          refine (refput_c X 4 _ (by omega) (by omega) (by omega) (by omega)).mono ?_
          rintro e w5 ⟨rfl, hb6⟩
          have HB6 := Lib.hid (Hb5.out.trans hb6)
          have hb4 := be_length 4 X.toNat
          clear hb6
          go_wp2_with fail
          go_roundw
          case rel => exact ⟨j + 1, by omega, by go_num, by rw [HQ.out, ← ByteArray.mk_append_mk], HB6.out⟩
          case measure => simp [intOf]; omega
        · have hjn : R.take j = R := List.take_of_length_le (by have := G3.out; omega)
          have HJN := Lib.hid hjn; clear hjn
          go_wp2_with fail
          go_roundw
          case rel => exact ⟨k + 1, by omega, by go_num, by rw [HNX.out, HJN.out]; unfold levBytes; rw [G3.out], HB4.out.trans Hb5.out⟩
          case measure => simp [intOf]; omega
    · have hkm : k = m := by omega
      have hTk : T.take k = T := List.take_of_length_le (by have := HTN.out; omega)
      have hbody : manHead nx ck sd m ++ ((T.take k).map levBytes).flatten = manBody nx ck sd L := by rw [HBody.out, HTN.out, hTk]
      rw [hbody]
      have hbl : (manBody nx ck sd L).length ≤ 300 := by have := HFL.out k; rwa [hbody] at this
      clear hbody hkm hTk
      go_wp2_with fail
      refine (refseal_c _ _ (by omega)).mono ?_
      rintro e w6 ⟨rfl, hb6⟩
      have HB6 := Lib.hid (Hb.out.trans hb6); clear hb6
      go_wp2_with fail
      go_ret2
      exact ⟨by rw [HV.out]; rfl, (ext_a1 _ _).trans (HB3.out.trans HB6.out)⟩

end Go.Proofs.Ytjllhjlmjbpinaa
