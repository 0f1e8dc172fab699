/- Walks: texts with their sums. -/
import Derived.Test.YtoibjhoebjcfeaaChecked
import Derived.Test.YtoibjhoebjcfeaaCA
namespace Go.Proofs.Ytoibjhoebjcfeaa
open Go.RowKit

/-- a text with its sum behind it -/
def sealS (l : List UInt8) : List UInt8 := l ++ lowS (crcSum l)
/-- a text whose sum stands behind it -/
def openB (l : List UInt8) : Bool := decide (4 ≤ l.length) && decide (sealS (l.take (l.length - 4)) = l)
def openT (l : List UInt8) : List UInt8 := if openB l then l.take (l.length - 4) else []

theorem lowS_length (s : BitVec 32) : (lowS s).length = 4 := by simp [lowS, be_length]
theorem sealS_length (l : List UInt8) : (sealS l).length = l.length + 4 := by simp [sealS, lowS_length]

theorem openB_eq (l : List UInt8) (h : 4 ≤ l.length) : openB l = decide (lowS (crcSum (l.take (l.length - 4))) = l.drop (l.length - 4)) := by
  unfold openB
  rw [decide_eq_true h, Bool.true_and]
  have e : l = l.take (l.length - 4) ++ l.drop (l.length - 4) := (List.take_append_drop _ _).symm
  have : (sealS (l.take (l.length - 4)) = l) ↔ (lowS (crcSum (l.take (l.length - 4))) = l.drop (l.length - 4)) := by
    unfold sealS
    constructor
    · intro h2
      have h3 : l.take (l.length - 4) ++ lowS (crcSum (l.take (l.length - 4))) = l.take (l.length - 4) ++ l.drop (l.length - 4) := by rw [h2]; exact e
      exact List.append_cancel_left h3
    · intro h2; rw [h2]; exact e.symm
  simp only [this]

theorem openB_short (l : List UInt8) (h : l.length < 4) : openB l = false := by
  unfold openB; rw [decide_eq_false (by omega)]; rfl

theorem seal_c (l : List UInt8) (w : World) (hl : l.length ≤ 4611686018427387903) :
    Calls Try.prog 101 #[.string ⟨l.toArray⟩] w fun e w' => e = .returned (.string ⟨(sealS l).toArray⟩) ∧ Ext w w' := by
  go_enter Try.func101, Try.ntmps101
  go_wp2_with fail
  refine (sum_c l _ (by omega)).mono ?_
  rintro e w1 ⟨rfl, hb⟩
  have HB := Lib.hid hb; clear hb
  go_wp2_with fail
  refine (low_c (crcSum l) _ _ rfl).mono ?_
  rintro e w2 ⟨rfl, hb⟩
  have HB2 := Lib.hid (HB.out.trans hb); clear hb
  have hlen := lowS_length (crcSum l)
  have HS : Hid (sealS l = l ++ lowS (crcSum l)) := Lib.hid rfl
  generalize lowS (crcSum l) = T at *
  go_wp2_with fail
  go_ret
  exact ⟨by rw [HS.out]; simp [ByteArray.mk_append_mk], HB2.out⟩

set_option maxRecDepth 100000 in
set_option maxHeartbeats 1600000 in
theorem open_c (l : List UInt8) (w : World) (hl : l.length ≤ 4611686018427387903) :
    Calls Try.prog 80 #[.string ⟨l.toArray⟩] w fun e w' => e = .returned (.tuple #[.string ⟨(openT l).toArray⟩, .bool (openB l)]) ∧ Ext w w' := by
  by_cases h4 : l.length < 4
  · have ho := openB_short l h4
    have HO := Lib.hid ho; clear ho
    have hd : decide ((l.length : Int) < 4) = true := by simp; omega
    go_enter Try.func80, Try.ntmps80
    go_wp2_with fail
    refine wp_region_ext (by kernel_rfl) (by kernel_rfl) ?_
    repeat (go_big_quiet_step (fail))
    refine wpQuiet_nil ?_
    intro w2 hw2
    have HW := Lib.hid hw2; clear hw2
    go_wp2_with fail
    go_ret2
    exact ⟨by rw [openT, HO.out]; rfl, HW.out⟩
  · have ho := openB_eq l (by omega)
    have HO := Lib.hid ho; clear ho
    have hd : decide ((l.length : Int) < 4) = false := by simp; omega
    have h4' : 4 ≤ l.length := by omega
    have htl : (l.take (l.length - 4)).length ≤ 9223372036854775807 := by simp; omega
    have HTL := Lib.hid htl; clear htl
    have HOT : Hid (openT l = if openB l then l.take (l.length - 4) else []) := Lib.hid rfl
    by_cases heq : lowS (crcSum (l.take (l.length - 4))) = l.drop (l.length - 4)
    · have hq : (lowS (crcSum (l.take (l.length - 4))) == l.drop (l.length - 4)) = true := by rw [beq_iff_eq]; exact heq
      have HEQ := Lib.hid heq; clear heq
      go_enter Try.func80, Try.ntmps80
      go_wp2_with fail
      refine wp_region_ext (by kernel_rfl) (by kernel_rfl) ?_
      repeat (go_big_quiet_step (first | (go_at_call 103; exact Calls.quiet_ext (sum_c _ _ HTL.out)) | (go_at_call 102; exact Calls.quiet_ext (low_c (crcSum _) _ _ rfl))))
      refine wpQuiet_nil ?_
      intro w2 hw2
      have HW := Lib.hid hw2; clear hw2
      go_wp2_with fail
      go_ret2
      exact ⟨by rw [HOT.out, HO.out, decide_eq_true HEQ.out]; rfl, HW.out⟩
    · have hq : (lowS (crcSum (l.take (l.length - 4))) == l.drop (l.length - 4)) = false := by rw [beq_eq_false_iff_ne]; exact heq
      have HEQ := Lib.hid heq; clear heq
      go_enter Try.func80, Try.ntmps80
      go_wp2_with fail
      refine wp_region_ext (by kernel_rfl) (by kernel_rfl) ?_
      repeat (go_big_quiet_step (first | (go_at_call 103; exact Calls.quiet_ext (sum_c _ _ HTL.out)) | (go_at_call 102; exact Calls.quiet_ext (low_c (crcSum _) _ _ rfl))))
      refine wpQuiet_nil ?_
      intro w2 hw2
      have HW := Lib.hid hw2; clear hw2
      go_wp2_with fail
      go_ret2
      exact ⟨by rw [HOT.out, HO.out, decide_eq_false HEQ.out]; rfl, HW.out⟩

end Go.Proofs.Ytoibjhoebjcfeaa
