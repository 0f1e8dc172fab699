/- Walks: the law DiskCrash. -/
import Derived.Test.YtoibjhoebjcfeaaZW
namespace Go.Proofs.Ytoibjhoebjcfeaa
open Go.RowKit

/-- a disk of one file -/
def one (f : FM) (c r s : Int) (dn : Bool) : DM := ⟨c, [f], r, s, dn, false, 0, []⟩

theorem find_one {f : FM} {nm : List UInt8} (h : f.nm = nm) : findN FM.nm nm [f] = some f := by simp [findN, h]
theorem upd_one {f : FM} {nm : List UInt8} (h : f.nm = nm) (k : FM → FM) : updN FM.nm nm k [f] = [k f] := by simp [updN, h]
theorem used_one (f : FM) : usedM [f] = f.da.length := by simp [usedM, sumN]

theorem one_append {f : FM} {nm : List UInt8} (h : f.nm = nm) {c r s : Int} {t : List UInt8} (hc : (f.da.length : Int) + t.length ≤ c) : appendM (one f c r s false) nm t = (0, one { f with da := f.da ++ t } c r s false) := by
  unfold appendM one
  simp only [find_one h, used_one, Bool.false_eq_true, if_false, Option.isNone_some, failsM, Bool.false_and]
  rw [if_neg (by omega)]
  simp [tickM, appM, upd_one h]
  decide
theorem one_append_down (f : FM) (c r s : Int) (nm t : List UInt8) : appendM (one f c r s true) nm t = (61, one f c r s true) := rfl
theorem one_sync {f : FM} {nm : List UInt8} (h : f.nm = nm) (c r s : Int) : syncM (one f c r s false) nm = (0, one { f with sy := f.da.length } c r s false) := by
  unfold syncM one
  simp [find_one h, failsM, tickM, upd_one h]
  decide
theorem one_crash (f : FM) (c r s k : Int) : crashD (one f c r s false) [k] = (0, one (crashF f k) c r s true) := rfl
theorem one_crash_down (f : FM) (c r s : Int) : crashD (one f c r s true) [] = (61, one f c r s true) := rfl
theorem one_start (f : FM) (c r s : Int) : startM (one f c r s true) = (0, one f c r (wrap64 (s + 1)) false) := rfl
theorem one_read {f : FM} {nm : List UInt8} (h : f.nm = nm) (c r s : Int) {n : Int} (hn : n = (f.da.length : Int)) : readM (one f c r s false) nm 0 n = (f.da, 0, one f c (wrap64 (r + 1)) s false) := by
  unfold readM one
  simp only [find_one h, Bool.false_eq_true, if_false]
  rw [if_pos (by omega)]
  subst hn
  simp [tellM]
theorem one_size {f : FM} {nm : List UInt8} (h : f.nm = nm) (c r s : Int) : sizeM (one f c r s false) nm = ((f.da.length : Int), 0) := by
  unfold sizeM one
  simp [find_one h]
theorem lit_ints (w : World) (k : Int) : Ints (w.alloc (.cells #[.int .i64 k] 3)) (some ⟨w.heap.size, 0, none⟩) 1 1 [k] := ⟨rfl, Nat.le_refl _, by omega, (fun h => by cases h), Rd.lit w #[.int .i64 k] 3⟩
theorem KD.loose' {w0 w : World} {g : Nat} {σ : DM} (h : KD w0 w g σ) {xs : List Int} (hm : looseM σ = xs) : Calls Try.prog 15 #[.pointer (some ⟨g, 0, none⟩)] w (RetI 3 w xs) := hm ▸ h.loose
theorem one_loose (f : FM) (c r s : Int) (d : Bool) : looseM (one f c r s d) = [(f.da.length : Int) - (f.sy : Int)] := rfl

set_option maxRecDepth 100000
set_option linter.unusedVariables false
set_option maxHeartbeats 3200000

theorem crashlaw_c (S Lo : List UInt8) (kp : Int) (w : World) (hS : S.length ≤ 9223372036854775807) (hLo : Lo.length ≤ 9223372036854775807) :
    Calls Try.prog 3 #[.string ⟨S.toArray⟩, .string ⟨Lo.toArray⟩, .int .i64 kp] w fun e w' => e = .returned (.bool true) ∧ Ext w w' := by
  by_cases hg : 2000 < (S.length : Int) ∨ 2000 < (Lo.length : Int)
  · by_cases h1 : 2000 < (S.length : Int)
    · clear hg
      go_enter Try.func3, Try.ntmps3
      go_wp2_with fail
      refine (sinks_c _).mono ?_
      rintro e w' ⟨rfl, hx⟩
      have HX := Lib.hid hx
      clear hx
      go_wp2_with fail
      go_ret
      exact ⟨rfl, HX.out⟩
    · have h2 : 2000 < (Lo.length : Int) := by omega
      clear hg
      go_enter Try.func3, Try.ntmps3
      go_wp2_with fail
      refine (sinks_c _).mono ?_
      rintro e w' ⟨rfl, hx⟩
      have HX := Lib.hid hx
      clear hx
      go_wp2_with fail
      go_ret
      exact ⟨rfl, HX.out⟩
  have h1 : (S.length : Int) ≤ 2000 := by omega
  have h2 : (Lo.length : Int) ≤ 2000 := by omega
  clear hg hS hLo
  obtain ⟨kk, hkk⟩ : ∃ kk : Nat, min (max kp 0) (Lo.length : Int) = (kk : Int) := ⟨(min (max kp 0) (Lo.length : Int)).toNat, by omega⟩
  have hkl : kk ≤ Lo.length := by omega
  have HK0 := Lib.hid hkk
  obtain ⟨W, hW⟩ : ∃ W, S ++ Lo.take kk = W := ⟨_, rfl⟩
  have HW := Lib.hid hW
  have hWl : W.length ≤ 4000 := by rw [← hW, List.length_append, List.length_take]; omega
  have HC0 : Hid (crashF ⟨[102], S ++ Lo, S.length⟩ kp = ⟨[102], W, W.length⟩) := Lib.hid (by
    have hd : (S ++ Lo).length - S.length = Lo.length := by rw [List.length_append]; omega
    have hm : min (max kp 0).toNat Lo.length = kk := by omega
    have e1 : (S ++ Lo).take (S.length + kk) = W := by rw [← hW, List.take_length_add_append]
    have e2 : W.length = S.length + kk := by rw [← hW, List.length_append, List.length_take]; omega
    show FM.mk [102] ((S ++ Lo).take (S.length + min (max kp 0).toNat ((S ++ Lo).length - S.length))) (S.length + min (max kp 0).toNat ((S ++ Lo).length - S.length)) = _
    rw [hd, hm, e1, e2])
  have HC1 : Hid (crashF ⟨[102], W, W.length⟩ kp = ⟨[102], W, W.length⟩) := Lib.hid (by
    show FM.mk [102] (W.take (W.length + min (max kp 0).toNat (W.length - W.length))) (W.length + min (max kp 0).toNat (W.length - W.length)) = _
    simp)
  clear hW
  go_enter Try.func3, Try.ntmps3
  go_wp2_with fail
  refine (KD.new w 5000 (by decide) (by decide) (Ext.refl _)).mono ?_
  rintro e w' ⟨g, rfl, hk⟩
  have HK := Lib.hid hk
  clear hk
  go_wp2_with fail
  refine (KD.create HK.out [102] (by decide) (c := 0) (σ' := one ⟨[102], [], 0⟩ 5000 0 0 false) (by kernel_rfl)).mono ?_
  rintro e w' ⟨rfl, hk⟩
  have HK := Lib.hid hk
  clear hk
  go_wp2_with fail
  refine (KD.append HK.out [102] S (by decide) (by omega) (one_append rfl (by show ((0 : Nat) : Int) + _ ≤ _; omega))).mono ?_
  rintro e w' ⟨rfl, hk⟩
  have HK := Lib.hid hk
  clear hk
  go_wp2_with fail
  refine (KD.sync HK.out [102] (by decide) (one_sync rfl _ _ _)).mono ?_
  rintro e w' ⟨rfl, hk⟩
  have HK := Lib.hid hk
  clear hk
  go_wp2_with fail
  refine (KD.append HK.out [102] Lo (by decide) (by omega) (one_append rfl (by show (([] ++ S).length : Int) + _ ≤ _; rw [List.nil_append]; omega))).mono ?_
  rintro e w1 ⟨rfl, hk⟩
  have HK : Hid (KD w w1 g (one ⟨[102], S ++ Lo, S.length⟩ 5000 0 0 false)) := Lib.hid hk
  clear hk
  go_wp2_with fail
  refine (KD.loose' HK.out (xs := [(Lo.length : Int)]) (by rw [one_loose]; show [((S ++ Lo).length : Int) - (S.length : Int)] = _; rw [List.length_append]; congr 1; omega)).mono ?_
  intro e w2 hr
  obtain ⟨a, c, rfl, hi, hx⟩ := hr.out
  have HI := Lib.hid (hi.ext (ext_a1 w2 (.cells #[.int .i64 (Lo.length : Int)] 3)))
  have HK := Lib.hid (HK.out.ext (hx.trans (ext_a1 w2 (.cells #[.int .i64 (Lo.length : Int)] 3))))
  clear hr hi hx
  go_wp2_with fail
  refine (eqInts_c HI.out (lit_ints w2 (Lo.length : Int))).mono ?_
  rw [decide_eq_true rfl]
  rintro e w3 ⟨rfl, hx⟩
  have HK := Lib.hid (HK.out.ext hx)
  clear hx HI
  have hcat : (⟨S.toArray⟩ : ByteArray) ++ ⟨(Lo.take kk).toArray⟩ = ⟨W.toArray⟩ := by rw [ByteArray.mk_append_mk, ← HW.out]; first | done | simp
  go_wp2_with fail
  clear hcat
  go_loopw [10] (fun i wr => ∃ (k : Nat) (fq : FM), k ≤ 2 ∧ i = .int .i64 k ∧ KD w wr g (one fq 5000 k k false) ∧ crashF fq kp = ⟨[102], W, W.length⟩) (fun i _ => 2 - (intOf i).toNat)
  case atStart => exact ⟨0, _, by omega, rfl, HK.out, HC0.out⟩
  case round =>
    obtain ⟨k, fq, hk2, rfl, hkd, hcr⟩ := hrel
    have HK := Lib.hid hkd; have HCr := Lib.hid hcr
    clear hkd hcr
    by_cases hlt : k < 2
    · have hw1 : wrap64 ((k : Int) + 1) = ((k + 1 : Nat) : Int) := by unfold wrap64; omega
      have HW1 := Lib.hid hw1
      clear hw1
      go_wp2_with fail
      refine (KD.crash1 HK.out kp (one_crash _ _ _ _ _)).mono ?_
      rw [HCr.out]
      rintro e w' ⟨rfl, hk⟩
      have HK := Lib.hid hk
      clear hk
      go_wp2_with fail
      refine (KD.up HK.out (b := false) rfl).mono ?_
      rintro e w' ⟨rfl, rfl⟩
      go_wp2_with fail
      refine (KD.crash0 HK.out (one_crash_down _ _ _ _)).mono ?_
      rintro e w' ⟨rfl, hk⟩
      have HK := Lib.hid hk
      clear hk
      go_wp2_with fail
      refine (KD.append HK.out [102] [120] (by decide) (by decide) (one_append_down _ _ _ _ _ _)).mono ?_
      rintro e w' ⟨rfl, hk⟩
      have HK := Lib.hid hk
      clear hk
      go_wp2_with fail
      refine (KD.start HK.out (one_start _ _ _ _)).mono ?_
      rintro e w' ⟨rfl, hk⟩
      have HK := Lib.hid hk
      clear hk
      go_wp2_with fail
      refine (KD.read HK.out [102] 0 (W.length : Int) (by decide) (by decide) (by decide) (by omega) (by omega) (one_read rfl _ _ _ rfl)).mono ?_
      rintro e w' ⟨rfl, hk⟩
      have HK := Lib.hid hk
      clear hk
      go_wp2_with fail
      refine (KD.size HK.out [102] (by decide) (one_size rfl _ _ _)).mono ?_
      rintro e w' ⟨rfl, rfl⟩
      go_wp2_with fail
      refine (KD.loose' HK.out (xs := [(0 : Int)]) (by rw [one_loose]; show [(W.length : Int) - (W.length : Int)] = _; congr 1; omega)).mono ?_
      intro e w2 hr
      obtain ⟨a, c, rfl, hi, hx⟩ := hr.out
      have HI := Lib.hid (hi.ext (ext_a1 w2 (.cells #[.int .i64 0] 3)))
      have HK := Lib.hid (HK.out.ext (hx.trans (ext_a1 w2 (.cells #[.int .i64 0] 3))))
      clear hr hi hx
      go_wp2_with fail
      refine (eqInts_c HI.out (lit_ints w2 0)).mono ?_
      rw [decide_eq_true rfl]
      rintro e w3 ⟨rfl, hx⟩
      have HK := Lib.hid (HK.out.ext hx)
      clear hx HI
      go_wp2_with fail
      go_roundw
      case rel => exact ⟨k + 1, ⟨[102], W, W.length⟩, by omega, by go_num, by have := HK.out; rw [HW1.out] at this; exact this, HC1.out⟩
      case measure => simp [intOf]; omega
    · go_wp2_with fail
      refine (sinks_c _).mono ?_
      rintro e w' ⟨rfl, hx⟩
      have HX := Lib.hid hx
      clear hx
      go_wp2_with fail
      go_ret
      exact ⟨rfl, HK.out.base.trans HX.out⟩

end Go.Proofs.Ytoibjhoebjcfeaa
