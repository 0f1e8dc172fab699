/- Walks: what the package says of a file's name. -/
import Derived.Test.YtkkafjknogfdnaaDoorChecked
import Derived.Test.YtkkafjknogfdnaaDoorDB
namespace Go.Proofs.YtkkafjknogfdnaaDoor
open Go.RowKit Go.Shelf

set_option maxRecDepth 100000 in
theorem trim_c (l : List UInt8) (w : World) (hl : l.length ≤ 9223372036854775807) :
    Calls Tryd.prog 17 #[.string ⟨l.toArray⟩, .string ⟨#[48, 49, 50, 51, 52, 53, 54, 55, 56, 57]⟩] w fun e w' => e = .returned (.string ⟨(Lib.trimS l [48, 49, 50, 51, 52, 53, 54, 55, 56, 57]).toArray⟩) ∧ Ext w w' := by
  have hcon := Any.strings_Trim_laid Tryd.lays160 (by kernel_rfl) ⟨l.toArray⟩ ⟨#[48, 49, 50, 51, 52, 53, 54, 55, 56, 57]⟩ w (by simpa [ByteArray.size] using hl) (by decide) (ascii_of_all (by decide))
  exact hcon

set_option maxRecDepth 100000 in
set_option maxHeartbeats 3200000 in
theorem parse_c (s : List UInt8) (w : World) (_hl : s.length ≤ 9223372036854775807) :
    Calls Tryd.prog 14 #[.string ⟨s.toArray⟩] w fun e w' => e = .returned (.tuple #[.int .u8 ((parseS s).1.toNat : Int), .int .i64 ((parseS s).2.1 : Int), .bool (parseS s).2.2]) ∧ Ext w w' := by
  by_cases h7 : s.length = 7
  case neg =>
    have HN := Lib.hid (parseS_no (s := s) (fun h => h7 h.1))
    have h7' : ((s.length : Int) != 7) = true := by simp; omega
    clear h7
    go_enter Tryd.func14, Tryd.ntmps14
    go_wp2_with fail
    go_ret3
    exact ⟨by rw [HN.out]; rfl, Ext.refl _⟩
  obtain ⟨c, hc⟩ : ∃ c, s[0]? = some c := ⟨_, List.getElem?_eq_getElem (by omega)⟩
  have hcd : s.getD 0 0 = c := by rw [List.getD_eq_getElem?_getD, hc]; rfl
  have hc0 := at_of hc
  have HS7 := Lib.hid h7
  have HCD := Lib.hid hcd
  have HAll : Hid ((s.drop 1).all digitB = true → letterB (s.getD 0 0) = true → parseS s = (s.getD 0 0, unD (s.drop 1), true)) := Lib.hid (fun h h2 => parseS_yes ⟨HS7.out, h2, h⟩)
  have HNot : Hid ((s.drop 1).all digitB = false → parseS s = (0, 0, false)) := Lib.hid (fun h => parseS_no (fun hh => by rw [h] at hh; exact absurd hh.2.2 (by simp)))
  have HAt : Hid (∀ k, (s.drop 1)[k]? = s[k + 1]?) := Lib.hid (fun k => by rw [List.getElem?_drop, Nat.add_comm])
  have HRl : Hid ((s.drop 1).length = 6) := Lib.hid (by rw [List.length_drop, HS7.out])
  have htk : (s.take 7).tail = s.drop 1 := by rw [List.take_of_length_le (by omega)]; simp
  have h7' : ((s.length : Int) != 7) = false := by simp; omega
  clear hc hcd
  generalize s.drop 1 = r at *
  obtain ⟨T, hT⟩ : ∃ T, Lib.trimS r [48, 49, 50, 51, 52, 53, 54, 55, 56, 57] = T := ⟨_, rfl⟩
  have hTd := trim_digits r
  rw [hT] at hTd
  have HT := Lib.hid hT; have HTD := Lib.hid hTd
  clear hT hTd
  go_enter Tryd.func14, Tryd.ntmps14
  go_wp2_with fail
  refine (trim_c r _ (by have := HRl.out; omega)).mono ?_
  rw [HT.out]
  rintro e w1 ⟨rfl, hb⟩
  have HB := Lib.hid hb
  clear hb htk
  by_cases hTe : T = []
  case neg =>
    have HN := Lib.hid (HNot.out (by rw [Bool.eq_false_iff]; intro h; exact hTe (HTD.out.2 h)))
    have hTb : (T == []) = false := by simpa using hTe
    have hTn : (T != []) = true := by simpa using hTe
    clear hTe
    go_wp2_with fail
    go_ret3
    exact ⟨by rw [HN.out]; rfl, HB.out⟩
  have HA := Lib.hid (HTD.out.1 hTe)
  subst hTe
  rcases letter_cases c with hlt | hlt | hlt | ⟨hlt, n1, n2, n3⟩
  case inr.inr.inr =>
    have HN := Lib.hid (parseS_no (s := s) (fun h => by rw [HCD.out, hlt] at h; exact absurd h.2.1 (by simp)))
    clear hlt
    go_wp2_with fail
    go_ret3
    exact ⟨by rw [HN.out]; rfl, HB.out⟩
  all_goals
    subst hlt
    have HY := Lib.hid (HAll.out HA.out (by rw [HCD.out]; rfl))
    go_wp2_with fail
    go_loopw [3, 21] (fun v i w' => ∃ j m : Nat, j ≤ 6 ∧ i = .int .i64 j ∧ v = .int .i64 m ∧ m = unD (r.take j) ∧ Ext w w') (fun _ i _ => 6 - (intOf i).toNat)
    case atStart => exact ⟨0, 0, by omega, rfl, rfl, rfl, HB.out⟩
    case round =>
      obtain ⟨j, m, hj7, rfl, rfl, hm, hb⟩ := hrel
      have hat : (r.take j).all digitB = true := List.all_eq_true.2 fun x hx => List.all_eq_true.1 HA.out x (List.mem_of_mem_take hx)
      have hm6 : (m : Int) ≤ 999999 := by have := unD_take_lt (by omega) hat; omega
      have HM := Lib.hid hm; have Hb := Lib.hid hb
      clear hm hb hat
      by_cases hlt : j < 6
      · obtain ⟨u, hu⟩ : ∃ u, r[j]? = some u := ⟨_, List.getElem?_eq_getElem (by have := HRl.out; omega)⟩
        have hu1 := at_of (s := s) (k := j + 1) (u := u) (by rw [HAt.out] at hu; exact hu)
        have hu2 := at_of (s := s) (k := 1 + j) (u := u) (by rw [HAt.out, Nat.add_comm] at hu; exact hu)
        have HU := Lib.hid hu
        have hk7 : j + 1 < s.length := by have := HS7.out; omega
        have hk8 : 1 + j < s.length := by have := HS7.out; omega
        have hd := (digitB_iff u).1 (List.all_eq_true.1 HA.out u (List.mem_of_getElem? hu))
        have hlo' : 48 ≤ (u.toNat : Int) := by omega
        have hhi' : (u.toNat : Int) ≤ 57 := by omega
        clear hu hd
        go_wp2_with fail
        go_roundw
        case rel => exact ⟨j + 1, 10 * m + (u.toNat - 48), by omega, by go_num, by go_num, by rw [unD_take_succ HU.out, ← HM.out]; omega, Hb.out⟩
        case measure => simp [intOf]; omega
      · have hk6 : j = 6 := by omega
        subst hk6
        have ht : r.take 6 = r := List.take_of_length_le (by have := HRl.out; omega)
        rw [ht] at HM
        have hs0 : 0 < s.length := by have := HS7.out; omega
        clear ht
        go_wp2_with fail
        go_ret3
        exact ⟨by rw [HY.out, HCD.out, HM.out]; rfl, Hb.out⟩

end Go.Proofs.YtkkafjknogfdnaaDoor
