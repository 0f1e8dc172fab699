/- Walks: what a file's name says. -/
import Derived.Test.YtkkafjknogfdnaaDoorChecked
import Derived.Test.YtkkafjknogfdnaaDoorDA
namespace Go.Proofs.YtkkafjknogfdnaaDoor
open Go.RowKit

theorem unD_take_succ {r : List UInt8} {k : Nat} {u : UInt8} (h : r[k]? = some u) : unD (r.take (k + 1)) = unD (r.take k) * 10 + (u.toNat - 48) := by
  obtain ⟨hk, rfl⟩ := List.getElem?_eq_some_iff.1 h
  rw [List.take_succ_eq_append_getElem hk, unD_snoc]

theorem all_take_succ8 {r : List UInt8} {k : Nat} {u : UInt8} (h : r[k]? = some u) (ha : (r.take k).all digitB = true) (hu : digitB u = true) : (r.take (k + 1)).all digitB = true := by
  obtain ⟨hk, rfl⟩ := List.getElem?_eq_some_iff.1 h
  rw [List.take_succ_eq_append_getElem hk, List.all_append, ha]
  simpa using hu

theorem all_not8 {r : List UInt8} {k : Nat} {u : UInt8} (h : r[k]? = some u) (hu : digitB u = false) : r.all digitB = false := by
  obtain ⟨hk, rfl⟩ := List.getElem?_eq_some_iff.1 h
  rw [List.all_eq_false]
  exact ⟨_, List.getElem_mem hk, by rw [hu]; simp⟩

theorem unD_take_lt {r : List UInt8} {k : Nat} (hk : k ≤ 6) (ha : (r.take k).all digitB = true) : unD (r.take k) < 1000000 := by
  have h1 := unD_lt _ ha
  have h2 : (r.take k).length ≤ 6 := Nat.le_trans (List.length_take_le _ _) hk
  exact Nat.lt_of_lt_of_le h1 (Nat.pow_le_pow_right (by decide) h2)

theorem digitB_iff (u : UInt8) : digitB u = true ↔ 48 ≤ u.toNat ∧ u.toNat ≤ 57 := by
  unfold digitB; rw [Bool.and_eq_true, decide_eq_true_iff, decide_eq_true_iff]

/-- the letters -/
theorem letter_cases (c : UInt8) : c = 99 ∨ c = 116 ∨ c = 98 ∨ (letterB c = false ∧ (c.toNat : Int) ≠ 99 ∧ (c.toNat : Int) ≠ 116 ∧ (c.toNat : Int) ≠ 98) := by
  by_cases h1 : c = 99
  · exact .inl h1
  by_cases h2 : c = 116
  · exact .inr (.inl h2)
  by_cases h3 : c = 98
  · exact .inr (.inr (.inl h3))
  refine .inr (.inr (.inr ⟨?_, ?_, ?_, ?_⟩))
  · unfold letterB; simp [h1, h2, h3]
  · intro h; exact h1 (UInt8.toNat_inj.1 (by show c.toNat = 99; omega))
  · intro h; exact h2 (UInt8.toNat_inj.1 (by show c.toNat = 116; omega))
  · intro h; exact h3 (UInt8.toNat_inj.1 (by show c.toNat = 98; omega))

theorem at_of {s : List UInt8} {k : Nat} {u : UInt8} (h : s[k]? = some u) : ∀ h', (⟨s.toArray⟩ : ByteArray)[k]'h' = u := by
  obtain ⟨hk, rfl⟩ := List.getElem?_eq_some_iff.1 h
  intro h'; rfl

set_option maxRecDepth 100000 in
set_option maxHeartbeats 3200000 in
theorem refparse_c (s : List UInt8) (w : World) (_hl : s.length ≤ 9223372036854775807) :
    Calls Tryd.prog 15 #[.string ⟨s.toArray⟩] w fun e w' => e = .returned (.tuple #[.int .u8 ((parseS s).1.toNat : Int), .int .i64 ((parseS s).2.1 : Int), .bool (parseS s).2.2]) ∧ Ext w w' := by
  by_cases h7 : s.length = 7
  case neg =>
    have HN := Lib.hid (parseS_no (s := s) (fun h => h7 h.1))
    have h7' : ((s.length : Int) != 7) = true := by simp; omega
    clear h7
    go_enter Tryd.func15, Tryd.ntmps15
    go_wp2_with fail
    go_ret3
    exact ⟨by rw [HN.out]; rfl, Ext.refl _⟩
  obtain ⟨c, hc⟩ : ∃ c, s[0]? = some c := ⟨_, List.getElem?_eq_getElem (by omega)⟩
  have hcd : s.getD 0 0 = c := by rw [List.getD_eq_getElem?_getD, hc]; rfl
  have hc0 := at_of hc
  have HS7 := Lib.hid h7
  have HCD := Lib.hid hcd
  clear hc hcd
  rcases letter_cases c with hlt | hlt | hlt | ⟨hlt, n1, n2, n3⟩
  case inr.inr.inr =>
    have HN := Lib.hid (parseS_no (s := s) (fun h => by rw [HCD.out, hlt] at h; exact absurd h.2.1 (by simp)))
    have n1' : ((c.toNat : Int) != 99) = true := by simp [n1]
    have n2' : ((c.toNat : Int) != 116) = true := by simp [n2]
    have n3' : ((c.toNat : Int) != 98) = true := by simp [n3]
    clear hlt
    go_enter Tryd.func15, Tryd.ntmps15
    go_wp2_with fail
    go_ret3
    exact ⟨by rw [HN.out]; rfl, Ext.refl _⟩
  all_goals
    subst hlt
    have HAll : Hid ((s.drop 1).all digitB = true → parseS s = (s.getD 0 0, unD (s.drop 1), true)) := Lib.hid (fun h => parseS_yes ⟨HS7.out, by rw [HCD.out]; rfl, h⟩)
    have HNot : Hid ((s.drop 1).all digitB = false → parseS s = (0, 0, false)) := Lib.hid (fun h => parseS_no (fun hh => by rw [h] at hh; exact absurd hh.2.2 (by simp)))
    have HAt : Hid (∀ k, (s.drop 1)[k]? = s[k + 1]?) := Lib.hid (fun k => by rw [List.getElem?_drop, Nat.add_comm])
    have HRl : Hid ((s.drop 1).length = 6) := Lib.hid (by rw [List.length_drop, HS7.out])
    generalize s.drop 1 = r at *
    go_enter Tryd.func15, Tryd.ntmps15
    go_wp2_with fail
    go_loopw [5, 6] (fun v i w' => ∃ j m : Nat, 1 ≤ j ∧ j ≤ 7 ∧ i = .int .i64 j ∧ v = .int .i64 m ∧ m = unD (r.take (j - 1)) ∧ (r.take (j - 1)).all digitB = true ∧ Ext w w') (fun _ i _ => 7 - (intOf i).toNat)
    case atStart => exact ⟨1, 0, by omega, by omega, rfl, rfl, rfl, rfl, Ext.refl _⟩
    case round =>
      obtain ⟨j, m, hj1, hj7, rfl, rfl, hm, ha, hb⟩ := hrel
      have hm6 : (m : Int) ≤ 999999 := by have := unD_take_lt (by omega) ha; omega
      have HM := Lib.hid hm; have HA := Lib.hid ha; have Hb := Lib.hid hb
      clear hm ha hb
      by_cases hlt : j < 7
      · obtain ⟨u, hu⟩ : ∃ u, r[j - 1]? = some u := ⟨_, List.getElem?_eq_getElem (by have := HRl.out; omega)⟩
        have hu1 := at_of (s := s) (k := j) (u := u) (by rw [HAt.out, Nat.sub_add_cancel hj1] at hu; exact hu)
        have HU := Lib.hid hu
        have hk7 : j < s.length := by have := HS7.out; omega
        clear hu
        by_cases hlo : (u.toNat : Int) < 48
        · have HN := Lib.hid (HNot.out (all_not8 HU.out (by rw [Bool.eq_false_iff]; intro h; have := (digitB_iff u).1 h; omega)))
          go_wp2_with fail
          go_ret3
          exact ⟨by rw [HN.out]; rfl, Hb.out⟩
        by_cases hhi : 57 < (u.toNat : Int)
        · have HN := Lib.hid (HNot.out (all_not8 HU.out (by rw [Bool.eq_false_iff]; intro h; have := (digitB_iff u).1 h; omega)))
          go_wp2_with fail
          go_ret3
          exact ⟨by rw [HN.out]; rfl, Hb.out⟩
        have hlo' : 48 ≤ (u.toNat : Int) := by omega
        have hhi' : (u.toNat : Int) ≤ 57 := by omega
        clear hlo hhi
        go_wp2_with fail
        go_roundw
        case rel => exact ⟨j + 1, m * 10 + u.toNat - 48, by omega, by omega, by go_num, by go_num, by rw [Nat.add_sub_cancel]; have := unD_take_succ HU.out; rw [Nat.sub_add_cancel hj1] at this; rw [this, ← HM.out]; omega, by have := all_take_succ8 HU.out HA.out ((digitB_iff u).2 (by omega)); rw [Nat.sub_add_cancel hj1] at this; exact this, Hb.out⟩
        case measure => simp [intOf]; omega
      · have hk6 : j = 7 := by omega
        subst hk6
        have ht : r.take (7 - 1) = r := List.take_of_length_le (by have := HRl.out; omega)
        rw [ht] at HA HM
        have HN := Lib.hid (HAll.out HA.out)
        have hs0 : 0 < s.length := by have := HS7.out; omega
        clear ht
        go_wp2_with fail
        go_ret3
        exact ⟨by rw [HN.out, HCD.out, HM.out]; rfl, Hb.out⟩

end Go.Proofs.YtkkafjknogfdnaaDoor
