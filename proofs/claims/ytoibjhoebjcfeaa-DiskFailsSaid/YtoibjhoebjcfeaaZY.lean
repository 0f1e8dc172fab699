/- Walks: the law DiskFails. -/
import Derived.Test.YtoibjhoebjcfeaaZX
namespace Go.Proofs.Ytoibjhoebjcfeaa
open Go.RowKit

/-- a disk of one file that is to fail behind so many changes -/
def onef (f : FM) (l k : Int) : DM := ⟨5000, [f], 0, 0, false, true, l, [k]⟩

theorem onef_fail (f : FM) (n k : Int) (hn : 0 ≤ n) : failD (one f 5000 0 0 false) n [k] = (0, onef f n k) := by
  unfold failD one onef
  simp only [Bool.false_eq_true, if_false]
  rw [if_neg (by omega)]
theorem onef_append {f : FM} {nm : List UInt8} (h : f.nm = nm) {l k : Int} {t : List UInt8} (hc : (f.da.length : Int) + t.length ≤ 5000) (hl : 1 ≤ l) : appendM (onef f l k) nm t = (0, onef { f with da := f.da ++ t } (l - 1) k) := by
  unfold appendM onef
  have h0 : decide (l = 0) = false := by rw [decide_eq_false_iff_not]; omega
  have h1 : max (l - 1) 0 = l - 1 := by omega
  simp only [find_one h, used_one, Bool.false_eq_true, if_false, Option.isNone_some, failsM, h0, Bool.and_false]
  rw [if_neg (by omega)]
  simp [tickM, appM, upd_one h, h1]
theorem onef_sync {f : FM} {nm : List UInt8} (h : f.nm = nm) {l k : Int} (hl : 1 ≤ l) : syncM (onef f l k) nm = (0, onef { f with sy := f.da.length } (l - 1) k) := by
  unfold syncM onef
  have h0 : decide (l = 0) = false := by rw [decide_eq_false_iff_not]; omega
  have h1 : max (l - 1) 0 = l - 1 := by omega
  simp [find_one h, failsM, tickM, upd_one h, h0, h1]
theorem onef_append0 {f : FM} {nm : List UInt8} (h : f.nm = nm) {k : Int} {t : List UInt8} (hc : (f.da.length : Int) + t.length ≤ 5000) : appendM (onef f 0 k) nm t = (61, one (crashF { f with da := f.da ++ t } k) 5000 0 0 true) := by
  unfold appendM onef
  simp only [find_one h, used_one, Bool.false_eq_true, if_false, Option.isNone_some, failsM]
  rw [if_neg (by omega)]
  simp [sinkM, crashM, crashL, appM, upd_one h, one]
theorem onef_sync0 {f : FM} {nm : List UInt8} (h : f.nm = nm) (k : Int) : syncM (onef f 0 k) nm = (61, one (crashF f k) 5000 0 0 true) := by
  unfold syncM onef
  simp [find_one h, failsM, sinkM, crashM, crashL, one]
theorem onef_delete0 {f : FM} {nm : List UInt8} (h : f.nm = nm) (k : Int) : deleteM (onef f 0 k) nm = (61, one (crashF f k) 5000 0 0 true) := by
  unfold deleteM onef
  simp [find_one h, failsM, sinkM, crashM, crashL, one]
theorem onef_rename0 {f : FM} {nm : List UInt8} (h : f.nm = nm) (k : Int) : renameM (onef f 0 k) nm [98] = (61, one (crashF f k) 5000 0 0 true) := by
  unfold renameM onef
  have h0 : okName [98] = true := by decide
  simp [find_one h, failsM, sinkM, crashM, crashL, one, h0]
theorem onef_create0 {f : FM} (h : f.nm = [97]) (k : Int) : createM (onef f 0 k) [98] = (61, one (crashF f k) 5000 0 0 true) := by
  unfold createM onef
  have h0 : okName [98] = true := by decide
  have h1 : findN FM.nm [98] [f] = none := by simp [findN, h]
  simp [h1, failsM, sinkM, crashM, crashL, one, h0]

set_option maxRecDepth 100000
set_option linter.unusedVariables false
set_option maxHeartbeats 6400000

theorem faillaw_c (a0 a1 a2 : Int) (w : World) (h00 : 0 ≤ a0) (h01 : a0 ≤ 255) (h10 : 0 ≤ a1) (h11 : a1 ≤ 255) (h20 : 0 ≤ a2) (h21 : a2 ≤ 255) :
    Calls Try.prog 5 #[.int .u8 a0, .int .u8 a1, .int .u8 a2] w fun e w' => e = .returned (.bool true) ∧ Ext w w' := by
  obtain ⟨k, hk0⟩ : ∃ k : Nat, a0 % 20 = (k : Int) := ⟨(a0 % 20).toNat, by omega⟩
  have hk : k < 20 := by omega
  go_enter Try.func5, Try.ntmps5
  go_wp2_with fail
  refine (KD.new w 5000 (by decide) (by decide) (Ext.refl _)).mono ?_
  rintro e w' ⟨g, rfl, hk⟩
  have HK := Lib.hid hk
  clear hk
  go_wp2_with fail
  refine (KD.create HK.out [97] (by decide) (c := 0) (σ' := one ⟨[97], [], 0⟩ 5000 0 0 false) (by kernel_rfl)).mono ?_
  rintro e w' ⟨rfl, hk⟩
  have HK := Lib.hid hk
  clear hk
  go_wp2_with fail
  refine (KD.append HK.out [97] [97, 98, 99] (by decide) (by decide) (c := 0) (σ' := one ⟨[97], [97, 98, 99], 0⟩ 5000 0 0 false) (by kernel_rfl)).mono ?_
  rintro e w' ⟨rfl, hk⟩
  have HK := Lib.hid hk
  clear hk
  go_wp2_with fail
  refine (KD.sync HK.out [97] (by decide) (c := 0) (σ' := one ⟨[97], [97, 98, 99], 3⟩ 5000 0 0 false) (by kernel_rfl)).mono ?_
  rintro e w' ⟨rfl, hk⟩
  have HK := Lib.hid hk
  clear hk
  go_wp2_with fail
  refine (KD.fail1 HK.out (k : Int) a2 (by omega) (onef_fail _ _ _ (by omega))).mono ?_
  rintro e w' ⟨rfl, hk⟩
  have HK := Lib.hid hk
  clear hk
  go_wp2_with fail
  go_loopw [10, 11, 12] (fun d s i wr => ∃ (j : Nat) (D : List UInt8) (sy : Nat), j ≤ k ∧ i = .int .i64 j ∧ d = .string ⟨D.toArray⟩ ∧ s = .int .i64 sy ∧ D.length ≤ 3 + j ∧ sy ≤ D.length ∧ KD w wr g (onef ⟨[97], D, sy⟩ ((k : Int) - (j : Int)) a2)) (fun _ _ i _ => k - (intOf i).toNat)
  case atStart => exact ⟨0, [97, 98, 99], 3, Nat.zero_le _, rfl, rfl, rfl, by decide, by decide, by have := HK.out; rw [show ((k : Int) - ((0 : Nat) : Int)) = (k : Int) by omega]; exact this⟩
  case round =>
    obtain ⟨j, D, sy, hj, rfl, rfl, rfl, hD, hsy, hkd⟩ := hrel
    have HK := Lib.hid hkd
    clear hkd
    by_cases hlt : j < k
    · rcases Nat.mod_two_eq_zero_or_one j with hp | hp
      · have hpi : (j : Int) % 2 = 0 := by omega
        have hcat : (⟨D.toArray⟩ : ByteArray) ++ ⟨#[120]⟩ = ⟨(D ++ [120]).toArray⟩ := by rw [show (⟨#[120]⟩ : ByteArray) = ⟨[120].toArray⟩ from rfl, ByteArray.mk_append_mk]; first | done | simp
        clear hp
        go_wp2_with fail
        refine (KD.append HK.out [97] [120] (by decide) (by decide) (onef_append rfl (by show (D.length : Int) + 1 ≤ 5000; omega) (by omega))).mono ?_
        rintro e w' ⟨rfl, hk⟩
        have HK := Lib.hid hk
        clear hk
        go_wp2_with fail
        go_roundw
        case rel => exact ⟨j + 1, D ++ [120], sy, by omega, by go_num, rfl, rfl, by rw [List.length_append]; simp; omega, by rw [List.length_append]; omega, by have := HK.out; rw [show ((k : Int) - ((j + 1 : Nat) : Int)) = (k : Int) - (j : Int) - 1 by omega]; exact this⟩
        case measure => simp [intOf]; omega
      · have hpi : (j : Int) % 2 = 1 := by omega
        clear hp
        go_wp2_with fail
        refine (KD.sync HK.out [97] (by decide) (onef_sync rfl (by omega))).mono ?_
        rintro e w' ⟨rfl, hk⟩
        have HK := Lib.hid hk
        clear hk
        go_wp2_with fail
        go_roundw
        case rel => exact ⟨j + 1, D, D.length, by omega, by go_num, rfl, rfl, by omega, Nat.le_refl _, by have := HK.out; rw [show ((k : Int) - ((j + 1 : Nat) : Int)) = (k : Int) - (j : Int) - 1 by omega]; exact this⟩
        case measure => simp [intOf]; omega
    · have hjk : j = k := by omega
      have hz : (k : Int) - (j : Int) = 0 := by omega
      rw [hz] at HK
      have hD3 : D.length ≤ 22 := by omega
      clear hz
      have h5 : a1 % 5 = 0 ∨ a1 % 5 = 1 ∨ a1 % 5 = 2 ∨ a1 % 5 = 3 ∨ a1 % 5 = 4 := by omega
      rcases h5 with h5 | h5 | h5 | h5 | h5
      · go_wp2_with fail
        refine (KD.create HK.out [98] (by decide) (onef_create0 rfl _)).mono ?_
        rintro e w' ⟨rfl, hk⟩
        have HK := Lib.hid hk
        clear hk
        obtain ⟨b, hb⟩ : ∃ b : Nat, (sy : Int) + min a2 ((D.length : Int) - (sy : Int)) = (b : Int) := ⟨((sy : Int) + min a2 ((D.length : Int) - (sy : Int))).toNat, by omega⟩
        have hbl : b ≤ D.length := by omega
        obtain ⟨W, hW⟩ : ∃ W, D.take b = W := ⟨_, rfl⟩
        have hWl : W.length = b := by rw [← hW, List.length_take]; omega
        have HWl := Lib.hid hWl
        have hcr : crashF ⟨[97], D, sy⟩ a2 = ⟨[97], W, W.length⟩ := by
          have hm : sy + min (max a2 0).toNat (D.length - sy) = b := by omega
          show FM.mk [97] (D.take (sy + min (max a2 0).toNat (D.length - sy))) (sy + min (max a2 0).toNat (D.length - sy)) = _
          rw [hm, hW, hWl]
        rw [hcr] at HK
        have hWi : (W.length : Int) ≤ 100 := by omega
        clear hcr hWl
        go_wp2_with fail
        refine (KD.up HK.out (b := false) rfl).mono ?_
        rintro e w' ⟨rfl, rfl⟩
        go_wp2_with fail
        refine (KD.start HK.out (one_start _ _ _ _)).mono ?_
        rintro e w' ⟨rfl, hk⟩
        have HK := Lib.hid hk
        clear hk
        go_wp2_with fail
        refine (KD.names HK.out).mono ?_
        intro e w2 hr
        obtain ⟨na, nc, rfl, _, hx⟩ : ∃ ao cap, e = .returned (.slice ao 1 cap) ∧ True ∧ Ext _ w2 := by
          obtain ⟨ao, cap, h1, _, h3⟩ := hr.out
          exact ⟨ao, cap, h1, trivial, h3⟩
        have HK := Lib.hid (HK.out.ext hx)
        clear hr hx
        go_wp2_with fail
        refine (KD.append HK.out [97] [] (by decide) (by decide) (one_append rfl (by show (W.length : Int) + 0 ≤ 5000; omega))).mono ?_
        rintro e w' ⟨rfl, hk⟩
        have HK := Lib.hid hk
        rw [show ({ nm := [97], da := W ++ [], sy := W.length } : FM) = ⟨[97], W, W.length⟩ by rw [List.append_nil]] at HK
        clear hk
        go_wp2_with fail
        refine (KD.size HK.out [97] (by decide) (one_size rfl _ _ _)).mono ?_
        rintro e w' ⟨rfl, rfl⟩
        go_wp2_with fail
        refine (KD.read HK.out [97] 0 (W.length : Int) (by decide) (by decide) (by decide) (by omega) (by omega) (one_read rfl _ _ _ rfl)).mono ?_
        rintro e w' ⟨rfl, hk⟩
        have HK := Lib.hid hk
        clear hk
        go_wp2_with fail
        refine (sinks_c _).mono ?_
        rintro e w' ⟨rfl, hx⟩
        have HX := Lib.hid hx
        clear hx
        go_wp2_with fail
        go_ret
        exact ⟨rfl, HK.out.base.trans HX.out⟩
      · go_wp2_with fail
        refine (KD.delete HK.out [97] (by decide) (onef_delete0 rfl _)).mono ?_
        rintro e w' ⟨rfl, hk⟩
        have HK := Lib.hid hk
        clear hk
        obtain ⟨b, hb⟩ : ∃ b : Nat, (sy : Int) + min a2 ((D.length : Int) - (sy : Int)) = (b : Int) := ⟨((sy : Int) + min a2 ((D.length : Int) - (sy : Int))).toNat, by omega⟩
        have hbl : b ≤ D.length := by omega
        obtain ⟨W, hW⟩ : ∃ W, D.take b = W := ⟨_, rfl⟩
        have hWl : W.length = b := by rw [← hW, List.length_take]; omega
        have HWl := Lib.hid hWl
        have hcr : crashF ⟨[97], D, sy⟩ a2 = ⟨[97], W, W.length⟩ := by
          have hm : sy + min (max a2 0).toNat (D.length - sy) = b := by omega
          show FM.mk [97] (D.take (sy + min (max a2 0).toNat (D.length - sy))) (sy + min (max a2 0).toNat (D.length - sy)) = _
          rw [hm, hW, hWl]
        rw [hcr] at HK
        have hWi : (W.length : Int) ≤ 100 := by omega
        clear hcr hWl
        go_wp2_with fail
        refine (KD.up HK.out (b := false) rfl).mono ?_
        rintro e w' ⟨rfl, rfl⟩
        go_wp2_with fail
        refine (KD.start HK.out (one_start _ _ _ _)).mono ?_
        rintro e w' ⟨rfl, hk⟩
        have HK := Lib.hid hk
        clear hk
        go_wp2_with fail
        refine (KD.names HK.out).mono ?_
        intro e w2 hr
        obtain ⟨na, nc, rfl, _, hx⟩ : ∃ ao cap, e = .returned (.slice ao 1 cap) ∧ True ∧ Ext _ w2 := by
          obtain ⟨ao, cap, h1, _, h3⟩ := hr.out
          exact ⟨ao, cap, h1, trivial, h3⟩
        have HK := Lib.hid (HK.out.ext hx)
        clear hr hx
        go_wp2_with fail
        refine (KD.append HK.out [97] [] (by decide) (by decide) (one_append rfl (by show (W.length : Int) + 0 ≤ 5000; omega))).mono ?_
        rintro e w' ⟨rfl, hk⟩
        have HK := Lib.hid hk
        rw [show ({ nm := [97], da := W ++ [], sy := W.length } : FM) = ⟨[97], W, W.length⟩ by rw [List.append_nil]] at HK
        clear hk
        go_wp2_with fail
        refine (KD.size HK.out [97] (by decide) (one_size rfl _ _ _)).mono ?_
        rintro e w' ⟨rfl, rfl⟩
        go_wp2_with fail
        refine (KD.read HK.out [97] 0 (W.length : Int) (by decide) (by decide) (by decide) (by omega) (by omega) (one_read rfl _ _ _ rfl)).mono ?_
        rintro e w' ⟨rfl, hk⟩
        have HK := Lib.hid hk
        clear hk
        go_wp2_with fail
        refine (sinks_c _).mono ?_
        rintro e w' ⟨rfl, hx⟩
        have HX := Lib.hid hx
        clear hx
        go_wp2_with fail
        go_ret
        exact ⟨rfl, HK.out.base.trans HX.out⟩
      · go_wp2_with fail
        refine (KD.rename HK.out [97] [98] (by decide) (by decide) (onef_rename0 rfl _)).mono ?_
        rintro e w' ⟨rfl, hk⟩
        have HK := Lib.hid hk
        clear hk
        obtain ⟨b, hb⟩ : ∃ b : Nat, (sy : Int) + min a2 ((D.length : Int) - (sy : Int)) = (b : Int) := ⟨((sy : Int) + min a2 ((D.length : Int) - (sy : Int))).toNat, by omega⟩
        have hbl : b ≤ D.length := by omega
        obtain ⟨W, hW⟩ : ∃ W, D.take b = W := ⟨_, rfl⟩
        have hWl : W.length = b := by rw [← hW, List.length_take]; omega
        have HWl := Lib.hid hWl
        have hcr : crashF ⟨[97], D, sy⟩ a2 = ⟨[97], W, W.length⟩ := by
          have hm : sy + min (max a2 0).toNat (D.length - sy) = b := by omega
          show FM.mk [97] (D.take (sy + min (max a2 0).toNat (D.length - sy))) (sy + min (max a2 0).toNat (D.length - sy)) = _
          rw [hm, hW, hWl]
        rw [hcr] at HK
        have hWi : (W.length : Int) ≤ 100 := by omega
        clear hcr hWl
        go_wp2_with fail
        refine (KD.up HK.out (b := false) rfl).mono ?_
        rintro e w' ⟨rfl, rfl⟩
        go_wp2_with fail
        refine (KD.start HK.out (one_start _ _ _ _)).mono ?_
        rintro e w' ⟨rfl, hk⟩
        have HK := Lib.hid hk
        clear hk
        go_wp2_with fail
        refine (KD.names HK.out).mono ?_
        intro e w2 hr
        obtain ⟨na, nc, rfl, _, hx⟩ : ∃ ao cap, e = .returned (.slice ao 1 cap) ∧ True ∧ Ext _ w2 := by
          obtain ⟨ao, cap, h1, _, h3⟩ := hr.out
          exact ⟨ao, cap, h1, trivial, h3⟩
        have HK := Lib.hid (HK.out.ext hx)
        clear hr hx
        go_wp2_with fail
        refine (KD.append HK.out [97] [] (by decide) (by decide) (one_append rfl (by show (W.length : Int) + 0 ≤ 5000; omega))).mono ?_
        rintro e w' ⟨rfl, hk⟩
        have HK := Lib.hid hk
        rw [show ({ nm := [97], da := W ++ [], sy := W.length } : FM) = ⟨[97], W, W.length⟩ by rw [List.append_nil]] at HK
        clear hk
        go_wp2_with fail
        refine (KD.size HK.out [97] (by decide) (one_size rfl _ _ _)).mono ?_
        rintro e w' ⟨rfl, rfl⟩
        go_wp2_with fail
        refine (KD.read HK.out [97] 0 (W.length : Int) (by decide) (by decide) (by decide) (by omega) (by omega) (one_read rfl _ _ _ rfl)).mono ?_
        rintro e w' ⟨rfl, hk⟩
        have HK := Lib.hid hk
        clear hk
        go_wp2_with fail
        refine (sinks_c _).mono ?_
        rintro e w' ⟨rfl, hx⟩
        have HX := Lib.hid hx
        clear hx
        go_wp2_with fail
        go_ret
        exact ⟨rfl, HK.out.base.trans HX.out⟩
      · go_wp2_with fail
        refine (KD.sync HK.out [97] (by decide) (onef_sync0 rfl _)).mono ?_
        rintro e w' ⟨rfl, hk⟩
        have HK := Lib.hid hk
        clear hk
        obtain ⟨b, hb⟩ : ∃ b : Nat, (sy : Int) + min a2 ((D.length : Int) - (sy : Int)) = (b : Int) := ⟨((sy : Int) + min a2 ((D.length : Int) - (sy : Int))).toNat, by omega⟩
        have hbl : b ≤ D.length := by omega
        obtain ⟨W, hW⟩ : ∃ W, D.take b = W := ⟨_, rfl⟩
        have hWl : W.length = b := by rw [← hW, List.length_take]; omega
        have HWl := Lib.hid hWl
        have hcr : crashF ⟨[97], D, sy⟩ a2 = ⟨[97], W, W.length⟩ := by
          have hm : sy + min (max a2 0).toNat (D.length - sy) = b := by omega
          show FM.mk [97] (D.take (sy + min (max a2 0).toNat (D.length - sy))) (sy + min (max a2 0).toNat (D.length - sy)) = _
          rw [hm, hW, hWl]
        rw [hcr] at HK
        have hWi : (W.length : Int) ≤ 100 := by omega
        clear hcr hWl
        go_wp2_with fail
        refine (KD.up HK.out (b := false) rfl).mono ?_
        rintro e w' ⟨rfl, rfl⟩
        go_wp2_with fail
        refine (KD.start HK.out (one_start _ _ _ _)).mono ?_
        rintro e w' ⟨rfl, hk⟩
        have HK := Lib.hid hk
        clear hk
        go_wp2_with fail
        refine (KD.names HK.out).mono ?_
        intro e w2 hr
        obtain ⟨na, nc, rfl, _, hx⟩ : ∃ ao cap, e = .returned (.slice ao 1 cap) ∧ True ∧ Ext _ w2 := by
          obtain ⟨ao, cap, h1, _, h3⟩ := hr.out
          exact ⟨ao, cap, h1, trivial, h3⟩
        have HK := Lib.hid (HK.out.ext hx)
        clear hr hx
        go_wp2_with fail
        refine (KD.append HK.out [97] [] (by decide) (by decide) (one_append rfl (by show (W.length : Int) + 0 ≤ 5000; omega))).mono ?_
        rintro e w' ⟨rfl, hk⟩
        have HK := Lib.hid hk
        rw [show ({ nm := [97], da := W ++ [], sy := W.length } : FM) = ⟨[97], W, W.length⟩ by rw [List.append_nil]] at HK
        clear hk
        go_wp2_with fail
        refine (KD.size HK.out [97] (by decide) (one_size rfl _ _ _)).mono ?_
        rintro e w' ⟨rfl, rfl⟩
        go_wp2_with fail
        refine (KD.read HK.out [97] 0 (W.length : Int) (by decide) (by decide) (by decide) (by omega) (by omega) (one_read rfl _ _ _ rfl)).mono ?_
        rintro e w' ⟨rfl, hk⟩
        have HK := Lib.hid hk
        clear hk
        go_wp2_with fail
        refine (sinks_c _).mono ?_
        rintro e w' ⟨rfl, hx⟩
        have HX := Lib.hid hx
        clear hx
        go_wp2_with fail
        go_ret
        exact ⟨rfl, HK.out.base.trans HX.out⟩
      · obtain ⟨E, hE⟩ : ∃ E, D ++ [121, 122] = E := ⟨_, rfl⟩
        have hcat : (⟨D.toArray⟩ : ByteArray) ++ ⟨#[121, 122]⟩ = ⟨E.toArray⟩ := by rw [show (⟨#[121, 122]⟩ : ByteArray) = ⟨[121, 122].toArray⟩ from rfl, ByteArray.mk_append_mk, ← hE]; first | done | simp
        have hEl : E.length = D.length + 2 := by rw [← hE, List.length_append]; rfl
        have hEl2 : D.length + 2 ≤ E.length := by omega
        have hEl3 : E.length ≤ D.length + 2 := by omega
        have HE := Lib.hid hE
        clear hE hEl
        go_wp2_with fail
        refine (KD.append HK.out [97] [121, 122] (by decide) (by decide) (onef_append0 rfl (by show (D.length : Int) + 2 ≤ 5000; omega))).mono ?_
        rintro e w' ⟨rfl, hk⟩
        rw [show ({ nm := [97], da := D ++ [121, 122], sy := sy } : FM) = ⟨[97], E, sy⟩ by rw [HE.out]] at hk
        have HK := Lib.hid hk
        clear hk
        obtain ⟨b, hb⟩ : ∃ b : Nat, (sy : Int) + min a2 ((E.length : Int) - (sy : Int)) = (b : Int) := ⟨((sy : Int) + min a2 ((E.length : Int) - (sy : Int))).toNat, by omega⟩
        have hbl : b ≤ E.length := by omega
        obtain ⟨W, hW⟩ : ∃ W, E.take b = W := ⟨_, rfl⟩
        have hWl : W.length = b := by rw [← hW, List.length_take]; omega
        have HWl := Lib.hid hWl
        have hcr : crashF ⟨[97], E, sy⟩ a2 = ⟨[97], W, W.length⟩ := by
          have hm : sy + min (max a2 0).toNat (E.length - sy) = b := by omega
          show FM.mk [97] (E.take (sy + min (max a2 0).toNat (E.length - sy))) (sy + min (max a2 0).toNat (E.length - sy)) = _
          rw [hm, hW, hWl]
        rw [hcr] at HK
        have hWi : (W.length : Int) ≤ 100 := by omega
        clear hcr hWl
        go_wp2_with fail
        refine (KD.up HK.out (b := false) rfl).mono ?_
        rintro e w' ⟨rfl, rfl⟩
        go_wp2_with fail
        refine (KD.start HK.out (one_start _ _ _ _)).mono ?_
        rintro e w' ⟨rfl, hk⟩
        have HK := Lib.hid hk
        clear hk
        go_wp2_with fail
        refine (KD.names HK.out).mono ?_
        intro e w2 hr
        obtain ⟨na, nc, rfl, _, hx⟩ : ∃ ao cap, e = .returned (.slice ao 1 cap) ∧ True ∧ Ext _ w2 := by
          obtain ⟨ao, cap, h1, _, h3⟩ := hr.out
          exact ⟨ao, cap, h1, trivial, h3⟩
        have HK := Lib.hid (HK.out.ext hx)
        clear hr hx
        go_wp2_with fail
        refine (KD.append HK.out [97] [] (by decide) (by decide) (one_append rfl (by show (W.length : Int) + 0 ≤ 5000; omega))).mono ?_
        rintro e w' ⟨rfl, hk⟩
        have HK := Lib.hid hk
        rw [show ({ nm := [97], da := W ++ [], sy := W.length } : FM) = ⟨[97], W, W.length⟩ by rw [List.append_nil]] at HK
        clear hk
        go_wp2_with fail
        refine (KD.size HK.out [97] (by decide) (one_size rfl _ _ _)).mono ?_
        rintro e w' ⟨rfl, rfl⟩
        go_wp2_with fail
        refine (KD.read HK.out [97] 0 (W.length : Int) (by decide) (by decide) (by decide) (by omega) (by omega) (one_read rfl _ _ _ rfl)).mono ?_
        rintro e w' ⟨rfl, hk⟩
        have HK := Lib.hid hk
        clear hk
        go_wp2_with fail
        refine (sinks_c _).mono ?_
        rintro e w' ⟨rfl, hx⟩
        have HX := Lib.hid hx
        clear hx
        go_wp2_with fail
        go_ret
        exact ⟨rfl, HK.out.base.trans HX.out⟩

end Go.Proofs.Ytoibjhoebjcfeaa
