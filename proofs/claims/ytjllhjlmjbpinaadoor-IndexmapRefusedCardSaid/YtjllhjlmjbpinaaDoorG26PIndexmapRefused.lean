/- Walks: the law IndexmapRefused. -/
import Derived.Test.YtjllhjlmjbpinaaDoorG25PIndexmapRefused
import Derived.Test.YtjllhjlmjbpinaaDoorG13PIndexmapRefused
import Derived.Deep.Cut
import Derived.IntWalk
set_option linter.unusedVariables false
set_option linter.unusedSimpArgs false
namespace Go.Proofs.YtjllhjlmjbpinaaDoor
open Go.RowKit

set_option maxRecDepth 100000
set_option linter.unusedVariables false
set_option maxHeartbeats 6400000

theorem clean_err {w : World} {p : Option Addr} {c : Int} (ho : ∀ W, Ext w W → Calls Tryd.prog 20 #[.pointer p] W fun e w' => e = .returned (.int .i64 c) ∧ W = w') (hc : c ≠ 0) (nx ck sd : Int) (ao : Option Addr) (n cap : Nat) :
    Calls Tryd.prog 13 #[.pointer p, .agg #[.int .i64 nx, .int .i64 ck, .int .u64 sd, .slice ao n cap]] w fun e w' => e = .returned (.int .i64 c) ∧ Ext w w' := by
  have HO := Lib.hid ho
  have hb1 : (c != 0) = true := by simpa using hc
  clear ho hc
  go_enter Tryd.func13, Tryd.ntmps13
  go_wp2_with fail
  refine (HO.out _ (ext_a1 _ _)).mono ?_
  rintro e w' ⟨rfl, rfl⟩
  go_wp2_with fail
  go_ret
  exact ⟨rfl, ext_a1 _ _⟩

/-- 'same' -/
theorem nsame_c {w : World} {a b : Option Addr} {n m ca cb : Nat} {xs ys : List (List UInt8)} (hx : Strs w a n ca xs) (hy : Strs w b m cb ys) :
    Calls Tryd.prog 10 #[.slice a n ca, .slice b m cb] w fun e w' => e = .returned (.bool (decide (xs = ys))) ∧ Ext w w' := by
  by_cases hl : n = m
  case neg =>
    have HM : Hid (decide (xs = ys) = false) := Lib.hid (by rw [decide_eq_false_iff_not]; intro e; apply hl; rw [← hx.len, ← hy.len, e])
    have hn1 : n ≤ 9223372036854775807 := Nat.le_trans hx.fits hx.bound
    have hm1 : m ≤ 9223372036854775807 := Nat.le_trans hy.fits hy.bound
    have hnz : ¬ (n : Int) = (m : Int) := by omega
    have hne : ((n : Int) == (m : Int)) = false := by simp [hnz]
    have hne' : ((n : Int) != (m : Int)) = true := by simp [hnz]
    clear hnz
    clear hx hy hl
    go_enter Tryd.func10, Tryd.ntmps10
    go_wp2_with fail
    go_ret
    rw [HM.out]
    exact ⟨rfl, Ext.refl _⟩
  case pos =>
    subst hl
    have HX := Lib.hid hx; have HY := Lib.hid hy
    have hn1 : n ≤ 9223372036854775807 := Nat.le_trans hx.fits hx.bound
    have HLx := Lib.hid hx.len; have HLy := Lib.hid hy.len
    clear hx hy
    go_enter Tryd.func10, Tryd.ntmps10
    go_wp2_with fail
    go_loopw [5] (fun i wr => ∃ k : Nat, k ≤ n ∧ i = .int .i64 k ∧ xs.take k = ys.take k ∧ Ext w wr) (fun i _ => n - (intOf i).toNat)
    case atStart => exact ⟨0, Nat.zero_le _, rfl, by simp, Ext.refl _⟩
    case round =>
      obtain ⟨k, hk, rfl, he, hb⟩ := hrel
      have HE := Lib.hid he; have HB := Lib.hid hb
      by_cases hlt : k < n
      · obtain ⟨b1, o1, rfl, hc1⟩ := (HX.out.ext hb).at sN hlt
        obtain ⟨b2, o2, rfl, hc2⟩ := (HY.out.ext hb).at sN hlt
        have HT1 := Lib.hid (take_succ_getD xs sN k (by rw [HLx.out]; exact hlt))
        have HT2 := Lib.hid (take_succ_getD ys sN k (by rw [HLy.out]; exact hlt))
        obtain ⟨x, hx⟩ : ∃ x, xs.getD k sN = x := ⟨_, rfl⟩
        obtain ⟨y, hy⟩ : ∃ y, ys.getD k sN = y := ⟨_, rfl⟩
        rw [hx] at hc1 HT1
        rw [hy] at hc2 HT2
        have Hx := Lib.hid hx; have Hy := Lib.hid hy
        clear hx hy he hb
        by_cases hxy : x = y
        · subst hxy
          go_wp2_with fail
          go_quiet (fail)
          go_wp2_with fail
          go_roundw
          case rel => exact ⟨k + 1, by omega, by go_num, by rw [HT1.out, HT2.out, HE.out], HB.out.drewN _⟩
          case measure => simp [intOf]; omega
        · have HM : Hid (decide (xs = ys) = false) := Lib.hid (by rw [decide_eq_false_iff_not]; intro e; apply hxy; rw [← Hx.out, ← Hy.out, e])
          have hne : (x == y) = false := by simpa using hxy
          have hne' : (x != y) = true := by simpa using hxy
          go_wp2_with fail
          go_quiet (fail)
          go_wp2_with fail
          go_ret
          rw [HM.out]
          exact ⟨rfl, HB.out.drewN _⟩
      · have HM : Hid (decide (xs = ys) = true) := Lib.hid (by
          rw [decide_eq_true_eq]
          have e1 := he
          rw [List.take_of_length_le (by rw [HLx.out]; omega), List.take_of_length_le (by rw [HLy.out]; omega)] at e1
          exact e1)
        clear he hb
        go_wp2_with fail
        go_ret
        rw [HM.out]
        exact ⟨rfl, HB.out⟩

/-- what Swap tells on a disk without files -/
def FreshR (v : Bool) (S : List UInt8) (r : Int) (f c : Int) (σ : DM) : Prop :=
  (v = false ∧ f = 2 ∧ c = 2 ∧ σ = newM (6000 + r)) ∨ (v = true ∧ f = 0 ∧ (S.length : Int) ≤ r ∧ c = 0 ∧ σ = one ⟨mapN, S, S.length⟩ (6000 + r) 0 0 false) ∨ (v = true ∧ f = 0 ∧ ¬ (S.length : Int) ≤ r ∧ c = 60 ∧ σ = newM (6000 + r))
theorem fresh_r (v : Bool) (S : List UInt8) (r : Int) {x : Int × DM} (hx : swapM (newM (6000 + r)) S (if v then 0 else 2) = x) : FreshR v S r (if v then 0 else 2) x.1 x.2 := by
  subst hx
  cases v with
  | false => exact .inl ⟨rfl, rfl, rfl, rfl⟩
  | true =>
    by_cases h : (S.length : Int) ≤ r
    · refine .inr (.inl ⟨rfl, rfl, h, ?_⟩)
      rw [show (if true = true then (0 : Int) else 2) = 0 from rfl, swap_fresh S (by omega)]
      exact ⟨rfl, rfl⟩
    · refine .inr (.inr ⟨rfl, rfl, h, ?_⟩)
      rw [show (if true = true then (0 : Int) else 2) = 0 from rfl, swap_full S (by omega)]
      exact ⟨rfl, rfl⟩
theorem FreshR.up {v : Bool} {S : List UInt8} {r f c : Int} {σ : DM} (h : FreshR v S r f c σ) : σ.down = false := by
  rcases h with ⟨_, _, _, rfl⟩ | ⟨_, _, _, _, rfl⟩ | ⟨_, _, _, _, rfl⟩ <;> rfl
theorem great_flat (L : List (List Int)) (h : greatB L = false) : L.flatten.length ≤ 600 := by
  unfold greatB at h
  rw [Bool.or_eq_false_iff] at h
  have h1 : L.length ≤ 10 := by have := of_decide_eq_false h.2; omega
  have h2 : ∀ r ∈ L, r.length ≤ 60 := by
    intro r hr
    have := h.1
    rw [List.any_eq_false] at this
    have := this r hr
    simpa using this
  have : ∀ M : List (List Int), (∀ r ∈ M, r.length ≤ 60) → M.flatten.length ≤ 60 * M.length := by
    intro M
    induction M with
    | nil => intro _; simp
    | cons r M ih =>
      intro h
      have a1 := h r (by simp)
      have a2 := ih fun r hr => h r (by simp [hr])
      rw [List.flatten_cons, List.length_append, List.length_cons]
      omega
  have := this L h2
  omega
theorem put_zero : ∃ S : List UInt8, mputS 0 0 0 [] = (S, 0) ∧ S.length ≤ 300 := by
  have h : mvalid 0 0 [] = true := by decide
  exact ⟨_, by unfold mputS; rw [if_pos h], man_le 0 h⟩

theorem lit_str (w : World) (s : List UInt8) : Strs (w.alloc (.cells #[.string ⟨s.toArray⟩] 9)) (some ⟨w.heap.size, 0, none⟩) 1 1 [s] := ⟨rfl, Nat.le_refl _, by omega, (fun h => by cases h), Rd.lit w #[.string ⟨s.toArray⟩] 9⟩
theorem names_nil {w : World} {p : Option Addr} (h : NoD w p) : ∀ W, Ext w W → Calls Tryd.prog 9 #[.pointer p] W (RetS W []) := fun W hW => by
  refine (names_no W p (h.ext hW)).mono ?_
  rintro e w' ⟨rfl, rfl⟩
  exact ⟨none, 0, rfl, Own.nil _ _ _ _, Ext.refl _⟩

theorem refused_c (nx ck sd : Int) (ao : Option Addr) (n cap : Nat) (L : List (List Int)) (room : Int) (w : World)
    (hx : Grid w ao n cap L) (hwf : ∀ x ∈ L.flatten, (Lit.int .i64 x).wf = true) (hs0 : 0 ≤ sd) (hs1 : sd < 18446744073709551616) (hr0 : 0 ≤ room) (hr1 : room ≤ 65535) :
    Calls Tryd.prog 3 #[.agg #[.int .i64 nx, .int .i64 ck, .int .u64 sd, .slice ao n cap], .int .u16 room] w fun e w' => e = .returned (.bool true) ∧ Ext w w' := by
  have Hx := Lib.hid hx; have HWF := Lib.hid hwf; have S0 := Lib.hid hs0; have S1 := Lib.hid hs1
  clear hx hwf hs0 hs1
  obtain ⟨W0, hW0⟩ : ∃ W, w.alloc (.cells #[.int .i64 nx, .int .i64 ck, .int .u64 sd, .slice ao n cap] 25) = W := ⟨_, rfl⟩
  have HE0 : Hid (Ext w W0) := Lib.hid (by rw [← hW0]; exact ext_a1 w _)
  have HC : Hid (∀ W, Ext W0 W → (W.cell? ⟨w.heap.size, 0, none⟩ = some (.int .i64 nx) ∧ W.cell? ⟨w.heap.size, 1, none⟩ = some (.int .i64 ck) ∧ W.cell? ⟨w.heap.size, 2, none⟩ = some (.int .u64 sd) ∧ W.cell? ⟨w.heap.size, 3, none⟩ = some (.slice ao n cap))) := Lib.hid fun W hW => by
    rw [← hW0] at hW
    have h1 := (Blk.new w 25 #[.int .i64 nx, .int .i64 ck, .int .u64 sd, .slice ao n cap]).ext hW
    exact ⟨h1.cell 0, h1.cell 1, h1.cell 2, h1.cell 3⟩
  obtain ⟨a0, a1, a2, a3⟩ := HC.out W0 (Ext.refl _)
  go_enter Tryd.func3, Tryd.ntmps3
  go_wp2_with fail
  try rw [hW0]
  have HW0 := Lib.hid hW0
  clear hW0
  refine (great_c _ _ _ L _ (Hx.out.ext HE0.out)).mono ?_
  rintro e w1 ⟨rfl, hb1⟩
  have HB1 := Lib.hid hb1; clear hb1
  obtain ⟨a0, a1, a2, a3⟩ := HC.out w1 HB1.out
  by_cases hgr : greatB L = true
  · go_wp2_with fail
    refine (mapped_c _).mono ?_
    rintro e w' ⟨rfl, hx⟩
    have HX := Lib.hid ((HE0.out.trans HB1.out).trans hx)
    clear hx
    go_wp2_with fail
    go_ret
    exact ⟨rfl, HX.out⟩
  have hgr' : greatB L = false := by simpa using hgr
  have HFl : Hid (L.flatten.length ≤ 600) := Lib.hid (great_flat L hgr')
  clear hgr
  obtain ⟨r, hr⟩ : ∃ r, room % 600 = r := ⟨_, rfl⟩
  have hr2 : 0 ≤ r := by omega
  have hr3 : r ≤ 599 := by omega
  have htm : Int.tmod room 600 = r := by rw [Int.tmod_eq_emod_of_nonneg hr0]; exact hr
  have hw1 : IntKind.i64.wrap (6000 + r) = 6000 + r := IntWalk.i64_in _ (by omega)
  have HR := Lib.hid hr
  clear hr
  go_wp2_with fail
  refine (KD.new W0 (6000 + r) (by omega) (by omega) HB1.out).mono ?_
  rintro e w3 ⟨g, rfl, hkd⟩
  have HK := Lib.hid hkd
  clear hkd
  obtain ⟨a0, a1, a2, a3⟩ := HC.out w3 HK.out.base
  obtain ⟨v, hv⟩ : ∃ v, mvalid nx ck L = v := ⟨_, rfl⟩
  obtain ⟨S, hS⟩ : ∃ S, (mputS nx ck sd L).1 = S := ⟨_, rfl⟩
  have HP : Hid (mputS nx ck sd L = (S, if v then 0 else 2)) := Lib.hid (by rw [← hS, ← hv]; unfold mputS; split <;> rename_i h <;> simp_all)
  have HSl : Hid ((S.length : Int) ≤ 300) := Lib.hid (by
    rw [← hS]; unfold mputS; split
    · rename_i h; have := man_le sd h; show ((sealS (manBody nx ck sd L)).length : Int) ≤ 300; omega
    · show (([] : List UInt8).length : Int) ≤ 300; decide)
  obtain ⟨x, hx⟩ : ∃ x, swapM (newM (6000 + r)) S (if v then 0 else 2) = x := ⟨_, rfl⟩
  have HFr := Lib.hid (fresh_r v S r hx)
  have HSw := Lib.hid hx
  obtain ⟨f, hf⟩ : ∃ f : Int, (if v then (0 : Int) else 2) = f := ⟨_, rfl⟩
  rw [hf] at HP HFr HSw
  obtain ⟨c, σ1⟩ := x
  clear hv hS hx hf
  go_wp2_with fail
  refine (mput_c nx ck sd _ _ _ L _ (Hx.out.ext (HE0.out.trans HK.out.base)) (by have := HFl.out; omega) HWF.out S0.out S1.out).mono ?_
  rw [HP.out]
  rintro e w4 ⟨rfl, hx⟩
  have HK := Lib.hid (HK.out.ext hx)
  clear hx
  obtain ⟨a0, a1, a2, a3⟩ := HC.out w4 HK.out.base
  go_wp2_with fail
  obtain ⟨F, hd0, hF, hx⟩ := HK.out
  refine (swap_c hd0 (Hx.out.ext (HE0.out.trans hx)) (by have := HFl.out; omega) HWF.out S0.out S1.out HP.out (by have := HSl.out; omega)).mono ?_
  rw [HSw.out]
  rintro e w5 ⟨rfl, hd⟩
  have HK5 : Hid (KD W0 w5 g σ1) := Lib.hid (KD.dkS hF hx hd)
  have hsl := HSl.out
  clear hd hd0 hF hx HK HSw F a0 a1 a2 a3
  go_upto_region 6 with fail
  go_cut [72] from 15 (fun s wc => s = .bool false ∧ wc = w5)
  case first =>
    rcases HFr.out with ⟨-, rfl, rfl, -⟩ | ⟨-, rfl, h3, rfl, -⟩ | ⟨-, rfl, h3, rfl, -⟩
    all_goals
      go_wp2_with fail
      go_meet
      case rel => exact ⟨rfl, rfl⟩
  case rest =>
  obtain ⟨rfl, rfl⟩ := hcut
  go_upto_region 8 with fail
  go_cut [91] from 15 (fun s W => s = .bool false ∧ KD W0 W g σ1)
  case first =>
    have hnm := KD.names HK5.out
    rcases HFr.out with ⟨-, -, rfl, hσ⟩ | ⟨-, -, -, rfl, hσ⟩ | ⟨-, -, -, rfl, hσ⟩
    · rw [hσ, show namesM (newM (6000 + r)) = [] from rfl] at hnm
      have HNm := Lib.hid hnm
      clear hnm hσ
      go_wp2_with fail
      refine HNm.out.mono ?_
      intro e w6 hr
      obtain ⟨na, nc, rfl, -, hx⟩ := hr.s.strs
      have HK6 := Lib.hid (HK5.out.ext hx)
      clear hr hx
      go_wp2_with fail
      go_meet
      case rel => exact ⟨rfl, HK6.out⟩
    · rw [hσ, show namesM (one ⟨mapN, S, S.length⟩ (6000 + r) 0 0 false) = [mapN] from rfl] at hnm
      have HNm := Lib.hid hnm
      clear hnm hσ
      go_wp2_with fail
      refine HNm.out.mono ?_
      intro e w6 hr
      obtain ⟨na, nc, rfl, hst, hx⟩ := hr.s.strs
      have HSt := Lib.hid (hst.ext (ext_a1 w6 (.cells #[.string ⟨#[109, 97, 112]⟩] 9)))
      have HK6 := Lib.hid (HK5.out.ext (hx.trans (ext_a1 w6 (.cells #[.string ⟨#[109, 97, 112]⟩] 9))))
      clear hr hst hx
      go_wp2_with fail
      refine (nsame_c HSt.out (lit_str w6 mapN)).mono ?_
      rw [decide_eq_true rfl]
      rintro e w7 ⟨rfl, hx⟩
      have HK7 := Lib.hid (HK6.out.ext hx)
      clear hx
      go_wp2_with fail
      go_meet
      case rel => exact ⟨rfl, HK7.out⟩
    · rw [hσ, show namesM (newM (6000 + r)) = [] from rfl] at hnm
      have HNm := Lib.hid hnm
      clear hnm hσ
      go_wp2_with fail
      refine HNm.out.mono ?_
      intro e w6 hr
      obtain ⟨na, nc, rfl, -, hx⟩ := hr.s.strs
      have HK6 := Lib.hid (HK5.out.ext hx)
      clear hr hx
      go_wp2_with fail
      go_meet
      case rel => exact ⟨rfl, HK6.out⟩
  case rest =>
  obtain ⟨rfl, hk6⟩ := hcut
  have HK := Lib.hid hk6
  have hup := HFr.out.up
  have HCr : Hid (crashD σ1 [] = (0, crashM σ1 [])) := Lib.hid (by unfold crashD; rw [if_neg (by rw [hup]; decide)])
  obtain ⟨σ2, hσ2⟩ : ∃ τ, crashM σ1 [] = τ := ⟨_, rfl⟩
  have HDn : Hid (σ2.down = true) := Lib.hid (by rw [← hσ2]; rfl)
  rw [hσ2] at HCr
  obtain ⟨Z, hZ, hZl⟩ := put_zero
  have HZ := Lib.hid hZ
  have HZl := Lib.hid hZl
  have HSw : Hid (swapM σ2 Z 0 = (61, σ2)) := Lib.hid (by unfold swapM; rw [if_neg (by decide), if_pos HDn.out])
  have HOv : Hid (overM σ2 = 61) := Lib.hid (by unfold overM; rw [if_pos HDn.out])
  clear hk6 hup hσ2 hZ hZl HK5 HFr HP HSl hsl Hx HWF S0 S1 HC
  go_wp2_with fail
  refine (KD.crash0 HK.out HCr.out).mono ?_
  rintro e w7 ⟨rfl, hk⟩
  obtain ⟨F, hd7, hF7, hx7⟩ := hk
  have HLt : Hid (∀ i, F i → i < w7.heap.size) := Lib.hid (by obtain ⟨_, _, _, _, _, _, h⟩ := hd7; exact h)
  have HD7 := Lib.hid hd7; have HF7 := Lib.hid hF7; have HX7 := Lib.hid hx7
  clear hd7 hF7 hx7 HK
  go_wp2_with fail
  refine (load_down HD7.out HDn.out).mono ?_
  rintro e w8 ⟨xa, xc, rfl, hx⟩
  have HXa := Lib.hid (hx.trans (ext_a1 w8 (.cells #[.int .i64 0, .int .i64 0, .int .u64 0, .slice xa 0 xc] 25)))
  clear hx
  go_wp2_with fail
  refine (load_no (.inl rfl)).mono ?_
  rintro e w9 ⟨ya, yc, rfl, hx⟩
  have hbx := Blk.new (w9.alloc (.cells #[.int .i64 0, .int .i64 0, .int .u64 0, .slice ya 0 yc] 25)) 25 #[.int .i64 0, .int .i64 0, .int .u64 0, .slice none 0 0]
  rw [World.size_alloc] at hbx
  have d0 := hbx.cell 0; have d1 := hbx.cell 1; have d2 := hbx.cell 2; have d3 := hbx.cell 3
  have HBx := Lib.hid hbx
  have HXc := Lib.hid (HXa.out.trans hx)
  clear hx hbx
  go_wp2_with fail
  clear d0 d1 d2 d3
  obtain ⟨WB, hWB⟩ : ∃ W, (w9.alloc (.cells #[.int .i64 0, .int .i64 0, .int .u64 0, .slice ya 0 yc] 25)).alloc (.cells #[.int .i64 0, .int .i64 0, .int .u64 0, .slice none 0 0] 25) = W := ⟨_, rfl⟩
  have HXb : Hid (Ext w7 WB) := Lib.hid (by rw [← hWB]; exact HXc.out.trans (ext_a2 _ _ _))
  have HSz : Hid (w7.heap.size ≤ w9.heap.size) := Lib.hid HXc.out.size
  rw [hWB] at HBx ⊢
  clear hWB
  refine (swap_c (HD7.out.ext HXb.out) (Grid.empty _) (by simp) (by simp) (by decide) (by decide) HZ.out (by have := HZl.out; omega)).mono ?_
  rw [HSw.out]
  rintro e w10 ⟨rfl, hd⟩
  have HBx := Lib.hid (hd.off.blk HBx.out fun hf => by have h1 := HLt.out _ hf; have h2 := HSz.out; omega)
  have HD := Lib.hid hd.dk
  have HE := Lib.hid (hd.off.ext (HX7.out.trans HXb.out) HF7.out)
  have d0 := HBx.out.cell 0; have d1 := HBx.out.cell 1; have d2 := HBx.out.cell 2; have d3 := HBx.out.cell 3
  clear hd
  go_wp2_with fail
  refine (clean_err (w := w10) (c := 61) (fun W hW => by have h := over_c (HD.out.ext hW); rwa [HOv.out] at h) (by decide) _ _ _ _ _ _).mono ?_
  rintro e w11 ⟨rfl, hx⟩
  have HBx := Lib.hid (HBx.out.ext hx)
  have HE := Lib.hid (HE.out.trans hx)
  have d0 := HBx.out.cell 0; have d1 := HBx.out.cell 1; have d2 := HBx.out.cell 2; have d3 := HBx.out.cell 3
  clear hx
  go_wp2_with fail
  refine (swap_no (.inl rfl) (Grid.empty _) (by simp) (by simp) (by decide) (by decide)).mono ?_
  rintro e w12 ⟨rfl, hx⟩
  have HBx := Lib.hid (HBx.out.ext hx)
  have HE := Lib.hid (HE.out.trans hx)
  have d0 := HBx.out.cell 0; have d1 := HBx.out.cell 1; have d2 := HBx.out.cell 2; have d3 := HBx.out.cell 3
  clear hx
  go_wp2_with fail
  refine (clean_err (w := w12) (c := 1) (fun W hW => over_no (.inl rfl)) (by decide) _ _ _ _ _ _).mono ?_
  rintro e w13 ⟨rfl, hx⟩
  have HBx := Lib.hid (HBx.out.ext hx)
  have HE := Lib.hid (HE.out.trans hx)
  have d0 := HBx.out.cell 0; have d1 := HBx.out.cell 1; have d2 := HBx.out.cell 2; have d3 := HBx.out.cell 3
  clear hx
  go_wp2_with fail
  refine (orphans_c (w := w13) (N := []) (names_nil (.inl rfl)) (by simp) (by simp) (Grid.empty _) (by simp)).mono ?_
  rw [show ([] : List (List UInt8)).filter (orphB ([] : List (List Int)).flatten) = [] from rfl]
  intro e w14 hr
  obtain ⟨oa, oc, rfl, -, hx⟩ := hr
  have HE := Lib.hid (HE.out.trans hx)
  clear hx d0 d1 d2 d3
  go_wp2_with fail
  refine (mapped_c _).mono ?_
  rintro e w' ⟨rfl, hx⟩
  have HE := Lib.hid ((HE0.out.trans HE.out).trans hx)
  clear hx
  go_wp2_with fail
  go_ret
  exact ⟨rfl, HE.out⟩

end Go.Proofs.YtjllhjlmjbpinaaDoor
