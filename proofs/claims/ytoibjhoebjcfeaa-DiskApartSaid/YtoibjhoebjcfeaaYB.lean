/- Walks: the law DiskApart. -/
import Derived.Test.YtoibjhoebjcfeaaYA
import Derived.Test.YtoibjhoebjcfeaaZX
namespace Go.Proofs.Ytoibjhoebjcfeaa
open Go.RowKit

/-- a disk of two files, of which one is sure -/
def twoN (nm B D : List UInt8) (sy : Nat) (r s : Int) (dn : Bool) : DM := ⟨1048576, [⟨nm, D, sy⟩, ⟨[111, 116, 104, 101, 114], B, B.length⟩], r, s, dn, false, 0, []⟩
abbrev two (B D : List UInt8) (sy : Nat) (r s : Int) (dn : Bool) : DM := twoN [102] B D sy r s dn

theorem two_find (B D : List UInt8) (sy : Nat) (r s : Int) (dn : Bool) : findN FM.nm [102] (two B D sy r s dn).L = some ⟨[102], D, sy⟩ := rfl
theorem two_upd (B D : List UInt8) (sy : Nat) (f : FM → FM) : updN FM.nm [102] f [⟨[102], D, sy⟩, ⟨[111, 116, 104, 101, 114], B, B.length⟩] = [f ⟨[102], D, sy⟩, ⟨[111, 116, 104, 101, 114], B, B.length⟩] := rfl
theorem two_append (B D t : List UInt8) (sy : Nat) (r s : Int) : ∃ c D', appendM (two B D sy r s false) [102] t = (c, two B D' sy r s false) := by
  unfold appendM
  rw [if_neg (show ¬ ((two B D sy r s false).down = true) from (by intro h; cases h)), two_find, if_neg (by simp)]
  split
  · exact ⟨60, D, rfl⟩
  · exact ⟨0, D ++ t, rfl⟩
theorem two_sync (B D : List UInt8) (sy : Nat) (r s : Int) : syncM (two B D sy r s false) [102] = (0, two B D D.length r s false) := rfl
theorem two_spoil (B D t : List UInt8) (sy : Nat) (r s a : Int) : ∃ c D', spoilM (two B D sy r s false) [102] a t = (c, two B D' sy r s false) := by
  unfold spoilM
  rw [two_find, if_neg (by simp)]
  split
  · exact ⟨2, D, rfl⟩
  · exact ⟨0, overB D t a.toNat, rfl⟩
theorem two_cut (B D : List UInt8) (sy : Nat) (r s n : Int) : ∃ c D' sy', cutM (two B D sy r s false) [102] n = (c, two B D' sy' r s false) := by
  unfold cutM
  rw [two_find, if_neg (by simp)]
  split
  · exact ⟨2, D, sy, rfl⟩
  · exact ⟨0, D.take n.toNat, min sy (min n.toNat D.length), rfl⟩
theorem crashF_full (B nm : List UInt8) (x : Int) : crashF ⟨nm, B, B.length⟩ x = ⟨nm, B, B.length⟩ := by
  show FM.mk nm (B.take (B.length + min (max x 0).toNat (B.length - B.length))) (B.length + min (max x 0).toNat (B.length - B.length)) = _
  simp
theorem two_crash (B D : List UInt8) (sy : Nat) (r s : Int) (ks : List Int) : ∃ c D' sy', crashD (two B D sy r s false) ks = (c, two B D' sy' r s true) := by
  refine ⟨0, (crashF ⟨[102], D, sy⟩ (ks.headD 0)).da, (crashF ⟨[102], D, sy⟩ (ks.headD 0)).sy, ?_⟩
  show ((0 : Int), crashM (two B D sy r s false) ks) = _
  unfold crashM two twoN crashL crashL crashL
  rw [crashF_full]
  rfl
theorem two_start (B D : List UInt8) (sy : Nat) (r s : Int) : startM (two B D sy r s true) = (0, two B D sy r (wrap64 (s + 1)) false) := rfl
theorem two_ren (B D : List UInt8) (sy : Nat) (r s : Int) : renameM (two B D sy r s false) [102] [103] = (0, twoN [103] B D sy r s false) := rfl
theorem two_back (B D : List UInt8) (sy : Nat) (r s : Int) : renameM (twoN [103] B D sy r s false) [103] [102] = (0, two B D sy r s false) := rfl
theorem two_read (B D : List UInt8) (sy : Nat) (r s a n : Int) : ∃ t c, readM (two B D sy r s false) [102] a n = (t, c, two B D sy (wrap64 (r + 1)) s false) := by
  unfold readM
  rw [if_neg (show ¬ ((two B D sy r s false).down = true) from (by intro h; cases h)), two_find]
  simp only
  split
  · exact ⟨_, 0, rfl⟩
  · exact ⟨_, 2, rfl⟩
theorem two_readO (B D : List UInt8) (sy : Nat) (r s : Int) : readM (two B D sy r s false) [111, 116, 104, 101, 114] 0 (B.length : Int) = (B, 0, two B D sy (wrap64 (r + 1)) s false) := by
  unfold readM
  rw [if_neg (show ¬ ((two B D sy r s false).down = true) from (by intro h; cases h)), show findN FM.nm [111, 116, 104, 101, 114] (two B D sy r s false).L = some ⟨[111, 116, 104, 101, 114], B, B.length⟩ from rfl]
  simp only
  rw [if_pos (by omega)]
  simp [tellM, two, twoN]
theorem two_create (B : List UInt8) : createM (one ⟨[111, 116, 104, 101, 114], B, B.length⟩ 1048576 0 0 false) [102] = (0, two B [] 0 0 0 false) := rfl

theorem KD.readKeep {w0 w1 w2 : World} {g : Nat} {σ σ' : DM} (h : KD w0 w1 g σ) (hx : Ext w1 w2) (nm : List UInt8) (a n : Int) (hl : nm.length ≤ 9223372036854775807) (ha0 : -9223372036854775808 ≤ a) (ha1 : a ≤ 9223372036854775807) (hn0 : -9223372036854775808 ≤ n) (hn1 : n ≤ 9223372036854775807) {s : List UInt8} {c : Int} (hm : readM σ nm a n = (s, c, σ')) :
    Calls Try.prog 19 #[.pointer (some ⟨g, 0, none⟩), .string ⟨nm.toArray⟩, .int .i64 a, .int .i64 n] w2 fun e w' => e = .returned (.tuple #[.string ⟨s.toArray⟩, .int .i64 c]) ∧ KD w0 w' g σ' ∧ ∀ i, w1.heap.size ≤ i → i < w2.heap.size → w'.heap[i]? = w2.heap[i]? := by
  obtain ⟨F, h1, h2, h3⟩ := h
  have hlt : ∀ i, F i → i < w1.heap.size := by obtain ⟨_, _, _, _, _, _, h⟩ := h1; exact h
  refine (read_c (h1.ext hx) nm a n hl ha0 ha1 hn0 hn1).mono ?_
  rw [hm]
  rintro e w' ⟨rfl, h⟩
  exact ⟨rfl, KD.dkS h2 (h3.trans hx) h, fun i hi hl => h.off.block i hl fun hf => by have := hlt i hf; omega⟩

theorem KD.crash {w0 w : World} {g : Nat} {σ σ' : DM} (h : KD w0 w g σ) {ka : Option Addr} {kn kc : Nat} {ks : List Int} (hk : Ints w0 ka kn kc ks) {c : Int} (hm : crashD σ ks = (c, σ')) :
    Calls Try.prog 16 #[.pointer (some ⟨g, 0, none⟩), .slice ka kn kc] w fun e w' => e = .returned (.int .i64 c) ∧ KD w0 w' g σ' := by
  obtain ⟨F, h1, h2, h3⟩ := h
  refine (crashD_c h1 ka kn kc ks fun W hW => hk.ext (hW.ext h3 h2)).mono ?_
  rw [hm]
  rintro e w' ⟨rfl, h⟩
  exact ⟨rfl, KD.dkS h2 h3 h⟩

set_option maxRecDepth 100000
set_option linter.unusedVariables false
set_option maxHeartbeats 6400000

theorem apartlaw_c {ao : Option Addr} {n cap : Nat} {A : List ActM} (B : List UInt8) (w : World) (hA : Acts w ao n cap A) (hB : B.length ≤ 9223372036854775807) :
    Calls Try.prog 4 #[.slice ao n cap, .string ⟨B.toArray⟩] w fun e w' => e = .returned (.bool true) ∧ Ext w w' := by
  have HA := Lib.hid hA
  have hn1 : n ≤ 9223372036854775807 := Nat.le_trans hA.fits hA.bound
  have HAl := Lib.hid hA.len
  have HG := Lib.hid (greatA_c hA 60 (by decide))
  clear hA
  cases hg : greatA A 60 with
  | true =>
    rw [hg] at HG
    clear hg
    go_enter Try.func4, Try.ntmps4
    go_wp2_with fail
    refine HG.out.mono ?_
    rintro e w' ⟨rfl, rfl⟩
    go_wp2_with fail
    refine (sinks_c _).mono ?_
    rintro e w' ⟨rfl, hx⟩
    have HX := Lib.hid hx
    clear hx
    go_wp2_with fail
    go_ret
    exact ⟨rfl, HX.out⟩
  | false =>
    rw [hg] at HG
    clear hg
    by_cases hb : 1000 < (B.length : Int)
    · go_enter Try.func4, Try.ntmps4
      go_wp2_with fail
      refine HG.out.mono ?_
      rintro e w' ⟨rfl, rfl⟩
      go_wp2_with fail
      refine (sinks_c _).mono ?_
      rintro e w' ⟨rfl, hx⟩
      have HX := Lib.hid hx
      clear hx
      go_wp2_with fail
      go_ret
      exact ⟨rfl, HX.out⟩
    have hb1 : (B.length : Int) ≤ 1000 := by omega
    clear hb hB
    go_enter Try.func4, Try.ntmps4
    go_wp2_with fail
    refine HG.out.mono ?_
    rintro e w' ⟨rfl, rfl⟩
    go_wp2_with fail
    refine (KD.new w 1048576 (by decide) (by decide) (Ext.refl _)).mono ?_
    rintro e w' ⟨g, rfl, hk⟩
    have HK := Lib.hid hk
    clear hk
    go_wp2_with fail
    refine (KD.create HK.out [111, 116, 104, 101, 114] (by decide) (c := 0) (σ' := one ⟨[111, 116, 104, 101, 114], [], 0⟩ 1048576 0 0 false) (by kernel_rfl)).mono ?_
    rintro e w' ⟨rfl, hk⟩
    have HK := Lib.hid hk
    clear hk
    go_wp2_with fail
    refine (KD.append HK.out [111, 116, 104, 101, 114] B (by decide) (by omega) (one_append rfl (by show ((0 : Nat) : Int) + _ ≤ _; omega))).mono ?_
    rintro e w' ⟨rfl, hk⟩
    have HK := Lib.hid hk
    clear hk
    go_wp2_with fail
    refine (KD.sync HK.out [111, 116, 104, 101, 114] (by decide) (one_sync rfl _ _ _)).mono ?_
    rintro e w' ⟨rfl, hk⟩
    have HK : Hid (KD w w' g (one ⟨[111, 116, 104, 101, 114], B, B.length⟩ 1048576 0 0 false)) := Lib.hid hk
    clear hk
    go_wp2_with fail
    refine (KD.create HK.out [102] (by decide) (two_create B)).mono ?_
    rintro e w' ⟨rfl, hk⟩
    have HK := Lib.hid hk
    clear hk
    go_wp2_with fail
    go_loopw [7] (fun i wr => ∃ (k : Nat) (D : List UInt8) (sy : Nat) (r s : Int), k ≤ n ∧ i = .int .i64 k ∧ KD w wr g (two B D sy r s false)) (fun i _ => n - (intOf i).toNat)
    case atStart => exact ⟨0, [], 0, 0, 0, Nat.zero_le _, rfl, HK.out⟩
    case round =>
      obtain ⟨k, D, sy, r, s, hk, rfl, hkd⟩ := hrel
      have HK := Lib.hid hkd
      clear hkd
      by_cases hlt : k < n
      case neg =>
        go_wp2_with fail
        refine (sinks_c _).mono ?_
        rintro e w' ⟨rfl, hx⟩
        have HX := Lib.hid (HK.out.base.trans hx)
        clear hx
        go_wp2_with fail
        go_ret
        exact ⟨rfl, HX.out⟩
      have hkA : k < A.length := by rw [HAl.out]; exact hlt
      obtain ⟨bb, off, rfl, hc⟩ := (HA.out.ext HK.out.base).cell k hkA
      have hok := HA.out.ok _ (List.getElem_mem hkA)
      obtain ⟨⟨kd, nm, tt, tx, at_, nn, ka, kn, kc, ks⟩, hx⟩ : ∃ x, A[k] = x := ⟨_, rfl⟩
      rw [hx] at hc hok
      have HOk := Lib.hid hok
      have d0 : wr.cell? ⟨bb, off + k * 7, none⟩ = some (.int .u8 kd) := hc 0 _ rfl
      have d1 : wr.cell? ⟨bb, off + k * 7 + 1, none⟩ = some (.string ⟨nm.toArray⟩) := by rw [Nat.add_assoc]; exact hc 1 _ rfl
      have d2 : wr.cell? ⟨bb, off + k * 7 + 2, none⟩ = some (.string ⟨tt.toArray⟩) := by rw [Nat.add_assoc]; exact hc 2 _ rfl
      have d3 : wr.cell? ⟨bb, off + k * 7 + 3, none⟩ = some (.string ⟨tx.toArray⟩) := by rw [Nat.add_assoc]; exact hc 3 _ rfl
      have d4 : wr.cell? ⟨bb, off + k * 7 + 4, none⟩ = some (.int .i64 at_) := by rw [Nat.add_assoc]; exact hc 4 _ rfl
      have d5 : wr.cell? ⟨bb, off + k * 7 + 5, none⟩ = some (.int .i64 nn) := by rw [Nat.add_assoc]; exact hc 5 _ rfl
      have d6 : wr.cell? ⟨bb, off + k * 7 + 6, none⟩ = some (.slice ka kn kc) := by rw [Nat.add_assoc]; exact hc 6 _ rfl
      have m0 : 0 ≤ kd := hok.kd0
      have m1 : kd ≤ 255 := hok.kd1
      have m2 : tx.length ≤ 9223372036854775807 := hok.tx
      have m3 : -9223372036854775808 ≤ at_ := hok.at0
      have m4 : at_ ≤ 9223372036854775807 := hok.at1
      have m5 : -9223372036854775808 ≤ nn := hok.n0
      have m6 : nn ≤ 9223372036854775807 := hok.n1
      clear hc hok hx hkA
      have HK1 := Lib.hid (HK.out.ext (ext_a1 wr (.cells #[.int .u8 kd, .string ⟨nm.toArray⟩, .string ⟨tt.toArray⟩, .string ⟨tx.toArray⟩, .int .i64 at_, .int .i64 nn, .slice ka kn kc] 42)))
      have h7 : kd % 7 = 0 ∨ kd % 7 = 1 ∨ kd % 7 = 2 ∨ kd % 7 = 3 ∨ kd % 7 = 4 ∨ kd % 7 = 5 ∨ kd % 7 = 6 := by omega
      rcases h7 with h7 | h7 | h7 | h7 | h7 | h7 | h7
      · obtain ⟨c, D', hm⟩ := two_append B D tx sy r s
        have Hm := Lib.hid hm
        clear hm
        go_wp2_with fail
        refine (KD.append HK1.out [102] tx (by decide) m2 Hm.out).mono ?_
        rintro e w' ⟨rfl, hk⟩
        have HK := Lib.hid hk
        clear hk
        go_wp2_with fail
        refine (KD.read HK.out [111, 116, 104, 101, 114] 0 (B.length : Int) (by decide) (by decide) (by decide) (by omega) (by omega) (two_readO _ _ _ _ _)).mono ?_
        rintro e w' ⟨rfl, hk⟩
        have HK := Lib.hid hk
        clear hk
        go_wp2_with fail
        refine (KD.names HK.out).mono ?_
        intro e w2 hr
        obtain ⟨na, nc, rfl, hx⟩ : ∃ ao cap, e = .returned (.slice ao 2 cap) ∧ Ext _ w2 := by
          obtain ⟨ao, cap, h1, _, h3⟩ := hr.out
          exact ⟨ao, cap, h1, h3⟩
        have HK := Lib.hid (HK.out.ext hx)
        clear hr hx
        go_wp2_with fail
        go_roundw
        case rel => exact ⟨k + 1, _, _, _, _, by omega, by go_num, HK.out⟩
        case measure => simp [intOf]; omega
      · go_wp2_with fail
        refine (KD.sync HK1.out [102] (by decide) (two_sync _ _ _ _ _)).mono ?_
        rintro e w' ⟨rfl, hk⟩
        have HK := Lib.hid hk
        clear hk
        go_wp2_with fail
        refine (KD.read HK.out [111, 116, 104, 101, 114] 0 (B.length : Int) (by decide) (by decide) (by decide) (by omega) (by omega) (two_readO _ _ _ _ _)).mono ?_
        rintro e w' ⟨rfl, hk⟩
        have HK := Lib.hid hk
        clear hk
        go_wp2_with fail
        refine (KD.names HK.out).mono ?_
        intro e w2 hr
        obtain ⟨na, nc, rfl, hx⟩ : ∃ ao cap, e = .returned (.slice ao 2 cap) ∧ Ext _ w2 := by
          obtain ⟨ao, cap, h1, _, h3⟩ := hr.out
          exact ⟨ao, cap, h1, h3⟩
        have HK := Lib.hid (HK.out.ext hx)
        clear hr hx
        go_wp2_with fail
        go_roundw
        case rel => exact ⟨k + 1, _, _, _, _, by omega, by go_num, HK.out⟩
        case measure => simp [intOf]; omega
      · obtain ⟨c, D', hm⟩ := two_spoil B D tx sy r s at_
        have Hm := Lib.hid hm
        clear hm
        go_wp2_with fail
        refine (KD.spoil HK1.out [102] tx (by decide) m2 at_ m4 Hm.out).mono ?_
        rintro e w' ⟨rfl, hk⟩
        have HK := Lib.hid hk
        clear hk
        go_wp2_with fail
        refine (KD.read HK.out [111, 116, 104, 101, 114] 0 (B.length : Int) (by decide) (by decide) (by decide) (by omega) (by omega) (two_readO _ _ _ _ _)).mono ?_
        rintro e w' ⟨rfl, hk⟩
        have HK := Lib.hid hk
        clear hk
        go_wp2_with fail
        refine (KD.names HK.out).mono ?_
        intro e w2 hr
        obtain ⟨na, nc, rfl, hx⟩ : ∃ ao cap, e = .returned (.slice ao 2 cap) ∧ Ext _ w2 := by
          obtain ⟨ao, cap, h1, _, h3⟩ := hr.out
          exact ⟨ao, cap, h1, h3⟩
        have HK := Lib.hid (HK.out.ext hx)
        clear hr hx
        go_wp2_with fail
        go_roundw
        case rel => exact ⟨k + 1, _, _, _, _, by omega, by go_num, HK.out⟩
        case measure => simp [intOf]; omega
      · obtain ⟨c, D', sy', hm⟩ := two_cut B D sy r s nn
        have Hm := Lib.hid hm
        clear hm
        go_wp2_with fail
        refine (KD.cut HK1.out [102] (by decide) nn m6 Hm.out).mono ?_
        rintro e w' ⟨rfl, hk⟩
        have HK := Lib.hid hk
        clear hk
        go_wp2_with fail
        refine (KD.read HK.out [111, 116, 104, 101, 114] 0 (B.length : Int) (by decide) (by decide) (by decide) (by omega) (by omega) (two_readO _ _ _ _ _)).mono ?_
        rintro e w' ⟨rfl, hk⟩
        have HK := Lib.hid hk
        clear hk
        go_wp2_with fail
        refine (KD.names HK.out).mono ?_
        intro e w2 hr
        obtain ⟨na, nc, rfl, hx⟩ : ∃ ao cap, e = .returned (.slice ao 2 cap) ∧ Ext _ w2 := by
          obtain ⟨ao, cap, h1, _, h3⟩ := hr.out
          exact ⟨ao, cap, h1, h3⟩
        have HK := Lib.hid (HK.out.ext hx)
        clear hr hx
        go_wp2_with fail
        go_roundw
        case rel => exact ⟨k + 1, _, _, _, _, by omega, by go_num, HK.out⟩
        case measure => simp [intOf]; omega
      · obtain ⟨c, D', sy', hm⟩ := two_crash B D sy r s ks
        have Hm := Lib.hid hm
        clear hm
        go_wp2_with fail
        refine (KD.crash HK1.out HOk.out.ks Hm.out).mono ?_
        rintro e w' ⟨rfl, hk⟩
        have HK := Lib.hid hk
        clear hk
        go_wp2_with fail
        refine (KD.start HK.out (two_start _ _ _ _ _)).mono ?_
        rintro e w' ⟨rfl, hk⟩
        have HK := Lib.hid hk
        clear hk
        go_wp2_with fail
        refine (KD.read HK.out [111, 116, 104, 101, 114] 0 (B.length : Int) (by decide) (by decide) (by decide) (by omega) (by omega) (two_readO _ _ _ _ _)).mono ?_
        rintro e w' ⟨rfl, hk⟩
        have HK := Lib.hid hk
        clear hk
        go_wp2_with fail
        refine (KD.names HK.out).mono ?_
        intro e w2 hr
        obtain ⟨na, nc, rfl, hx⟩ : ∃ ao cap, e = .returned (.slice ao 2 cap) ∧ Ext _ w2 := by
          obtain ⟨ao, cap, h1, _, h3⟩ := hr.out
          exact ⟨ao, cap, h1, h3⟩
        have HK := Lib.hid (HK.out.ext hx)
        clear hr hx
        go_wp2_with fail
        go_roundw
        case rel => exact ⟨k + 1, _, _, _, _, by omega, by go_num, HK.out⟩
        case measure => simp [intOf]; omega
      · go_wp2_with fail
        refine (KD.rename HK1.out [102] [103] (by decide) (by decide) (two_ren _ _ _ _ _)).mono ?_
        rintro e w' ⟨rfl, hk⟩
        have HK := Lib.hid hk
        clear hk
        go_wp2_with fail
        refine (KD.rename HK.out [103] [102] (by decide) (by decide) (two_back _ _ _ _ _)).mono ?_
        rintro e w' ⟨rfl, hk⟩
        have HK := Lib.hid hk
        clear hk
        go_wp2_with fail
        refine (KD.read HK.out [111, 116, 104, 101, 114] 0 (B.length : Int) (by decide) (by decide) (by decide) (by omega) (by omega) (two_readO _ _ _ _ _)).mono ?_
        rintro e w' ⟨rfl, hk⟩
        have HK := Lib.hid hk
        clear hk
        go_wp2_with fail
        refine (KD.names HK.out).mono ?_
        intro e w2 hr
        obtain ⟨na, nc, rfl, hx⟩ : ∃ ao cap, e = .returned (.slice ao 2 cap) ∧ Ext _ w2 := by
          obtain ⟨ao, cap, h1, _, h3⟩ := hr.out
          exact ⟨ao, cap, h1, h3⟩
        have HK := Lib.hid (HK.out.ext hx)
        clear hr hx
        go_wp2_with fail
        go_roundw
        case rel => exact ⟨k + 1, _, _, _, _, by omega, by go_num, HK.out⟩
        case measure => simp [intOf]; omega
      · have HBx := Lib.hid (Blk.new wr 42 #[.int .u8 kd, .string ⟨nm.toArray⟩, .string ⟨tt.toArray⟩, .string ⟨tx.toArray⟩, .int .i64 at_, .int .i64 nn, .slice ka kn kc])
        obtain ⟨t, c, hm⟩ := two_read B D sy r s at_ nn
        have Hm := Lib.hid hm
        obtain ⟨fr, hfr⟩ : ∃ fr, freeM (two B D sy r s false) = fr := ⟨_, rfl⟩
        have Hfr := Lib.hid hfr
        obtain ⟨xs, hxs⟩ : ∃ xs, looseM (two B D sy r s false) = xs := ⟨_, rfl⟩
        have Hxs := Lib.hid hxs
        clear hm hfr hxs
        go_wp2_with fail
        refine (KD.free HK1.out Hfr.out).mono ?_
        rintro e w2 ⟨rfl, hx⟩
        have HK2 := Lib.hid (HK1.out.ext hx)
        have HBx := Lib.hid (HBx.out.ext hx)
        clear hx
        go_wp2_with fail
        refine (KD.loose' HK2.out Hxs.out).mono ?_
        rintro e w3 ⟨v1, rfl, hown, hx⟩
        obtain ⟨a1, c1, rfl⟩ := hown.slice
        have HOw := Lib.hid hown; have HX3 := Lib.hid hx
        have hbx := HBx.out.ext hx
        have e4 : w3.cell? ⟨wr.heap.size, 4, none⟩ = some (.int .i64 at_) := hbx.cell 4
        have e5 : w3.cell? ⟨wr.heap.size, 5, none⟩ = some (.int .i64 nn) := hbx.cell 5
        clear hown hx hbx
        go_wp2_with fail
        refine (KD.readKeep HK2.out HX3.out [102] at_ nn (by decide) m3 m4 m5 m6 Hm.out).mono ?_
        rintro e w4 ⟨rfl, hk, hkeep⟩
        have HK := Lib.hid hk
        have HOw4 := Lib.hid (HOw.out.same fun i hi => hkeep i (HOw.out.lt i hi).1 (HOw.out.lt i hi).2)
        clear hk hkeep
        go_wp2_with fail
        refine (KD.free HK.out (n := fr) Hfr.out).mono ?_
        rintro e w5 ⟨rfl, hx⟩
        have HK := Lib.hid (HK.out.ext hx)
        have HOw5 := Lib.hid (HOw4.out.ext hx)
        clear hx
        go_wp2_with fail
        refine (KD.loose' HK.out (xs := xs) Hxs.out).mono ?_
        intro e w6 hr
        obtain ⟨a2, c2, rfl, hi2, hx⟩ := hr.out
        obtain ⟨a3, c3, e9, hi1⟩ := own_ints (HOw5.out.ext hx)
        cases e9
        have HI1 := Lib.hid hi1; have HI2 := Lib.hid hi2
        have HK := Lib.hid (HK.out.ext hx)
        clear hr hx hi1 hi2
        go_wp2_with fail
        refine (eqInts_c HI2.out HI1.out).mono ?_
        rw [decide_eq_true rfl]
        rintro e w7 ⟨rfl, hx⟩
        have HK := Lib.hid (HK.out.ext hx)
        clear hx
        go_wp2_with fail
        refine (KD.read HK.out [111, 116, 104, 101, 114] 0 (B.length : Int) (by decide) (by decide) (by decide) (by omega) (by omega) (two_readO _ _ _ _ _)).mono ?_
        rintro e w' ⟨rfl, hk⟩
        have HK := Lib.hid hk
        clear hk
        go_wp2_with fail
        refine (KD.names HK.out).mono ?_
        intro e w2 hr
        obtain ⟨na, nc, rfl, hx⟩ : ∃ ao cap, e = .returned (.slice ao 2 cap) ∧ Ext _ w2 := by
          obtain ⟨ao, cap, h1, _, h3⟩ := hr.out
          exact ⟨ao, cap, h1, h3⟩
        have HK := Lib.hid (HK.out.ext hx)
        clear hr hx
        go_wp2_with fail
        go_roundw
        case rel => exact ⟨k + 1, _, _, _, _, by omega, by go_num, HK.out⟩
        case measure => simp [intOf]; omega

end Go.Proofs.Ytoibjhoebjcfeaa
