/- Walks: the law DiskNone; whether acts are more than is gone through. -/
import Derived.Test.YtmpiepkkikmpmaaG13PDiskPlays
import Derived.Test.YtmpiepkkikmpmaaG16PDiskPlays
set_option linter.unusedVariables false
set_option linter.unusedSimpArgs false
namespace Go.Proofs.Ytmpiepkkikmpmaa
open Go.RowKit

def bigA (a : ActM) : Bool := decide (100 < a.nm.length) || decide (100 < a.tt.length) || decide (3000 < a.tx.length) || decide (100 < a.kn)
def NoBig (l : List ActM) : Prop := l.any bigA = false
theorem NoBig.snoc {l : List ActM} {x : ActM} (h : NoBig l) (hx : bigA x = false) : NoBig (l ++ [x]) := by unfold NoBig at *; rw [List.any_append, h]; simp [hx]
def greatA (A : List ActM) (most : Nat) : Bool := decide (most < A.length) || A.any bigA

set_option maxRecDepth 100000
set_option linter.unusedVariables false
set_option maxHeartbeats 3200000

theorem greatA_c {w : World} {ao : Option Addr} {n cap : Nat} {A : List ActM} (h : Acts w ao n cap A) (most : Nat) (hm : most ≤ 1000) :
    Calls Try.prog 4 #[.slice ao n cap, .int .i64 (most : Int)] w fun e w' => e = .returned (.bool (greatA A most)) ∧ w = w' := by
  have hn1 : n ≤ 9223372036854775807 := Nat.le_trans h.fits h.bound
  have hAl := h.len
  have HA := Lib.hid h
  by_cases hmo : most < n
  · have HG : Hid (greatA A most = true) := Lib.hid (by unfold greatA; rw [hAl, decide_eq_true hmo]; rfl)
    have hmi : (most : Int) < (n : Int) := by omega
    clear h hAl
    go_enter Try.func4, Try.ntmps4
    go_wp2_with fail
    go_ret
    rw [HG.out]
    exact ⟨rfl, rfl⟩
  · have HAl := Lib.hid hAl
    have hmi : (n : Int) ≤ (most : Int) := by omega
    have HG : Hid (greatA A most = A.any bigA) := Lib.hid (by unfold greatA; rw [hAl, decide_eq_false hmo]; rfl)
    clear h hAl hmo
    go_enter Try.func4, Try.ntmps4
    go_wp2_with fail
    go_loop [5] (fun i => ∃ k : Nat, k ≤ n ∧ i = .int .i64 k ∧ NoBig (A.take k)) (fun i => n - (intOf i).toNat)
    case atStart => exact ⟨0, Nat.zero_le _, rfl, rfl⟩
    case round =>
      obtain ⟨k, hk, rfl, hany⟩ := hrel
      have HAny := Lib.hid hany
      clear hany
      by_cases hlt : k < n
      · have hkA : k < A.length := by rw [HAl.out]; exact hlt
        obtain ⟨b, off, rfl, hc⟩ := HA.out.cell k hkA
        have hok := HA.out.ok _ (List.getElem_mem hkA)
        have HTk : Hid (A.take (k + 1) = A.take k ++ [A[k]]) := Lib.hid (List.take_succ_eq_append_getElem hkA)
        have HMem : Hid (A[k] ∈ A) := Lib.hid (List.getElem_mem hkA)
        obtain ⟨x, hx⟩ : ∃ x, A[k] = x := ⟨_, rfl⟩
        rw [hx] at hc hok HTk HMem
        have c1 : w.cell? ⟨b, off + k * 7 + 1, none⟩ = some (.string ⟨x.nm.toArray⟩) := by rw [Nat.add_assoc]; exact hc 1 _ rfl
        have c2 : w.cell? ⟨b, off + k * 7 + 2, none⟩ = some (.string ⟨x.tt.toArray⟩) := by rw [Nat.add_assoc]; exact hc 2 _ rfl
        have c3 : w.cell? ⟨b, off + k * 7 + 3, none⟩ = some (.string ⟨x.tx.toArray⟩) := by rw [Nat.add_assoc]; exact hc 3 _ rfl
        have c6 : w.cell? ⟨b, off + k * 7 + 6, none⟩ = some (.slice x.ka x.kn x.kc) := by rw [Nat.add_assoc]; exact hc 6 _ rfl
        have l1 := hok.nm; have l2 := hok.tt; have l3 := hok.tx
        have l6 : x.kn ≤ 9223372036854775807 := Nat.le_trans hok.ks.fits hok.ks.bound
        clear hc hok hx
        have hbig : ∀ {v : Bool}, bigA x = v → (decide (100 < x.nm.length) || decide (100 < x.tt.length) || decide (3000 < x.tx.length) || decide (100 < x.kn)) = v := fun h => h
        have HYes : Hid (bigA x = true → A.any bigA = true) := Lib.hid (fun hb => List.any_eq_true.2 ⟨x, HMem.out, hb⟩)
        have HBig := Lib.hid (fun (p : 100 < x.nm.length ∨ 100 < x.tt.length ∨ 3000 < x.tx.length ∨ 100 < x.kn) => (by unfold bigA; simp only [Bool.or_eq_true, decide_eq_true_eq]; omega : bigA x = true))
        have HNo := Lib.hid (fun (p : ¬ (100 < x.nm.length ∨ 100 < x.tt.length ∨ 3000 < x.tx.length ∨ 100 < x.kn)) => (by unfold bigA; simp only [Bool.or_eq_false_iff, decide_eq_false_iff_not]; omega : bigA x = false))
        clear hbig
        obtain ⟨nm, hnm⟩ : ∃ nm, x.nm = nm := ⟨_, rfl⟩
        obtain ⟨tt, htt⟩ : ∃ tt, x.tt = tt := ⟨_, rfl⟩
        obtain ⟨tx, htx⟩ : ∃ tx, x.tx = tx := ⟨_, rfl⟩
        obtain ⟨kn, hkn⟩ : ∃ kn, x.kn = kn := ⟨_, rfl⟩
        rw [hnm] at c1 l1 HBig HNo
        rw [htt] at c2 l2 HBig HNo
        rw [htx] at c3 l3 HBig HNo
        rw [hkn] at c6 l6 HBig HNo
        clear hnm htt htx hkn
        have hcase : 100 < (nm.length : Int) ∨ ((nm.length : Int) ≤ 100 ∧ 100 < (tt.length : Int)) ∨ ((nm.length : Int) ≤ 100 ∧ (tt.length : Int) ≤ 100 ∧ 3000 < (tx.length : Int)) ∨ ((nm.length : Int) ≤ 100 ∧ (tt.length : Int) ≤ 100 ∧ (tx.length : Int) ≤ 3000 ∧ 100 < (kn : Int)) ∨ ((nm.length : Int) ≤ 100 ∧ (tt.length : Int) ≤ 100 ∧ (tx.length : Int) ≤ 3000 ∧ (kn : Int) ≤ 100) := by omega
        rcases hcase with h1 | ⟨h1, h2⟩ | ⟨h1, h2, h3⟩ | ⟨h1, h2, h3, h4⟩ | ⟨h1, h2, h3, h4⟩
        case inr.inr.inr.inr =>
          have HB := Lib.hid (HNo.out (by omega))
          go_wp2_with fail
          go_round
          case rel => exact ⟨k + 1, by omega, by go_num, by rw [HTk.out]; exact NoBig.snoc HAny.out HB.out⟩
          case measure => simp [intOf]; omega
        all_goals
          have HB := Lib.hid (HYes.out (HBig.out (by omega)))
          go_wp2_with fail
          go_ret
          rw [HG.out, HB.out]
          exact ⟨rfl, rfl⟩
      · have HAll : Hid (A.any bigA = false) := Lib.hid (by have h := HAny.out; rw [List.take_of_length_le (by rw [HAl.out]; omega)] at h; exact h)
        go_wp2_with fail
        go_ret
        rw [HG.out, HAll.out]
        exact ⟨rfl, rfl⟩

end Go.Proofs.Ytmpiepkkikmpmaa
