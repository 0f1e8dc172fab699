/- Walks: the document's way to read a text that stands ahead. -/
import Derived.Test.YtkkafjknogfdnaaChecked
import Derived.Test.YtkkafjknogfdnaaFI
import Derived.Test.YtkkafjknogfdnaaCC
namespace Go.Proofs.Ytkkafjknogfdnaa
open Go.RowKit

theorem unbe2 {s : List UInt8} {a b : UInt8} (h0 : s[0]? = some a) (h1 : s[1]? = some b) : unbe (s.take 2) = a.toNat * 256 + b.toNat := by
  match s, h0, h1 with
  | x :: y :: r, h0, h1 =>
    cases h0; cases h1
    simp [unbe]

theorem byte_at {s : List UInt8} {k : Nat} {u : UInt8} (h : s[k]? = some u) : ∀ h', (⟨s.toArray⟩ : ByteArray)[k]'h' = u := by
  obtain ⟨hk, rfl⟩ := List.getElem?_eq_some_iff.1 h
  intro h'; rfl

set_option maxRecDepth 100000 in
set_option maxHeartbeats 1600000 in
theorem refread_c (s : List UInt8) (w : World) (hl : s.length ≤ 4611686018427387903) :
    Calls Try.prog 80 #[.string ⟨s.toArray⟩] w fun e w' => e = .returned (.tuple #[.string ⟨(rdT s).toArray⟩, .string ⟨(rdR s).toArray⟩, .bool (rdOk s)]) ∧ Ext w w' := by
  by_cases h2 : (s.length : Int) < 2
  · have ho : rdOk s = false := by unfold rdOk; rw [decide_eq_false (by omega)]; rfl
    have HT : Hid (rdT s = []) := Lib.hid (by unfold rdT; rw [ho]; rfl)
    have HR : Hid (rdR s = []) := Lib.hid (by unfold rdR; rw [ho]; rfl)
    have HO := Lib.hid ho; clear ho
    go_enter Try.func80, Try.ntmps80
    go_wp2_with fail
    go_ret3
    exact ⟨by rw [HT.out, HR.out, HO.out]; rfl, Ext.refl _⟩
  have h2' : 2 ≤ s.length := by omega
  obtain ⟨a, ha⟩ : ∃ a, s[0]? = some a := ⟨_, List.getElem?_eq_getElem (by omega)⟩
  obtain ⟨b, hb⟩ : ∃ b, s[1]? = some b := ⟨_, List.getElem?_eq_getElem (by omega)⟩
  have hu := unbe2 ha hb
  have ha0 := byte_at ha; have hb0 := byte_at hb
  have HO : Hid (rdOk s = decide (unbe (s.take 2) + 2 ≤ s.length)) := Lib.hid (by unfold rdOk; rw [decide_eq_true h2', Bool.true_and])
  have HTT : Hid (rdOk s = true → rdT s = (s.take (2 + unbe (s.take 2))).drop 2 ∧ rdR s = s.drop (2 + unbe (s.take 2))) := Lib.hid (fun h => by unfold rdT rdR; rw [h]; exact ⟨rfl, rfl⟩)
  have HFF : Hid (rdOk s = false → rdT s = [] ∧ rdR s = []) := Lib.hid (fun h => by unfold rdT rdR; rw [h]; exact ⟨rfl, rfl⟩)
  have hab : a.toNat < 256 ∧ b.toNat < 256 := ⟨a.toNat_lt, b.toNat_lt⟩
  rw [hu] at HO HTT
  obtain ⟨A, hA⟩ : ∃ A : Nat, a.toNat = A := ⟨_, rfl⟩
  obtain ⟨B, hB⟩ : ∃ B : Nat, b.toNat = B := ⟨_, rfl⟩
  rw [hA, hB] at HO HTT hab
  obtain ⟨u, hu2⟩ : ∃ u, A * 256 + B = u := ⟨_, rfl⟩
  rw [hu2] at HO HTT
  have hui : (A : Int) * 256 + (B : Int) = (u : Int) := by omega
  have HUI := Lib.hid hui
  have hA1 : (A : Int) ≤ 255 := by omega
  have hB1 : (B : Int) ≤ 255 := by omega
  have hu3 : (u : Int) ≤ 65535 := by omega
  clear hu hu2 h2 ha hb hui
  go_enter Try.func80, Try.ntmps80
  go_wp2_with fail
  have hs1 : IntKind.i64.wrap ((A : Int) * 256) = (A : Int) * 256 := IntWalk.i64_in _ (by omega)
  have hs2 : IntKind.i64.wrap ((A : Int) * 256 + (B : Int)) = (u : Int) := by rw [HUI.out]; exact IntWalk.i64_in _ (by omega)
  refine wp_region_ext (by kernel_rfl) (by kernel_rfl) ?_
  repeat (go_big_quiet_step (fail))
  refine wpQuiet_nil ?_
  intro w4 hw4
  have HB := Lib.hid hw4; clear hw4 hs1 hs2
  have hui := HUI.out
  by_cases hlt : (s.length : Int) - 2 < (u : Int)
  · have hof : rdOk s = false := by rw [HO.out]; exact decide_eq_false (by omega)
    have HF := Lib.hid (HFF.out hof)
    have HOF := Lib.hid hof; clear hof
    go_wp2_with fail
    go_ret3
    exact ⟨by rw [HF.out.1, HF.out.2, HOF.out]; rfl, HB.out⟩
  · have hof : rdOk s = true := by rw [HO.out]; exact decide_eq_true (by omega)
    have HF := Lib.hid (HTT.out hof)
    rw [Nat.add_comm 2 u] at HF
    have HOF := Lib.hid hof; clear hof
    have hlt' : (u : Int) ≤ (s.length : Int) - 2 := by omega
    have hlt2 : u + 2 ≤ s.length := by omega
    clear hlt
    have hs1 : IntKind.i64.wrap ((u : Int) + 2) = (u : Int) + 2 := IntWalk.i64_in _ (by omega)
    have hs2 : ((u : Int) + 2).toNat = u + 2 := by omega
    have hs3 : 0 ≤ (u : Int) + 2 := by omega
    have hs4 : 2 ≤ (u : Int) + 2 := by omega
    have hs5 : (u : Int) + 2 ≤ (s.length : Int) := by omega
    go_wp2_with fail
    refine wp_region_ext (by kernel_rfl) (by kernel_rfl) ?_
    repeat (go_big_quiet_step (fail))
    refine wpQuiet_nil ?_
    intro w5 hw5
    have HW := Lib.hid (HB.out.trans hw5); clear hw5
    go_wp2_with fail
    go_ret3
    exact ⟨by rw [HF.out.1, HF.out.2, HOF.out]; rfl, HW.out⟩

end Go.Proofs.Ytkkafjknogfdnaa
