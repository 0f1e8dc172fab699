/- Plain laws: a state's bytes. -/
import Derived.Test.YtkkafjknogfdnaaFS
import Derived.Test.YtkkafjknogfdnaaCB
namespace Go.Proofs.Ytkkafjknogfdnaa
open Go.RowKit

/-- a text with its length ahead of it -/
def textS (s : List UInt8) : List UInt8 := if s.length ≤ 65535 then be 2 s.length ++ s else []
theorem textS_yes {s : List UInt8} (h : s.length ≤ 65535) : textS s = be 2 s.length ++ s := by unfold textS; rw [if_pos h]
theorem textS_no {s : List UInt8} (h : ¬ s.length ≤ 65535) : textS s = [] := by unfold textS; rw [if_neg h]

theorem be2 (x : Nat) : be 2 x = [UInt8.ofNat (x / 256), UInt8.ofNat x] := by simp [be]

/-- the bytes of a kind, and of a state -/
def kdB (k : Kd) : List UInt8 := textS k.t ++ be 4 k.m.toNat ++ be 8 k.b.toNat
def stHead (nx : Int) (n : Nat) : List UInt8 := be 4 nx.toNat ++ be 2 n
def stBody (nx : Int) (K : List Kd) : List UInt8 := stHead nx K.length ++ (K.map kdB).flatten
noncomputable def fputS (nx : Int) (K : List Kd) : List UInt8 × Int := if checkN nx K = 0 then (sealS (stBody nx K), 0) else ([], 2)

theorem check_ok {nx : Int} {K : List Kd} (h : checkN nx K = 0) : okState nx K := by
  by_cases ho : okState nx K
  · exact ho
  · rw [checkN_no ho] at h; cases h
theorem check_cases (nx : Int) (K : List Kd) : checkN nx K = 0 ∨ checkN nx K = 2 := by
  by_cases ho : okState nx K
  · exact .inl (checkN_yes ho)
  · exact .inr (checkN_no ho)
theorem fputS_yes {nx : Int} {K : List Kd} (h : checkN nx K = 0) : fputS nx K = (sealS (stBody nx K), 0) := by unfold fputS; rw [if_pos h]
theorem fputS_no {nx : Int} {K : List Kd} (h : checkN nx K = 2) : fputS nx K = ([], 2) := by unfold fputS; rw [h]; rfl

/-- each kind of a state that may be, in its bounds -/
theorem okState_kd {nx : Int} {K : List Kd} (h : okState nx K) (i : Nat) (hi : i < K.length) :
    1 ≤ (K.getD i kd0).t.length ∧ (K.getD i kd0).t.length ≤ 16 ∧ 1 ≤ (K.getD i kd0).m ∧ (K.getD i kd0).m ≤ 1073741824 ∧ 0 ≤ (K.getD i kd0).b ∧ (K.getD i kd0).b ≤ 214748364800 := by
  obtain ⟨h1, h2, h3, h4, h5⟩ := h
  obtain ⟨a1, a2, a3, a4, a5, _⟩ := h4 i hi
  have hs := sumM_take_le K (i + 1) h4
  rw [sumM_take_succ K i hi, h5] at hs
  have h0 : 0 ≤ sumM (K.take i) := sumM_nonneg _ fun k hk => by
    obtain ⟨j, hj, rfl⟩ := List.mem_iff_getElem.1 (List.mem_of_mem_take hk)
    have := (h4 j hj).2.2.1
    rwa [List.getD_eq_getElem?_getD, List.getElem?_eq_getElem hj] at this
  refine ⟨a1, a2, a3, by omega, a4, by omega⟩

theorem kdB_length (k : Kd) (h : k.t.length ≤ 65535) : (kdB k).length = 14 + k.t.length := by
  unfold kdB; rw [textS_yes h]; simp [be_length]; omega

theorem kdBs_le (K : List Kd) (h : ∀ i, i < K.length → (K.getD i kd0).t.length ≤ 16) : (K.map kdB).flatten.length ≤ 30 * K.length := by
  induction K with
  | nil => simp
  | cons k K ih =>
    have h0 : k.t.length ≤ 16 := h 0 (by simp)
    have h1 := ih fun i hi => h (i + 1) (by simpa using hi)
    have h2 := kdB_length k (by omega)
    simp only [List.map_cons, List.flatten_cons, List.length_append, List.length_cons, h2]
    omega

theorem map_take_kd (K : List Kd) (k : Nat) (h : k < K.length) : ((K.take (k + 1)).map kdB).flatten = ((K.take k).map kdB).flatten ++ kdB (K.getD k kd0) := by
  rw [take_succ_kd K k h]; simp

theorem take_le_kd (K : List Kd) (k : Nat) : ((K.take k).map kdB).flatten.length ≤ (K.map kdB).flatten.length := by
  conv => rhs; rw [← List.take_append_drop k K, List.map_append, List.flatten_append, List.length_append]
  omega

end Go.Proofs.Ytkkafjknogfdnaa
