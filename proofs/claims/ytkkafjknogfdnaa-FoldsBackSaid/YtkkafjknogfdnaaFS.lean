/- Plain laws on states: no program here. -/
import Derived.Test.YtkkafjknogfdnaaKS
import Derived.Test.YtkkafjknogfdnaaNS
import Derived.WalkLawsBesides
namespace Go.Proofs.Ytkkafjknogfdnaa
open Go.RowKit

/-- how many events of a type there are, and of how many bytes -/
structure Kd where
  t : List UInt8
  m : Int
  b : Int

def kd0 : Kd := ⟨[], 0, 0⟩
def kc (k : Kd) : List Value := [.string ⟨k.t.toArray⟩, .int .i64 k.m, .int .i64 k.b]
def kcs (K : List Kd) : List Value := K.flatMap kc

theorem kcs_length (K : List Kd) : (kcs K).length = K.length * 3 := by
  induction K with
  | nil => rfl
  | cons k K ih => unfold kcs at ih ⊢; rw [List.flatMap_cons, List.length_append, ih, List.length_cons]; simp [kc]; omega

theorem kcs_snoc (K : List Kd) (k : Kd) : kcs (K ++ [k]) = kcs K ++ kc k := by unfold kcs; simp
theorem kcs_cons (k : Kd) (K : List Kd) : kcs (k :: K) = kc k ++ kcs K := rfl

theorem kcs_at : ∀ (K : List Kd) (i j : Nat), i < K.length → j < 3 → (kcs K)[i * 3 + j]? = (kc (K.getD i kd0))[j]?
  | [], i, j, h, _ => by simp at h
  | k :: K, 0, j, _, hj => by
    rw [kcs_cons, List.getElem?_append_left (by simp [kc]; omega)]
    simp
  | k :: K, i + 1, j, h, hj => by
    rw [kcs_cons, List.getElem?_append_right (by simp [kc]; omega), show (i + 1) * 3 + j - (kc k).length = i * 3 + j from by simp [kc]; omega, kcs_at K i j (by simpa using h) hj]
    simp

/-- a slice of kinds, as it reads -/
structure Kds (w : World) (ao : Option Addr) (n cap : Nat) (K : List Kd) : Prop where
  len : K.length = n
  fits : n ≤ cap
  bound : cap ≤ 9223372036854775807
  nil : ao = none → cap = 0
  rd : Rd w ao (kcs K)

theorem Kds.ext {w w' : World} {ao : Option Addr} {n cap : Nat} {K : List Kd} (h : Kds w ao n cap K) (k : Ext w w') : Kds w' ao n cap K :=
  ⟨h.len, h.fits, h.bound, h.nil, h.rd.ext k⟩

theorem Kds.empty (w : World) : Kds w none 0 0 [] := ⟨rfl, Nat.le_refl _, by omega, fun _ => rfl, Rd.nil _ _⟩

theorem Kds.at {w : World} {ao : Option Addr} {n cap : Nat} {K : List Kd} (h : Kds w ao n cap K) {i : Nat} (hi : i < n) :
    ∃ b off, ao = some ⟨b, off, none⟩ ∧ w.cell? ⟨b, off + i * 3, none⟩ = some (.string ⟨(K.getD i kd0).t.toArray⟩) ∧ w.cell? ⟨b, off + i * 3 + 1, none⟩ = some (.int .i64 (K.getD i kd0).m) ∧ w.cell? ⟨b, off + i * 3 + 2, none⟩ = some (.int .i64 (K.getD i kd0).b) := by
  have hl := h.len
  have k0 := kcs_at K i 0 (by omega) (by decide)
  have k1 := kcs_at K i 1 (by omega) (by decide)
  have k2 := kcs_at K i 2 (by omega) (by decide)
  obtain ⟨b, off, rfl, h0⟩ := h.rd _ _ k0
  obtain ⟨_, _, e1, h1⟩ := h.rd _ _ k1
  cases e1
  obtain ⟨_, _, e2, h2⟩ := h.rd _ _ k2
  cases e2
  exact ⟨b, off, rfl, h0, h1, h2⟩

theorem Kds.of_own {w : World} {B : Nat} {e : TypeId} {v : Value} {K : List Kd} (h : Own w B e 3 v K.length (kcs K)) : ∃ ao cap, v = .slice ao K.length cap ∧ Kds w ao K.length cap K := by
  obtain ⟨ao, cap, rfl, h1, h2, h3, h4⟩ := h.rd
  exact ⟨ao, cap, rfl, rfl, h1, h2, h3, h4⟩

def sumM (K : List Kd) : Int := (K.map (·.m)).sum
theorem sumM_nil : sumM [] = 0 := rfl
theorem sumM_snoc (K : List Kd) (k : Kd) : sumM (K ++ [k]) = sumM K + k.m := by unfold sumM; simp
theorem sumM_append (K M : List Kd) : sumM (K ++ M) = sumM K + sumM M := by unfold sumM; simp

/-- a kind that may stand behind that type -/
def okK (p : Option (List UInt8)) (k : Kd) : Prop := 1 ≤ k.t.length ∧ k.t.length ≤ 16 ∧ 1 ≤ k.m ∧ 0 ≤ k.b ∧ k.b ≤ 200 * k.m ∧ ∀ q, p = some q → Op.bytesLess q k.t = true

def prevT (K : List Kd) (i : Nat) : Option (List UInt8) := if i = 0 then none else some (K.getD (i - 1) kd0).t
/-- the i-th kind stands well -/
def okAt (K : List Kd) (i : Nat) : Prop := okK (prevT K i) (K.getD i kd0)

/-- what may be a state -/
def okState (nx : Int) (K : List Kd) : Prop := 0 ≤ nx ∧ nx ≤ 1073741824 ∧ K.length ≤ 256 ∧ (∀ i, i < K.length → okAt K i) ∧ sumM K = nx

open Classical in
noncomputable def checkN (nx : Int) (K : List Kd) : Int := if okState nx K then 0 else 2
theorem checkN_yes {nx : Int} {K : List Kd} (h : okState nx K) : checkN nx K = 0 := by unfold checkN; rw [if_pos h]
theorem checkN_no {nx : Int} {K : List Kd} (h : ¬ okState nx K) : checkN nx K = 2 := by unfold checkN; rw [if_neg h]

theorem take_succ_kd (K : List Kd) (i : Nat) (h : i < K.length) : K.take (i + 1) = K.take i ++ [K.getD i kd0] := by
  rw [List.take_succ_eq_append_getElem h, List.getD_eq_getElem?_getD, List.getElem?_eq_getElem h]; rfl

theorem sumM_nonneg (K : List Kd) (h : ∀ k ∈ K, 1 ≤ k.m) : 0 ≤ sumM K := by
  induction K with
  | nil => exact Int.le_refl _
  | cons k K ih =>
    have h1 := h k (by simp)
    have h2 := ih fun x hx => h x (by simp [hx])
    unfold sumM at h2 ⊢
    simp only [List.map_cons, List.sum_cons]; omega

/-- a part's sum is no more than all's -/
theorem sumM_take_le (K : List Kd) (i : Nat) (h : ∀ j, j < K.length → okAt K j) : sumM (K.take i) ≤ sumM K := by
  conv => rhs; rw [← List.take_append_drop i K, sumM_append]
  have : 0 ≤ sumM (K.drop i) := sumM_nonneg _ fun k hk => by
    obtain ⟨j, hj, rfl⟩ := List.mem_iff_getElem.1 (List.mem_of_mem_drop hk)
    have := (h j hj).2.2.1
    rwa [List.getD_eq_getElem?_getD, List.getElem?_eq_getElem hj] at this
  omega

theorem sumM_take_succ (K : List Kd) (i : Nat) (h : i < K.length) : sumM (K.take (i + 1)) = sumM (K.take i) + (K.getD i kd0).m := by rw [take_succ_kd K i h, sumM_snoc]

end Go.Proofs.Ytkkafjknogfdnaa
