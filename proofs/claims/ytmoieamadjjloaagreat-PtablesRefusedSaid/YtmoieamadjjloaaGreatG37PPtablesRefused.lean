/- Walks: sorted entries out of any (law18's Made). -/
import Derived.Test.YtmoieamadjjloaaGreatG11PPtablesRefused
import Derived.Test.YtmoieamadjjloaaGreatG17PPtablesRefused
import Derived.Test.YtmoieamadjjloaaGreatG16PPtablesRefused
set_option linter.unusedVariables false
set_option linter.unusedSimpArgs false
namespace Go.Proofs.YtmoieamadjjloaaGreat
open Go.RowKit

set_option maxRecDepth 100000
set_option linter.unusedVariables false
set_option maxHeartbeats 12800000

theorem and_le (a : Int) (m : Nat) (hm : m < 9223372036854775808) : 0 ≤ bits .and .i64 a (m : Int) ∧ bits .and .i64 a (m : Int) ≤ (m : Int) := by
  have hb : (BitVec.ofInt IntKind.i64.bits (m : Int)).toNat = m := by
    rw [BitVec.ofInt_natCast, BitVec.toNat_ofNat]
    exact Nat.mod_eq_of_lt (by show m < 2 ^ 64; omega)
  have h1 : (BitVec.ofInt IntKind.i64.bits a &&& BitVec.ofInt IntKind.i64.bits (m : Int)).toNat ≤ m := by
    rw [BitVec.toNat_and, hb]; exact Nat.and_le_right
  have h2 : bits .and .i64 a (m : Int) = ((BitVec.ofInt IntKind.i64.bits a &&& BitVec.ofInt IntKind.i64.bits (m : Int)).toNat : Int) := by
    unfold bits
    simp only
    rw [IntKind.wrap_i64]
    omega
  omega

theorem ecs_take : ∀ (L : List En) (j : Nat), (ecs L).take (j * 3) = ecs (L.take j)
  | [], j => by simp [ecs]
  | e :: r, 0 => by simp [ecs]
  | e :: r, j + 1 => by
    rw [List.take_succ_cons, ecs_cons, ecs_cons, ← ecs_take r j]
    have h : (ec e).length = 3 := rfl
    rw [show (j + 1) * 3 = (ec e).length + j * 3 by rw [h]; omega, List.take_length_add_append]
theorem ecs_drop : ∀ (L : List En) (j : Nat), (ecs L).drop (j * 3) = ecs (L.drop j)
  | [], j => by simp [ecs]
  | e :: r, 0 => by simp [ecs]
  | e :: r, j + 1 => by
    rw [List.drop_succ_cons, ecs_cons, ← ecs_drop r j]
    have h : (ec e).length = 3 := rfl
    rw [show (j + 1) * 3 = (ec e).length + j * 3 by rw [h]; omega, List.drop_length_add_append]

/-- an entry made of any -/
def madeE (e : En) : En := (IntKind.u64.wrap (Int.tmod e.1 7 * 1000003), bits .and .i64 e.2.1 63, bits .and .i64 e.2.2 1023)
theorem made_wrap (x : Int) (h0 : 0 ≤ x) : IntKind.u64.wrap (Int.tmod x 7) = Int.tmod x 7 := by
  rw [Int.tmod_eq_emod_of_nonneg h0, IntKind.wrap_u64]; omega
theorem madeE_ok (e : En) (h0 : 0 ≤ e.1) : okEn (madeE e) = true := by
  have h1 : 0 ≤ bits .and .i64 e.2.1 63 ∧ bits .and .i64 e.2.1 63 ≤ 63 := and_le e.2.1 63 (by decide)
  have h2 : 0 ≤ bits .and .i64 e.2.2 1023 ∧ bits .and .i64 e.2.2 1023 ≤ 1023 := and_le e.2.2 1023 (by decide)
  have e1 : Int.tmod e.1 7 = e.1 % 7 := Int.tmod_eq_emod_of_nonneg h0
  rw [okEn_iff]
  unfold madeE
  simp only
  rw [e1, IntKind.wrap_u64]
  omega

/-- where one stands, by order -/
def posE (x : En) (L : List En) : Nat := lbE L x
/-- one is put among others, once -/
def insE (x : En) (L : List En) : List En := if L[lbE L x]? = some x then L else L.take (lbE L x) ++ x :: L.drop (lbE L x)
theorem insE_ok {x : En} {L : List En} (hx : okEn x = true) (hs : sortE L) (ho : ∀ e ∈ L, okEn e = true) : sortE (insE x L) ∧ ∀ e ∈ insE x L, okEn e = true := by
  unfold insE
  split
  · exact ⟨hs, ho⟩
  · rename_i hne
    refine ⟨?_, fun e he => ?_⟩
    · have hle := lbE_le L x
      refine List.pairwise_append.2 ⟨hs.sublist (List.take_sublist _ _), List.pairwise_cons.2 ⟨fun y hy => ?_, hs.sublist (List.drop_sublist _ _)⟩, fun a ha b hb => ?_⟩
      · obtain ⟨j, hj, rfl⟩ := List.getElem_of_mem hy
        rw [List.getElem_drop]
        rw [List.length_drop] at hj
        have h1 := lbE_at x hs (i := lbE L x + j) (List.getElem?_eq_getElem (by omega))
        rw [decide_eq_false (by omega)] at h1
        cases h2 : lessE x L[lbE L x + j]
        · have h3 := lessE_total h1 h2
          exfalso
          cases j with
          | zero => exact hne (by simp only [Nat.add_zero] at h3; rw [List.getElem?_eq_getElem (by omega), h3])
          | succ j =>
            have h4 : lessE L[lbE L x] L[lbE L x + (j + 1)] = true := List.pairwise_iff_getElem.1 hs _ _ _ _ (by omega)
            have h5 := lbE_at x hs (i := lbE L x) (List.getElem?_eq_getElem (by omega))
            rw [decide_eq_false (by omega)] at h5
            rw [h3] at h4
            rw [h4] at h5
            cases h5
        · rfl
      · obtain ⟨i, hi, rfl⟩ := List.getElem_of_mem ha
        rw [List.length_take] at hi
        have h1 := lbE_at x hs (i := i) (List.getElem?_eq_getElem (by omega))
        rw [decide_eq_true (by omega)] at h1
        rw [List.getElem_take]
        rcases List.mem_cons.1 hb with rfl | hb
        · exact h1
        · obtain ⟨j, hj, rfl⟩ := List.getElem_of_mem hb
          rw [List.length_drop] at hj
          rw [List.getElem_drop]
          exact List.pairwise_iff_getElem.1 hs _ _ _ _ (by omega)
    · rcases List.mem_append.1 he with h | h
      · exact ho e (List.mem_of_mem_take h)
      · rcases List.mem_cons.1 h with rfl | h
        · exact hx
        · exact ho e (List.mem_of_mem_drop h)
theorem insE_len (x : En) (L : List En) : (insE x L).length ≤ L.length + 1 := by
  unfold insE
  split
  · omega
  · have := lbE_le L x
    simp; omega
def madeL (R : List En) : List En := R.foldl (fun L e => insE (madeE e) L) []
theorem madeL_snoc (R : List En) (e : En) : madeL (R ++ [e]) = insE (madeE e) (madeL R) := by unfold madeL; rw [List.foldl_append]; rfl
theorem madeF_ok : ∀ (R L : List En), sortE L → (∀ e ∈ L, okEn e = true) → (∀ e ∈ R, 0 ≤ e.1) →
    sortE (R.foldl (fun L e => insE (madeE e) L) L) ∧ (∀ e ∈ R.foldl (fun L e => insE (madeE e) L) L, okEn e = true) ∧ (R.foldl (fun L e => insE (madeE e) L) L).length ≤ L.length + R.length
  | [], L, h1, h2, _ => ⟨h1, h2, Nat.le_refl _⟩
  | e :: R, L, h1, h2, h => by
    have h4 := insE_ok (madeE_ok e (h e (by simp))) h1 h2
    have h5 := insE_len (madeE e) L
    obtain ⟨a, b, c⟩ := madeF_ok R (insE (madeE e) L) h4.1 h4.2 fun x hx => h x (by simp [hx])
    refine ⟨a, b, ?_⟩
    rw [List.foldl_cons, List.length_cons]
    omega
theorem madeL_ok (R : List En) (h : ∀ e ∈ R, 0 ≤ e.1) : sortE (madeL R) ∧ (∀ e ∈ madeL R, okEn e = true) ∧ (madeL R).length ≤ R.length := by
  obtain ⟨a, b, c⟩ := madeF_ok R [] List.Pairwise.nil (fun e he => by cases he) h
  exact ⟨a, b, by unfold madeL; simpa using c⟩

end Go.Proofs.YtmoieamadjjloaaGreat
