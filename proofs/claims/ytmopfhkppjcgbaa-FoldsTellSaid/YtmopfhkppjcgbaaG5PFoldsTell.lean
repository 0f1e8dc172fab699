/- Plain laws on states: no program here. Plain laws: the kinds of a state, in order; what an event makes of them. -/
import Derived.Test.YtmopfhkppjcgbaaG3PFoldsTell
import Derived.Test.YtmopfhkppjcgbaaG4PFoldsTell
import Derived.WalkLawsBesides
set_option linter.unusedVariables false
set_option linter.unusedSimpArgs false
namespace Go.Proofs.Ytmopfhkppjcgbaa
open Go.RowKit

/-- how many events of a type there are, and of how many bytes -/
structure Kd where
  t : List UInt8
  m : Int
  b : Int

def kd0 : Kd := ⟨[], 0, 0⟩
def kc (k : Kd) : List Value := [.string ⟨k.t.toArray⟩, .int .i64 k.m, .int .i64 k.b]
def kcs (K : List Kd) : List Value := K.flatMap kc

theorem kcs_length (K : List Kd) : (kcs K).length = K.length * 3 := by
  induction K with
  | nil => rfl
  | cons k K ih => unfold kcs at ih ⊢; rw [List.flatMap_cons, List.length_append, ih, List.length_cons]; simp [kc]; omega

theorem kcs_snoc (K : List Kd) (k : Kd) : kcs (K ++ [k]) = kcs K ++ kc k := by unfold kcs; simp
theorem kcs_cons (k : Kd) (K : List Kd) : kcs (k :: K) = kc k ++ kcs K := rfl

theorem kcs_at : ∀ (K : List Kd) (i j : Nat), i < K.length → j < 3 → (kcs K)[i * 3 + j]? = (kc (K.getD i kd0))[j]?
  | [], i, j, h, _ => by simp at h
  | k :: K, 0, j, _, hj => by
    rw [kcs_cons, List.getElem?_append_left (by simp [kc]; omega)]
    simp
  | k :: K, i + 1, j, h, hj => by
    rw [kcs_cons, List.getElem?_append_right (by simp [kc]; omega), show (i + 1) * 3 + j - (kc k).length = i * 3 + j from by simp [kc]; omega, kcs_at K i j (by simpa using h) hj]
    simp

/-- a slice of kinds, as it reads -/
structure Kds (w : World) (ao : Option Addr) (n cap : Nat) (K : List Kd) : Prop where
  len : K.length = n
  fits : n ≤ cap
  bound : cap ≤ 9223372036854775807
  nil : ao = none → cap = 0
  rd : Rd w ao (kcs K)

theorem Kds.ext {w w' : World} {ao : Option Addr} {n cap : Nat} {K : List Kd} (h : Kds w ao n cap K) (k : Ext w w') : Kds w' ao n cap K :=
  ⟨h.len, h.fits, h.bound, h.nil, h.rd.ext k⟩

theorem Kds.empty (w : World) : Kds w none 0 0 [] := ⟨rfl, Nat.le_refl _, by omega, fun _ => rfl, Rd.nil _ _⟩

theorem Kds.at {w : World} {ao : Option Addr} {n cap : Nat} {K : List Kd} (h : Kds w ao n cap K) {i : Nat} (hi : i < n) :
    ∃ b off, ao = some ⟨b, off, none⟩ ∧ w.cell? ⟨b, off + i * 3, none⟩ = some (.string ⟨(K.getD i kd0).t.toArray⟩) ∧ w.cell? ⟨b, off + i * 3 + 1, none⟩ = some (.int .i64 (K.getD i kd0).m) ∧ w.cell? ⟨b, off + i * 3 + 2, none⟩ = some (.int .i64 (K.getD i kd0).b) := by
  have hl := h.len
  have k0 := kcs_at K i 0 (by omega) (by decide)
  have k1 := kcs_at K i 1 (by omega) (by decide)
  have k2 := kcs_at K i 2 (by omega) (by decide)
  obtain ⟨b, off, rfl, h0⟩ := h.rd _ _ k0
  obtain ⟨_, _, e1, h1⟩ := h.rd _ _ k1
  cases e1
  obtain ⟨_, _, e2, h2⟩ := h.rd _ _ k2
  cases e2
  exact ⟨b, off, rfl, h0, h1, h2⟩

theorem Kds.of_own {w : World} {B : Nat} {e : TypeId} {v : Value} {K : List Kd} (h : Own w B e 3 v K.length (kcs K)) : ∃ ao cap, v = .slice ao K.length cap ∧ Kds w ao K.length cap K := by
  obtain ⟨ao, cap, rfl, h1, h2, h3, h4⟩ := h.rd
  exact ⟨ao, cap, rfl, rfl, h1, h2, h3, h4⟩

def sumM (K : List Kd) : Int := (K.map (·.m)).sum
theorem sumM_nil : sumM [] = 0 := rfl
theorem sumM_snoc (K : List Kd) (k : Kd) : sumM (K ++ [k]) = sumM K + k.m := by unfold sumM; simp
theorem sumM_append (K M : List Kd) : sumM (K ++ M) = sumM K + sumM M := by unfold sumM; simp

/-- a kind that may stand behind that type -/
def okK (p : Option (List UInt8)) (k : Kd) : Prop := 1 ≤ k.t.length ∧ k.t.length ≤ 16 ∧ 1 ≤ k.m ∧ 0 ≤ k.b ∧ k.b ≤ 200 * k.m ∧ ∀ q, p = some q → Op.bytesLess q k.t = true

def prevT (K : List Kd) (i : Nat) : Option (List UInt8) := if i = 0 then none else some (K.getD (i - 1) kd0).t
/-- the i-th kind stands well -/
def okAt (K : List Kd) (i : Nat) : Prop := okK (prevT K i) (K.getD i kd0)

/-- what may be a state -/
def okState (nx : Int) (K : List Kd) : Prop := 0 ≤ nx ∧ nx ≤ 1073741824 ∧ K.length ≤ 256 ∧ (∀ i, i < K.length → okAt K i) ∧ sumM K = nx

open Classical in
noncomputable def checkN (nx : Int) (K : List Kd) : Int := if okState nx K then 0 else 2
theorem checkN_yes {nx : Int} {K : List Kd} (h : okState nx K) : checkN nx K = 0 := by unfold checkN; rw [if_pos h]
theorem checkN_no {nx : Int} {K : List Kd} (h : ¬ okState nx K) : checkN nx K = 2 := by unfold checkN; rw [if_neg h]

theorem take_succ_kd (K : List Kd) (i : Nat) (h : i < K.length) : K.take (i + 1) = K.take i ++ [K.getD i kd0] := by
  rw [List.take_succ_eq_append_getElem h, List.getD_eq_getElem?_getD, List.getElem?_eq_getElem h]; rfl

theorem sumM_nonneg (K : List Kd) (h : ∀ k ∈ K, 1 ≤ k.m) : 0 ≤ sumM K := by
  induction K with
  | nil => exact Int.le_refl _
  | cons k K ih =>
    have h1 := h k (by simp)
    have h2 := ih fun x hx => h x (by simp [hx])
    unfold sumM at h2 ⊢
    simp only [List.map_cons, List.sum_cons]; omega

/-- a part's sum is no more than all's -/
theorem sumM_take_le (K : List Kd) (i : Nat) (h : ∀ j, j < K.length → okAt K j) : sumM (K.take i) ≤ sumM K := by
  conv => rhs; rw [← List.take_append_drop i K, sumM_append]
  have : 0 ≤ sumM (K.drop i) := sumM_nonneg _ fun k hk => by
    obtain ⟨j, hj, rfl⟩ := List.mem_iff_getElem.1 (List.mem_of_mem_drop hk)
    have := (h j hj).2.2.1
    rwa [List.getD_eq_getElem?_getD, List.getElem?_eq_getElem hj] at this
  omega

theorem sumM_take_succ (K : List Kd) (i : Nat) (h : i < K.length) : sumM (K.take (i + 1)) = sumM (K.take i) + (K.getD i kd0).m := by rw [take_succ_kd K i h, sumM_snoc]

end Go.Proofs.Ytmopfhkppjcgbaa
namespace Go.Proofs.Ytmopfhkppjcgbaa
open Go.RowKit

theorem bl_lt : ∀ a b : List UInt8, Op.bytesLess a b = decide (a < b)
  | [], [] => by simp [Op.bytesLess]
  | [], b :: s => by simp [Op.bytesLess]
  | a :: r, [] => by simp [Op.bytesLess]
  | a :: r, b :: s => by
    unfold Op.bytesLess
    rw [bl_lt r s, Bool.eq_iff_iff]
    simp [List.cons_lt_cons_iff]
theorem bl_irrefl (a : List UInt8) : Op.bytesLess a a = false := by rw [bl_lt]; exact decide_eq_false (List.lt_irrefl a)
theorem bl_trans {a b c : List UInt8} (h : Op.bytesLess a b = true) (k : Op.bytesLess b c = true) : Op.bytesLess a c = true := by
  rw [bl_lt] at *
  exact decide_eq_true (List.lt_trans (of_decide_eq_true h) (of_decide_eq_true k))
theorem bl_total {a b : List UInt8} (h : Op.bytesLess a b = false) (k : Op.bytesLess b a = false) : a = b := by
  rw [bl_lt] at *
  exact List.le_antisymm (List.not_lt.1 (of_decide_eq_false k)) (List.not_lt.1 (of_decide_eq_false h))
theorem bl_asymm {a b : List UInt8} (h : Op.bytesLess a b = true) : Op.bytesLess b a = false := by
  cases hk : Op.bytesLess b a with
  | false => rfl
  | true => have := bl_trans h hk; rw [bl_irrefl] at this; cases this

/-- the kinds in order -/
def sortK (K : List Kd) : Prop := K.Pairwise fun a b => Op.bytesLess a.t b.t = true
theorem sortK_of : ∀ (K : List Kd), (∀ i, i + 1 < K.length → Op.bytesLess (K.getD i kd0).t (K.getD (i + 1) kd0).t = true) → sortK K
  | [], _ => List.Pairwise.nil
  | [a], _ => by unfold sortK; simp
  | a :: b :: r, h => by
    have ih := sortK_of (b :: r) fun i hi => by
      have := h (i + 1) (by simp at hi ⊢; omega)
      simpa using this
    have hab : Op.bytesLess a.t b.t = true := by simpa using h 0 (by simp)
    refine List.pairwise_cons.2 ⟨fun x hx => ?_, ih⟩
    rcases List.mem_cons.1 hx with rfl | hx
    · exact hab
    · exact bl_trans hab ((List.pairwise_cons.1 ih).1 x hx)
theorem okState.sorted {nx : Int} {K : List Kd} (h : okState nx K) : sortK K := sortK_of K fun i hi => by
  have h1 := (h.2.2.2.1 (i + 1) hi).2.2.2.2.2 (K.getD i kd0).t (by unfold prevT; rw [if_neg (by omega)]; rfl)
  exact h1

/-- how many stand ahead of a type -/
def lbK (K : List Kd) (t : List UInt8) : Nat := (K.filter fun k => Op.bytesLess k.t t).length
theorem lbK_le (K : List Kd) (t : List UInt8) : lbK K t ≤ K.length := List.length_filter_le _ _
theorem lbK_at : ∀ {K : List Kd} (t : List UInt8), sortK K → ∀ {i : Nat} {e : Kd}, K[i]? = some e → Op.bytesLess e.t t = decide (i < lbK K t)
  | [], t, _, i, e, h => by simp at h
  | a :: r, t, hs, i, e, h => by
    obtain ⟨h1, h2⟩ := List.pairwise_cons.1 hs
    cases ha : Op.bytesLess a.t t with
    | true =>
      have hl : lbK (a :: r) t = lbK r t + 1 := by unfold lbK; rw [List.filter_cons_of_pos (by simpa using ha)]; rfl
      cases i with
      | zero => simp at h; subst h; rw [ha, hl]; simp
      | succ i =>
        rw [lbK_at t h2 (by simpa using h), hl]
        simp
    | false =>
      have hn : ∀ x ∈ r, Op.bytesLess x.t t = false := fun x hx => by
        cases hx2 : Op.bytesLess x.t t with
        | false => rfl
        | true => have := bl_trans (h1 x hx) hx2; rw [ha] at this; cases this
      have hl : lbK (a :: r) t = 0 := by
        unfold lbK
        rw [List.filter_cons_of_neg (by simp [ha]), List.filter_eq_nil_iff.2 (fun x hx => by simp [hn x hx])]; rfl
      rw [hl]
      cases i with
      | zero => simp at h; subst h; rw [ha]; rfl
      | succ i =>
        have hm : e ∈ r := List.mem_of_getElem? (by simpa using h)
        rw [hn e hm]; rfl
theorem take_lb : ∀ {K : List Kd} (t : List UInt8), sortK K → K.take (lbK K t) = K.filter fun k => Op.bytesLess k.t t
  | [], t, _ => rfl
  | a :: r, t, hs => by
    obtain ⟨h1, h2⟩ := List.pairwise_cons.1 hs
    cases ha : Op.bytesLess a.t t with
    | true =>
      have hl : lbK (a :: r) t = lbK r t + 1 := by unfold lbK; rw [List.filter_cons_of_pos (by simpa using ha)]; rfl
      rw [hl, List.take_succ_cons, take_lb t h2, List.filter_cons_of_pos (by simpa using ha)]
    | false =>
      have hn : ∀ x ∈ r, Op.bytesLess x.t t = false := fun x hx => by
        cases hx2 : Op.bytesLess x.t t with
        | false => rfl
        | true => have := bl_trans (h1 x hx) hx2; rw [ha] at this; cases this
      have hf : (a :: r).filter (fun k => Op.bytesLess k.t t) = [] := by
        rw [List.filter_cons_of_neg (by simp [ha]), List.filter_eq_nil_iff.2 (fun x hx => by simp [hn x hx])]
      unfold lbK
      rw [hf]; rfl
theorem drop_lb : ∀ {K : List Kd} (t : List UInt8), sortK K → K.drop (lbK K t) = K.filter fun k => !Op.bytesLess k.t t
  | [], t, _ => rfl
  | a :: r, t, hs => by
    obtain ⟨h1, h2⟩ := List.pairwise_cons.1 hs
    cases ha : Op.bytesLess a.t t with
    | true =>
      have hl : lbK (a :: r) t = lbK r t + 1 := by unfold lbK; rw [List.filter_cons_of_pos (by simpa using ha)]; rfl
      rw [hl, List.drop_succ_cons, drop_lb t h2, List.filter_cons_of_neg (by simp [ha])]
    | false =>
      have hn : ∀ x ∈ r, Op.bytesLess x.t t = false := fun x hx => by
        cases hx2 : Op.bytesLess x.t t with
        | false => rfl
        | true => have := bl_trans (h1 x hx) hx2; rw [ha] at this; cases this
      have hl : lbK (a :: r) t = 0 := by
        unfold lbK
        rw [List.filter_cons_of_neg (by simp [ha]), List.filter_eq_nil_iff.2 (fun x hx => by simp [hn x hx])]; rfl
      rw [hl, List.drop_zero]
      symm
      refine List.filter_eq_self.2 fun x hx => ?_
      rcases List.mem_cons.1 hx with rfl | hx
      · simp [ha]
      · simp [hn x hx]

/-- is the type there? -/
def hasK (K : List Kd) (t : List UInt8) : Bool := decide (lbK K t < K.length) && decide ((K.getD (lbK K t) kd0).t = t)
/-- the kinds behind an event -/
def addK (K : List Kd) (t : List UInt8) (d : Int) : List Kd :=
  if hasK K t then K.set (lbK K t) ⟨t, (K.getD (lbK K t) kd0).m + 1, (K.getD (lbK K t) kd0).b + d⟩
  else K.take (lbK K t) ++ ⟨t, 1, d⟩ :: K.drop (lbK K t)
def fullK (nx : Int) (K : List Kd) (t : List UInt8) : Bool := decide (1073741824 ≤ nx) || (!hasK K t && decide (256 ≤ K.length))

/-- where it is, it stands alone -/
theorem behind_has {K : List Kd} {t : List UInt8} (hs : sortK K) (hh : hasK K t = true) : K.drop (lbK K t) = K.getD (lbK K t) kd0 :: K.filter fun k => Op.bytesLess t k.t := by
  unfold hasK at hh
  rw [Bool.and_eq_true, decide_eq_true_eq, decide_eq_true_eq] at hh
  obtain ⟨hl, ht⟩ := hh
  have h1 := drop_lb t hs
  rw [List.drop_eq_getElem_cons hl] at h1 ⊢
  have hg : K.getD (lbK K t) kd0 = K[lbK K t] := by rw [List.getD_eq_getElem?_getD, List.getElem?_eq_getElem hl]; rfl
  rw [hg] at ht ⊢
  congr 1
  have h2 : K.drop (lbK K t + 1) = (K.drop (lbK K t + 1)).filter fun k => Op.bytesLess t k.t := by
    symm
    refine List.filter_eq_self.2 fun x hx => ?_
    have hp : sortK (K.drop (lbK K t)) := List.Pairwise.drop hs
    rw [List.drop_eq_getElem_cons hl] at hp
    have := (List.pairwise_cons.1 hp).1 x hx
    rwa [ht] at this
  rw [h2]
  conv => rhs; rw [← List.take_append_drop (lbK K t + 1) K]
  rw [List.filter_append]
  have h3 : (K.take (lbK K t + 1)).filter (fun k => Op.bytesLess t k.t) = [] := by
    refine List.filter_eq_nil_iff.2 fun x hx => ?_
    rw [List.take_succ_eq_append_getElem hl, take_lb t hs] at hx
    rcases List.mem_append.1 hx with h | h
    · have := (List.mem_filter.1 h).2
      rw [bl_asymm this]; decide
    · rw [List.mem_singleton] at h
      rw [h, ht, bl_irrefl]; decide
  rw [h3, List.nil_append]
theorem behind_no {K : List Kd} {t : List UInt8} (hs : sortK K) (hh : hasK K t = false) : K.drop (lbK K t) = K.filter fun k => Op.bytesLess t k.t := by
  rw [drop_lb t hs]
  refine List.filter_congr fun x hx => ?_
  cases h1 : Op.bytesLess x.t t with
  | true => rw [bl_asymm h1]; rfl
  | false =>
    cases h2 : Op.bytesLess t x.t with
    | true => rfl
    | false =>
      exfalso
      have he := bl_total h1 h2
      obtain ⟨i, hi, rfl⟩ := List.mem_iff_getElem.1 hx
      have h3 := lbK_at t hs (List.getElem?_eq_getElem hi)
      rw [h1] at h3
      have h4 : ¬ i < lbK K t := of_decide_eq_false h3.symm
      have h5 : i = lbK K t := by
        rcases Nat.lt_or_ge (lbK K t) i with h | h
        · have h6 := List.pairwise_iff_getElem.1 hs (lbK K t) i (by omega) hi h
          have h7 := lbK_at t hs (List.getElem?_eq_getElem (show lbK K t < K.length by omega))
          rw [he] at h6
          rw [h6] at h7
          have := of_decide_eq_true h7.symm
          omega
        · omega
      unfold hasK at hh
      rw [decide_eq_true (by omega), Bool.true_and] at hh
      have h8 : K.getD (lbK K t) kd0 = K[i] := by rw [← h5, List.getD_eq_getElem?_getD, List.getElem?_eq_getElem hi]; rfl
      rw [h8] at hh
      exact absurd he (of_decide_eq_false hh)

end Go.Proofs.Ytmopfhkppjcgbaa
