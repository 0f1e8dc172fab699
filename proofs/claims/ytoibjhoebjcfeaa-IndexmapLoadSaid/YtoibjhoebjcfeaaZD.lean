/- Plain laws: a crash of a disk, file by file. -/
import Derived.Test.YtoibjhoebjcfeaaZS
namespace Go.Proofs.Ytoibjhoebjcfeaa
open Go.RowKit

def crsL (L : List FM) (xs : List Int) (i : Nat) : List FM := crashL (L.take i) xs ++ L.drop i

theorem crashL_length : ∀ (L : List FM) (xs : List Int), (crashL L xs).length = L.length
  | [], _ => rfl
  | f :: r, xs => by simp [crashL, crashL_length r]
theorem crashF_nm (f : FM) (x : Int) : (crashF f x).nm = f.nm := rfl
theorem crashL_nm : ∀ (L : List FM) (xs : List Int), (crashL L xs).map FM.nm = L.map FM.nm
  | [], _ => rfl
  | f :: r, xs => by simp [crashL, crashL_nm r, crashF_nm]
theorem crsL_zero (L : List FM) (xs : List Int) : crsL L xs 0 = L := by simp [crsL, crashL]
theorem crsL_all (L : List FM) (xs : List Int) : crsL L xs L.length = crashL L xs := by simp [crsL]
theorem crsL_nm (L : List FM) (xs : List Int) (i : Nat) : (crsL L xs i).map FM.nm = L.map FM.nm := by
  unfold crsL; rw [List.map_append, crashL_nm, ← List.map_append, List.take_append_drop]
theorem crsL_length (L : List FM) (xs : List Int) (i : Nat) : (crsL L xs i).length = L.length := by
  have := congrArg List.length (crsL_nm L xs i); simpa using this
theorem ord_nm {L L' : List FM} (h : OrdN FM.nm L) (e : L'.map FM.nm = L.map FM.nm) : OrdN FM.nm L' := by
  have h1 : OrdN (fun x : List UInt8 => x) (L.map FM.nm) := (ord_map (k := FM.nm) (h := FM.nm) fun x => rfl).2 h
  rw [← e] at h1
  exact (ord_map (k := FM.nm) (h := FM.nm) fun x => rfl).1 h1

theorem getD_tail (xs : List Int) (i : Nat) : xs.tail.getD i 0 = xs.getD (i + 1) 0 := by
  cases xs <;> simp [List.getD_eq_getElem?_getD]
theorem headD_getD (xs : List Int) : xs.headD 0 = xs.getD 0 0 := by cases xs <;> simp
theorem crashL_snoc : ∀ (l : List FM) (f : FM) (xs : List Int), crashL (l ++ [f]) xs = crashL l xs ++ [crashF f (xs.getD l.length 0)]
  | [], f, xs => by simp only [List.nil_append, crashL, List.length_nil, headD_getD]
  | a :: r, f, xs => by
    rw [List.cons_append, crashL, crashL, crashL_snoc r f xs.tail, getD_tail]
    rfl

theorem updN_append {nm : List UInt8} {h : FM → FM} {a c : List FM} {f : FM} (hf : f.nm = nm) (ho : OrdN FM.nm (a ++ f :: c)) : updN FM.nm nm h (a ++ f :: c) = a ++ h f :: c := by
  have hne := ord_ne ho
  rw [List.pairwise_append] at hne
  obtain ⟨_, h2, h3⟩ := hne
  have ha : updN FM.nm nm h a = a := updN_none (findN_of_none fun y hy e => h3 y hy f (by simp) (e.trans hf.symm))
  have hc : updN FM.nm nm h c = c := updN_none (findN_of_none fun y hy e => (List.pairwise_cons.1 h2).1 y hy (hf.trans e.symm))
  unfold updN at ha hc ⊢
  rw [List.map_append, List.map_cons, ha, hc, if_pos (by simpa using hf)]

/-- the step of a crash -/
theorem crsL_step {L : List FM} (xs : List Int) {i : Nat} (hi : i < L.length) (ho : OrdN FM.nm L) :
    findN FM.nm L[i].nm (crsL L xs i) = some L[i] ∧ ∀ h : FM → FM, h L[i] = crashF L[i] (xs.getD i 0) → updN FM.nm L[i].nm h (crsL L xs i) = crsL L xs (i + 1) := by
  have e1 : crsL L xs i = crashL (L.take i) xs ++ L[i] :: L.drop (i + 1) := by unfold crsL; rw [List.drop_eq_getElem_cons hi]
  have o1 : OrdN FM.nm (crsL L xs i) := ord_nm ho (crsL_nm L xs i)
  have hm : L[i] ∈ crsL L xs i := by rw [e1]; exact List.mem_append_right _ List.mem_cons_self
  refine ⟨findN_of o1 hm rfl, fun h hh => ?_⟩
  rw [e1] at o1 ⊢
  rw [updN_append rfl o1, hh]
  unfold crsL
  rw [List.take_succ_eq_append_getElem hi, crashL_snoc, List.length_take, Nat.min_eq_left (Nat.le_of_lt hi)]
  simp

theorem updN_twice {nm : List UInt8} {h h' : FM → FM} {L : List FM} (hk : ∀ y, (h y).nm = y.nm) : updN FM.nm nm h' (updN FM.nm nm h L) = updN FM.nm nm (fun y => h' (h y)) L := by
  unfold updN
  rw [List.map_map]
  refine List.map_congr_left fun y _ => ?_
  simp only [Function.comp]
  by_cases e : (y.nm == nm) = true
  · rw [if_pos e, if_pos (by rw [hk]; exact e), if_pos e]
  · rw [if_neg e, if_neg e, if_neg e]

theorem usedM_upd_le {L : List FM} {nm : List UInt8} {h : FM → FM} (hh : ∀ y, (h y).da.length ≤ y.da.length) : usedM (updN FM.nm nm h L) ≤ usedM L := by
  unfold usedM updN sumN
  rw [List.map_map]
  induction L with
  | nil => exact Nat.le_refl _
  | cons a r ih =>
    simp only [List.map_cons, List.sum_cons, Function.comp] at ih ⊢
    split
    · have := hh a; omega
    · omega
theorem crashF_le (f : FM) (x : Int) : (crashF f x).da.length ≤ f.da.length := by simp [crashF]; omega
theorem crashF_sy (f : FM) (x : Int) (h : f.sy ≤ f.da.length) : (crashF f x).sy = (crashF f x).da.length := by simp [crashF]; omega
theorem usedM_crs : ∀ (L : List FM) (xs : List Int), usedM (crashL L xs) ≤ usedM L
  | [], _ => Nat.le_refl _
  | f :: r, xs => by
    have := usedM_crs r xs.tail
    have := crashF_le f (xs.headD 0)
    unfold usedM sumN at *
    simp only [crashL, List.map_cons, List.sum_cons]
    omega
theorem usedM_append (a b : List FM) : usedM (a ++ b) = usedM a + usedM b := by simp [usedM, sumN]
theorem usedM_crsL (L : List FM) (xs : List Int) (i : Nat) : usedM (crsL L xs i) ≤ usedM L := by
  unfold crsL
  have e : usedM L = usedM (L.take i) + usedM (L.drop i) := by rw [← usedM_append, List.take_append_drop]
  rw [usedM_append, e]
  have := usedM_crs (L.take i) xs
  omega
theorem crashL_sy : ∀ (L : List FM) (xs : List Int), (∀ f ∈ L, f.sy ≤ f.da.length) → ∀ f ∈ crashL L xs, f.sy = f.da.length
  | [], _, _ => by simp [crashL]
  | a :: r, xs, h => by
    intro f hf
    rw [crashL] at hf
    rcases List.mem_cons.1 hf with rfl | hf
    · exact crashF_sy _ _ (h a (by simp))
    · exact crashL_sy r xs.tail (fun g hg => h g (by simp [hg])) f hf

theorem crash_ok {σ : DM} (h : okD σ) (xs : List Int) : okD (crashM σ xs) := by
  refine ⟨h.cap0, h.cap1, ?_, ord_nm h.ord (crashL_nm _ _), fun f hf => Nat.le_of_eq (crashL_sy _ _ h.sy f hf), ?_, Int.le_refl _, fun _ => rfl, Nat.zero_le _, by show (0 : Int) ≤ _; decide⟩
  · have := h.used
    have := usedM_crs σ.L xs
    show (usedM (crashL σ.L xs) : Int) ≤ σ.cap
    omega
  · show (crashL σ.L xs).length ≤ 400
    rw [crashL_length]; exact h.many

end Go.Proofs.Ytoibjhoebjcfeaa
