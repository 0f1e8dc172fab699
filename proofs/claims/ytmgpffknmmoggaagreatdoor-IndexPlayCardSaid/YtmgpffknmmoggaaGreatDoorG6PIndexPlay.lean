/- Plain laws: files of a disk, in the order of their names. Plain laws: a crash of a disk, file by file. Plain laws: each change leaves a disk that may be. Plain laws: a disk that is well, by its files' names and bytes. -/
import Derived.Sort.KeysCollected
import Derived.Lib.Hide
set_option linter.unusedVariables false
set_option linter.unusedSimpArgs false
namespace Go.Proofs.YtmgpffknmmoggaaGreatDoor
open Go.RowKit
theorem bytesBefore_lt : ∀ a b : List UInt8, bytesBefore a b = decide (a < b)
  | [], [] => by simp [bytesBefore]
  | [], b :: s => by simp [bytesBefore]
  | a :: r, [] => by simp [bytesBefore]
  | a :: r, b :: s => by
    unfold bytesBefore
    rw [bytesBefore_lt r s, Bool.eq_iff_iff]
    simp [List.cons_lt_cons_iff]
section gen
variable {α β : Type} (k : α → List UInt8)
def insN (x : α) : List α → List α
  | [] => [x]
  | y :: r => if bytesBefore (k x) (k y) then x :: y :: r else y :: insN x r
def delN (nm : List UInt8) (l : List α) : List α := l.filter fun y => !(k y == nm)
def updN (nm : List UInt8) (f : α → α) (l : List α) : List α := l.map fun y => if k y == nm then f y else y
def findN (nm : List UInt8) (l : List α) : Option α := l.find? fun y => k y == nm
def OrdN (l : List α) : Prop := l.Pairwise fun x y => bytesBefore (k x) (k y) = true
variable {k}
theorem insN_perm (x : α) : ∀ l : List α, (insN k x l).Perm (x :: l)
  | [] => List.Perm.refl _
  | y :: r => by
    unfold insN
    split
    · exact List.Perm.refl _
    · exact (List.Perm.cons y (insN_perm x r)).trans (List.Perm.swap x y r)
theorem mem_insN {x y : α} {l : List α} : y ∈ insN k x l ↔ y = x ∨ y ∈ l := by rw [(insN_perm x l).mem_iff]; simp
theorem insN_length (x : α) (l : List α) : (insN k x l).length = l.length + 1 := by rw [(insN_perm x l).length_eq]; rfl
theorem insN_ord {x : α} : ∀ {l : List α}, OrdN k l → (∀ y ∈ l, k y ≠ k x) → OrdN k (insN k x l)
  | [], _, _ => by simp [OrdN, insN]
  | y :: r, h, hne => by
    obtain ⟨h1, h2⟩ := List.pairwise_cons.1 h
    unfold insN
    split
    · rename_i hb
      refine List.pairwise_cons.2 ⟨fun z hz => ?_, h⟩
      rcases List.mem_cons.1 hz with rfl | hz
      · exact hb
      · exact WideShapes.bytes_trans _ _ _ hb (h1 z hz)
    · rename_i hb
      have hyx : bytesBefore (k y) (k x) = true := by
        rcases WideAt.bytes_total _ _ (hne y (List.mem_cons_self)) with h | h
        · exact h
        · exact absurd h hb
      refine List.pairwise_cons.2 ⟨fun z hz => ?_, insN_ord h2 fun z hz => hne z (List.mem_cons_of_mem _ hz)⟩
      rcases mem_insN.1 hz with rfl | hz
      · exact hyx
      · exact h1 z hz
theorem delN_ord {nm : List UInt8} {l : List α} (h : OrdN k l) : OrdN k (delN k nm l) := h.filter _
theorem mem_delN {nm : List UInt8} {x : α} {l : List α} : x ∈ delN k nm l ↔ x ∈ l ∧ k x ≠ nm := by simp [delN, List.mem_filter]
theorem updN_ord {nm : List UInt8} {f : α → α} {l : List α} (h : OrdN k l) (hf : ∀ y, k y = nm → k (f y) = nm) : OrdN k (updN k nm f l) := by
  refine List.pairwise_map.2 (h.imp fun {x y} hxy => ?_)
  have e : ∀ z, k (if k z == nm then f z else z) = k z := fun z => by
    split
    · rename_i hz
      have hz' : k z = nm := by simpa using hz
      rw [hf z hz', hz']
    · rfl
  rw [e, e]; exact hxy
theorem updN_length {nm : List UInt8} {f : α → α} (l : List α) : (updN k nm f l).length = l.length := by simp [updN]
theorem findN_some {nm : List UInt8} {l : List α} {e : α} (h : findN k nm l = some e) : e ∈ l ∧ k e = nm := ⟨List.mem_of_find?_eq_some h, by simpa using List.find?_some h⟩
theorem findN_none {nm : List UInt8} {l : List α} (h : findN k nm l = none) : ∀ y ∈ l, k y ≠ nm := fun y hy => by simpa using List.find?_eq_none.1 h y hy
theorem findN_of_none {nm : List UInt8} {l : List α} (h : ∀ y ∈ l, k y ≠ nm) : findN k nm l = none := List.find?_eq_none.2 fun y hy => by simpa using h y hy
theorem ord_ne {l : List α} (h : OrdN k l) : l.Pairwise fun x y => k x ≠ k y := h.imp fun {x y} hxy e => by rw [e, WideAt.bytes_irrefl] at hxy; cases hxy
theorem ord_inj {l : List α} (h : OrdN k l) {x y : α} (hx : x ∈ l) (hy : y ∈ l) (e : k x = k y) : x = y := by
  have hp := ord_ne h
  clear h
  induction l with
  | nil => cases hx
  | cons a r ih =>
    obtain ⟨h1, h2⟩ := List.pairwise_cons.1 hp
    rcases List.mem_cons.1 hx with ex | hx' <;> rcases List.mem_cons.1 hy with ey | hy'
    · rw [ex, ey]
    · subst ex; exact absurd e (h1 y hy')
    · subst ey; exact absurd e.symm (h1 x hx')
    · exact ih hx' hy' h2
theorem findN_of {nm : List UInt8} {l : List α} (h : OrdN k l) {e : α} (he : e ∈ l) (hn : k e = nm) : findN k nm l = some e := by
  cases hf : findN k nm l with
  | none => exact absurd hn (findN_none hf e he)
  | some e' => obtain ⟨h1, h2⟩ := findN_some hf; rw [ord_inj h h1 he (h2.trans hn.symm)]
theorem delN_none {nm : List UInt8} {l : List α} (h : findN k nm l = none) : delN k nm l = l := List.filter_eq_self.2 fun y hy => by simpa using findN_none h y hy
theorem updN_none {nm : List UInt8} {f : α → α} {l : List α} (h : findN k nm l = none) : updN k nm f l = l := by
  unfold updN
  conv => rhs; rw [← List.map_id l]
  exact List.map_congr_left fun y hy => by rw [if_neg (by simpa using findN_none h y hy)]; rfl
theorem mem_updN {nm : List UInt8} {f : α → α} {l : List α} (h : OrdN k l) {e : α} (hf : findN k nm l = some e) {y : α} : y ∈ updN k nm f l ↔ y = f e ∨ (y ∈ l ∧ k y ≠ nm) := by
  obtain ⟨h1, h2⟩ := findN_some hf
  unfold updN
  rw [List.mem_map]
  constructor
  · rintro ⟨z, hz, rfl⟩
    by_cases hn : k z = nm
    · obtain rfl := ord_inj h hz h1 (hn.trans h2.symm)
      left; rw [if_pos (by simpa using hn)]
    · right; rw [if_neg (by simpa using hn)]; exact ⟨hz, hn⟩
  · rintro (rfl | ⟨hy, hn⟩)
    · exact ⟨e, h1, by rw [if_pos (by simpa using h2)]⟩
    · exact ⟨y, hy, by rw [if_neg (by simpa using hn)]⟩
theorem pairwise_updN {S : α → α → Prop} {nm : List UInt8} {f : α → α} {l : List α} (h : OrdN k l) (hS : l.Pairwise S) {e : α} (hf : findN k nm l = some e) (h1 : ∀ y ∈ l, k y ≠ nm → S (f e) y ∧ S y (f e)) : (updN k nm f l).Pairwise S := by
  obtain ⟨he, hen⟩ := findN_some hf
  refine List.pairwise_map.2 ((hS.and (ord_ne h)).imp_of_mem fun {x y} hx hy ⟨hs, hne⟩ => ?_)
  by_cases hxn : k x = nm
  · have hyn : k y ≠ nm := fun e => hne (hxn.trans e.symm)
    obtain rfl := ord_inj h hx he (hxn.trans hen.symm)
    rw [if_pos (by simpa using hxn), if_neg (by simpa using hyn)]
    exact (h1 y hy hyn).1
  · rw [if_neg (by simpa using hxn)]
    by_cases hyn : k y = nm
    · obtain rfl := ord_inj h hy he (hyn.trans hen.symm)
      rw [if_pos (by simpa using hyn)]
      exact (h1 x hx hxn).2
    · rw [if_neg (by simpa using hyn)]; exact hs
section map
variable {k' : β → List UInt8} {h : α → β} (hk : ∀ x, k' (h x) = k x)
include hk
theorem insN_map (x : α) : ∀ l : List α, (insN k x l).map h = insN k' (h x) (l.map h)
  | [] => rfl
  | y :: r => by
    unfold insN
    simp only [List.map_cons, hk]
    split
    · rfl
    · rw [List.map_cons, insN_map x r]
theorem delN_map (nm : List UInt8) (l : List α) : (delN k nm l).map h = delN k' nm (l.map h) := by
  unfold delN; rw [List.filter_map]; congr 1; exact List.filter_congr fun y _ => by simp [hk]
theorem updN_map (nm : List UInt8) (f : α → α) (g : β → β) (hf : ∀ y, h (f y) = g (h y)) (l : List α) : (updN k nm f l).map h = updN k' nm g (l.map h) := by
  unfold updN; rw [List.map_map, List.map_map]; refine List.map_congr_left fun y _ => ?_
  simp only [Function.comp, hk]; split <;> simp [hf]
theorem updN_map2 {nm : List UInt8} {f : α → α} {g : β → β} {l : List α} (ho : OrdN k l) {e : α} (hf : findN k nm l = some e) (hfe : h (f e) = g (h e)) : (updN k nm f l).map h = updN k' nm g (l.map h) := by
  obtain ⟨he, hen⟩ := findN_some hf
  unfold updN; rw [List.map_map, List.map_map]; refine List.map_congr_left fun y hy => ?_
  simp only [Function.comp, hk]
  split
  · rename_i hz
    have hz' : k y = nm := by simpa using hz
    rw [ord_inj ho hy he (hz'.trans hen.symm)]; exact hfe
  · rfl
theorem findN_map (nm : List UInt8) (l : List α) : findN k' nm (l.map h) = (findN k nm l).map h := by
  unfold findN; rw [List.find?_map]; congr 2; funext y; simp [hk]
theorem ord_map {l : List α} : OrdN k' (l.map h) ↔ OrdN k l := by
  unfold OrdN; rw [List.pairwise_map]; simp only [hk]
end map
def sumN (s : α → Nat) (l : List α) : Nat := (l.map s).sum
theorem sumN_ins (s : α → Nat) (x : α) (l : List α) : sumN s (insN k x l) = s x + sumN s l := by
  unfold sumN; rw [((insN_perm x l).map s).sum_nat]; simp
theorem sumN_del (s : α → Nat) {nm : List UInt8} : ∀ {l : List α}, OrdN k l → ∀ {e : α}, findN k nm l = some e → sumN s (delN k nm l) + s e = sumN s l
  | [], _, _, hf => by simp [findN] at hf
  | a :: r, h, e, hf => by
    obtain ⟨h1, h2⟩ := List.pairwise_cons.1 h
    by_cases ha : k a = nm
    · have e1 : a = e := by unfold findN at hf; rw [List.find?_cons_of_pos (by simpa using ha)] at hf; exact Option.some.inj hf
      subst e1
      have e2 : delN k nm (a :: r) = r := by
        unfold delN
        rw [List.filter_cons_of_neg (by simp [ha])]
        refine List.filter_eq_self.2 fun y hy => ?_
        have := h1 y hy
        simp only [Bool.not_eq_true', beq_eq_false_iff_ne]
        intro e3
        rw [e3, ← ha, WideAt.bytes_irrefl] at this
        cases this
      rw [e2]; simp [sumN]; omega
    · have hf2 : findN k nm r = some e := by unfold findN at hf ⊢; rwa [List.find?_cons_of_neg (by simpa using ha)] at hf
      have ih := sumN_del s h2 hf2
      have e2 : delN k nm (a :: r) = a :: delN k nm r := by unfold delN; rw [List.filter_cons_of_pos (by simpa using ha)]
      rw [e2]; simp only [sumN, List.map_cons, List.sum_cons] at ih ⊢; omega
theorem sumN_upd (s : α → Nat) {nm : List UInt8} {f : α → α} : ∀ {l : List α}, OrdN k l → ∀ {e : α}, findN k nm l = some e → sumN s (updN k nm f l) + s e = sumN s l + s (f e)
  | [], _, _, hf => by simp [findN] at hf
  | a :: r, h, e, hf => by
    obtain ⟨h1, h2⟩ := List.pairwise_cons.1 h
    by_cases ha : k a = nm
    · have e1 : a = e := by unfold findN at hf; rw [List.find?_cons_of_pos (by simpa using ha)] at hf; exact Option.some.inj hf
      subst e1
      have e2 : updN k nm f r = r := updN_none (findN_of_none fun y hy e3 => by have := h1 y hy; rw [e3, ← ha, WideAt.bytes_irrefl] at this; cases this)
      have e3 : updN k nm f (a :: r) = f a :: updN k nm f r := by unfold updN; rw [List.map_cons, if_pos (by simpa using ha)]
      rw [e3, e2]; simp [sumN]; omega
    · have hf2 : findN k nm r = some e := by unfold findN at hf ⊢; rwa [List.find?_cons_of_neg (by simpa using ha)] at hf
      have ih := sumN_upd s (f := f) h2 hf2
      have e2 : updN k nm f (a :: r) = a :: updN k nm f r := by unfold updN; rw [List.map_cons, if_neg (by simpa using ha)]
      rw [e2]; simp only [sumN, List.map_cons, List.sum_cons] at ih ⊢; omega
theorem sumN_mem (s : α → Nat) : ∀ {l : List α} {e : α}, e ∈ l → s e ≤ sumN s l
  | a :: r, e, h => by
    rcases List.mem_cons.1 h with rfl | h
    · simp [sumN]
    · have := sumN_mem s h; simp only [sumN, List.map_cons, List.sum_cons] at this ⊢; omega
theorem delN_length {nm : List UInt8} {l : List α} (h : OrdN k l) {e : α} (hf : findN k nm l = some e) : (delN k nm l).length + 1 = l.length := by
  have := sumN_del (fun _ => 1) h hf
  have e1 : ∀ m : List α, sumN (fun _ => 1) m = m.length := fun m => by unfold sumN; induction m with
    | nil => rfl
    | cons a r ih => simp only [List.map_cons, List.sum_cons, ih, List.length_cons]; omega
  rw [e1, e1] at this; exact this
end gen
structure FM where
  nm : List UInt8
  da : List UInt8
  sy : Nat
structure DM where
  cap : Int
  L : List FM
  reads : Int
  starts : Int
  down : Bool
  fail : Bool
  left : Int
  keep : List Int
def usedM (L : List FM) : Nat := sumN (fun f => f.da.length) L
def okName (nm : List UInt8) : Bool := !nm.isEmpty && decide (nm.length ≤ 12)
structure okD (σ : DM) : Prop where
  cap0 : 0 ≤ σ.cap
  cap1 : σ.cap ≤ 1048576
  used : (usedM σ.L : Int) ≤ σ.cap
  ord : OrdN FM.nm σ.L
  sy : ∀ f ∈ σ.L, f.sy ≤ f.da.length
  many : σ.L.length ≤ 400
  left : 0 ≤ σ.left
  idle : σ.fail = false → σ.left = 0
  keep : σ.keep.length ≤ 1000000
  left1 : σ.left ≤ 9223372036854775807
def failsM (σ : DM) : Bool := σ.fail && decide (σ.left = 0)
def tickM (σ : DM) : DM := { σ with left := max (σ.left - 1) 0 }
def crashF (f : FM) (more : Int) : FM := { f with da := f.da.take (f.sy + min (max more 0).toNat (f.da.length - f.sy)), sy := f.sy + min (max more 0).toNat (f.da.length - f.sy) }
def crashL : List FM → List Int → List FM
  | [], _ => []
  | f :: r, ks => crashF f (ks.headD 0) :: crashL r ks.tail
def crashM (σ : DM) (ks : List Int) : DM := { σ with L := crashL σ.L ks, down := true, fail := false, left := 0, keep := [] }
def sinkM (σ : DM) : DM := crashM σ σ.keep
def upM (σ : DM) : Int := if σ.down then 61 else 0
def createM (σ : DM) (nm : List UInt8) : Int × DM :=
  if σ.down then (61, σ) else if !okName nm then (2, σ) else if (findN FM.nm nm σ.L).isSome then (62, σ) else if 400 ≤ σ.L.length then (60, σ)
  else if failsM σ then (61, sinkM σ) else (0, { tickM σ with L := insN FM.nm ⟨nm, [], 0⟩ σ.L })
def appM (σ : DM) (nm s : List UInt8) : DM := { σ with L := updN FM.nm nm (fun f => { f with da := f.da ++ s }) σ.L }
def appendM (σ : DM) (nm s : List UInt8) : Int × DM :=
  if σ.down then (61, σ) else if (findN FM.nm nm σ.L).isNone then (4, σ) else if σ.cap - (usedM σ.L : Int) < (s.length : Int) then (60, σ)
  else if failsM σ then (61, sinkM (appM σ nm s)) else (0, tickM (appM σ nm s))
def tellM (σ : DM) : DM := { σ with reads := wrap64 (σ.reads + 1) }
def readM (σ : DM) (nm : List UInt8) (at_ n : Int) : List UInt8 × Int × DM :=
  if σ.down then ([], 61, σ) else match findN FM.nm nm σ.L with
  | none => ([], 4, tellM σ)
  | some f => if 0 ≤ at_ ∧ 0 ≤ n ∧ at_ ≤ (f.da.length : Int) ∧ n ≤ (f.da.length : Int) - at_ then ((f.da.drop at_.toNat).take n.toNat, 0, tellM σ) else ([], 2, tellM σ)
def syncM (σ : DM) (nm : List UInt8) : Int × DM :=
  if σ.down then (61, σ) else if (findN FM.nm nm σ.L).isNone then (4, σ) else if failsM σ then (61, sinkM σ)
  else (0, { tickM σ with L := updN FM.nm nm (fun f => { f with sy := f.da.length }) σ.L })
def renL (a b : List UInt8) (f : FM) (L : List FM) : List FM := insN FM.nm { f with nm := b } (delN FM.nm a (delN FM.nm b L))
def renameM (σ : DM) (a b : List UInt8) : Int × DM :=
  if σ.down then (61, σ) else match findN FM.nm a σ.L with
  | none => (4, σ)
  | some f => if !okName b then (2, σ) else if failsM σ then (61, sinkM σ) else if a = b then (0, tickM σ) else (0, { tickM σ with L := renL a b f σ.L })
def deleteM (σ : DM) (nm : List UInt8) : Int × DM :=
  if σ.down then (61, σ) else if (findN FM.nm nm σ.L).isNone then (4, σ) else if failsM σ then (61, sinkM σ) else (0, { tickM σ with L := delN FM.nm nm σ.L })
def sizeM (σ : DM) (nm : List UInt8) : Int × Int :=
  if σ.down then (0, 61) else match findN FM.nm nm σ.L with | none => (0, 4) | some f => ((f.da.length : Int), 0)
def namesM (σ : DM) : List (List UInt8) := σ.L.map FM.nm
def freeM (σ : DM) : Int := σ.cap - (usedM σ.L : Int)
def cutF (n : Nat) (f : FM) : FM := { f with da := f.da.take n, sy := min f.sy (min n f.da.length) }
end Go.Proofs.YtmgpffknmmoggaaGreatDoor
namespace Go.Proofs.YtmgpffknmmoggaaGreatDoor
open Go.RowKit
def crsL (L : List FM) (xs : List Int) (i : Nat) : List FM := crashL (L.take i) xs ++ L.drop i
theorem crashL_length : ∀ (L : List FM) (xs : List Int), (crashL L xs).length = L.length
  | [], _ => rfl
  | f :: r, xs => by simp [crashL, crashL_length r]
theorem crashF_nm (f : FM) (x : Int) : (crashF f x).nm = f.nm := rfl
theorem crashL_nm : ∀ (L : List FM) (xs : List Int), (crashL L xs).map FM.nm = L.map FM.nm
  | [], _ => rfl
  | f :: r, xs => by simp [crashL, crashL_nm r, crashF_nm]
theorem crsL_zero (L : List FM) (xs : List Int) : crsL L xs 0 = L := by simp [crsL, crashL]
theorem crsL_all (L : List FM) (xs : List Int) : crsL L xs L.length = crashL L xs := by simp [crsL]
theorem crsL_nm (L : List FM) (xs : List Int) (i : Nat) : (crsL L xs i).map FM.nm = L.map FM.nm := by
  unfold crsL; rw [List.map_append, crashL_nm, ← List.map_append, List.take_append_drop]
theorem ord_nm {L L' : List FM} (h : OrdN FM.nm L) (e : L'.map FM.nm = L.map FM.nm) : OrdN FM.nm L' := by
  have h1 : OrdN (fun x : List UInt8 => x) (L.map FM.nm) := (ord_map (k := FM.nm) (h := FM.nm) fun x => rfl).2 h
  rw [← e] at h1
  exact (ord_map (k := FM.nm) (h := FM.nm) fun x => rfl).1 h1
theorem getD_tail (xs : List Int) (i : Nat) : xs.tail.getD i 0 = xs.getD (i + 1) 0 := by
  cases xs <;> simp [List.getD_eq_getElem?_getD]
theorem headD_getD (xs : List Int) : xs.headD 0 = xs.getD 0 0 := by cases xs <;> simp
theorem crashL_snoc : ∀ (l : List FM) (f : FM) (xs : List Int), crashL (l ++ [f]) xs = crashL l xs ++ [crashF f (xs.getD l.length 0)]
  | [], f, xs => by simp only [List.nil_append, crashL, List.length_nil, headD_getD]
  | a :: r, f, xs => by
    rw [List.cons_append, crashL, crashL, crashL_snoc r f xs.tail, getD_tail]
    rfl
theorem updN_append {nm : List UInt8} {h : FM → FM} {a c : List FM} {f : FM} (hf : f.nm = nm) (ho : OrdN FM.nm (a ++ f :: c)) : updN FM.nm nm h (a ++ f :: c) = a ++ h f :: c := by
  have hne := ord_ne ho
  rw [List.pairwise_append] at hne
  obtain ⟨_, h2, h3⟩ := hne
  have ha : updN FM.nm nm h a = a := updN_none (findN_of_none fun y hy e => h3 y hy f (by simp) (e.trans hf.symm))
  have hc : updN FM.nm nm h c = c := updN_none (findN_of_none fun y hy e => (List.pairwise_cons.1 h2).1 y hy (hf.trans e.symm))
  unfold updN at ha hc ⊢
  rw [List.map_append, List.map_cons, ha, hc, if_pos (by simpa using hf)]
theorem crsL_step {L : List FM} (xs : List Int) {i : Nat} (hi : i < L.length) (ho : OrdN FM.nm L) :
    findN FM.nm L[i].nm (crsL L xs i) = some L[i] ∧ ∀ h : FM → FM, h L[i] = crashF L[i] (xs.getD i 0) → updN FM.nm L[i].nm h (crsL L xs i) = crsL L xs (i + 1) := by
  have e1 : crsL L xs i = crashL (L.take i) xs ++ L[i] :: L.drop (i + 1) := by unfold crsL; rw [List.drop_eq_getElem_cons hi]
  have o1 : OrdN FM.nm (crsL L xs i) := ord_nm ho (crsL_nm L xs i)
  have hm : L[i] ∈ crsL L xs i := by rw [e1]; exact List.mem_append_right _ List.mem_cons_self
  refine ⟨findN_of o1 hm rfl, fun h hh => ?_⟩
  rw [e1] at o1 ⊢
  rw [updN_append rfl o1, hh]
  unfold crsL
  rw [List.take_succ_eq_append_getElem hi, crashL_snoc, List.length_take, Nat.min_eq_left (Nat.le_of_lt hi)]
  simp
theorem updN_twice {nm : List UInt8} {h h' : FM → FM} {L : List FM} (hk : ∀ y, (h y).nm = y.nm) : updN FM.nm nm h' (updN FM.nm nm h L) = updN FM.nm nm (fun y => h' (h y)) L := by
  unfold updN
  rw [List.map_map]
  refine List.map_congr_left fun y _ => ?_
  simp only [Function.comp]
  by_cases e : (y.nm == nm) = true
  · rw [if_pos e, if_pos (by rw [hk]; exact e), if_pos e]
  · rw [if_neg e, if_neg e, if_neg e]
theorem crashF_le (f : FM) (x : Int) : (crashF f x).da.length ≤ f.da.length := by simp [crashF]; omega
theorem crashF_sy (f : FM) (x : Int) (h : f.sy ≤ f.da.length) : (crashF f x).sy = (crashF f x).da.length := by simp [crashF]; omega
theorem usedM_crs : ∀ (L : List FM) (xs : List Int), usedM (crashL L xs) ≤ usedM L
  | [], _ => Nat.le_refl _
  | f :: r, xs => by
    have := usedM_crs r xs.tail
    have := crashF_le f (xs.headD 0)
    unfold usedM sumN at *
    simp only [crashL, List.map_cons, List.sum_cons]
    omega
theorem usedM_append (a b : List FM) : usedM (a ++ b) = usedM a + usedM b := by simp [usedM, sumN]
theorem usedM_crsL (L : List FM) (xs : List Int) (i : Nat) : usedM (crsL L xs i) ≤ usedM L := by
  unfold crsL
  have e : usedM L = usedM (L.take i) + usedM (L.drop i) := by rw [← usedM_append, List.take_append_drop]
  rw [usedM_append, e]
  have := usedM_crs (L.take i) xs
  omega
theorem crashL_sy : ∀ (L : List FM) (xs : List Int), (∀ f ∈ L, f.sy ≤ f.da.length) → ∀ f ∈ crashL L xs, f.sy = f.da.length
  | [], _, _ => by simp [crashL]
  | a :: r, xs, h => by
    intro f hf
    rw [crashL] at hf
    rcases List.mem_cons.1 hf with rfl | hf
    · exact crashF_sy _ _ (h a (by simp))
    · exact crashL_sy r xs.tail (fun g hg => h g (by simp [hg])) f hf
theorem crash_ok {σ : DM} (h : okD σ) (xs : List Int) : okD (crashM σ xs) := by
  refine ⟨h.cap0, h.cap1, ?_, ord_nm h.ord (crashL_nm _ _), fun f hf => Nat.le_of_eq (crashL_sy _ _ h.sy f hf), ?_, Int.le_refl _, fun _ => rfl, Nat.zero_le _, by show (0 : Int) ≤ _; decide⟩
  · have := h.used
    have := usedM_crs σ.L xs
    show (usedM (crashL σ.L xs) : Int) ≤ σ.cap
    omega
  · show (crashL σ.L xs).length ≤ 400
    rw [crashL_length]; exact h.many
end Go.Proofs.YtmgpffknmmoggaaGreatDoor
namespace Go.Proofs.YtmgpffknmmoggaaGreatDoor
open Go.RowKit
theorem usedM_upd {L : List FM} {nm : List UInt8} {f : FM → FM} (ho : OrdN FM.nm L) {e : FM} (hf : findN FM.nm nm L = some e) : usedM (updN FM.nm nm f L) + e.da.length = usedM L + (f e).da.length := sumN_upd _ ho hf
theorem usedM_del {L : List FM} {nm : List UInt8} (ho : OrdN FM.nm L) {e : FM} (hf : findN FM.nm nm L = some e) : usedM (delN FM.nm nm L) + e.da.length = usedM L := sumN_del _ ho hf
theorem usedM_ins (x : FM) (L : List FM) : usedM (insN FM.nm x L) = x.da.length + usedM L := sumN_ins _ x L
theorem usedM_mem {L : List FM} {e : FM} (h : e ∈ L) : e.da.length ≤ usedM L := sumN_mem (fun f : FM => f.da.length) h
theorem okD.tick {σ : DM} (h : okD σ) : okD (tickM σ) :=
  ⟨h.cap0, h.cap1, h.used, h.ord, h.sy, h.many, (by show 0 ≤ max (σ.left - 1) 0; omega), (fun hf => by have := h.idle hf; show max (σ.left - 1) 0 = 0; omega), h.keep, by have := h.left1; show max (σ.left - 1) 0 ≤ _; omega⟩
theorem okD.sink {σ : DM} (h : okD σ) : okD (sinkM σ) := crash_ok h _
theorem okD.files {σ : DM} (h : okD σ) {L : List FM} (hu : (usedM L : Int) ≤ σ.cap) (ho : OrdN FM.nm L) (hs : ∀ f ∈ L, f.sy ≤ f.da.length) (hm : L.length ≤ 400) : okD { σ with L := L } :=
  ⟨h.cap0, h.cap1, hu, ho, hs, hm, h.left, h.idle, h.keep, h.left1⟩
theorem okD.upd {σ : DM} (h : okD σ) {nm : List UInt8} {f : FM → FM} {e : FM} (hf : findN FM.nm nm σ.L = some e) (hu : (usedM (updN FM.nm nm f σ.L) : Int) ≤ σ.cap) (hn : ∀ y, (f y).nm = y.nm) (hs : (f e).sy ≤ (f e).da.length) : okD { σ with L := updN FM.nm nm f σ.L } := by
  refine h.files hu (updN_ord h.ord fun y hy => by rw [hn, hy]) (fun y hy => ?_) (by rw [updN_length]; exact h.many)
  rcases (mem_updN h.ord hf).1 hy with rfl | ⟨hy, _⟩
  · exact hs
  · exact h.sy y hy
theorem okD.app {σ : DM} (h : okD σ) {nm s : List UInt8} {e : FM} (hf : findN FM.nm nm σ.L = some e) (hu : (usedM σ.L : Int) + s.length ≤ σ.cap) : okD (appM σ nm s) ∧ usedM (appM σ nm s).L = usedM σ.L + s.length := by
  have h1 := usedM_upd (f := fun f : FM => { f with da := f.da ++ s }) h.ord hf
  have h2 := h.sy e (findN_some hf).1
  have h3 : ({ e with da := e.da ++ s } : FM).da.length = e.da.length + s.length := List.length_append
  have h4 : usedM (updN FM.nm nm (fun f : FM => { f with da := f.da ++ s }) σ.L) = usedM σ.L + s.length := by omega
  exact ⟨h.upd hf (by rw [h4]; omega) (fun y => rfl) (by show e.sy ≤ (e.da ++ s).length; rw [List.length_append]; omega), h4⟩
theorem okD.create {σ : DM} (h : okD σ) {nm : List UInt8} (hno : findN FM.nm nm σ.L = none) (hm : σ.L.length < 400) : okD { σ with L := insN FM.nm ⟨nm, [], 0⟩ σ.L } := by
  refine h.files (by rw [usedM_ins]; have := h.used; simpa using this) (insN_ord h.ord (findN_none hno)) (fun f hf => ?_) (by rw [insN_length]; omega)
  rcases mem_insN.1 hf with rfl | hf
  · exact Nat.le_refl _
  · exact h.sy f hf
theorem okD.tell {σ : DM} (h : okD σ) : okD (tellM σ) := ⟨h.cap0, h.cap1, h.used, h.ord, h.sy, h.many, h.left, h.idle, h.keep, h.left1⟩
theorem okD.sync {σ : DM} (h : okD σ) {nm : List UInt8} {e : FM} (hf : findN FM.nm nm σ.L = some e) : okD { σ with L := updN FM.nm nm (fun f => { f with sy := f.da.length }) σ.L } ∧ usedM (updN FM.nm nm (fun f => { f with sy := f.da.length }) σ.L) = usedM σ.L := by
  have h1 := usedM_upd (f := fun f : FM => { f with sy := f.da.length }) h.ord hf
  have h4 : usedM (updN FM.nm nm (fun f : FM => { f with sy := f.da.length }) σ.L) = usedM σ.L := by
    have : ({ e with sy := e.da.length } : FM).da.length = e.da.length := rfl
    omega
  exact ⟨h.upd hf (by rw [h4]; exact h.used) (fun y => rfl) (Nat.le_refl _), h4⟩
theorem delN_le (nm : List UInt8) (L : List FM) : (delN FM.nm nm L).length ≤ L.length := List.length_filter_le _ _
theorem usedM_del_le {L : List FM} (nm : List UInt8) (ho : OrdN FM.nm L) : usedM (delN FM.nm nm L) ≤ usedM L := by
  cases hf : findN FM.nm nm L with
  | none => rw [delN_none hf]; exact Nat.le_refl _
  | some e => have := usedM_del ho hf; omega
theorem okD.delete {σ : DM} (h : okD σ) (nm : List UInt8) : okD { σ with L := delN FM.nm nm σ.L } :=
  h.files (by have := usedM_del_le nm h.ord; have := h.used; omega) (delN_ord h.ord) (fun f hf => h.sy f (mem_delN.1 hf).1) (by have := delN_le nm σ.L; have := h.many; omega)
theorem findN_del_ne {L : List FM} {a b : List UInt8} (ho : OrdN FM.nm L) {f : FM} (hf : findN FM.nm a L = some f) (hne : a ≠ b) : findN FM.nm a (delN FM.nm b L) = some f :=
  findN_of (delN_ord ho) (mem_delN.2 ⟨(findN_some hf).1, fun e => hne ((findN_some hf).2.symm.trans e)⟩) (findN_some hf).2
theorem okD.rename {σ : DM} (h : okD σ) {a b : List UInt8} {f : FM} (hf : findN FM.nm a σ.L = some f) (hne : a ≠ b) : okD { σ with L := renL a b f σ.L } ∧ usedM (renL a b f σ.L) = usedM (delN FM.nm b σ.L) := by
  have o1 : OrdN FM.nm (delN FM.nm b σ.L) := delN_ord h.ord
  have f1 := findN_del_ne h.ord hf hne
  have u1 := usedM_del o1 f1
  have u2 := usedM_del_le b h.ord
  have l1 := delN_length o1 f1
  have l2 := delN_le b σ.L
  have hu : usedM (renL a b f σ.L) = usedM (delN FM.nm b σ.L) := by
    unfold renL; rw [usedM_ins]
    show f.da.length + _ = _
    omega
  refine ⟨h.files ?_ ?_ ?_ ?_, hu⟩
  · rw [hu]; have := h.used; omega
  · exact insN_ord (delN_ord o1) fun y hy => (mem_delN.1 (mem_delN.1 hy).1).2
  · intro y hy
    rcases mem_insN.1 hy with rfl | hy
    · exact h.sy f (findN_some hf).1
    · exact h.sy y (mem_delN.1 (mem_delN.1 hy).1).1
  · unfold renL; rw [insN_length]; have := h.many; omega
end Go.Proofs.YtmgpffknmmoggaaGreatDoor
namespace Go.Proofs.YtmgpffknmmoggaaGreatDoor
open Go.RowKit
def fbF (f : FM) : List UInt8 × List UInt8 := (f.nm, f.da)
structure Pl (σ : DM) (c s : Int) (l : List (List UInt8 × List UInt8)) : Prop where
  up : σ.down = false
  fine : σ.fail = false
  files : σ.L.map fbF = l
  cap : σ.cap = c
  st : σ.starts = s
def usedP (l : List (List UInt8 × List UInt8)) : Nat := sumN (fun x : List UInt8 × List UInt8 => x.2.length) l
section
variable {σ : DM} {c s : Int} {l : List (List UInt8 × List UInt8)} {nm t : List UInt8} {x : List UInt8 × List UInt8}
theorem fbF_nm : ∀ f : FM, Prod.fst (fbF f) = FM.nm f := fun _ => rfl
theorem Pl.used (h : Pl σ c s l) : usedM σ.L = usedP l := by
  unfold usedM usedP sumN
  rw [← h.files, List.map_map]
  rfl
theorem Pl.free (h : Pl σ c s l) : freeM σ = c - (usedP l : Int) := by unfold freeM; rw [h.cap, h.used]
theorem Pl.find (h : Pl σ c s l) (nm : List UInt8) : findN Prod.fst nm l = (findN FM.nm nm σ.L).map fbF := by rw [← h.files]; exact findN_map fbF_nm nm σ.L
theorem Pl.find_some (h : Pl σ c s l) (hf : findN Prod.fst nm l = some x) : ∃ f, findN FM.nm nm σ.L = some f ∧ fbF f = x := by
  rw [h.find] at hf
  cases hq : findN FM.nm nm σ.L with
  | none => rw [hq] at hf; cases hf
  | some f => rw [hq] at hf; exact ⟨f, rfl, Option.some.inj hf⟩
theorem Pl.find_none (h : Pl σ c s l) (hf : findN Prod.fst nm l = none) : findN FM.nm nm σ.L = none := by
  rw [h.find] at hf
  cases hq : findN FM.nm nm σ.L with
  | none => rfl
  | some f => rw [hq] at hf; cases hf
theorem Pl.names (h : Pl σ c s l) : namesM σ = l.map Prod.fst := by rw [← h.files, List.map_map]; rfl
theorem Pl.no (h : Pl σ c s l) : failsM σ = false := by unfold failsM; rw [h.fine]; rfl
theorem Pl.tell (h : Pl σ c s l) : Pl (tellM σ) c s l := ⟨h.up, h.fine, h.files, h.cap, h.st⟩
theorem Pl.size (h : Pl σ c s l) (hf : findN Prod.fst nm l = some x) : sizeM σ nm = ((x.2.length : Int), 0) := by
  obtain ⟨f, h1, rfl⟩ := h.find_some hf
  unfold sizeM
  rw [if_neg (by rw [h.up]; decide), h1]
  rfl
theorem Pl.sizeN (h : Pl σ c s l) (hf : findN Prod.fst nm l = none) : sizeM σ nm = (0, 4) := by
  unfold sizeM
  rw [if_neg (by rw [h.up]; decide), h.find_none hf]
theorem Pl.read (h : Pl σ c s l) (hf : findN Prod.fst nm l = some x) (a n : Int) (ha : 0 ≤ a) (hn : 0 ≤ n) (hl : a + n ≤ (x.2.length : Int)) : readM σ nm a n = ((x.2.drop a.toNat).take n.toNat, 0, tellM σ) := by
  obtain ⟨f, h1, rfl⟩ := h.find_some hf
  unfold readM
  rw [if_neg (by rw [h.up]; decide), h1]
  show (if 0 ≤ a ∧ 0 ≤ n ∧ a ≤ (f.da.length : Int) ∧ n ≤ (f.da.length : Int) - a then _ else _) = _
  have e : (fbF f).2 = f.da := rfl
  rw [e] at hl
  rw [if_pos (by omega)]
  rfl
theorem Pl.append (h : Pl σ c s l) (hf : findN Prod.fst nm l = some x) (hr : (t.length : Int) ≤ c - (usedP l : Int)) : ∃ σ', appendM σ nm t = (0, σ') ∧ Pl σ' c s (updN Prod.fst nm (fun x => (x.1, x.2 ++ t)) l) := by
  obtain ⟨f, h1, rfl⟩ := h.find_some hf
  refine ⟨tickM (appM σ nm t), ?_, ?_⟩
  · unfold appendM
    rw [if_neg (by rw [h.up]; decide), h1, if_neg (by simp), if_neg (by rw [h.cap, h.used]; omega), if_neg (by rw [h.no]; decide)]
  · exact ⟨h.up, h.fine, by rw [← h.files]; exact updN_map (k := FM.nm) (k' := Prod.fst) fbF_nm nm (fun f => { f with da := f.da ++ t }) (fun x => (x.1, x.2 ++ t)) (fun _ => rfl) σ.L, h.cap, h.st⟩
theorem Pl.sync (h : Pl σ c s l) (hf : findN Prod.fst nm l = some x) : ∃ σ', syncM σ nm = (0, σ') ∧ Pl σ' c s l := by
  obtain ⟨f, h1, rfl⟩ := h.find_some hf
  refine ⟨{ tickM σ with L := updN FM.nm nm (fun f => { f with sy := f.da.length }) σ.L }, ?_, ?_⟩
  · unfold syncM
    rw [if_neg (by rw [h.up]; decide), h1, if_neg (by simp), if_neg (by rw [h.no]; decide)]
  · refine ⟨h.up, h.fine, ?_, h.cap, h.st⟩
    rw [← h.files]
    show (updN FM.nm nm _ σ.L).map fbF = _
    rw [updN_map (k := FM.nm) (k' := Prod.fst) fbF_nm nm (fun f => { f with sy := f.da.length }) id (fun _ => rfl) σ.L]
    unfold updN
    conv => rhs; rw [← List.map_id (σ.L.map fbF)]
    exact List.map_congr_left fun y _ => by split <;> rfl
theorem Pl.create (h : Pl σ c s l) (hf : findN Prod.fst nm l = none) (hk : okName nm = true) (hm : l.length < 400) : ∃ σ', createM σ nm = (0, σ') ∧ Pl σ' c s (insN Prod.fst (nm, []) l) := by
  refine ⟨{ tickM σ with L := insN FM.nm ⟨nm, [], 0⟩ σ.L }, ?_, ?_⟩
  · unfold createM
    have e : σ.L.length = l.length := by rw [← h.files, List.length_map]
    rw [if_neg (by rw [h.up]; decide), if_neg (by rw [hk]; decide), h.find_none hf, if_neg (by simp), if_neg (by omega), if_neg (by rw [h.no]; decide)]
  · refine ⟨h.up, h.fine, ?_, h.cap, h.st⟩
    rw [← h.files]
    exact insN_map (k := FM.nm) (k' := Prod.fst) fbF_nm ⟨nm, [], 0⟩ σ.L
end
section
variable {α : Type} {k : α → List UInt8}
theorem updN_other {nm : List UInt8} {f : α → α} {l : List α} (h : ∀ y ∈ l, k y ≠ nm) : updN k nm f l = l := updN_none (findN_of_none h)
theorem findN_append_right {nm : List UInt8} {a b : List α} (h : ∀ y ∈ a, k y ≠ nm) : findN k nm (a ++ b) = findN k nm b := by
  unfold findN
  rw [List.find?_append]
  have : List.find? (fun y => k y == nm) a = none := findN_of_none h
  rw [this]; rfl
end
end Go.Proofs.YtmgpffknmmoggaaGreatDoor
