/- Plain laws: files of a disk, in the order of their names. -/
import Derived.Sort.KeysCollected
import Derived.Lib.Hide
namespace Go.Proofs.Ytoibjhoebjcfeaa
open Go.RowKit

theorem bytesBefore_lt : ∀ a b : List UInt8, bytesBefore a b = decide (a < b)
  | [], [] => by simp [bytesBefore]
  | [], b :: s => by simp [bytesBefore]
  | a :: r, [] => by simp [bytesBefore]
  | a :: r, b :: s => by
    unfold bytesBefore
    rw [bytesBefore_lt r s, Bool.eq_iff_iff]
    simp [List.cons_lt_cons_iff]

section gen
variable {α β : Type} (k : α → List UInt8)

def insN (x : α) : List α → List α
  | [] => [x]
  | y :: r => if bytesBefore (k x) (k y) then x :: y :: r else y :: insN x r
def delN (nm : List UInt8) (l : List α) : List α := l.filter fun y => !(k y == nm)
def updN (nm : List UInt8) (f : α → α) (l : List α) : List α := l.map fun y => if k y == nm then f y else y
def findN (nm : List UInt8) (l : List α) : Option α := l.find? fun y => k y == nm
def OrdN (l : List α) : Prop := l.Pairwise fun x y => bytesBefore (k x) (k y) = true

variable {k}
theorem insN_perm (x : α) : ∀ l : List α, (insN k x l).Perm (x :: l)
  | [] => List.Perm.refl _
  | y :: r => by
    unfold insN
    split
    · exact List.Perm.refl _
    · exact (List.Perm.cons y (insN_perm x r)).trans (List.Perm.swap x y r)
theorem mem_insN {x y : α} {l : List α} : y ∈ insN k x l ↔ y = x ∨ y ∈ l := by rw [(insN_perm x l).mem_iff]; simp
theorem insN_length (x : α) (l : List α) : (insN k x l).length = l.length + 1 := by rw [(insN_perm x l).length_eq]; rfl
theorem insN_ord {x : α} : ∀ {l : List α}, OrdN k l → (∀ y ∈ l, k y ≠ k x) → OrdN k (insN k x l)
  | [], _, _ => by simp [OrdN, insN]
  | y :: r, h, hne => by
    obtain ⟨h1, h2⟩ := List.pairwise_cons.1 h
    unfold insN
    split
    · rename_i hb
      refine List.pairwise_cons.2 ⟨fun z hz => ?_, h⟩
      rcases List.mem_cons.1 hz with rfl | hz
      · exact hb
      · exact WideShapes.bytes_trans _ _ _ hb (h1 z hz)
    · rename_i hb
      have hyx : bytesBefore (k y) (k x) = true := by
        rcases WideAt.bytes_total _ _ (hne y (List.mem_cons_self)) with h | h
        · exact h
        · exact absurd h hb
      refine List.pairwise_cons.2 ⟨fun z hz => ?_, insN_ord h2 fun z hz => hne z (List.mem_cons_of_mem _ hz)⟩
      rcases mem_insN.1 hz with rfl | hz
      · exact hyx
      · exact h1 z hz
theorem delN_ord {nm : List UInt8} {l : List α} (h : OrdN k l) : OrdN k (delN k nm l) := h.filter _
theorem mem_delN {nm : List UInt8} {x : α} {l : List α} : x ∈ delN k nm l ↔ x ∈ l ∧ k x ≠ nm := by simp [delN, List.mem_filter]
theorem updN_ord {nm : List UInt8} {f : α → α} {l : List α} (h : OrdN k l) (hf : ∀ y, k y = nm → k (f y) = nm) : OrdN k (updN k nm f l) := by
  refine List.pairwise_map.2 (h.imp fun {x y} hxy => ?_)
  have e : ∀ z, k (if k z == nm then f z else z) = k z := fun z => by
    split
    · rename_i hz
      have hz' : k z = nm := by simpa using hz
      rw [hf z hz', hz']
    · rfl
  rw [e, e]; exact hxy
theorem updN_length {nm : List UInt8} {f : α → α} (l : List α) : (updN k nm f l).length = l.length := by simp [updN]
theorem findN_some {nm : List UInt8} {l : List α} {e : α} (h : findN k nm l = some e) : e ∈ l ∧ k e = nm := ⟨List.mem_of_find?_eq_some h, by simpa using List.find?_some h⟩
theorem findN_none {nm : List UInt8} {l : List α} (h : findN k nm l = none) : ∀ y ∈ l, k y ≠ nm := fun y hy => by simpa using List.find?_eq_none.1 h y hy
theorem findN_of_none {nm : List UInt8} {l : List α} (h : ∀ y ∈ l, k y ≠ nm) : findN k nm l = none := List.find?_eq_none.2 fun y hy => by simpa using h y hy
theorem ord_ne {l : List α} (h : OrdN k l) : l.Pairwise fun x y => k x ≠ k y := h.imp fun {x y} hxy e => by rw [e, WideAt.bytes_irrefl] at hxy; cases hxy
theorem ord_inj {l : List α} (h : OrdN k l) {x y : α} (hx : x ∈ l) (hy : y ∈ l) (e : k x = k y) : x = y := by
  have hp := ord_ne h
  clear h
  induction l with
  | nil => cases hx
  | cons a r ih =>
    obtain ⟨h1, h2⟩ := List.pairwise_cons.1 hp
    rcases List.mem_cons.1 hx with ex | hx' <;> rcases List.mem_cons.1 hy with ey | hy'
    · rw [ex, ey]
    · subst ex; exact absurd e (h1 y hy')
    · subst ey; exact absurd e.symm (h1 x hx')
    · exact ih hx' hy' h2
theorem findN_of {nm : List UInt8} {l : List α} (h : OrdN k l) {e : α} (he : e ∈ l) (hn : k e = nm) : findN k nm l = some e := by
  cases hf : findN k nm l with
  | none => exact absurd hn (findN_none hf e he)
  | some e' => obtain ⟨h1, h2⟩ := findN_some hf; rw [ord_inj h h1 he (h2.trans hn.symm)]
theorem delN_none {nm : List UInt8} {l : List α} (h : findN k nm l = none) : delN k nm l = l := List.filter_eq_self.2 fun y hy => by simpa using findN_none h y hy
theorem updN_none {nm : List UInt8} {f : α → α} {l : List α} (h : findN k nm l = none) : updN k nm f l = l := by
  unfold updN
  conv => rhs; rw [← List.map_id l]
  exact List.map_congr_left fun y hy => by rw [if_neg (by simpa using findN_none h y hy)]; rfl
theorem mem_updN {nm : List UInt8} {f : α → α} {l : List α} (h : OrdN k l) {e : α} (hf : findN k nm l = some e) {y : α} : y ∈ updN k nm f l ↔ y = f e ∨ (y ∈ l ∧ k y ≠ nm) := by
  obtain ⟨h1, h2⟩ := findN_some hf
  unfold updN
  rw [List.mem_map]
  constructor
  · rintro ⟨z, hz, rfl⟩
    by_cases hn : k z = nm
    · obtain rfl := ord_inj h hz h1 (hn.trans h2.symm)
      left; rw [if_pos (by simpa using hn)]
    · right; rw [if_neg (by simpa using hn)]; exact ⟨hz, hn⟩
  · rintro (rfl | ⟨hy, hn⟩)
    · exact ⟨e, h1, by rw [if_pos (by simpa using h2)]⟩
    · exact ⟨y, hy, by rw [if_neg (by simpa using hn)]⟩
/-- no two of them, of which one was turned -/
theorem pairwise_updN {S : α → α → Prop} {nm : List UInt8} {f : α → α} {l : List α} (h : OrdN k l) (hS : l.Pairwise S) {e : α} (hf : findN k nm l = some e) (h1 : ∀ y ∈ l, k y ≠ nm → S (f e) y ∧ S y (f e)) : (updN k nm f l).Pairwise S := by
  obtain ⟨he, hen⟩ := findN_some hf
  refine List.pairwise_map.2 ((hS.and (ord_ne h)).imp_of_mem fun {x y} hx hy ⟨hs, hne⟩ => ?_)
  by_cases hxn : k x = nm
  · have hyn : k y ≠ nm := fun e => hne (hxn.trans e.symm)
    obtain rfl := ord_inj h hx he (hxn.trans hen.symm)
    rw [if_pos (by simpa using hxn), if_neg (by simpa using hyn)]
    exact (h1 y hy hyn).1
  · rw [if_neg (by simpa using hxn)]
    by_cases hyn : k y = nm
    · obtain rfl := ord_inj h hy he (hyn.trans hen.symm)
      rw [if_pos (by simpa using hyn)]
      exact (h1 x hx hxn).2
    · rw [if_neg (by simpa using hyn)]; exact hs

section map
variable {k' : β → List UInt8} {h : α → β} (hk : ∀ x, k' (h x) = k x)
include hk
theorem insN_map (x : α) : ∀ l : List α, (insN k x l).map h = insN k' (h x) (l.map h)
  | [] => rfl
  | y :: r => by
    unfold insN
    simp only [List.map_cons, hk]
    split
    · rfl
    · rw [List.map_cons, insN_map x r]
theorem delN_map (nm : List UInt8) (l : List α) : (delN k nm l).map h = delN k' nm (l.map h) := by
  unfold delN; rw [List.filter_map]; congr 1; exact List.filter_congr fun y _ => by simp [hk]
theorem updN_map (nm : List UInt8) (f : α → α) (g : β → β) (hf : ∀ y, h (f y) = g (h y)) (l : List α) : (updN k nm f l).map h = updN k' nm g (l.map h) := by
  unfold updN; rw [List.map_map, List.map_map]; refine List.map_congr_left fun y _ => ?_
  simp only [Function.comp, hk]; split <;> simp [hf]
theorem updN_map2 {nm : List UInt8} {f : α → α} {g : β → β} {l : List α} (ho : OrdN k l) {e : α} (hf : findN k nm l = some e) (hfe : h (f e) = g (h e)) : (updN k nm f l).map h = updN k' nm g (l.map h) := by
  obtain ⟨he, hen⟩ := findN_some hf
  unfold updN; rw [List.map_map, List.map_map]; refine List.map_congr_left fun y hy => ?_
  simp only [Function.comp, hk]
  split
  · rename_i hz
    have hz' : k y = nm := by simpa using hz
    rw [ord_inj ho hy he (hz'.trans hen.symm)]; exact hfe
  · rfl
theorem findN_map (nm : List UInt8) (l : List α) : findN k' nm (l.map h) = (findN k nm l).map h := by
  unfold findN; rw [List.find?_map]; congr 2; funext y; simp [hk]
theorem ord_map {l : List α} : OrdN k' (l.map h) ↔ OrdN k l := by
  unfold OrdN; rw [List.pairwise_map]; simp only [hk]
end map

/-- how much all of them have -/
def sumN (s : α → Nat) (l : List α) : Nat := (l.map s).sum
theorem sumN_ins (s : α → Nat) (x : α) (l : List α) : sumN s (insN k x l) = s x + sumN s l := by
  unfold sumN; rw [((insN_perm x l).map s).sum_nat]; simp
theorem sumN_del (s : α → Nat) {nm : List UInt8} : ∀ {l : List α}, OrdN k l → ∀ {e : α}, findN k nm l = some e → sumN s (delN k nm l) + s e = sumN s l
  | [], _, _, hf => by simp [findN] at hf
  | a :: r, h, e, hf => by
    obtain ⟨h1, h2⟩ := List.pairwise_cons.1 h
    by_cases ha : k a = nm
    · have e1 : a = e := by unfold findN at hf; rw [List.find?_cons_of_pos (by simpa using ha)] at hf; exact Option.some.inj hf
      subst e1
      have e2 : delN k nm (a :: r) = r := by
        unfold delN
        rw [List.filter_cons_of_neg (by simp [ha])]
        refine List.filter_eq_self.2 fun y hy => ?_
        have := h1 y hy
        simp only [Bool.not_eq_true', beq_eq_false_iff_ne]
        intro e3
        rw [e3, ← ha, WideAt.bytes_irrefl] at this
        cases this
      rw [e2]; simp [sumN]; omega
    · have hf2 : findN k nm r = some e := by unfold findN at hf ⊢; rwa [List.find?_cons_of_neg (by simpa using ha)] at hf
      have ih := sumN_del s h2 hf2
      have e2 : delN k nm (a :: r) = a :: delN k nm r := by unfold delN; rw [List.filter_cons_of_pos (by simpa using ha)]
      rw [e2]; simp only [sumN, List.map_cons, List.sum_cons] at ih ⊢; omega
theorem sumN_upd (s : α → Nat) {nm : List UInt8} {f : α → α} : ∀ {l : List α}, OrdN k l → ∀ {e : α}, findN k nm l = some e → sumN s (updN k nm f l) + s e = sumN s l + s (f e)
  | [], _, _, hf => by simp [findN] at hf
  | a :: r, h, e, hf => by
    obtain ⟨h1, h2⟩ := List.pairwise_cons.1 h
    by_cases ha : k a = nm
    · have e1 : a = e := by unfold findN at hf; rw [List.find?_cons_of_pos (by simpa using ha)] at hf; exact Option.some.inj hf
      subst e1
      have e2 : updN k nm f r = r := updN_none (findN_of_none fun y hy e3 => by have := h1 y hy; rw [e3, ← ha, WideAt.bytes_irrefl] at this; cases this)
      have e3 : updN k nm f (a :: r) = f a :: updN k nm f r := by unfold updN; rw [List.map_cons, if_pos (by simpa using ha)]
      rw [e3, e2]; simp [sumN]; omega
    · have hf2 : findN k nm r = some e := by unfold findN at hf ⊢; rwa [List.find?_cons_of_neg (by simpa using ha)] at hf
      have ih := sumN_upd s (f := f) h2 hf2
      have e2 : updN k nm f (a :: r) = a :: updN k nm f r := by unfold updN; rw [List.map_cons, if_neg (by simpa using ha)]
      rw [e2]; simp only [sumN, List.map_cons, List.sum_cons] at ih ⊢; omega
theorem sumN_mem (s : α → Nat) : ∀ {l : List α} {e : α}, e ∈ l → s e ≤ sumN s l
  | a :: r, e, h => by
    rcases List.mem_cons.1 h with rfl | h
    · simp [sumN]
    · have := sumN_mem s h; simp only [sumN, List.map_cons, List.sum_cons] at this ⊢; omega
theorem delN_length {nm : List UInt8} {l : List α} (h : OrdN k l) {e : α} (hf : findN k nm l = some e) : (delN k nm l).length + 1 = l.length := by
  have := sumN_del (fun _ => 1) h hf
  have e1 : ∀ m : List α, sumN (fun _ => 1) m = m.length := fun m => by unfold sumN; induction m with
    | nil => rfl
    | cons a r ih => simp only [List.map_cons, List.sum_cons, ih, List.length_cons]; omega
  rw [e1, e1] at this; exact this
end gen

/-- a file: its name, its bytes, how many of them are sure -/
structure FM where
  nm : List UInt8
  da : List UInt8
  sy : Nat

/-- a disk -/
structure DM where
  cap : Int
  L : List FM
  reads : Int
  starts : Int
  down : Bool
  fail : Bool
  left : Int
  keep : List Int

def usedM (L : List FM) : Nat := sumN (fun f => f.da.length) L
def okName (nm : List UInt8) : Bool := !nm.isEmpty && decide (nm.length ≤ 12)

structure okD (σ : DM) : Prop where
  cap0 : 0 ≤ σ.cap
  cap1 : σ.cap ≤ 1048576
  used : (usedM σ.L : Int) ≤ σ.cap
  ord : OrdN FM.nm σ.L
  sy : ∀ f ∈ σ.L, f.sy ≤ f.da.length
  many : σ.L.length ≤ 400
  left : 0 ≤ σ.left
  idle : σ.fail = false → σ.left = 0
  keep : σ.keep.length ≤ 1000000
  left1 : σ.left ≤ 9223372036854775807

/-- one change -/
def failsM (σ : DM) : Bool := σ.fail && decide (σ.left = 0)
def tickM (σ : DM) : DM := { σ with left := max (σ.left - 1) 0 }

def crashF (f : FM) (more : Int) : FM := { f with da := f.da.take (f.sy + min (max more 0).toNat (f.da.length - f.sy)), sy := f.sy + min (max more 0).toNat (f.da.length - f.sy) }
def crashL : List FM → List Int → List FM
  | [], _ => []
  | f :: r, ks => crashF f (ks.headD 0) :: crashL r ks.tail
def crashM (σ : DM) (ks : List Int) : DM := { σ with L := crashL σ.L ks, down := true, fail := false, left := 0, keep := [] }
def sinkM (σ : DM) : DM := crashM σ σ.keep

/-- what is told, and what is left -/
def upM (σ : DM) : Int := if σ.down then 61 else 0
def createM (σ : DM) (nm : List UInt8) : Int × DM :=
  if σ.down then (61, σ) else if !okName nm then (2, σ) else if (findN FM.nm nm σ.L).isSome then (62, σ) else if 400 ≤ σ.L.length then (60, σ)
  else if failsM σ then (61, sinkM σ) else (0, { tickM σ with L := insN FM.nm ⟨nm, [], 0⟩ σ.L })
def appM (σ : DM) (nm s : List UInt8) : DM := { σ with L := updN FM.nm nm (fun f => { f with da := f.da ++ s }) σ.L }
def appendM (σ : DM) (nm s : List UInt8) : Int × DM :=
  if σ.down then (61, σ) else if (findN FM.nm nm σ.L).isNone then (4, σ) else if σ.cap - (usedM σ.L : Int) < (s.length : Int) then (60, σ)
  else if failsM σ then (61, sinkM (appM σ nm s)) else (0, tickM (appM σ nm s))
def tellM (σ : DM) : DM := { σ with reads := wrap64 (σ.reads + 1) }
def readM (σ : DM) (nm : List UInt8) (at_ n : Int) : List UInt8 × Int × DM :=
  if σ.down then ([], 61, σ) else match findN FM.nm nm σ.L with
  | none => ([], 4, tellM σ)
  | some f => if 0 ≤ at_ ∧ 0 ≤ n ∧ at_ ≤ (f.da.length : Int) ∧ n ≤ (f.da.length : Int) - at_ then ((f.da.drop at_.toNat).take n.toNat, 0, tellM σ) else ([], 2, tellM σ)
def syncM (σ : DM) (nm : List UInt8) : Int × DM :=
  if σ.down then (61, σ) else if (findN FM.nm nm σ.L).isNone then (4, σ) else if failsM σ then (61, sinkM σ)
  else (0, { tickM σ with L := updN FM.nm nm (fun f => { f with sy := f.da.length }) σ.L })
def renL (a b : List UInt8) (f : FM) (L : List FM) : List FM := insN FM.nm { f with nm := b } (delN FM.nm a (delN FM.nm b L))
def renameM (σ : DM) (a b : List UInt8) : Int × DM :=
  if σ.down then (61, σ) else match findN FM.nm a σ.L with
  | none => (4, σ)
  | some f => if !okName b then (2, σ) else if failsM σ then (61, sinkM σ) else if a = b then (0, tickM σ) else (0, { tickM σ with L := renL a b f σ.L })
def deleteM (σ : DM) (nm : List UInt8) : Int × DM :=
  if σ.down then (61, σ) else if (findN FM.nm nm σ.L).isNone then (4, σ) else if failsM σ then (61, sinkM σ) else (0, { tickM σ with L := delN FM.nm nm σ.L })
def sizeM (σ : DM) (nm : List UInt8) : Int × Int :=
  if σ.down then (0, 61) else match findN FM.nm nm σ.L with | none => (0, 4) | some f => ((f.da.length : Int), 0)
def namesM (σ : DM) : List (List UInt8) := σ.L.map FM.nm
def looseM (σ : DM) : List Int := σ.L.map fun f => (f.da.length : Int) - (f.sy : Int)
def freeM (σ : DM) : Int := σ.cap - (usedM σ.L : Int)
def crashD (σ : DM) (ks : List Int) : Int × DM := if σ.down then (61, σ) else (0, crashM σ ks)
def startM (σ : DM) : Int × DM := if σ.down then (0, { σ with down := false, starts := wrap64 (σ.starts + 1) }) else (2, σ)
def failD (σ : DM) (n : Int) (ks : List Int) : Int × DM := if σ.down then (61, σ) else if n < 0 then (2, σ) else (0, { σ with fail := true, left := n, keep := ks })
def overB (l s : List UInt8) (at_ : Nat) : List UInt8 := l.take at_ ++ s.take (l.length - at_) ++ l.drop (at_ + s.length)
def spoilM (σ : DM) (nm : List UInt8) (at_ : Int) (s : List UInt8) : Int × DM :=
  if (findN FM.nm nm σ.L).isNone then (4, σ) else if at_ < 0 then (2, σ) else (0, { σ with L := updN FM.nm nm (fun f => { f with da := overB f.da s at_.toNat }) σ.L })
def cutF (n : Nat) (f : FM) : FM := { f with da := f.da.take n, sy := min f.sy (min n f.da.length) }
def cutM (σ : DM) (nm : List UInt8) (n : Int) : Int × DM :=
  if (findN FM.nm nm σ.L).isNone then (4, σ) else if n < 0 then (2, σ) else (0, { σ with L := updN FM.nm nm (cutF n.toNat) σ.L })

end Go.Proofs.Ytoibjhoebjcfeaa
