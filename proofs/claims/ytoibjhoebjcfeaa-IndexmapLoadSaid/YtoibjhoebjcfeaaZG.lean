/- Plain laws: each change leaves a disk that may be. -/
import Derived.Test.YtoibjhoebjcfeaaZD
namespace Go.Proofs.Ytoibjhoebjcfeaa
open Go.RowKit

theorem usedM_upd {L : List FM} {nm : List UInt8} {f : FM → FM} (ho : OrdN FM.nm L) {e : FM} (hf : findN FM.nm nm L = some e) : usedM (updN FM.nm nm f L) + e.da.length = usedM L + (f e).da.length := sumN_upd _ ho hf
theorem usedM_del {L : List FM} {nm : List UInt8} (ho : OrdN FM.nm L) {e : FM} (hf : findN FM.nm nm L = some e) : usedM (delN FM.nm nm L) + e.da.length = usedM L := sumN_del _ ho hf
theorem usedM_ins (x : FM) (L : List FM) : usedM (insN FM.nm x L) = x.da.length + usedM L := sumN_ins _ x L
theorem usedM_mem {L : List FM} {e : FM} (h : e ∈ L) : e.da.length ≤ usedM L := sumN_mem (fun f : FM => f.da.length) h

theorem okD.tick {σ : DM} (h : okD σ) : okD (tickM σ) :=
  ⟨h.cap0, h.cap1, h.used, h.ord, h.sy, h.many, (by show 0 ≤ max (σ.left - 1) 0; omega), (fun hf => by have := h.idle hf; show max (σ.left - 1) 0 = 0; omega), h.keep, by have := h.left1; show max (σ.left - 1) 0 ≤ _; omega⟩
theorem okD.sink {σ : DM} (h : okD σ) : okD (sinkM σ) := crash_ok h _
theorem okD.files {σ : DM} (h : okD σ) {L : List FM} (hu : (usedM L : Int) ≤ σ.cap) (ho : OrdN FM.nm L) (hs : ∀ f ∈ L, f.sy ≤ f.da.length) (hm : L.length ≤ 400) : okD { σ with L := L } :=
  ⟨h.cap0, h.cap1, hu, ho, hs, hm, h.left, h.idle, h.keep, h.left1⟩
theorem okD.upd {σ : DM} (h : okD σ) {nm : List UInt8} {f : FM → FM} {e : FM} (hf : findN FM.nm nm σ.L = some e) (hu : (usedM (updN FM.nm nm f σ.L) : Int) ≤ σ.cap) (hn : ∀ y, (f y).nm = y.nm) (hs : (f e).sy ≤ (f e).da.length) : okD { σ with L := updN FM.nm nm f σ.L } := by
  refine h.files hu (updN_ord h.ord fun y hy => by rw [hn, hy]) (fun y hy => ?_) (by rw [updN_length]; exact h.many)
  rcases (mem_updN h.ord hf).1 hy with rfl | ⟨hy, _⟩
  · exact hs
  · exact h.sy y hy
theorem okD.app {σ : DM} (h : okD σ) {nm s : List UInt8} {e : FM} (hf : findN FM.nm nm σ.L = some e) (hu : (usedM σ.L : Int) + s.length ≤ σ.cap) : okD (appM σ nm s) ∧ usedM (appM σ nm s).L = usedM σ.L + s.length := by
  have h1 := usedM_upd (f := fun f : FM => { f with da := f.da ++ s }) h.ord hf
  have h2 := h.sy e (findN_some hf).1
  have h3 : ({ e with da := e.da ++ s } : FM).da.length = e.da.length + s.length := List.length_append
  have h4 : usedM (updN FM.nm nm (fun f : FM => { f with da := f.da ++ s }) σ.L) = usedM σ.L + s.length := by omega
  exact ⟨h.upd hf (by rw [h4]; omega) (fun y => rfl) (by show e.sy ≤ (e.da ++ s).length; rw [List.length_append]; omega), h4⟩
theorem okD.create {σ : DM} (h : okD σ) {nm : List UInt8} (hno : findN FM.nm nm σ.L = none) (hm : σ.L.length < 400) : okD { σ with L := insN FM.nm ⟨nm, [], 0⟩ σ.L } := by
  refine h.files (by rw [usedM_ins]; have := h.used; simpa using this) (insN_ord h.ord (findN_none hno)) (fun f hf => ?_) (by rw [insN_length]; omega)
  rcases mem_insN.1 hf with rfl | hf
  · exact Nat.le_refl _
  · exact h.sy f hf
theorem okD.tell {σ : DM} (h : okD σ) : okD (tellM σ) := ⟨h.cap0, h.cap1, h.used, h.ord, h.sy, h.many, h.left, h.idle, h.keep, h.left1⟩
theorem okD.sync {σ : DM} (h : okD σ) {nm : List UInt8} {e : FM} (hf : findN FM.nm nm σ.L = some e) : okD { σ with L := updN FM.nm nm (fun f => { f with sy := f.da.length }) σ.L } ∧ usedM (updN FM.nm nm (fun f => { f with sy := f.da.length }) σ.L) = usedM σ.L := by
  have h1 := usedM_upd (f := fun f : FM => { f with sy := f.da.length }) h.ord hf
  have h4 : usedM (updN FM.nm nm (fun f : FM => { f with sy := f.da.length }) σ.L) = usedM σ.L := by
    have : ({ e with sy := e.da.length } : FM).da.length = e.da.length := rfl
    omega
  exact ⟨h.upd hf (by rw [h4]; exact h.used) (fun y => rfl) (Nat.le_refl _), h4⟩
theorem delN_le (nm : List UInt8) (L : List FM) : (delN FM.nm nm L).length ≤ L.length := List.length_filter_le _ _
theorem usedM_del_le {L : List FM} (nm : List UInt8) (ho : OrdN FM.nm L) : usedM (delN FM.nm nm L) ≤ usedM L := by
  cases hf : findN FM.nm nm L with
  | none => rw [delN_none hf]; exact Nat.le_refl _
  | some e => have := usedM_del ho hf; omega
theorem okD.delete {σ : DM} (h : okD σ) (nm : List UInt8) : okD { σ with L := delN FM.nm nm σ.L } :=
  h.files (by have := usedM_del_le nm h.ord; have := h.used; omega) (delN_ord h.ord) (fun f hf => h.sy f (mem_delN.1 hf).1) (by have := delN_le nm σ.L; have := h.many; omega)
theorem findN_del_ne {L : List FM} {a b : List UInt8} (ho : OrdN FM.nm L) {f : FM} (hf : findN FM.nm a L = some f) (hne : a ≠ b) : findN FM.nm a (delN FM.nm b L) = some f :=
  findN_of (delN_ord ho) (mem_delN.2 ⟨(findN_some hf).1, fun e => hne ((findN_some hf).2.symm.trans e)⟩) (findN_some hf).2
theorem findN_del_self {nm : List UInt8} (L : List FM) : findN FM.nm nm (delN FM.nm nm L) = none := findN_of_none fun y hy => (mem_delN.1 hy).2
theorem okD.rename {σ : DM} (h : okD σ) {a b : List UInt8} {f : FM} (hf : findN FM.nm a σ.L = some f) (hne : a ≠ b) : okD { σ with L := renL a b f σ.L } ∧ usedM (renL a b f σ.L) = usedM (delN FM.nm b σ.L) := by
  have o1 : OrdN FM.nm (delN FM.nm b σ.L) := delN_ord h.ord
  have f1 := findN_del_ne h.ord hf hne
  have u1 := usedM_del o1 f1
  have u2 := usedM_del_le b h.ord
  have l1 := delN_length o1 f1
  have l2 := delN_le b σ.L
  have hu : usedM (renL a b f σ.L) = usedM (delN FM.nm b σ.L) := by
    unfold renL; rw [usedM_ins]
    show f.da.length + _ = _
    omega
  refine ⟨h.files ?_ ?_ ?_ ?_, hu⟩
  · rw [hu]; have := h.used; omega
  · exact insN_ord (delN_ord o1) fun y hy => (mem_delN.1 (mem_delN.1 hy).1).2
  · intro y hy
    rcases mem_insN.1 hy with rfl | hy
    · exact h.sy f (findN_some hf).1
    · exact h.sy y (mem_delN.1 (mem_delN.1 hy).1).1
  · unfold renL; rw [insN_length]; have := h.many; omega
theorem okD.start {σ : DM} (h : okD σ) (k : Int) : okD { σ with down := false, starts := k } := ⟨h.cap0, h.cap1, h.used, h.ord, h.sy, h.many, h.left, h.idle, h.keep, h.left1⟩
theorem okD.failing {σ : DM} (h : okD σ) {n : Int} (hn : 0 ≤ n) (hn1 : n ≤ 9223372036854775807) {ks : List Int} (hk : ks.length ≤ 1000000) : okD { σ with fail := true, left := n, keep := ks } := ⟨h.cap0, h.cap1, h.used, h.ord, h.sy, h.many, hn, (fun hf => by cases hf), hk, hn1⟩
theorem overB_length (l s : List UInt8) (k : Nat) (h : k < l.length) : (overB l s k).length = l.length := by simp [overB]; omega
theorem overB_out (l s : List UInt8) (k : Nat) (h : l.length ≤ k) : overB l s k = l := by
  unfold overB
  rw [List.take_of_length_le h, List.drop_eq_nil_of_le (by omega), show l.length - k = 0 by omega]; simp
theorem overB_len (l s : List UInt8) (k : Nat) : (overB l s k).length = l.length := by
  by_cases h : k < l.length
  · exact overB_length l s k h
  · rw [overB_out l s k (by omega)]
theorem okD.spoil {σ : DM} (h : okD σ) {nm s : List UInt8} {k : Nat} {e : FM} (hf : findN FM.nm nm σ.L = some e) : okD { σ with L := updN FM.nm nm (fun f => { f with da := overB f.da s k }) σ.L } ∧ usedM (updN FM.nm nm (fun f => { f with da := overB f.da s k }) σ.L) = usedM σ.L := by
  have h1 := usedM_upd (f := fun f : FM => { f with da := overB f.da s k }) h.ord hf
  have h2 : ({ e with da := overB e.da s k } : FM).da.length = e.da.length := overB_len _ _ _
  have h4 : usedM (updN FM.nm nm (fun f : FM => { f with da := overB f.da s k }) σ.L) = usedM σ.L := by omega
  exact ⟨h.upd hf (by rw [h4]; exact h.used) (fun y => rfl) (by show e.sy ≤ (overB e.da s k).length; rw [overB_len]; exact h.sy e (findN_some hf).1), h4⟩
theorem okD.cut {σ : DM} (h : okD σ) {nm : List UInt8} {n : Nat} {e : FM} (hf : findN FM.nm nm σ.L = some e) : okD { σ with L := updN FM.nm nm (cutF n) σ.L } := by
  have h1 := usedM_upd_le (L := σ.L) (nm := nm) (h := cutF n) fun y => by simp [cutF]; omega
  refine h.upd hf (by have := h.used; omega) (fun y => rfl) ?_
  simp [cutF]; omega

end Go.Proofs.Ytoibjhoebjcfeaa
