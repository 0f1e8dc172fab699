/- Walks: where records stand, one behind the other, and where they end. -/
import Derived.Test.YtmoieamadjjloaaGreatG14PPtablesRefused
import Derived.Test.YtmoieamadjjloaaGreatG12PPtablesRefused
set_option linter.unusedVariables false
set_option linter.unusedSimpArgs false
namespace Go.Proofs.YtmoieamadjjloaaGreat
open Go.RowKit Go.Shelf

attribute [local go_sem] Oper.semAt_some

set_option maxRecDepth 100000
set_option linter.unusedVariables false
set_option maxHeartbeats 1600000

theorem kpB_t {b : Nat} {A B C : World} (h : KpB b A B) (k : KpB b B C) : KpB b A C := Eq.trans k h
theorem kpB_b {b B : Nat} (hb : b < B) (W : World) (l : Nat) (o o' : Obj) (h : B ≤ l) (_ : W.heap[l]? = some o) (_ : o.isCells = false) (_ : o.isWalk = false) : KpB b W (W.putObj l o') :=
  World.putObj_heap_other (fun e => by omega)

theorem eachR_len (s : List UInt8) : ∀ (f a : Nat), (eachR f s a).length ≤ f
  | 0, _ => Nat.le_refl _
  | f + 1, a => by
    unfold eachR
    cases getR s a with
    | none => simp
    | some r => have := eachR_len s f r.2; simp; omega
theorem endR_snoc (a : Nat) (l : List (Nat × Nat)) (x : Nat × Nat) : endR a (l ++ [x]) = x.2 := by unfold endR; simp

theorem results_cell2 {fn : Func} {p q : Tmp} {tp tq : TypeId} (h : fn.results = #[.cell p tp, .cell q tq]) (tmps : Array Value) (P : Program) (w : World) :
    (results fn tmps).run P w =
      ((asAddr (tmps.getD p undef)).run P w).andThen fun a w₁ => ((loadVar tp a).run P w₁).andThen fun v w₂ => ((asAddr (tmps.getD q undef)).run P w₂).andThen fun b w₃ => ((loadVar tq b).run P w₃).andThen fun u w₄ => .ok (.tuple #[v, u]) w₄ := by
  simp only [results, h]
  simp [Sem.run_bind, Result.andThen]

/-- what is appended to a row in a box, and another box that is written -/
theorem app2 {W w1 : World} {n₀ n₁ B E b : Nat} {t te e : TypeId} {v v' ve ve' : Value} {k m : Nat} {xs ys : List Value} {tmp : Obj}
    (hv : Boxed W B t v) (hte : t ≠ e) (hE : Boxed W E te ve) (hBE : E ≠ B) (hb : b < W.heap.size) (hbB : b ≠ B) (hbE : b ≠ E) (hrow : W.ownsRow n₁ e 1 v k xs) (hn₁ : n₁ ≤ W.heap.size) (hEn : E < n₁) (hbn : b < n₁)
    (h01 : n₀ ≤ n₁) (h0B : n₀ ≤ B) (h0E : n₀ ≤ E) (hown' : w1.ownsRow n₁ e 1 v' m ys) (hgrow : (W.alloc tmp).grownBy w1 v.ownBlock) :
    Boxed w1 B t v ∧ Boxed (w1.setCell ⟨B, 0, none⟩ v') E te ve ∧ Boxed ((w1.setCell ⟨B, 0, none⟩ v').setCell ⟨E, 0, none⟩ ve') B t v' ∧ Boxed ((w1.setCell ⟨B, 0, none⟩ v').setCell ⟨E, 0, none⟩ ve') E te ve' ∧
    ((w1.setCell ⟨B, 0, none⟩ v').setCell ⟨E, 0, none⟩ ve').ownsRow n₁ e 1 v' m ys ∧ KeepsOthers W ((w1.setCell ⟨B, 0, none⟩ v').setCell ⟨E, 0, none⟩ ve') ∧ Below n₀ W ((w1.setCell ⟨B, 0, none⟩ v').setCell ⟨E, 0, none⟩ ve') ∧
    KpB b W ((w1.setCell ⟨B, 0, none⟩ v').setCell ⟨E, 0, none⟩ ve') := by
  have hne : ∀ j, v.ownBlock = some j → n₁ ≤ j := fun j hj => (row_lt hrow j hj).1
  have hne' : ∀ j, v'.ownBlock = some j → n₁ ≤ j := fun j hj => (row_lt hown' j hj).1
  have hv1 : Boxed w1 B t v := (hv.alloc tmp).kept hgrow (hv.not_row hte hrow)
  have hE1 : Boxed w1 E te ve := (hE.alloc tmp).kept hgrow fun e => by have := hne E e.symm; omega
  have hsz : W.heap.size + 1 ≤ w1.heap.size := by have := hgrow.size; rw [World.size_alloc] at this; exact this
  refine ⟨hv1, hE1.other hBE v', (hv1.set v').other (Ne.symm hBE) ve', (hE1.other hBE v').set ve', ?_, ?_, ?_, ?_⟩
  · exact row_setOther (row_setOther hown' _ (hv1.not_row hte hown').symm) _ fun e => by have := hne' _ e; simp at this; omega
  · refine (((KeepsOthers.alloc W tmp).trans (KeepsOthers.of_grownBy hgrow fun j o ej hj => ?_)).trans (KeepsOthers.setCell _ _ _)).trans (KeepsOthers.setCell _ _ _)
    rcases (hrow.alloc tmp).2 with ⟨rfl, _⟩ | ⟨g, cap, cur, rfl, _, hgb, _⟩
    · simp [Value.ownBlock] at ej
    · obtain rfl : g = j := by simpa [Value.ownBlock] using ej
      rw [hgb] at hj; cases hj; rfl
  · exact ((((Below.refl n₀ W).alloc (Nat.le_trans h01 hn₁) tmp).grown hgrow (by simp; omega) fun j ej => Nat.le_trans h01 (hne j ej)).setCell (p := ⟨B, 0, none⟩) h0B v').setCell (p := ⟨E, 0, none⟩) h0E ve'
  · have e1 : w1.heap[b]? = W.heap[b]? := (hgrow.block b (by rw [World.size_alloc]; omega) fun e => by have := hne b e.symm; omega).trans ((ext_a1 W tmp).block b hb)
    have e2 : (w1.setCell ⟨B, 0, none⟩ v').heap[b]? = w1.heap[b]? := (grownBy_setCell' w1 B v').block b (by omega) fun e => hbB (by cases e; rfl)
    have e3 : ((w1.setCell ⟨B, 0, none⟩ v').setCell ⟨E, 0, none⟩ ve').heap[b]? = (w1.setCell ⟨B, 0, none⟩ v').heap[b]? := (grownBy_setCell' _ E ve').block b (by rw [World.size_setCell]; omega) fun e => hbE (by cases e; rfl)
    exact e3.trans (e2.trans e1)

theorem Tryz.infoI : (Tryz.prog.info? 3).map (fun i => (i.zero, i.size, i.bytes)) = some (some (.int .i64 0), 1, 8) := by kernel_rfl
end Go.Proofs.YtmoieamadjjloaaGreat
