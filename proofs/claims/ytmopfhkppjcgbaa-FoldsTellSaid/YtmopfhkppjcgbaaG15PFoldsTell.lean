/- Walks: a state counts an event (folds' add). Walks: a state's kinds are cloned; a state steps (folds' step). Plain laws: a state behind an event may be; events one by one. -/
import Derived.Test.YtmopfhkppjcgbaaG14PFoldsTell
import Derived.Test.YtmopfhkppjcgbaaG12PFoldsTell
import Derived.BigRegion
import Derived.Laws.ResultCell
import Derived.Test.YtmopfhkppjcgbaaG5PFoldsTell
import Derived.Test.YtmopfhkppjcgbaaG8PFoldsTell
set_option linter.unusedVariables false
set_option linter.unusedSimpArgs false
namespace Go.Proofs.Ytmopfhkppjcgbaa
open Go.RowKit

set_option maxRecDepth 100000
set_option linter.unusedVariables false
set_option maxHeartbeats 12800000

/-- a state in memory of the call's own -/
def StF (w0 W : World) (g : Nat) (nx : Int) (K : List Kd) : Prop :=
  ∃ v, Ext w0 W ∧ w0.heap.size ≤ g ∧ Blk W g 24 #[.int .i64 nx, v] ∧ W.ownsRow w0.heap.size 54 3 v K.length (kcs K) ∧ v.ownBlock ≠ some g
theorem StF.grow {w0 W W' : World} {g : Nat} {nx : Int} {K : List Kd} (h : StF w0 W g nx K) (k : Ext W W') : StF w0 W' g nx K := by
  obtain ⟨v, h1, h2, h3, h4, h5⟩ := h
  exact ⟨v, h1.trans k, h2, h3.ext k, row_ext h4 k, h5⟩
theorem StF.base {w0 W : World} {g : Nat} {nx : Int} {K : List Kd} (h : StF w0 W g nx K) : Ext w0 W := by obtain ⟨v, h1, _⟩ := h; exact h1

theorem kcs_set (K : List Kd) : ∀ (i : Nat) (m b : Int), i < K.length → ((kcs K).set (i * 3 + 1) (.int .i64 m)).set (i * 3 + 2) (.int .i64 b) = kcs (K.set i ⟨(K.getD i kd0).t, m, b⟩) := by
  induction K with
  | nil => intro i m b h; simp at h
  | cons k K ih =>
    intro i m b h
    cases i with
    | zero => rfl
    | succ i =>
      rw [kcs_cons, show (i + 1) * 3 + 1 = (kc k).length + (i * 3 + 1) by simp [kc]; omega, show (i + 1) * 3 + 2 = (kc k).length + (i * 3 + 2) by simp [kc]; omega, List.set_append_right _ _ (by omega), List.set_append_right _ _ (by omega), Nat.add_sub_cancel_left, Nat.add_sub_cancel_left, ih i m b (by simpa using h)]
      rfl
theorem insK_getD (K : List Kd) (i : Nat) (k : Kd) (h : i ≤ K.length) : (insK K i k).getD i kd0 = k := by
  unfold insK
  rw [List.getD_eq_getElem?_getD, List.getElem?_append_right (by rw [List.length_take]; omega), List.length_take, Nat.min_eq_left h, Nat.sub_self]; rfl
theorem insK_set (K : List Kd) (i : Nat) (k k' : Kd) (h : i ≤ K.length) : (insK K i k).set i k' = insK K i k' := by
  unfold insK
  have hl : (K.take i).length = i := by rw [List.length_take]; omega
  conv => lhs; arg 2; rw [← hl]
  rw [List.set_append_right _ _ (Nat.le_refl _), Nat.sub_self]
  rfl

/-- what 'add' leads to -/
def AddR (w0 : World) (g : Nat) (nx : Int) (K : List Kd) (t : List UInt8) (d : Int) (e : Ending) (w' : World) : Prop :=
  if fullK nx K t then e = .returned (.int .i64 60) ∧ StF w0 w' g nx K else e = .returned (.int .i64 0) ∧ StF w0 w' g (nx + 1) (addK K t d)

theorem AddR.full {w0 W : World} {g : Nat} {nx : Int} {K : List Kd} {t : List UInt8} {d : Int} (hf : fullK nx K t = true) (h : StF w0 W g nx K) : AddR w0 g nx K t d (.returned (.int .i64 60)) W := by
  unfold AddR; rw [hf, if_pos rfl]; exact ⟨rfl, h⟩
theorem AddR.ok {w0 W : World} {g : Nat} {nx : Int} {K : List Kd} {t : List UInt8} {d : Int} (hf : fullK nx K t = false) (h : StF w0 W g (nx + 1) (addK K t d)) : AddR w0 g nx K t d (.returned (.int .i64 0)) W := by
  unfold AddR; rw [hf, if_neg (by decide)]; exact ⟨rfl, h⟩

theorem addHas_c {w0 w : World} {g : Nat} {nx : Int} {K : List Kd} (t d : List UInt8) (fk : FloatKind) (fb : Nat) (h : StF w0 w g nx K) (hs : sortK K) (hn0 : 0 ≤ nx) (hn1 : nx ≤ 1073741824) (hK : K.length ≤ 256)
    (hm : ∀ k ∈ K, 0 ≤ k.m ∧ k.m ≤ 1073741824 ∧ 0 ≤ k.b ∧ k.b ≤ 214748364800) (_ht : t.length ≤ 1000000) (_hd : (d.length : Int) ≤ 1000000) (hh : hasK K t = true) :
    Calls Try.prog 32 #[.pointer (some ⟨g, 0, none⟩), .agg #[.string ⟨t.toArray⟩, .string ⟨d.toArray⟩, .float fk fb]] w (AddR w0 g nx K t d.length) := by
  obtain ⟨v, hX, hg, hb, hrow, hne⟩ := h
  have HX := Lib.hid hX
  obtain ⟨va, vc, rfl⟩ := row_slice hrow
  have hlb := lbK_le K t
  have hh' := hh
  unfold hasK at hh'
  rw [Bool.and_eq_true, decide_eq_true_eq, decide_eq_true_eq] at hh'
  obtain ⟨hl, hkt⟩ := hh'
  have hkm := hm (K.getD (lbK K t) kd0) (by rw [List.getD_eq_getElem?_getD, List.getElem?_eq_getElem hl]; exact List.getElem_mem hl)
  obtain ⟨ao, cap, hv, hkds⟩ := Kds.of_own (Own.of_row hrow)
  cases hv
  have hev := ext_a1 w (.cells #[.string ⟨t.toArray⟩, .string ⟨d.toArray⟩, .float fk fb] 42)
  have hbk := Blk.new w 42 #[.string ⟨t.toArray⟩, .string ⟨d.toArray⟩, .float fk fb]
  have hb1 := hb.ext hev
  have hrow1 := row_ext hrow hev
  have HBs := Lib.hid (fun (x : ExtOf (w.alloc (.cells #[.string ⟨t.toArray⟩, .string ⟨d.toArray⟩, .float fk fb] 42))) => bsearch_c t 0 x.w' (hkds.ext (hev.trans x.h)) (by omega) hs)
  rw [hh] at HBs
  obtain ⟨q, hq⟩ : ∃ q, va = some ⟨q, 0, none⟩ := by
    obtain ⟨q, cur, h1, _⟩ := row_full hrow (by omega)
    exact ⟨q, h1⟩
  subst hq
  have hqg : q ≠ g := fun e => hne (by rw [e]; rfl)
  have hq0 : w0.heap.size ≤ q := (row_lt hrow q rfl).1
  have hqw : q < w.heap.size := (row_lt hrow q rfl).2
  have hgw : g < w.heap.size := hb.lt
  have HF : Hid (fullK nx K t = decide (1073741824 ≤ nx)) := Lib.hid (by unfold fullK; rw [hh]; simp)
  have HAdd : Hid (kcs (addK K t d.length) = ((kcs K).set (lbK K t * 3 + 1) (.int .i64 ((K.getD (lbK K t) kd0).m + 1))).set (lbK K t * 3 + 2) (.int .i64 ((K.getD (lbK K t) kd0).b + d.length)) ∧ (addK K t d.length).length = K.length) := Lib.hid (by
    unfold addK
    rw [hh, if_pos rfl, kcs_set K _ _ _ hl, hkt]
    exact ⟨rfl, by simp⟩)
  have g0 : (w.alloc (.cells #[.string ⟨t.toArray⟩, .string ⟨d.toArray⟩, .float fk fb] 42)).cell? ⟨g, 0, none⟩ = some (.int .i64 nx) := hb1.cell 0
  have g1 : (w.alloc (.cells #[.string ⟨t.toArray⟩, .string ⟨d.toArray⟩, .float fk fb] 42)).cell? ⟨g, 1, none⟩ = some (.slice (some ⟨q, 0, none⟩) K.length vc) := hb1.cell 1
  have v0 : (w.alloc (.cells #[.string ⟨t.toArray⟩, .string ⟨d.toArray⟩, .float fk fb] 42)).cell? ⟨w.heap.size, 0, none⟩ = some (.string ⟨t.toArray⟩) := hbk.cell 0
  have cc1 := cell_of g1
  have cc2 := cell_of v0
  have HB1 := Lib.hid hb1; have HEv := Lib.hid hbk; have HRow1 := Lib.hid hrow1
  have HEx := Lib.hid (hX.trans hev)
  have HKl := Lib.hid hK
  obtain ⟨lb, hlb'⟩ : ∃ lb, lbK K t = lb := ⟨_, rfl⟩
  rw [hlb'] at HBs HAdd hkm hl
  obtain ⟨m0, hm0⟩ : ∃ m0, (K.getD lb kd0).m = m0 := ⟨_, rfl⟩
  obtain ⟨b0, hb0⟩ : ∃ b0, (K.getD lb kd0).b = b0 := ⟨_, rfl⟩
  rw [hm0, hb0] at HAdd hkm
  have hc1 : (kcs K)[lb * 3 + 1]? = some (.int .i64 m0) := by rw [kcs_at K lb 1 hl (by decide), ← hm0]; rfl
  have hc2 : (kcs K)[lb * 3 + 2]? = some (.int .i64 b0) := by rw [kcs_at K lb 2 hl (by decide), ← hb0]; rfl
  have HC1 := Lib.hid hc1; have HC2 := Lib.hid hc2
  have hdec : decide (lb < K.length) = true := decide_eq_true hl
  obtain ⟨n, hn⟩ : ∃ n, n = K.length := ⟨_, rfl⟩
  have HN := Lib.hid hn
  rw [← hn] at HBs g1 cc1 hl HB1 HRow1 HAdd hK
  obtain ⟨C, hC⟩ : ∃ C, C = kcs K := ⟨_, rfl⟩
  rw [← hC] at HRow1 HC1 HC2 HAdd
  have HC := Lib.hid hC
  have q1 : (lb : Int) < (n : Int) := by omega
  have q2 : IntKind.i64.wrap (nx + 1) = nx + 1 := by rw [IntKind.wrap_i64]; omega
  have q3 : IntKind.i64.wrap (m0 + 1) = m0 + 1 := by rw [IntKind.wrap_i64]; omega
  have q4 : IntKind.i64.wrap (b0 + (d.length : Int)) = b0 + (d.length : Int) := by rw [IntKind.wrap_i64]; omega
  clear hm0 hb0 hlb' hc1 hc2 hn hC hX hb hrow hne hkds hev hbk hb1 hrow1 hh hkt hlb hs hm hdec
  go_enter Try.func32, Try.ntmps32
  go_wp2_with fail
  refine wp_region_ext (by kernel_rfl) (by kernel_rfl) ?_
  repeat (go_big_quiet_step (fail))
  go_big_quiet_step (exact Calls.quiet_ext (HBs.out _))
  repeat (go_big_quiet_step (fail))
  refine wpQuiet_nil ?_
  intro w2 hw2
  have HW2 := Lib.hid hw2
  have S2 := Lib.hid (HB1.out.ext hw2); have V2 := Lib.hid (HEv.out.ext hw2); have R2 := Lib.hid (row_ext HRow1.out hw2)
  have a0 : w2.cell? ⟨g, 0, none⟩ = some (.int .i64 nx) := S2.out.cell 0
  have a1 : w2.cell? ⟨g, 1, none⟩ = some (.slice (some ⟨q, 0, none⟩) n vc) := S2.out.cell 1
  have z0 := S2.out.free 0
  have v1 : w2.cell? ⟨w.heap.size, 1, none⟩ = some (.string ⟨d.toArray⟩) := V2.out.cell 1
  have r1 : w2.cell? ⟨q, lb * 3 + 1, none⟩ = some (.int .i64 m0) := (World.ownsRow.cellAt R2.out (lb * 3 + 1) (by omega)).trans HC1.out
  have r2 : w2.cell? ⟨q, lb * 3 + 2, none⟩ = some (.int .i64 b0) := (World.ownsRow.cellAt R2.out (lb * 3 + 2) (by omega)).trans HC2.out
  have f1 := World.ownsRow.frozenAt R2.out (lb * 3 + 1)
  have f2 := World.ownsRow.frozenAt R2.out (lb * 3 + 2)
  have hwg : w.heap.size ≠ g := by omega
  have hwq : w.heap.size ≠ q := by omega
  have hgq : g ≠ q := fun e => hqg e.symm
  clear hw2 cc1 cc2 g0 g1 v0
  by_cases hnx : 1073741824 ≤ nx
  · have hd : decide (1073741824 ≤ nx) = true := decide_eq_true hnx
    go_wp2_with fail
    go_ret
    refine AddR.full (by rw [HF.out, hd]) ⟨_, HEx.out.trans HW2.out, hg, S2.out, ?_, by rintro ⟨⟩; exact hqg rfl⟩
    have h := R2.out
    rw [HC.out, HN.out] at h
    rwa [HN.out]
  · have hd : decide (1073741824 ≤ nx) = false := decide_eq_false hnx
    go_wp2_with fail
    go_region
    go_wp2_with fail
    go_ret
    have hne' : (Value.slice (some ⟨q, 0, none⟩) n vc).ownBlock ≠ some g := by rintro ⟨⟩; exact hqg rfl
    refine AddR.ok (by rw [HF.out, hd]) ⟨.slice (some ⟨q, 0, none⟩) n vc, ?_, hg, ?_, ?_, hne'⟩
    · refine Ext.trans (b := ((w2.setCell ⟨g, 0, none⟩ (.int .i64 (nx + 1))).setCell ⟨q, lb * 3 + 1, none⟩ (.int .i64 (m0 + 1))).setCell ⟨q, lb * 3 + 2, none⟩ (.int .i64 (b0 + (d.length : Int)))) ?_ (Ext.refl _).drew
      exact Below.setCell (Below.setCell (Below.setCell (HEx.out.trans HW2.out) hg _) hq0 _) hq0 _
    · refine Blk.drew ?_
      refine Blk.same ?_ (Below.heap_setCell _ _ _ _ hgq)
      refine Blk.same ?_ (Below.heap_setCell _ _ _ _ hgq)
      exact S2.out.set 0 (.int .i64 (nx + 1))
    · have h0 := row_setOther R2.out (a := ⟨g, 0, none⟩) (.int .i64 (nx + 1)) hne'
      have h1 := (World.ownsRow.stored (World.ownsRow.stored h0 (lb * 3 + 1) (.int .i64 (m0 + 1))).1 (lb * 3 + 2) (.int .i64 (b0 + (d.length : Int)))).1
      rw [HAdd.out.1, HAdd.out.2]
      exact row_drew h1

theorem row_open {w : World} {B size n : Nat} {e : TypeId} {v : Value} {cs : List Value} (h : w.ownsRow B e size v n cs) (hn : 0 < n) : ∃ q c, v = .slice (some ⟨q, 0, none⟩) n c := by
  rcases h.2 with ⟨_, h2⟩ | ⟨g, cap, cur, h1, _⟩
  · omega
  · exact ⟨g, cap, h1⟩

theorem addNew_c {w0 w : World} {g : Nat} {nx : Int} {K : List Kd} (t d : List UInt8) (fk : FloatKind) (fb : Nat) (h : StF w0 w g nx K) (hs : sortK K) (hn0 : 0 ≤ nx) (hn1 : nx ≤ 1073741824) (hK : K.length ≤ 256)
    (_ht : t.length ≤ 1000000) (_hd : (d.length : Int) ≤ 1000000) (hh : hasK K t = false) :
    Calls Try.prog 32 #[.pointer (some ⟨g, 0, none⟩), .agg #[.string ⟨t.toArray⟩, .string ⟨d.toArray⟩, .float fk fb]] w (AddR w0 g nx K t d.length) := by
  obtain ⟨v, hX, hg, hb, hrow, hne⟩ := h
  obtain ⟨va, vc, rfl⟩ := row_slice hrow
  have hlb := lbK_le K t
  obtain ⟨ao, cap, hv, hkds⟩ := Kds.of_own (Own.of_row hrow)
  cases hv
  have hev := ext_a1 w (.cells #[.string ⟨t.toArray⟩, .string ⟨d.toArray⟩, .float fk fb] 42)
  have hbk := Blk.new w 42 #[.string ⟨t.toArray⟩, .string ⟨d.toArray⟩, .float fk fb]
  have hb1 := hb.ext hev
  have hrow1 := row_ext hrow hev
  have HBs := Lib.hid (fun (x : ExtOf (w.alloc (.cells #[.string ⟨t.toArray⟩, .string ⟨d.toArray⟩, .float fk fb] 42))) => bsearch_c t 0 x.w' (hkds.ext (hev.trans x.h)) (by omega) hs)
  rw [hh] at HBs
  have hvb : ∀ i, (Value.slice va K.length vc).ownBlock = some i → w0.heap.size ≤ i ∧ i < w.heap.size := fun i hi => row_lt hrow i hi
  have HVb := Lib.hid hvb
  have HNe := Lib.hid hne
  have hgw : g < w.heap.size := hb.lt
  have HF : Hid (fullK nx K t = (decide (1073741824 ≤ nx) || decide (256 ≤ K.length))) := Lib.hid (by unfold fullK; rw [hh]; simp)
  have HAdd : Hid (addK K t d.length = insK K (lbK K t) ⟨t, 1, d.length⟩) := Lib.hid (by unfold addK; rw [hh, if_neg (by decide)]; rfl)
  have HIns := Lib.hid (fun (W : World) (b : Nat) (h1 : W.ownsRow w0.heap.size 54 3 (.slice va K.length vc) K.length (kcs K)) (h2 : w0.heap.size ≤ W.heap.size) (h3 : Blk W b 54 #[.string ⟨t.toArray⟩, .int .i64 0, .int .i64 0]) (h4 : (Value.slice va K.length vc).ownBlock ≠ some b) =>
    insert_c (k := ⟨t, 0, 0⟩) h1 h2 (by omega) hlb h3 h4)
  have g0 : (w.alloc (.cells #[.string ⟨t.toArray⟩, .string ⟨d.toArray⟩, .float fk fb] 42)).cell? ⟨g, 0, none⟩ = some (.int .i64 nx) := hb1.cell 0
  have g1 : (w.alloc (.cells #[.string ⟨t.toArray⟩, .string ⟨d.toArray⟩, .float fk fb] 42)).cell? ⟨g, 1, none⟩ = some (.slice va K.length vc) := hb1.cell 1
  have v0 : (w.alloc (.cells #[.string ⟨t.toArray⟩, .string ⟨d.toArray⟩, .float fk fb] 42)).cell? ⟨w.heap.size, 0, none⟩ = some (.string ⟨t.toArray⟩) := hbk.cell 0
  have cc1 := cell_of g1
  have cc2 := cell_of v0
  have HB1 := Lib.hid hb1; have HEv := Lib.hid hbk; have HRow1 := Lib.hid hrow1
  have HEx := Lib.hid (hX.trans hev)
  have HXs := Lib.hid hX.size
  have HInl : Hid (∀ k, (insK K (lbK K t) k).length = K.length + 1) := Lib.hid fun k => insK_length K _ k hlb
  have HIc : Hid (∀ j u, (kc ⟨t, 0, 0⟩)[j]? = some u → (kcs (insK K (lbK K t) ⟨t, 0, 0⟩))[lbK K t * 3 + j]? = some u) := Lib.hid fun j u hj => by
    have hj3 : j < 3 := by
      rcases Nat.lt_or_ge j 3 with h | h
      · exact h
      · rw [List.getElem?_eq_none (by simpa [kc] using h)] at hj; cases hj
    rw [kcs_at _ _ j (by rw [insK_length K _ _ hlb]; omega) hj3, insK_getD K _ _ hlb]
    exact hj
  have HSt : Hid (((kcs (insK K (lbK K t) ⟨t, 0, 0⟩)).set (lbK K t * 3 + 1) (.int .i64 1)).set (lbK K t * 3 + 2) (.int .i64 (d.length : Int)) = kcs (insK K (lbK K t) ⟨t, 1, d.length⟩)) := Lib.hid (by
    rw [kcs_set _ _ _ _ (by rw [insK_length K _ _ hlb]; omega), insK_getD K _ _ hlb, insK_set K _ _ _ hlb])
  obtain ⟨lb, hlb'⟩ : ∃ lb, lbK K t = lb := ⟨_, rfl⟩
  rw [hlb'] at HBs HAdd hlb HIns HInl HIc HSt
  obtain ⟨n, hn⟩ : ∃ n, n = K.length := ⟨_, rfl⟩
  have HN := Lib.hid hn
  rw [← hn] at HBs g1 cc1 hlb HB1 HRow1 hK HF HIns HInl HNe HVb
  have q0 : (lb : Int) < (n : Int) + 1 := by omega
  have q2 : IntKind.i64.wrap (nx + 1) = nx + 1 := by rw [IntKind.wrap_i64]; omega
  clear hlb' hn hX hb hrow hne hkds hev hbk hb1 hrow1 hh hs hvb
  go_enter Try.func32, Try.ntmps32
  go_wp2_with fail
  refine wp_region_ext (by kernel_rfl) (by kernel_rfl) ?_
  repeat (go_big_quiet_step (fail))
  go_big_quiet_step (exact Calls.quiet_ext (HBs.out _))
  repeat (go_big_quiet_step (fail))
  refine wpQuiet_nil ?_
  intro w2 hw2
  have HW2 := Lib.hid hw2
  have S2 := Lib.hid (HB1.out.ext hw2); have V2 := Lib.hid (HEv.out.ext hw2); have R2 := Lib.hid (row_ext HRow1.out hw2)
  have a0 : w2.cell? ⟨g, 0, none⟩ = some (.int .i64 nx) := S2.out.cell 0
  have a1 : w2.cell? ⟨g, 1, none⟩ = some (.slice va n vc) := S2.out.cell 1
  have hwg : w.heap.size ≠ g := by omega
  have hs2 : w.heap.size < w2.heap.size := V2.out.lt
  have v0 : w2.cell? ⟨w.heap.size, 0, none⟩ = some (.string ⟨t.toArray⟩) := V2.out.cell 0
  clear hw2 cc1 cc2 g0 g1
  have HFull : Hid (fullK nx K t = true → AddR w0 g nx K t d.length (.returned (.int .i64 60)) w2) := Lib.hid fun hf => by
    refine AddR.full hf ⟨_, HEx.out.trans HW2.out, hg, S2.out, ?_, HNe.out⟩
    have h := R2.out
    rw [HN.out] at h ⊢
    exact h
  by_cases hnx : 1073741824 ≤ nx
  · have hd : decide (1073741824 ≤ nx) = true := decide_eq_true hnx
    go_wp2_with fail
    go_ret
    exact HFull.out (by rw [HF.out, hd]; rfl)
  · have hd : decide (1073741824 ≤ nx) = false := decide_eq_false hnx
    by_cases hfl : 256 ≤ n
    · have hd2 : decide ((256 : Int) ≤ (n : Int)) = true := decide_eq_true (by omega)
      go_wp2_with fail
      go_ret
      exact HFull.out (by rw [HF.out, decide_eq_true hfl]; simp)
    · have hd2 : decide ((256 : Int) ≤ (n : Int)) = false := decide_eq_false (by omega)
      have HF2 : Hid (fullK nx K t = false) := Lib.hid (by rw [HF.out, hd, decide_eq_false hfl]; rfl)
      clear hfl HFull
      have hx3 := Ext.drew (ext_a1 w2 (.cells #[.string ⟨t.toArray⟩, .int .i64 0, .int .i64 0] 54))
      have HX3 := Lib.hid hx3
      have hsz3 : ((w2.alloc (.cells #[.string ⟨t.toArray⟩, .int .i64 0, .int .i64 0] 54)).drew).heap.size = w2.heap.size + 1 := World.size_alloc _ _
      have HIn := Lib.hid (HIns.out ((w2.alloc (.cells #[.string ⟨t.toArray⟩, .int .i64 0, .int .i64 0] 54)).drew) w2.heap.size (row_ext R2.out hx3) (by have := HXs.out; omega) (Blk.new _ _ _).drew (fun e => by have := (HVb.out _ e).2; omega))
      have HSz3 := Lib.hid hsz3
      have hl2 : g < w2.heap.size := S2.out.lt
      have hn2 : g ≠ w2.heap.size := Nat.ne_of_lt hl2
      clear hx3 hsz3 HIns
      go_wp2_with fail
      go_region_law (go_simp; go_at_call 38; refine HIn.out.mono ?_; rintro e w3 ⟨v3, rfl, hrow3, hgr3, hor3⟩; obtain ⟨q3, c3, rfl⟩ := row_open hrow3 (by omega); have HR3 := Lib.hid hrow3; have HG3 := Lib.hid hgr3; have HO3 := Lib.hid hor3; have S3 : Hid (Blk w3 g 24 #[.int .i64 nx, .slice va n vc]) := Lib.hid ((S2.out.ext HX3.out).same (hgr3.block g (by have := HSz3.out; omega) (fun e => HNe.out e.symm))); have c31 : w3.cell? ⟨g, 1, none⟩ = some (.slice va n vc) := S3.out.cell 1; have z31 := S3.out.free 1; clear hrow3 hgr3 hor3)
      all_goals
        have hq3 : q3 ≠ g ∧ w0.heap.size ≤ q3 ∧ q3 ≠ w.heap.size := by
          have h5 := HSz3.out; have h6 := HXs.out
          rcases HO3.out with h | h
          · have h1 : (Value.slice va n vc).ownBlock = some q3 := h.symm
            have h2 := HVb.out q3 h1
            exact ⟨fun e => HNe.out (by rw [h1, e]), h2.1, by omega⟩
          · have h1 := h q3 rfl
            exact ⟨by omega, by omega, by omega⟩
        obtain ⟨hq3, hq0, hq4⟩ := hq3
        have hX3 : Ext w0 w3 := (HEx.out.trans (HW2.out.trans HX3.out)).grown HG3.out (by have h1 := HSz3.out; have h2 := HXs.out; omega) (fun q hq => (HVb.out q hq).1)
        have HX03 := Lib.hid hX3
        have V3 : Hid (Blk w3 w.heap.size 42 #[.string ⟨t.toArray⟩, .string ⟨d.toArray⟩, .float fk fb]) := Lib.hid ((V2.out.ext HX3.out).same (HG3.out.block _ (by have := HSz3.out; omega) (fun e => by have := (HVb.out _ e.symm).2; omega)))
        have c30 : w3.cell? ⟨g, 0, none⟩ = some (.int .i64 nx) := S3.out.cell 0
        have z30 := S3.out.free 0
        have d1 : w3.cell? ⟨w.heap.size, 1, none⟩ = some (.string ⟨d.toArray⟩) := V3.out.cell 1
        have r1 : w3.cell? ⟨q3, lb * 3 + 1, none⟩ = some (.int .i64 0) := (World.ownsRow.cellAt HR3.out (lb * 3 + 1) (by omega)).trans (HIc.out 1 _ rfl)
        have r2 : w3.cell? ⟨q3, lb * 3 + 2, none⟩ = some (.int .i64 0) := (World.ownsRow.cellAt HR3.out (lb * 3 + 2) (by omega)).trans (HIc.out 2 _ rfl)
        have f1 := World.ownsRow.frozenAt HR3.out (lb * 3 + 1)
        have f2 := World.ownsRow.frozenAt HR3.out (lb * 3 + 2)
        have hgq : g ≠ q3 := fun e => hq3 e.symm
        have hwq : w.heap.size ≠ q3 := fun e => hq4 e.symm
        clear hX3
        go_wp2_with fail
        go_region
        go_wp2_with fail
        go_ret
        have hne' : (Value.slice (some ⟨q3, 0, none⟩) (n + 1) c3).ownBlock ≠ some g := by rintro ⟨⟩; exact hq3 rfl
        refine AddR.ok HF2.out ⟨.slice (some ⟨q3, 0, none⟩) (n + 1) c3, ?_, hg, ?_, ?_, hne'⟩
        · refine Ext.drew ?_
          exact Below.setCell (Below.setCell (Below.setCell (Below.setCell HX03.out hg _) hg _) hq0 _) hq0 _
        · refine Blk.drew ?_
          refine Blk.same ?_ (Below.heap_setCell _ _ _ _ hgq)
          refine Blk.same ?_ (Below.heap_setCell _ _ _ _ hgq)
          exact (S3.out.set 1 (.slice (some ⟨q3, 0, none⟩) (n + 1) c3)).set 0 (.int .i64 (nx + 1))
        · have h0 := row_setOther (row_setOther HR3.out (a := ⟨g, 1, none⟩) (.slice (some ⟨q3, 0, none⟩) (n + 1) c3) hne') (a := ⟨g, 0, none⟩) (.int .i64 (nx + 1)) hne'
          have h1 := (World.ownsRow.stored (World.ownsRow.stored h0 (lb * 3 + 1) (.int .i64 1)).1 (lb * 3 + 2) (.int .i64 (d.length : Int))).1
          rw [HSt.out] at h1
          rw [HAdd.out, HInl.out]
          exact row_drew h1

theorem add_c {w0 w : World} {g : Nat} {nx : Int} {K : List Kd} (t d : List UInt8) (fk : FloatKind) (fb : Nat) (h : StF w0 w g nx K) (hs : sortK K) (hn0 : 0 ≤ nx) (hn1 : nx ≤ 1073741824) (hK : K.length ≤ 256)
    (hm : ∀ k ∈ K, 0 ≤ k.m ∧ k.m ≤ 1073741824 ∧ 0 ≤ k.b ∧ k.b ≤ 214748364800) (_ht : t.length ≤ 1000000) (_hd : (d.length : Int) ≤ 1000000) :
    Calls Try.prog 32 #[.pointer (some ⟨g, 0, none⟩), .agg #[.string ⟨t.toArray⟩, .string ⟨d.toArray⟩, .float fk fb]] w (AddR w0 g nx K t d.length) := by
  cases hh : hasK K t with
  | true => exact addHas_c t d fk fb h hs hn0 hn1 hK hm _ht _hd hh
  | false => exact addNew_c t d fk fb h hs hn0 hn1 hK _ht _hd hh

end Go.Proofs.Ytmopfhkppjcgbaa
namespace Go.Proofs.Ytmopfhkppjcgbaa
open Go.RowKit

set_option maxRecDepth 100000
set_option linter.unusedVariables false
set_option maxHeartbeats 12800000

theorem cloneK_c {ao : Option Addr} {n cap : Nat} {K : List Kd} (w : World) (hx : Kds w ao n cap K) (hn : n ≤ 1000) :
    Calls Try.prog 26 #[.slice ao n cap] w fun e w' => ∃ v, e = .returned v ∧ w'.ownsRow w.heap.size 54 3 v K.length (kcs K) ∧ Ext w w' := by
  have hq := fun (w : World) (a : Option Addr) (n c n' c' : Nat) => Lib.run_eql_slice_nil (P := Try.prog) w 22 54 a n c n' c' Try.underlying22
  have b1 := hx.fits; have b2 := hx.bound
  have hl := hx.len
  have hnil := hx.nil
  obtain ⟨i, hi, hz, hsize, hby⟩ := info_parts Try.infoKi
  have HI := Lib.hid hi; have HZ := Lib.hid hz; have HSz := Lib.hid hsize; have HBy := Lib.hid hby
  have HX0 := Lib.hid (Ext.refl w)
  cases ao with
  | none =>
    obtain rfl : cap = 0 := hnil rfl
    obtain rfl : n = 0 := by omega
    obtain rfl : K = [] := List.eq_nil_of_length_eq_zero hl
    clear hx hl hnil hi hz hsize hby
    go_enter Try.func26, Try.ntmps26
    go_wp2_with fail
    go_ret
    exact ⟨_, rfl, World.ownsRow_nil _ _ _ _, HX0.out⟩
  | some a =>
    have hrow0 : (w.alloc (.cells #[] 54)).ownsRow w.heap.size 54 3 (.slice (some ⟨w.heap.size, 0, none⟩) 0 0) 0 [] := ⟨rfl, .inr ⟨w.heap.size, 0, #[], rfl, Nat.le_refl _, Blk.new w _ _, Nat.le_refl _, by unfold maxLen; omega, rfl, rfl⟩⟩
    have HR0 := Lib.hid hrow0
    have HX1 := Lib.hid (ext_a1 w (.cells #[] 54))
    by_cases h0 : n = 0
    · subst h0
      obtain rfl : K = [] := List.eq_nil_of_length_eq_zero hl
      clear hx hl hnil hi hz hsize hby hrow0
      go_enter Try.func26, Try.ntmps26
      go_wp2_with fail
      go_ret
      exact ⟨_, rfl, HR0.out, HX1.out⟩
    · have HNews : Hid (∀ j u, (kcs K)[j]? = some u → (w.alloc (.cells #[] 54)).cell? (a.add j) = some u) := Lib.hid fun j u hj => by
        obtain ⟨b, off, e, h⟩ := (hx.ext HX1.out).rd j u hj
        cases e
        rw [Addr.add_lit]; exact h
      have HOne : Hid (∀ u ∈ kcs K, u.oneCell' = true) := Lib.hid fun u hu => by
        unfold kcs at hu
        obtain ⟨f, _, hf⟩ := List.mem_flatMap.1 hu
        exact kc_one' f u hf
      have HKl := Lib.hid (kcs_length K)
      have HL := Lib.hid hl
      have HLe : Hid ((kcs K).length = n * 3) := Lib.hid (by rw [kcs_length, hl])
      clear hx hl hnil hi hz hsize hby hrow0
      go_enter Try.func26, Try.ntmps26
      go_wp2_with (at_builtin; refine wpList_append_lies _ rfl _ _ 22 rfl w.heap.size 54 i _ 3 32 Try.underlying22 HI.out HZ.out HSz.out HBy.out (by decide) (by decide) _ 0 [] (by simp [Act.eval]) HR0.out a n cap (kcs K) (by simp [Act.eval]) HLe.out HNews.out HOne.out (by omega) (by unfold maxLen; omega) (by omega) HX1.out.size _ rfl ?_; intro g cap1 w1 hown hgrow hat hlt2; have HOw := Lib.hid hown; have HGr := Lib.hid hgrow; clear hown hgrow hat)
      go_wp2_with fail
      go_ret
      refine ⟨_, rfl, by have := HOw.out; rw [HL.out]; simpa using this, HX1.out.grown HGr.out HX1.out.size (fun q hq => by cases hq; exact Nat.le_refl _)⟩

/-- what a step tells, and what it leaves -/
def stepE (nx : Int) (K : List Kd) (v : Int) (t d : List UInt8) : Int :=
  if echeckN t d ≠ 0 then echeckN t d else if v ≠ nx then 80 else if fullK nx K t then 60 else 0
def StepR (w0 : World) (g : Nat) (nx : Int) (K : List Kd) (v : Int) (t d : List UInt8) (e : Ending) (w' : World) : Prop :=
  e = .returned (.int .i64 (stepE nx K v t d)) ∧ if stepE nx K v t d = 0 then StF w0 w' g (nx + 1) (addK K t d.length) else StF w0 w' g nx K
theorem StepR.no {w0 W : World} {g : Nat} {nx : Int} {K : List Kd} {v : Int} {t d : List UInt8} {c : Int} (hc : stepE nx K v t d = c) (h0 : c ≠ 0) (h : StF w0 W g nx K) : StepR w0 g nx K v t d (.returned (.int .i64 c)) W := by
  unfold StepR; rw [hc, if_neg h0]; exact ⟨rfl, h⟩

theorem echeck3 (t d : List UInt8) : echeckN t d = 0 ∨ echeckN t d = 2 ∨ echeckN t d = 3 := by
  unfold echeckN
  split
  · exact .inr (.inl rfl)
  · split
    · exact .inr (.inr rfl)
    · split
      · exact .inr (.inr rfl)
      · exact .inl rfl

theorem fstep_c {w0 w : World} {g : Nat} {nx : Int} {K : List Kd} (s t d : List UInt8) (v : Int) (fk : FloatKind) (fb : Nat) (h : StF w0 w g nx K) (hs : sortK K) (hn0 : 0 ≤ nx) (hn1 : nx ≤ 1073741824) (hK : K.length ≤ 256)
    (hm : ∀ k ∈ K, 0 ≤ k.m ∧ k.m ≤ 1073741824 ∧ 0 ≤ k.b ∧ k.b ≤ 214748364800) (_ht : t.length ≤ 1000000) (_hd : (d.length : Int) ≤ 1000000) :
    Calls Try.prog 27 #[.pointer (some ⟨g, 0, none⟩), toldV s t d v fk fb] w (StepR w0 g nx K v t d) := by
  have HE1 := Lib.hid (ext_a1 w (.cells (toldC s t d v fk fb) 44))
  have HEv := Lib.hid (Blk.new w 44 (toldC s t d v fk fb))
  have h1 := h.grow HE1.out
  have H1 := Lib.hid h1
  have HAdd := Lib.hid (fun W (hw : StF w0 W g nx K) => add_c t d fk fb hw hs hn0 hn1 hK hm _ht _hd)
  have hgw : g < w.heap.size := by obtain ⟨_, _, _, hb, _⟩ := h; exact hb.lt
  have hc3 : echeckN t d = 0 ∨ echeckN t d = 2 ∨ echeckN t d = 3 := echeck3 t d
  have HStep : Hid (stepE nx K v t d = if echeckN t d ≠ 0 then echeckN t d else if v ≠ nx then 80 else if fullK nx K t then 60 else 0) := Lib.hid rfl
  obtain ⟨c, hc⟩ : ∃ c, echeckN t d = c := ⟨_, rfl⟩
  have HCk := Lib.hid (fun W => echeck_c t d fk fb W (by omega) (by omega))
  rw [hc] at HStep HCk hc3
  have HNo := Lib.hid (fun (c : Int) W (hc : stepE nx K v t d = c) (h0 : c ≠ 0) (h : StF w0 W g nx K) => StepR.no hc h0 h)
  have HYes : Hid (∀ e W, stepE nx K v t d = (if fullK nx K t then 60 else 0) → AddR w0 g nx K t d.length e W → StepR w0 g nx K v t d e W ∧ ∃ c, e = .returned (.int .i64 c)) := Lib.hid fun e W he ha => by
    unfold AddR at ha
    unfold StepR
    rw [he]
    cases hf : fullK nx K t with
    | true => rw [hf, if_pos rfl] at ha; rw [if_pos rfl, if_neg (by decide)]; exact ⟨ha, _, ha.1⟩
    | false => rw [hf, if_neg (by decide)] at ha; rw [if_neg (by decide), if_pos rfl]; exact ⟨ha, _, ha.1⟩
  clear h h1 hc
  unfold toldV
  unfold toldC at HE1 H1 HEv
  rcases hc3 with rfl | hc3
  · by_cases hv : v = nx
    · have hv' : (v == nx) = true := by simpa using hv
      have hvn : (v != nx) = false := by simpa using hv
      have HS2 : Hid (stepE nx K v t d = (if fullK nx K t then 60 else 0)) := Lib.hid (by rw [HStep.out, if_neg (fun h => h rfl), if_neg (fun h => h hv)])
      have HVe := Lib.hid hv
      clear HStep hv
      go_enter Try.func27, Try.ntmps27
      go_wp2_with fail
      refine (HCk.out _).mono ?_
      rintro e w2 ⟨rfl, hw2⟩
      have S2 := Lib.hid (H1.out.grow hw2); have V2 := Lib.hid (HEv.out.ext hw2)
      have a0 : w2.cell? ⟨g, 0, none⟩ = some (.int .i64 nx) := by obtain ⟨_, _, _, hb, _⟩ := S2.out; exact hb.cell 0
      have u1 : w2.cell? ⟨w.heap.size, 1, none⟩ = some (.int .i64 v) := V2.out.cell 1
      clear hw2
      go_wp2_with fail
      go_region
      all_goals
        have S3 := Lib.hid (S2.out.grow (Ext.refl w2).drew); have V3 := Lib.hid V2.out.drew
        have u2 : w2.drew.cell? ⟨w.heap.size, 2, none⟩ = some (.string ⟨t.toArray⟩) := V3.out.cell 2
        have u3 : w2.drew.cell? ⟨w.heap.size, 3, none⟩ = some (.string ⟨d.toArray⟩) := V3.out.cell 3
        have u4 : w2.drew.cell? ⟨w.heap.size, 4, none⟩ = some (.float fk fb) := V3.out.cell 4
        go_wp2_with fail
        refine (HAdd.out _ S3.out).mono ?_
        intro e w3 ha
        obtain ⟨hr, c, rfl⟩ := HYes.out _ _ HS2.out ha
        have HR := Lib.hid hr
        clear ha hr
        go_wp2_with fail
        go_ret
        exact HR.out
    · have hv' : (v == nx) = false := by simpa using hv
      have hvn : (v != nx) = true := by simpa using hv
      have HS2 : Hid (stepE nx K v t d = 80) := Lib.hid (by rw [HStep.out, if_neg (fun h => h rfl), if_pos hv])
      clear HStep hv
      go_enter Try.func27, Try.ntmps27
      go_wp2_with fail
      refine (HCk.out _).mono ?_
      rintro e w2 ⟨rfl, hw2⟩
      have S2 := Lib.hid (H1.out.grow hw2); have V2 := Lib.hid (HEv.out.ext hw2)
      have a0 : w2.cell? ⟨g, 0, none⟩ = some (.int .i64 nx) := by obtain ⟨_, _, _, hb, _⟩ := S2.out; exact hb.cell 0
      have u1 : w2.cell? ⟨w.heap.size, 1, none⟩ = some (.int .i64 v) := V2.out.cell 1
      clear hw2
      go_wp2_with fail
      go_region
      all_goals
        go_wp2_with fail
        go_ret
        exact HNo.out _ _ HS2.out (by decide) (S2.out.grow (Ext.refl w2).drew)
  · have h0 : c ≠ 0 := by omega
    have HS2 : Hid (stepE nx K v t d = c) := Lib.hid (by rw [HStep.out, if_pos h0])
    have hb : (c != 0) = true := by simpa using h0
    have H0 := Lib.hid h0
    clear HStep hc3 h0
    go_enter Try.func27, Try.ntmps27
    go_wp2_with fail
    refine (HCk.out _).mono ?_
    rintro e w2 ⟨rfl, hw2⟩
    have S2 := Lib.hid (H1.out.grow hw2)
    clear hw2
    go_wp2_with fail
    go_ret
    exact HNo.out _ _ HS2.out H0.out S2.out

end Go.Proofs.Ytmopfhkppjcgbaa
namespace Go.Proofs.Ytmopfhkppjcgbaa
open Go.RowKit

theorem okState_iff {nx : Int} {K : List Kd} : okState nx K ↔ 0 ≤ nx ∧ nx ≤ 1073741824 ∧ K.length ≤ 256 ∧ (∀ k ∈ K, 1 ≤ k.t.length ∧ k.t.length ≤ 16 ∧ 1 ≤ k.m ∧ 0 ≤ k.b ∧ k.b ≤ 200 * k.m) ∧ sortK K ∧ sumM K = nx := by
  constructor
  · intro h
    refine ⟨h.1, h.2.1, h.2.2.1, fun k hk => ?_, h.sorted, h.2.2.2.2⟩
    obtain ⟨i, hi, rfl⟩ := List.mem_iff_getElem.1 hk
    have h1 := h.2.2.2.1 i hi
    unfold okAt okK at h1
    rw [List.getD_eq_getElem?_getD, List.getElem?_eq_getElem hi] at h1
    exact ⟨h1.1, h1.2.1, h1.2.2.1, h1.2.2.2.1, h1.2.2.2.2.1⟩
  · rintro ⟨h1, h2, h3, h4, h5, h6⟩
    refine ⟨h1, h2, h3, fun i hi => ?_, h6⟩
    have h7 := h4 K[i] (List.getElem_mem hi)
    unfold okAt okK
    rw [List.getD_eq_getElem?_getD, List.getElem?_eq_getElem hi]
    refine ⟨h7.1, h7.2.1, h7.2.2.1, h7.2.2.2.1, h7.2.2.2.2, fun q hq => ?_⟩
    unfold prevT at hq
    split at hq
    · cases hq
    · cases hq
      rw [List.getD_eq_getElem?_getD, List.getElem?_eq_getElem (show i - 1 < K.length by omega)]
      exact List.pairwise_iff_getElem.1 h5 (i - 1) i (by omega) hi (by omega)
theorem sortK_map {K M : List Kd} (h : K.map (·.t) = M.map (·.t)) (hs : sortK K) : sortK M := by
  have h1 : (K.map (·.t)).Pairwise fun a b => Op.bytesLess a b = true := List.pairwise_map.2 hs
  rw [h] at h1
  exact List.pairwise_map.1 h1
theorem sumM_cons (k : Kd) (K : List Kd) : sumM (k :: K) = k.m + sumM K := by unfold sumM; simp
theorem sumM_mem {K : List Kd} (h : ∀ k ∈ K, 1 ≤ k.m) : ∀ k ∈ K, k.m ≤ sumM K := by
  induction K with
  | nil => intro k hk; cases hk
  | cons a r ih =>
    intro k hk
    have h1 := sumM_nonneg r fun x hx => h x (by simp [hx])
    rw [sumM_cons]
    rcases List.mem_cons.1 hk with rfl | hk
    · omega
    · have h2 := ih (fun x hx => h x (by simp [hx])) k hk
      have h3 := h a (by simp)
      omega
theorem okState.bounds {nx : Int} {K : List Kd} (h : okState nx K) : ∀ k ∈ K, 0 ≤ k.m ∧ k.m ≤ 1073741824 ∧ 0 ≤ k.b ∧ k.b ≤ 214748364800 := fun k hk => by
  obtain ⟨h1, h2, h3, h4, h5, h6⟩ := okState_iff.1 h
  have h7 := h4 k hk
  have h8 := sumM_mem (fun x hx => (h4 x hx).2.2.1) k hk
  omega
theorem echeck0 {t d : List UInt8} (h : echeckN t d = 0) : 1 ≤ t.length ∧ t.length ≤ 16 ∧ d.length ≤ 200 := by
  unfold echeckN at h
  split at h
  · exact absurd h (by decide)
  · rename_i h0
    split at h
    · exact absurd h (by decide)
    · split at h
      · exact absurd h (by decide)
      · have : 0 < t.length := List.length_pos_iff.2 h0
        omega
theorem okState.add {nx : Int} {K : List Kd} (h : okState nx K) {t d : List UInt8} (he : echeckN t d = 0) (hf : fullK nx K t = false) : okState (nx + 1) (addK K t d.length) := by
  obtain ⟨h1, h2, h3, h4, h5, h6⟩ := okState_iff.1 h
  obtain ⟨e1, e2, e3⟩ := echeck0 he
  unfold fullK at hf
  rw [Bool.or_eq_false_iff] at hf
  have hn : ¬ 1073741824 ≤ nx := of_decide_eq_false hf.1
  have hlb := lbK_le K t
  cases hh : hasK K t with
  | true =>
    have hh' := hh
    unfold hasK at hh'
    rw [Bool.and_eq_true, decide_eq_true_eq, decide_eq_true_eq] at hh'
    obtain ⟨hl, hkt⟩ := hh'
    have hg : K.getD (lbK K t) kd0 = K[lbK K t] := by rw [List.getD_eq_getElem?_getD, List.getElem?_eq_getElem hl]; rfl
    rw [hg] at hkt
    have hm := h4 K[lbK K t] (List.getElem_mem hl)
    have ha : addK K t d.length = K.set (lbK K t) ⟨t, K[lbK K t].m + 1, K[lbK K t].b + d.length⟩ := by unfold addK; rw [hh, if_pos rfl, hg]
    rw [ha]
    refine okState_iff.2 ⟨by omega, by omega, by rw [List.length_set]; exact h3, fun k hk => ?_, ?_, ?_⟩
    · rcases List.mem_or_eq_of_mem_set hk with hk | rfl
      · exact h4 k hk
      · exact ⟨e1, e2, by show 1 ≤ K[lbK K t].m + 1; omega, by show 0 ≤ K[lbK K t].b + _; omega, by show K[lbK K t].b + _ ≤ 200 * (K[lbK K t].m + 1); omega⟩
    · refine sortK_map (K := K) ?_ h5
      rw [List.map_set]
      refine List.ext_getElem? fun i => ?_
      rw [List.getElem?_set]
      split
      · rename_i hi
        subst hi
        rw [if_pos (by simpa using hl), List.getElem?_map, List.getElem?_eq_getElem hl]
        simp [hkt]
      · rfl
    · have e : K = K.take (lbK K t) ++ K[lbK K t] :: K.drop (lbK K t + 1) := by rw [← List.drop_eq_getElem_cons hl, List.take_append_drop]
      rw [List.set_eq_take_append_cons_drop, if_pos hl, sumM_append, sumM_cons]
      have e2 : sumM K = sumM (K.take (lbK K t)) + (K[lbK K t].m + sumM (K.drop (lbK K t + 1))) := by
        conv => lhs; rw [e]
        rw [sumM_append, sumM_cons]
      show _ + (K[lbK K t].m + 1 + _) = _
      omega
  | false =>
    have hlen : ¬ 256 ≤ K.length := by have := hf.2; rw [hh] at this; simpa using this
    have ha : addK K t d.length = K.take (lbK K t) ++ ⟨t, 1, d.length⟩ :: K.drop (lbK K t) := by unfold addK; rw [hh, if_neg (by decide)]
    rw [ha]
    refine okState_iff.2 ⟨by omega, by omega, by simp; omega, fun k hk => ?_, ?_, ?_⟩
    · rcases List.mem_append.1 hk with hk | hk
      · exact h4 k (List.mem_of_mem_take hk)
      · rcases List.mem_cons.1 hk with rfl | hk
        · exact ⟨e1, e2, by show (1 : Int) ≤ 1; decide, by show 0 ≤ (d.length : Int); omega, by show (d.length : Int) ≤ 200 * 1; omega⟩
        · exact h4 k (List.mem_of_mem_drop hk)
    · refine List.pairwise_append.2 ⟨List.Pairwise.take h5, List.pairwise_cons.2 ⟨fun x hx => ?_, List.Pairwise.drop h5⟩, fun x hx y hy => ?_⟩
      · rw [behind_no h5 hh] at hx
        exact (List.mem_filter.1 hx).2
      · rw [take_lb t h5] at hx
        have hxt := (List.mem_filter.1 hx).2
        rcases List.mem_cons.1 hy with rfl | hy
        · exact hxt
        · rw [behind_no h5 hh] at hy
          exact bl_trans hxt (List.mem_filter.1 hy).2
    · rw [sumM_append, sumM_cons]
      have e2 : sumM K = sumM (K.take (lbK K t)) + sumM (K.drop (lbK K t)) := by rw [← sumM_append, List.take_append_drop]
      show _ + (1 + _) = _
      omega
theorem okState.step {nx : Int} {K : List Kd} (h : okState nx K) {v : Int} {t d : List UInt8} (he : stepE nx K v t d = 0) : okState (nx + 1) (addK K t d.length) := by
  have h3 := echeck3 t d
  unfold stepE at he
  split at he
  · omega
  · split at he
    · omega
    · rename_i h1 _
      cases hf : fullK nx K t with
      | true => rw [hf, if_pos rfl] at he; omega
      | false => exact h.add (by omega) hf

/-- an event, where it stands -/
structure Td where
  s : List UInt8
  v : Int
  t : List UInt8
  d : List UInt8
  b : Nat
def td0 : Td := ⟨[], 0, [], [], 0⟩
/-- what events lead to: the number, the kinds, the error -/
def foldS : Int → List Kd → List Td → Int × List Kd × Int
  | nx, K, [] => (nx, K, 0)
  | nx, K, x :: r => if stepE nx K x.v x.t x.d = 0 then foldS (nx + 1) (addK K x.t x.d.length) r else (0, [], stepE nx K x.v x.t x.d)

end Go.Proofs.Ytmopfhkppjcgbaa
