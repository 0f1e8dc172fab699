/- Walks: the law PtablesRefused. -/
import Derived.Test.YtmoieamadjjloaaGreatG41PPtablesRefused
import Derived.BigRegion
import Derived.Deep.CutRange
set_option linter.unusedVariables false
set_option linter.unusedSimpArgs false
namespace Go.Proofs.YtmoieamadjjloaaGreat
open Go.RowKit

set_option maxRecDepth 100000
set_option linter.unusedVariables false
set_option maxHeartbeats 12800000

/-! plain -/
theorem Pl.delete {σ : DM} {c s : Int} {l : List (List UInt8 × List UInt8)} {nm : List UInt8} {x : List UInt8 × List UInt8} (h : Pl σ c s l) (hf : findN Prod.fst nm l = some x) : ∃ σ', deleteM σ nm = (0, σ') ∧ Pl σ' c s (delN Prod.fst nm l) := by
  obtain ⟨f, h1, h2⟩ := h.find_some hf
  refine ⟨{ tickM σ with L := delN FM.nm nm σ.L }, ?_, ⟨h.up, h.fine, ?_, h.cap, h.st⟩⟩
  · unfold deleteM
    rw [if_neg (by rw [h.up]; decide), h1, if_neg (by simp), if_neg (by rw [h.no]; decide)]
  · show (delN FM.nm nm σ.L).map fbF = _
    rw [← h.files]
    unfold delN
    rw [List.filter_map]
    rfl
theorem Pl.deleteN {σ : DM} {c s : Int} {l : List (List UInt8 × List UInt8)} {nm : List UInt8} (h : Pl σ c s l) (hf : findN Prod.fst nm l = none) : deleteM σ nm = (4, σ) := by
  unfold deleteM
  rw [if_neg (by rw [h.up]; decide), h.find_none hf]
  rfl
theorem Pl.dropNone {σ : DM} {c s : Int} (h : Pl σ c s []) (n : Int) : pdropM σ n = (0, σ) := by
  have h1 : ∀ nm, deleteM σ nm = (4, σ) := fun nm => h.deleteN rfl
  unfold pdropM
  rw [h1]
  simp only
  rw [h1, if_pos (.inr (.inl rfl)), if_pos (.inr (.inl rfl))]
theorem pwrite_bad {σ : DM} {n : Int} {L : List En} (f : List UInt8) (h : ¬ (0 ≤ n ∧ n ≤ 999999) ∨ sortB L = false) : pwriteM σ n L f = (2, σ) := by unfold pwriteM; rw [if_pos h]
theorem pwrite_down {σ : DM} {n : Int} {L : List En} (f : List UInt8) (hn : 0 ≤ n ∧ n ≤ 999999) (hs : sortB L = true) (hd : σ.down = true) : pwriteM σ n L f = (61, σ) := by
  unfold pwriteM
  rw [if_neg (by rw [hs]; simp; omega), if_pos hd]
/-- a table on a disk that was just made, with whatever room -/
theorem write_room {c : Int} (hc : 6000 ≤ c) {L : List En} (hs : sortB L = true) (f : List UInt8) :
    ∃ e τ l τ', pwriteM (newM c) 1 L f = (e, τ) ∧ Pl τ c 0 l ∧ (e = 0 ∨ (e = 60 ∧ l = [])) ∧ (usedP l : Int) ≤ c - 6000 ∧ pdropM τ 1 = (0, τ') ∧ Pl τ' c 0 [] := by
  by_cases hr : 6000 ≤ c - ((tabB L).length : Int) - (f.length : Int)
  · obtain ⟨σ', h1, h2, _⟩ := write_new (n := 1) (by decide) hs hr
    have hne : nameS 98 1 ≠ nameS 116 1 := (name_tb 1 1 (by decide) (by decide)).symm
    obtain ⟨BN, hBN⟩ : ∃ BN, BN = nameS 98 1 := ⟨_, rfl⟩
    rw [← hBN] at h2 hne
    have hb : (BN == nameS 116 1) = false := by simpa using hne
    have hf1 : findN Prod.fst (nameS 116 1) [(BN, f), (nameS 116 1, tabB L)] = some (nameS 116 1, tabB L) := by
      unfold findN
      rw [List.find?_cons, hb, List.find?_cons]
      simp
    obtain ⟨σ2, h3, h4⟩ := h2.delete hf1
    have hd : delN Prod.fst (nameS 116 1) [(BN, f), (nameS 116 1, tabB L)] = [(BN, f)] := by
      simp [delN, hb]
    rw [hd] at h4
    have hf2 : findN Prod.fst BN [(BN, f)] = some (BN, f) := by simp [findN]
    obtain ⟨σ3, h5, h6⟩ := h4.delete hf2
    have hd2 : delN Prod.fst BN [(BN, f)] = [] := by simp [delN]
    rw [hd2] at h6
    refine ⟨0, σ', _, σ3, h1, h2, .inl rfl, by simp [usedP, sumN]; omega, ?_, h6⟩
    rw [hBN] at h5
    unfold pdropM
    rw [h3]
    simp only
    rw [h5, if_pos (.inl rfl), if_pos (.inl rfl)]
  · refine ⟨60, newM c, [], newM c, ?_, Pl.made c, .inr ⟨rfl, rfl⟩, by simp [usedP, sumN]; omega, (Pl.made c).dropNone 1, Pl.made c⟩
    unfold pwriteM
    rw [if_neg (by rw [hs]; simp), if_neg (by rw [(Pl.made c).up]; decide), (Pl.made c).free, if_pos (by simp [usedP, sumN]; omega)]

theorem unsorted {x y : En} {r : List En} (h : sortB (x :: y :: r) = true) : sortB (y :: x :: r) = false := by
  have h1 : lessE x y = true := by
    unfold sortB at h
    rw [Bool.and_eq_true] at h
    exact h.1
  have h2 : lessE y x = false := by
    cases h3 : lessE y x with
    | false => rfl
    | true => have := lessE_trans h1 h3; rw [lessE_irrefl] at this; cases this
  unfold sortB
  rw [h2]; rfl

/-! memory -/
theorem Own.stored3 {w : World} {B : Nat} {e : TypeId} {v : Value} {n : Nat} {cs : List Value} (h : Own w B e 3 v n cs) {g cap : Nat} (hv : v = .slice (some ⟨g, 0, none⟩) n cap) (j : Nat) (u : Value) : Own (w.setCell ⟨g, j, none⟩ u) B e 3 v n (cs.set j u) := by
  have hl := h.1
  refine ⟨by simpa using hl, ?_⟩
  rcases h.2 with ⟨rfl, _⟩ | ⟨g', cap', cur, rfl, hb, hg, h1, h2, h3, h4⟩
  · cases hv
  · cases hv
    refine .inr ⟨g, cap, cur.setIfInBounds j u, rfl, hb, ?_, h1, h2, by simpa using h3, ?_⟩
    · simp only [World.setCell, Array.getElem?_modify, if_true, hg, Option.map_some]
      rfl
    · rw [Array.toList_setIfInBounds, ← h4, List.take_set]

section
variable {wb W W' : World} {g : Nat} {σ σ' : DM} {K : Nat → Prop}
theorem DkW.side (h : DkW wb W g σ K) (hs : W.heap.size ≤ W'.heap.size) (hx : Ext wb W') (k : ∀ i, i < W.heap.size → ¬ K i → W'.heap[i]? = W.heap[i]?) : DkW wb W' g σ K := by
  obtain ⟨F, h1⟩ := h
  exact ⟨F, h1.d.held hs fun i hi => k i (h1.d.Flt i hi) fun hk => (h1.k i hk).2 hi, h1.bF, hx, fun i hi => ⟨Nat.lt_of_lt_of_le (h1.k i hi).1 hs, (h1.k i hi).2⟩⟩
theorem DkW.free (h : DkW wb W g σ K) : Calls Tryz.prog 19 #[.pointer (some ⟨g, 0, none⟩)] W fun e w' => e = .returned (.int .i64 (freeM σ)) ∧ Ext W w' := by
  obtain ⟨F, h1⟩ := h
  exact free_c h1.d
theorem DkW.names (h : DkW wb W g σ K) : Calls Tryz.prog 18 #[.pointer (some ⟨g, 0, none⟩)] W fun e w' => ∃ ao cap, e = .returned (.slice ao (namesM σ).length cap) ∧ Ext W w' := by
  obtain ⟨F, h1⟩ := h
  have hk : KD wb W g σ := ⟨F, h1.d, h1.bF, h1.ext⟩
  refine hk.names.mono ?_
  intro e w' hr
  obtain ⟨ao, cap, h1, _, h2⟩ := hr.out
  exact ⟨ao, cap, h1, h2⟩
theorem DkW.drop (h : DkW wb W g σ K) (n : Int) {e : Int} (hr : pdropM σ n = (e, σ')) : Calls Tryz.prog 21 #[.pointer (some ⟨g, 0, none⟩), .int .i64 n] W fun r w' => r = .returned (.int .i64 e) ∧ DkW wb w' g σ' K ∧ Stay K W w' := by
  have := h.disk (fun F hd => pdrop_c hd n)
  rwa [hr] at this
theorem DkW.crash (h : DkW wb W g σ K) (hup : σ.down = false) : Calls Tryz.prog 22 #[.pointer (some ⟨g, 0, none⟩), .slice none 0 0] W fun r w' => r = .returned (.int .i64 0) ∧ DkW wb w' g (crashM σ []) K ∧ Stay K W w' := by
  have := h.disk (fun F hd => crashD_c hd none 0 0 [] (fun W _ => Ints.empty W))
  unfold crashD at this
  rw [if_neg (by rw [hup]; decide)] at this
  exact this
end

theorem own_cells {w : World} {B : Nat} {e : TypeId} {b m vc : Nat} {x0 x1 x2 y0 y1 y2 : Int} {r : List En} (h : Own w B e 3 (.slice (some ⟨b, 0, none⟩) m vc) m (ecs ((x0, x1, x2) :: (y0, y1, y2) :: r))) :
    w.cell? ⟨b, 0, none⟩ = some (.int .u64 x0) ∧ w.cell? ⟨b, 1, none⟩ = some (.int .i64 x1) ∧ w.cell? ⟨b, 2, none⟩ = some (.int .i64 x2) ∧ w.cell? ⟨b, 3, none⟩ = some (.int .u64 y0) ∧ w.cell? ⟨b, 4, none⟩ = some (.int .i64 y1) ∧ w.cell? ⟨b, 5, none⟩ = some (.int .i64 y2) ∧ ∀ j, j < 6 → w.frozen? ⟨b, j, none⟩ = false := by
  have hc : ∀ j u, (ecs ((x0, x1, x2) :: (y0, y1, y2) :: r))[j]? = some u → w.cell? ⟨b, j, none⟩ = some u ∧ w.frozen? ⟨b, j, none⟩ = false := fun j u hu => by
    have hj : j < (ecs ((x0, x1, x2) :: (y0, y1, y2) :: r)).length := by
      rcases Nat.lt_or_ge j (ecs ((x0, x1, x2) :: (y0, y1, y2) :: r)).length with h | h
      · exact h
      · rw [List.getElem?_eq_none h] at hu; cases hu
    obtain ⟨g, cap, h1, h2, h3, _⟩ := h.cell (j := j) (by first | exact hj | (rw [← h.1]; exact hj))
    cases h1
    rw [List.getElem?_eq_getElem hj] at hu
    cases hu
    exact ⟨h2, h3⟩
  refine ⟨(hc 0 _ rfl).1, (hc 1 _ rfl).1, (hc 2 _ rfl).1, (hc 3 _ rfl).1, (hc 4 _ rfl).1, (hc 5 _ rfl).1, fun j hj => ?_⟩
  have : j = 0 ∨ j = 1 ∨ j = 2 ∨ j = 3 ∨ j = 4 ∨ j = 5 := by omega
  rcases this with rfl | rfl | rfl | rfl | rfl | rfl
  · exact (hc 0 _ rfl).2
  · exact (hc 1 _ rfl).2
  · exact (hc 2 _ rfl).2
  · exact (hc 3 _ rfl).2
  · exact (hc 4 _ rfl).2
  · exact (hc 5 _ rfl).2
theorem own_swap {w w0 : World} {B : Nat} {e : TypeId} {b m vc g : Nat} {σ : DM} {x0 x1 x2 y0 y1 y2 : Int} {r : List En} (h : Own w B e 3 (.slice (some ⟨b, 0, none⟩) m vc) m (ecs ((x0, x1, x2) :: (y0, y1, y2) :: r)))
    (hb : w0.heap.size ≤ b) (hd : DkW w0 w g σ (fun i => (Value.slice (some ⟨b, 0, none⟩) m vc).ownBlock = some i)) :
    Own ((((((w.setCell ⟨b, 0, none⟩ (.int .u64 y0)).setCell ⟨b, 1, none⟩ (.int .i64 y1)).setCell ⟨b, 2, none⟩ (.int .i64 y2)).setCell ⟨b, 3, none⟩ (.int .u64 x0)).setCell ⟨b, 4, none⟩ (.int .i64 x1)).setCell ⟨b, 5, none⟩ (.int .i64 x2)).drew B e 3 (.slice (some ⟨b, 0, none⟩) m vc) m (ecs ((y0, y1, y2) :: (x0, x1, x2) :: r)) ∧
    DkW w0 ((((((w.setCell ⟨b, 0, none⟩ (.int .u64 y0)).setCell ⟨b, 1, none⟩ (.int .i64 y1)).setCell ⟨b, 2, none⟩ (.int .i64 y2)).setCell ⟨b, 3, none⟩ (.int .u64 x0)).setCell ⟨b, 4, none⟩ (.int .i64 x1)).setCell ⟨b, 5, none⟩ (.int .i64 x2)).drew g σ (fun i => (Value.slice (some ⟨b, 0, none⟩) m vc).ownBlock = some i) := by
  have h6 := (((((h.stored3 rfl 0 (.int .u64 y0)).stored3 rfl 1 (.int .i64 y1)).stored3 rfl 2 (.int .i64 y2)).stored3 rfl 3 (.int .u64 x0)).stored3 rfl 4 (.int .i64 x1)).stored3 rfl 5 (.int .i64 x2)
  refine ⟨h6.ext (Ext.refl _).drew, ?_⟩
  refine DkW.grow (hd.side (by simp [World.setCell]) (Below.setCell (Below.setCell (Below.setCell (Below.setCell (Below.setCell (Below.setCell hd.base hb _) hb _) hb _) hb _) hb _) hb _) fun i hi hn => ?_) (Ext.refl _).drew
  have hne : i ≠ b := fun e => hn (by rw [e]; rfl)
  rw [Below.heap_setCell _ _ _ _ hne, Below.heap_setCell _ _ _ _ hne, Below.heap_setCell _ _ _ _ hne, Below.heap_setCell _ _ _ _ hne, Below.heap_setCell _ _ _ _ hne, Below.heap_setCell _ _ _ _ hne]

theorem refusedlaw_c {ao : Option Addr} {n cap : Nat} {R : List En} (room k : Int) (w : World) (hx : EnsIn w ao n cap R) (hro : 0 ≤ room ∧ room ≤ 65535) (hk : -9223372036854775808 ≤ k ∧ k ≤ 9223372036854775807) :
    Calls Tryz.prog 4 #[.slice ao n cap, .int .u16 room, .int .i64 k] w fun e w' => e = .returned (.bool true) ∧ Ext w w' := by
  have HSm := Lib.hid small_c
  have b1 := hx.fits; have b2 := hx.bound
  by_cases hbig : 60 < n
  · have hd : decide ((60 : Int) < (n : Int)) = true := decide_eq_true (by omega)
    clear hbig hx
    go_enter Tryz.func4, Tryz.ntmps4
    go_wp2_with fail
    refine (HSm.out _).mono ?_
    rintro e w1 ⟨rfl, hb⟩
    have HB := Lib.hid hb
    clear hb
    go_wp2_with fail
    go_ret
    exact ⟨rfl, HB.out⟩
  · have hn : n ≤ 60 := by omega
    have hd1 : decide ((60 : Int) < (n : Int)) = false := decide_eq_false (by omega)
    have HMd := Lib.hid (made_c w hx.ens (by omega) (fun e he => (hx.ok e he).h0))
    obtain ⟨ms, mo, ml⟩ := madeL_ok R (fun e he => (hx.ok e he).h0)
    rw [hx.len] at ml
    generalize madeL R = M at *
    have HMs := Lib.hid ((sortB_iff _).2 ms); have HMo := Lib.hid mo
    obtain ⟨q, hq⟩ : ∃ q : Int, room.tmod 3000 = q := ⟨_, rfl⟩
    have hq' : 0 ≤ q ∧ q < 3000 := by rw [Int.tmod_eq_emod_of_nonneg hro.1] at hq; omega
    obtain ⟨c, hc⟩ : ∃ c : Int, 6000 + q = c := ⟨_, rfl⟩
    have r1 : IntKind.i64.wrap room = room := by rw [IntKind.wrap_i64]; omega
    have r2 : IntKind.i64.wrap q = q := by rw [IntKind.wrap_i64]; omega
    have r3 : IntKind.i64.wrap (6000 + q) = c := by rw [IntKind.wrap_i64]; omega
    have hc' : 6000 ≤ c ∧ c ≤ 9000 := by omega
    have HN := Lib.hid (fun W => DkW.make W c (by omega) (by omega))
    clear hbig hx ms mo hc hq'
    go_enter Tryz.func4, Tryz.ntmps4
    go_wp2_with fail
    refine HMd.out.mono ?_
    rintro e w1 ⟨v, rfl, hrow, hb1⟩
    have HX1 := Lib.hid hb1
    have HRw := Lib.hid hrow
    obtain ⟨va, vc, hv, hens⟩ := Ens.of_own (Own.of_row hrow)
    have hlf := hens.fits; have hlb := hens.bound
    subst hv
    clear hrow hb1 hens HMd
    go_wp2_with fail
    refine (HN.out _).mono ?_
    rintro e w2 ⟨g, rfl, hd2'⟩
    have hd2 : DkW w w2 g (newM c) (fun i => (Value.slice va M.length vc).ownBlock = some i) := by
      obtain ⟨F, h1⟩ := hd2'
      have hs := HX1.out.size
      have hs1 := h1.ext.size
      refine ⟨F, h1.d, fun i hi => by have := h1.bF i hi; omega, HX1.out.trans h1.ext, fun i hi => ?_⟩
      have h2 := (row_lt HRw.out i hi).2
      exact ⟨by omega, fun hf => by have := h1.bF i hf; omega⟩
    have HD2 := Lib.hid hd2
    have HOw := Lib.hid ((Own.of_row HRw.out).ext hd2'.base)
    clear hd2' hd2 HN HRw HX1
    go_upto_if 41 with fail
    go_cut [] from 42 (fun wc => Own wc w.heap.size 44 3 (.slice va M.length vc) M.length (ecs M) ∧ DkW w wc g (newM c) (fun i => (Value.slice va M.length vc).ownBlock = some i))
    case first =>
      by_cases h2 : 1 < M.length
      · have hd : decide ((1 : Int) < (M.length : Int)) = true := decide_eq_true (by omega)
        obtain ⟨x, y, r, rfl⟩ : ∃ x y r, M = x :: y :: r := by
          cases M with
          | nil => simp at h2
          | cons x M => cases M with
            | nil => simp at h2
            | cons y r => exact ⟨x, y, r, rfl⟩
        obtain ⟨x0, x1, x2⟩ := x
        obtain ⟨y0, y1, y2⟩ := y
        obtain ⟨b, rfl, hbk⟩ : ∃ b, va = some ⟨b, 0, none⟩ ∧ w.heap.size ≤ b := by
          rcases HOw.out.2 with ⟨h, _⟩ | ⟨b, cap, cur, h, hb, _⟩
          · simp at h
          · exact ⟨b, by simpa using (by simpa using h : _ ∧ _).1, hb⟩
        generalize hml : ((x0, x1, x2) :: (y0, y1, y2) :: r : List En).length = m at *
        obtain ⟨c0, c1, c2, c3, c4, c5, hf⟩ := own_cells HOw.out
        have f0 := hf 0 (by decide); have f1 := hf 1 (by decide); have f2 := hf 2 (by decide); have f3 := hf 3 (by decide); have f4 := hf 4 (by decide); have f5 := hf 5 (by decide)
        have h2' : (1 : Int) < (m : Int) := by omega
        have h2'' : (0 : Int) < (m : Int) := by omega
        obtain ⟨s1, s2⟩ := own_swap HOw.out hbk HD2.out
        have HS1 := Lib.hid s1; have HS2 := Lib.hid s2
        have HUn := Lib.hid (unsorted HMs.out)
        have HMo' : Hid (∀ e ∈ (((y0, y1, y2) :: (x0, x1, x2) :: r : List En)), okEn e = true) := Lib.hid fun e he => HMo.out e (by simp only [List.mem_cons] at he ⊢; rcases he with h | h | h <;> simp [h])
        have HEns : Hid (∀ W M, M.length = m → Own W w.heap.size 44 3 (.slice (some ⟨b, 0, none⟩) m vc) m (ecs M) → Ens W (some ⟨b, 0, none⟩) m vc M) := Lib.hid fun W M hm h => by
          subst hm
          obtain ⟨ao, cap, h1, h2⟩ := Ens.of_own h
          cases h1
          exact h2
        clear hf s1 s2
        go_wp2_with fail
        go_region
        revert HS1 HS2
        generalize (((((w2.setCell ⟨b, 0, none⟩ (.int .u64 y0)).setCell ⟨b, 1, none⟩ (.int .i64 y1)).setCell ⟨b, 2, none⟩ (.int .i64 y2)).setCell ⟨b, 3, none⟩ (.int .u64 x0)).setCell ⟨b, 4, none⟩ (.int .i64 x1)).setCell ⟨b, 5, none⟩ (.int .i64 x2) = wq at *
        intro HS1 HS2
        generalize wq.drew = wp at *
        clear c0 c1 c2 c3 c4 c5 f0 f1 f2 f3 f4 f5
        have HWr := Lib.hid (HS2.out.write 1 4607182418800017408 (HEns.out _ _ (by simpa using hml) HS1.out) (by omega) HMo'.out)
        have HOb : Hid (∀ W, Stay (fun i => (Value.slice (some ⟨b, 0, none⟩) m vc).ownBlock = some i) wp W → Own W w.heap.size 44 3 (.slice (some ⟨b, 0, none⟩) m vc) m (ecs ((y0, y1, y2) :: (x0, x1, x2) :: r))) := Lib.hid fun W h => HS1.out.same fun i hi => h i hi
        clear HS1 HS2
        go_wp2_with fail
        refine HWr.out.mono ?_
        rintro e w3 ⟨f, _, _, rfl, hd3, hs3⟩
        rw [pwrite_bad f (.inr HUn.out)] at hd3 ⊢
        simp only at hd3 ⊢
        have ho3 := HOb.out _ hs3
        obtain ⟨c0, c1, c2, c3, c4, c5, hf⟩ := own_cells ho3
        have f0 := hf 0 (by decide); have f1 := hf 1 (by decide); have f2 := hf 2 (by decide); have f3 := hf 3 (by decide); have f4 := hf 4 (by decide); have f5 := hf 5 (by decide)
        obtain ⟨s1, s2⟩ := own_swap ho3 hbk hd3
        have HS1 := Lib.hid s1; have HS2 := Lib.hid s2
        clear hf s1 s2 ho3 hd3 hs3 HWr HOb
        go_wp2_with fail
        go_region
        revert HS1 HS2
        generalize (((((w3.setCell ⟨b, 0, none⟩ (.int .u64 x0)).setCell ⟨b, 1, none⟩ (.int .i64 x1)).setCell ⟨b, 2, none⟩ (.int .i64 x2)).setCell ⟨b, 3, none⟩ (.int .u64 y0)).setCell ⟨b, 4, none⟩ (.int .i64 y1)).setCell ⟨b, 5, none⟩ (.int .i64 y2) = wq at *
        intro HS1 HS2
        generalize wq.drew = wp at *
        go_wp2_with fail
        go_meet
        case rel => exact ⟨HS1.out, HS2.out⟩
      · have hd : decide ((1 : Int) < (M.length : Int)) = false := decide_eq_false (by omega)
        go_wp2_with fail
        go_meet
        case rel => exact ⟨HOw.out, HD2.out⟩
    case rest =>
    obtain ⟨hco, hcd⟩ := hcut
    have hce : Ens wc va M.length vc M := by
      obtain ⟨ao', cap', h1, h2⟩ := Ens.of_own hco
      cases h1
      exact h2
    have HWr := Lib.hid (hcd.write 1 4607182418800017408 hce (by omega) HMo.out)
    have HOb : Hid (∀ W, Stay (fun i => (Value.slice va M.length vc).ownBlock = some i) wc W → Ens W va M.length vc M) := Lib.hid fun W h => by
      obtain ⟨ao', cap', h1, h2⟩ := Ens.of_own (hco.same fun i hi => h i hi)
      cases h1
      exact h2
    clear hco hcd hce HOw HD2
    go_wp2_with fail
    refine HWr.out.mono ?_
    rintro e w3 ⟨f, _, _, rfl, hd3, hs3⟩
    obtain ⟨e1, τ, l, τ', q1, q2, q3, q4, q5, q6⟩ := write_room hc'.1 HMs.out f
    rw [q1] at hd3 ⊢
    simp only at hd3 ⊢
    have hfr := q2.free
    obtain ⟨fr, hfr'⟩ : ∃ fr, freeM τ = fr := ⟨_, rfl⟩
    rw [hfr'] at hfr
    have hfr6 : decide (fr < 6000) = false := decide_eq_false (by omega)
    have HFr := Lib.hid (fun W (h : DkW w W g τ (fun i => (Value.slice va M.length vc).ownBlock = some i)) => by have := h.free; rwa [hfr'] at this)
    have HP := Lib.hid q2; have HP' := Lib.hid q6; have HDr := Lib.hid q5
    have HD3 := Lib.hid hd3; have HS3 := Lib.hid hs3
    have hnn := nameS_nil 116 k
    have HTb := Lib.hid (fun W => table_c k W)
    have hnl := nameS_le 116 k
    have HBad : Hid (¬ (0 ≤ k ∧ k ≤ 999999) → ∀ f, pwriteM τ k M f = (2, τ)) := Lib.hid fun h f => pwrite_bad f (.inl h)
    generalize nameS 116 k = TN at *
    have HWk := Lib.hid (fun W (h : DkW w W g τ (fun i => (Value.slice va M.length vc).ownBlock = some i)) (hx : Ens W va M.length vc M) => h.write k 4607182418800017408 hx (by omega) HMo.out)
    clear q1 q2 q4 q5 q6 hd3 hs3 hfr hfr' HWr
    go_upto_region 13 with fail
    go_cut [85] from 42 (fun s85 wc' => s85 = .bool false ∧ DkW w wc' g τ (fun i => (Value.slice va M.length vc).ownBlock = some i) ∧ Stay (fun i => (Value.slice va M.length vc).ownBlock = some i) wc wc')
    case first =>
      rcases q3 with rfl | ⟨rfl, rfl⟩
      · go_wp2_with fail
        refine (HFr.out _ HD3.out).mono ?_
        rintro e w4 ⟨rfl, hb4⟩
        have HD4 := Lib.hid (HD3.out.grow hb4)
        have HS4 := Lib.hid (HS3.out.trans (HD3.out.kExt hb4))
        clear hb4 HD3 HS3 HFr
        go_wp2_with fail
        go_meet
        case rel => exact ⟨rfl, HD4.out, HS4.out⟩
      · have HNm := Lib.hid (HD3.out.names)
        rw [HP.out.names] at HNm
        simp only [List.map_nil, List.length_nil] at HNm
        go_wp2_with fail
        refine HNm.out.mono ?_
        rintro e w4' ⟨na, nc, rfl, hb4'⟩
        have HD4' := Lib.hid (HD3.out.grow hb4')
        have HS4' := Lib.hid (HS3.out.trans (HD3.out.kExt hb4'))
        clear hb4' HD3 HS3 HNm
        go_wp2_with fail
        refine (HFr.out _ HD4'.out).mono ?_
        rintro e w4 ⟨rfl, hb4⟩
        have HD4 := Lib.hid (HD4'.out.grow hb4)
        have HS4 := Lib.hid (HS4'.out.trans (HD4'.out.kExt hb4))
        clear hb4 HD4' HS4' HFr
        go_wp2_with fail
        go_meet
        case rel => exact ⟨rfl, HD4.out, HS4.out⟩
    case rest =>
    obtain ⟨rfl, hd4, hs4⟩ := hcut
    have HD4 := Lib.hid hd4; have HS4 := Lib.hid hs4
    have HD1 := Lib.hid (fun W (h : DkW w W g τ (fun i => (Value.slice va M.length vc).ownBlock = some i)) => h.drop 1 HDr.out)
    have HD2 := Lib.hid (fun W (h : DkW w W g τ' (fun i => (Value.slice va M.length vc).ownBlock = some i)) => h.drop 1 (HP'.out.dropNone 1))
    have HNm := Lib.hid (fun W (h : DkW w W g τ' (fun i => (Value.slice va M.length vc).ownBlock = some i)) => by
      have := h.names
      rw [HP'.out.names] at this
      simpa only [List.map_nil, List.length_nil] using this)
    clear hd4 hs4 HFr HD3 HS3 hfr6 q3
    go_upto_region 15 with fail
    go_cut [111] from 42 (fun s111 wc' => s111 = .bool false ∧ DkW w wc' g τ' (fun i => (Value.slice va M.length vc).ownBlock = some i) ∧ Stay (fun i => (Value.slice va M.length vc).ownBlock = some i) wc wc')
    case first =>
      have hsteps : ∀ W, DkW w W g τ (fun i => (Value.slice va M.length vc).ownBlock = some i) → Stay (fun i => (Value.slice va M.length vc).ownBlock = some i) wc W → True := fun _ _ _ => trivial
      clear hsteps
      go_wp2_with fail
      refine (HTb.out _).mono ?_
      rintro e w5 ⟨rfl, hb5⟩
      have HD5 := Lib.hid (HD4.out.grow hb5)
      have HS5 := Lib.hid (Stay.trans (Stay.refl _ _) (HD4.out.kExt hb5))
      have HE5 := Lib.hid (HOb.out _ (HS4.out.trans (HD4.out.kExt hb5)))
      have HWk5 := Lib.hid (HWk.out _ HD5.out HE5.out)
      clear hb5
      by_cases hk2 : 0 ≤ k ∧ k ≤ 999999
      · rw [decide_eq_true hk2] at hnn
        have HD1' := Lib.hid (HD1.out _ HD5.out)
        clear hk2
        go_wp2_with fail
        refine HD1'.out.mono ?_
        rintro e w6 ⟨rfl, hd6, hs6⟩
        have HD6 := Lib.hid hd6; have HS6 := Lib.hid (HS5.out.trans hs6)
        clear hd6 hs6
        go_wp2_with fail
        refine (HNm.out _ HD6.out).mono ?_
        rintro e w7 ⟨na, nc, rfl, hb7⟩
        have HD7 := Lib.hid (HD6.out.grow hb7); have HS7 := Lib.hid (HS6.out.trans (HD6.out.kExt hb7))
        clear hb7
        go_wp2_with fail
        refine (HD2.out _ HD7.out).mono ?_
        rintro e w8 ⟨rfl, hd8, hs8⟩
        have HD8 := Lib.hid hd8; have HS8 := Lib.hid (HS7.out.trans hs8)
        clear hd8 hs8
        go_wp2_with fail
        go_meet
        case rel => exact ⟨rfl, HD8.out, HS8.out⟩
      · rw [decide_eq_false hk2] at hnn
        have HBd := Lib.hid (HBad.out hk2)
        clear hk2
        go_wp2_with fail
        refine HWk5.out.mono ?_
        rintro e w5' ⟨f', _, _, rfl, hd5, hs5⟩
        rw [HBd.out] at hd5 ⊢
        simp only at hd5 ⊢
        have HD1' := Lib.hid (HD1.out _ hd5)
        have HS5' := Lib.hid (HS5.out.trans hs5)
        clear hd5 hs5
        go_wp2_with fail
        refine HD1'.out.mono ?_
        rintro e w6 ⟨rfl, hd6, hs6⟩
        have HD6 := Lib.hid hd6; have HS6 := Lib.hid (HS5'.out.trans hs6)
        clear hd6 hs6
        go_wp2_with fail
        refine (HNm.out _ HD6.out).mono ?_
        rintro e w7 ⟨na, nc, rfl, hb7⟩
        have HD7 := Lib.hid (HD6.out.grow hb7); have HS7 := Lib.hid (HS6.out.trans (HD6.out.kExt hb7))
        clear hb7
        go_wp2_with fail
        refine (HD2.out _ HD7.out).mono ?_
        rintro e w8 ⟨rfl, hd8, hs8⟩
        have HD8 := Lib.hid hd8; have HS8 := Lib.hid (HS7.out.trans hs8)
        clear hd8 hs8
        go_wp2_with fail
        go_meet
        case rel => exact ⟨rfl, HD8.out, HS8.out⟩
    case rest =>
    obtain ⟨rfl, hd8, hs8⟩ := hcut
    have HE8 := Lib.hid (fun W h => HOb.out W (HS4.out.trans (hs8.trans h)))
    have HCr := Lib.hid (hd8.crash HP'.out.up)
    have hdn : (crashM τ' []).down = true := rfl
    have HOpD := Lib.hid (fun W (h : DkW w W g (crashM τ' []) (fun i => (Value.slice va M.length vc).ownBlock = some i)) => h.openN 1 (openM_down hdn))
    have HWd := Lib.hid (fun W (h : DkW w W g (crashM τ' []) (fun i => (Value.slice va M.length vc).ownBlock = some i)) (hx : Ens W va M.length vc M) => h.write 1 4607182418800017408 hx (by omega) HMo.out)
    have HPd : Hid (∀ f, pwriteM (crashM τ' []) 1 M f = (61, crashM τ' [])) := Lib.hid fun f => pwrite_down f (by decide) HMs.out hdn
    clear hd8 hs8 HOb HS4 HD4 HD1 HD2 HNm HWk HBad HTb HP HDr hdn
    generalize crashM τ' [] = υ at *
    go_wp2_with fail
    refine HCr.out.mono ?_
    rintro e w9 ⟨rfl, hd9, hs9⟩
    have HO9 := Lib.hid (HOpD.out _ hd9)
    have HS9 := Lib.hid hs9
    clear hd9 hs9
    go_wp2_with fail
    refine HO9.out.mono ?_
    rintro e w10 ⟨rfl, hd10, hs10⟩
    have HD10 := Lib.hid hd10
    have HS10 := Lib.hid (HS9.out.trans hs10)
    clear hd10 hs10
    go_wp2_with fail
    refine (trange_nil _ _ _ _).mono ?_
    rintro e w11 ⟨rfl, hb11⟩
    have HX11 := Lib.hid hb11
    clear hb11
    go_wp2_with fail
    refine (tlast_nil _ _ _).mono ?_
    rintro e w12 ⟨rfl, hb12⟩
    have HX12 := Lib.hid (HX11.out.trans hb12)
    clear hb12
    have hxe : enV en0 = .agg #[.int .u64 0, .int .i64 0, .int .i64 0] := rfl
    rw [hxe]
    clear hxe
    have hA12 := ext_a1 w12 (.cells #[.int .u64 0, .int .i64 0, .int .i64 0] 44)
    go_wp2_with fail
    have HX13 := Lib.hid (HX12.out.trans hA12)
    clear hA12
    generalize w12.alloc (.cells #[.int .u64 0, .int .i64 0, .int .i64 0] 44) = w13 at *
    refine (tall_nil _).mono ?_
    rintro e w14 ⟨rfl, hb14⟩
    have HX14 := Lib.hid (HX13.out.trans hb14)
    clear hb14
    go_wp2_with fail
    refine (popen_no _ none (.inl rfl) _).mono ?_
    rintro e w15 ⟨rfl, hb15⟩
    have HX15 := Lib.hid (HX14.out.trans hb15)
    clear hb15
    have HD15 := Lib.hid (HD10.out.grow HX15.out)
    have HS15 := Lib.hid (HS10.out.trans (HD10.out.kExt HX15.out))
    have HW15 := Lib.hid (HWd.out _ HD15.out (HE8.out _ HS15.out))
    clear HX11 HX12 HX13 HX14 HX15 HD10 HS10 HO9 HS9 HOpD HWd
    go_wp2_with fail
    refine HW15.out.mono ?_
    rintro e w16 ⟨f', _, _, rfl, hd16, hs16⟩
    rw [HPd.out] at hd16 ⊢
    simp only at hd16 ⊢
    have HWn := Lib.hid (pwrite_no w16 none (.inl rfl) 1 4607182418800017408 (by decide) HMs.out (HE8.out _ (HS15.out.trans hs16)) (by omega) HMo.out)
    have HX16 := Lib.hid hd16.base
    clear hd16 hs16 HW15 HS15 HD15 HPd
    go_wp2_with fail
    refine HWn.out.mono ?_
    rintro e w17 ⟨rfl, hb17⟩
    have HX17 := Lib.hid (HX16.out.trans hb17)
    clear hb17
    go_wp2_with fail
    refine (pdrop_no _ none (.inl rfl) _).mono ?_
    rintro e w18 ⟨rfl, hb18⟩
    have HX18 := Lib.hid (HX17.out.trans hb18)
    clear hb18
    go_wp2_with fail
    refine (tlen_nil _).mono ?_
    rintro e w18' ⟨rfl, rfl⟩
    go_wp2_with fail
    refine (tmay_nil _ _).mono ?_
    rintro e w18' ⟨rfl, rfl⟩
    go_wp2_with fail
    refine (HSm.out _).mono ?_
    rintro e w19 ⟨rfl, hb19⟩
    have HX19 := Lib.hid (HX18.out.trans hb19)
    clear hb19
    go_wp2_with fail
    go_ret
    exact ⟨rfl, HX19.out⟩

end Go.Proofs.YtmoieamadjjloaaGreat
