/- Walks: slices.Insert of one state's kind into a row of one's own: a new row; wherever. -/
import Derived.Test.YtmopfhkppjcgbaaG13PFoldsTell
import Derived.Shelf.Spec.SlicesInsertGrow
set_option linter.unusedVariables false
set_option linter.unusedSimpArgs false
namespace Go.Proofs.Ytmopfhkppjcgbaa
open Go.RowKit

set_option maxRecDepth 100000
set_option linter.unusedVariables false
set_option maxHeartbeats 12800000

theorem grow_cells {Z : List Value} {K : List Kd} {i : Nat} {k : Kd} (hi : i ≤ K.length) (hl : (K.length + 1 - i) * 3 ≤ Z.length) (r0 r1 : List Value) (h0 : r0 = (kcs K).take (i * 3) ++ Z) (h1 : r1 = r0.take (i * 3) ++ kc k ++ r0.drop (i * 3 + (kc k).length)) :
    r0.length = i * 3 + Z.length ∧ r1.length = r0.length ∧ (r1.take ((i + 1) * 3) ++ (kcs K).drop (i * 3) ++ r1.drop ((i + 1) * 3 + ((kcs K).drop (i * 3)).length)).length = r0.length ∧
    (r1.take ((i + 1) * 3) ++ (kcs K).drop (i * 3) ++ r1.drop ((i + 1) * 3 + ((kcs K).drop (i * 3)).length)).take ((K.length + 1) * 3) = kcs (insK K i k) := by
  have hk : (kc k).length = 3 := rfl
  have hkl := kcs_length K
  have hdl : ((kcs K).drop (i * 3)).length = K.length * 3 - i * 3 := by rw [List.length_drop, hkl]
  have h4 : ((kcs K).take (i * 3)).length = i * 3 := by rw [List.length_take]; omega
  have hr0 : r0.length = i * 3 + Z.length := by rw [h0, List.length_append, h4]
  have e0 : r0.take (i * 3) = (kcs K).take (i * 3) := by
    rw [h0]
    conv => lhs; arg 1; rw [← h4]
    exact List.take_left
  rw [e0] at h1
  have hr1 : r1.length = r0.length := by
    rw [h1]; simp only [List.length_append, h4, hk, List.length_drop]; omega
  have e1 : r1.take ((i + 1) * 3) = (kcs K).take (i * 3) ++ kc k := by
    have h6 : ((kcs K).take (i * 3) ++ kc k).length = (i + 1) * 3 := by rw [List.length_append, h4, hk]; omega
    rw [h1, ← h6]
    exact List.take_left
  refine ⟨hr0, hr1, ?_, ?_⟩
  · simp only [List.length_append, List.length_take, hdl, List.length_drop]; omega
  · rw [e1, ins_cells K i k hi]
    have h5 : ((kcs K).take (i * 3) ++ kc k ++ (kcs K).drop (i * 3)).length = (K.length + 1) * 3 := by
      rw [List.length_append, List.length_append, h4, hk, hdl]; omega
    rw [← h5, List.take_left, List.append_assoc]

/-- a new row -/
theorem insNew_c {w : World} {B : Nat} {v : Value} {K : List Kd} {k : Kd} {b i : Nat} (hrow : w.ownsRow B 54 3 v K.length (kcs K)) (hB : B ≤ w.heap.size) (hlen : K.length ≤ 1000) (hi : i < K.length) {va : Option Addr} {vc : Nat} (hv : v = .slice va K.length vc) (hroom : vc < K.length + 1)
    (hb : Blk w b 54 #[.string ⟨k.t.toArray⟩, .int .i64 k.m, .int .i64 k.b]) :
    Calls Try.prog 38 #[v, .int .i64 (i : Int), .slice (some ⟨b, 0, none⟩) 1 1] w fun e w' => ∃ v', e = .returned v' ∧ w'.ownsRow B 54 3 v' (K.length + 1) (kcs (insK K i k)) ∧ w.grownBy w' none ∧ ∀ q, v'.ownBlock = some q → w.heap.size ≤ q := by
  subst hv
  obtain ⟨g, cur, rfl, _, hBg, hg, hc1, hc2, hcs, htk⟩ := row_full hrow (by omega)
  obtain ⟨i0, hi0, hz0, hzs, hzb⟩ := info_parts Try.infoKi
  have hsz : (Try.prog.info? 54).map (·.size) = some 3 := by rw [hi0]; simp [hzs]
  have hkl := kcs_length K
  have hone : ∀ u ∈ (kcs K).drop (i * 3), u.oneCell' = true := fun u hu => by
    have h1 := List.mem_of_mem_drop hu
    unfold kcs at h1
    obtain ⟨f, _, hf⟩ := List.mem_flatMap.1 h1
    exact kc_one' f u hf
  have hgw : g < w.heap.size := (Array.getElem?_eq_some_iff.1 hg).1
  have hbw : b < w.heap.size := hb.lt
  have hcell : ∀ j u, (kcs K)[j]? = some u → w.cell? ⟨g, j, none⟩ = some u := fun j u hj => by
    have hj3 : j < (kcs K).length := by
      rcases Nat.lt_or_ge j (kcs K).length with h | h
      · exact h
      · rw [List.getElem?_eq_none h] at hj; cases hj
    rw [← htk, List.getElem?_take, if_pos (by rw [← hkl]; exact hj3)] at hj
    simp only [World.cell?, hg]
    simpa using hj
  have hold : (Builtin.firstCells i0.size i (.slice (some ⟨g, 0, none⟩) i vc)).run Try.prog w.drew = .ok ((kcs K).take (i * 3)).toArray w.drew := by
    rw [hzs]
    exact run_firstCells_some w.drew 3 i ⟨g, 0, none⟩ i vc ((kcs K).take (i * 3)) (by rw [List.length_take]; omega) (fun j v hj => by
      rw [Addr.add_lit, Nat.zero_add]
      rw [List.getElem?_take] at hj
      split at hj
      · exact hcell j v hj
      · cases hj)
  have hik : i + (K.length + 1 - i) = K.length + 1 := by omega
  obtain ⟨G, hG⟩ : ∃ G, G = grownCap w (K.length + 1) vc 54 := ⟨_, rfl⟩
  have hGn : K.length + 1 ≤ G := by rw [hG]; exact grownCap_ge w _ _ _
  have hGm : G ≤ maxLen := by rw [hG]; exact grownCap_le_maxLen w (K.length + 1) vc _ (by unfold maxLen; omega)
  obtain ⟨r0, hr0⟩ : ∃ r0 : List Value, r0 = (kcs K).take (i * 3) ++ ((Builtin.zeroCells (Value.agg #[.string ⟨#[]⟩, .int .i64 0, .int .i64 0]).cells (K.length + 1 - i)).toList ++ (Builtin.zeroCells (Value.agg #[.string ⟨#[]⟩, .int .i64 0, .int .i64 0]).cells (G - (K.length + 1))).toList) := ⟨_, rfl⟩
  have hrz : ∀ ty, (Builtin.append_ #[22, 3] ty #[.slice (some ⟨g, 0, none⟩) i vc, .int .i64 ((K.length : Int) + 1 - (i : Int))]).run Try.prog w =
      .ok (.slice (some ⟨w.heap.size, 0, none⟩) (K.length + 1) G) (w.drew.alloc (.cells r0.toArray 54)) := fun ty => by
    have h := Lib.run_append_grow_zeros w 22 3 ty 54 i0 _ .i64 .i64 Try.underlying22 Try.underlying3 hi0 hz0 (some ⟨g, 0, none⟩) i vc ((kcs K).take (i * 3)) hold (K.length + 1 - i) (by omega) (by omega) (by omega) (by omega) (by rw [hzb]; omega) (by rw [hzb, hik]; exact growslice_fits hroom (by omega))
    rw [hik, ← hG] at h
    rw [show (K.length : Int) + 1 - (i : Int) = ((K.length + 1 - i : Nat) : Int) by omega, h, hr0]
    congr 3
    apply Array.toList_inj.1
    simp only [Array.toList_append, List.append_assoc]
  have hzl : ∀ m, (Builtin.zeroCells (Value.agg #[.string ⟨#[]⟩, .int .i64 0, .int .i64 0]).cells m).toList.length = m * 3 := fun m => by
    rw [Array.length_toList]
    simp [Builtin.zeroCells, Value.cells]; try omega
  obtain ⟨r1, hr1⟩ : ∃ r1 : List Value, r1 = r0.take (i * 3) ++ kc k ++ r0.drop (i * 3 + (kc k).length) := ⟨_, rfl⟩
  obtain ⟨r2, hr2⟩ : ∃ r2 : List Value, r2 = r1.take ((i + 1) * 3) ++ (kcs K).drop (i * 3) ++ r1.drop ((i + 1) * 3 + ((kcs K).drop (i * 3)).length) := ⟨_, rfl⟩
  obtain ⟨q1, q2, q3, q4⟩ := grow_cells (K := K) (i := i) (k := k) (by omega) (by rw [List.length_append, hzl, hzl]; omega) r0 r1 hr0 hr1
  rw [List.length_append, hzl, hzl] at q1
  rw [← hr2] at q3 q4
  have hL0 : r0.length = G * 3 := by rw [q1]; omega
  rw [hL0] at q2 q3
  have hdl : ((kcs K).drop (i * 3)).length = (K.length - i) * 3 := by rw [List.length_drop, hkl]; omega
  have hnl : (kc k).length = 3 := rfl
  obtain ⟨W0, hW0⟩ : ∃ W0, W0 = w.drew.alloc (.cells r0.toArray 54) := ⟨_, rfl⟩
  rw [← hW0] at hrz
  have hN0 : W0.heap[w.heap.size]? = some (.cells r0.toArray 54 (0, 0)) := by rw [hW0]; exact Blk.new w.drew 54 r0.toArray
  have hoW0 : ∀ q, q < w.heap.size → W0.heap[q]? = w.heap[q]? := fun q hq => by rw [hW0]; exact (ext_a1 w.drew _).block q hq
  have hsW0 : W0.heap.size = w.heap.size + 1 := by rw [hW0]; exact World.size_alloc _ _
  obtain ⟨N, hNn⟩ : ∃ N, w.heap.size = N := ⟨_, rfl⟩
  rw [hNn] at hN0 hrz hsW0 hoW0 hgw hbw
  have hcpA : ∀ (W : World), W.heap = W0.heap → ∀ ty dl dc, 1 ≤ dl → (Builtin.copy_ #[22, 22] ty #[.slice (some ⟨N, i * 3, none⟩) dl dc, .slice (some ⟨b, 0, none⟩) 1 1]).run Try.prog W = .ok (goInt 1) (W.setRow N r1.toArray) := fun W hW ty dl dc hm => by
    have hmn : Nat.min 1 dl = 1 := by simp only [Nat.min_def]; split <;> omega
    have := run_copy_rowK (P := Try.prog) W 22 22 ty 54 N (i * 3) dl dc ⟨b, 0, none⟩ 1 1 3 r0.toArray 54 (kc k) Try.underlying22 hsz (by rw [hW]; exact hN0) (by rw [hmn]; rfl) (fun j u hj => by
      have hb2 : Blk W b 54 #[.string ⟨k.t.toArray⟩, .int .i64 k.m, .int .i64 k.b] := by unfold Blk; rw [hW, hoW0 b hbw]; exact hb
      rw [Addr.add_lit, Nat.zero_add, hb2.cell j]
      simpa [kc] using hj) (by rw [List.size_toArray, hL0, hnl]; omega) (kc_one' _)
    rw [hmn] at this
    rw [hr1]
    exact this
  have hcpB : ∀ (W : World), W.heap = (W0.setRow N r1.toArray).heap → ∀ ty dl dc sl sc, Nat.min sl dl = K.length - i → (Builtin.copy_ #[22, 22] ty #[.slice (some ⟨N, (i + 1) * 3, none⟩) dl dc, .slice (some ⟨g, i * 3, none⟩) sl sc]).run Try.prog W = .ok (goInt ((K.length - i : Nat) : Int)) (W.setRow N r2.toArray) := fun W hW ty dl dc sl sc hm => by
    have hgN : g ≠ N := by omega
    have := run_copy_rowK (P := Try.prog) W 22 22 ty 54 N ((i + 1) * 3) dl dc ⟨g, i * 3, none⟩ sl sc 3 r1.toArray 54 ((kcs K).drop (i * 3)) Try.underlying22 hsz (by rw [hW]; exact setRow_heap _ _ _ _ _ _ hN0) (by rw [hm, hdl]) (fun j u hj => by
      rw [Addr.add_lit]
      have h1 := hcell (i * 3 + j) u (by rw [List.getElem?_drop] at hj; exact hj)
      have h2 : W.heap[g]? = w.heap[g]? := by rw [hW, setRow_other _ _ _ _ hgN, hoW0 g hgw]
      simpa only [World.cell?, h2] using h1) (by rw [List.size_toArray, q2, hdl]; omega) hone
    rw [hm] at this
    rw [hr2]
    exact this
  have hFin : ∀ W : World, W.heap = ((W0.setRow N r1.toArray).setRow N r2.toArray).heap → W.os = w.os → W.tape = w.tape → W.output = w.output → W.ownsRow B 54 3 (.slice (some ⟨N, 0, none⟩) (K.length + 1) G) (K.length + 1) (kcs (insK K i k)) ∧ w.grownBy W none := fun W hW h1 h2 h3 => by
    refine ⟨⟨by rw [kcs_length, insK_length K i k (by omega)], .inr ⟨N, G, r2.toArray, rfl, by omega, by rw [hW]; exact setRow_heap _ _ _ _ _ _ (setRow_heap _ _ _ _ _ _ hN0), hGn, hGm, by rw [List.size_toArray, q3], q4⟩⟩, ?_⟩
    refine ⟨h1, h2, h3, ?_, fun q hq _ => ?_⟩
    · rw [hW]; simp only [World.setRow, Array.size_modify]; omega
    · have hq2 : q ≠ N := by omega
      rw [hW, setRow_other _ N q _ hq2, setRow_other _ N q _ hq2]
      exact hoW0 q (by omega)
  have hW0o : W0.os = w.os ∧ W0.tape = w.tape ∧ W0.output = w.output := by rw [hW0]; exact ⟨rfl, rfl, rfl⟩
  have HFin := Lib.hid hFin
  have HCpA := Lib.hid hcpA; have HCpB := Lib.hid hcpB
  have HO := Lib.hid hW0o
  have HRz := Lib.hid hrz
  have hw1 : IntKind.i64.wrap ((K.length : Int) + 1) = (K.length : Int) + 1 := by rw [IntKind.wrap_i64]; omega
  have hw2 : IntKind.i64.wrap ((i : Int) + 1) = (i : Int) + 1 := by rw [IntKind.wrap_i64]; omega
  have hw3 : IntKind.i64.wrap ((K.length : Int) + 1 - (i : Int)) = (K.length : Int) + 1 - (i : Int) := by rw [IntKind.wrap_i64]; omega
  have hd1 : decide ((vc : Int) < (K.length : Int) + 1) = true := decide_eq_true (by omega)
  have hd2 : ((i : Int) == (K.length : Int)) = false := by simp; omega
  have ht2 : ((i : Int) + 1).toNat = i + 1 := by omega
  have hb1 : ¬ (vc = i) := by omega
  have hb3 : i ≤ K.length := by omega
  have hb4 : (i : Int) + 1 ≤ (K.length : Int) + 1 := by omega
  have hb5 : (0 : Int) ≤ (i : Int) + 1 := by omega
  have hb6 : (i : Int) ≤ (K.length : Int) + 1 := by omega
  have hb9 : ¬ (G = i) := by omega
  have hb10 : ¬ (G = i + 1) := by omega
  have hGc : G ≤ 9223372036854775807 := by unfold maxLen at hGm; omega
  have HNn := Lib.hid (Nat.le_of_eq hNn)
  clear hFin hcpA hcpB hW0o hrz hr0 hr1 hr2 q1 q2 q3 q4 hL0 hdl hnl hN0 hoW0 hsW0 hW0 hNn hzl hG hik hold hcell hone hkl hsz hzs hzb hz0 hi0 hg hcs htk hrow hb hGm
  generalize hn : K.length = n at *
  clear hn
  generalize r1.toArray = R1 at *
  generalize r2.toArray = R2 at *
  clear r0 r1 r2
  go_enter Try.func38, Try.ntmps38
  go_wp2_with (at_builtin; refine Lib.wpList_append_run _ rfl _ _ 22 3 rfl _ _ rfl rfl _ _ (HRz.out _) ?_)
  rw [HCpA.out W0 rfl _ (n + 1 - i) (G - i) (by omega)]
  obtain ⟨W1, hW1⟩ : ∃ W1, W1 = W0.setRow N R1 := ⟨_, rfl⟩
  have HB1 : Hid (∀ ty dl dc sl sc, Nat.min sl dl = n - i → (Builtin.copy_ #[22, 22] ty #[.slice (some ⟨N, (i + 1) * 3, none⟩) dl dc, .slice (some ⟨g, i * 3, none⟩) sl sc]).run Try.prog W1.drew = .ok (goInt ((n - i : Nat) : Int)) (W1.drew.setRow N R2)) := Lib.hid fun ty dl dc sl sc h => HCpB.out _ (by rw [hW1]; rfl) ty dl dc sl sc h
  have HF1 : Hid (∀ W, W = W1.drew.setRow N R2 → W.ownsRow B 54 3 (.slice (some ⟨N, 0, none⟩) (n + 1) G) (n + 1) (kcs (insK K i k)) ∧ w.grownBy W none) := Lib.hid fun W h => HFin.out W (by rw [h, hW1]; rfl) (by rw [h, hW1]; exact HO.out.1) (by rw [h, hW1]; exact HO.out.2.1) (by rw [h, hW1]; exact HO.out.2.2)
  rw [← hW1]
  clear hW1 HCpA HCpB HFin HO HRz
  go_wp2_with fail
  go_region_law (refine Go.Proofs.step_copy_runI rfl _ _ 22 22 rfl _ _ (by simp [Act.eval, Act.put]) (by simp [Act.eval, Act.put]) (HB1.out _ (n - i) (G - (i + 1)) (n - i) (vc - i) (by simp only [Nat.min_def]; split <;> omega)) ?_)
  all_goals
    go_wp2_with fail
    go_ret
    obtain ⟨h1, h2⟩ := HF1.out _ rfl
    exact ⟨_, rfl, h1, h2, fun q hq => by cases hq; exact HNn.out⟩

/-- wherever -/
theorem insert_c {w : World} {B : Nat} {v : Value} {K : List Kd} {k : Kd} {b i : Nat} (hrow : w.ownsRow B 54 3 v K.length (kcs K)) (hB : B ≤ w.heap.size) (hlen : K.length ≤ 1000) (hi : i ≤ K.length)
    (hb : Blk w b 54 #[.string ⟨k.t.toArray⟩, .int .i64 k.m, .int .i64 k.b]) (hne : v.ownBlock ≠ some b) :
    Calls Try.prog 38 #[v, .int .i64 (i : Int), .slice (some ⟨b, 0, none⟩) 1 1] w fun e w' => ∃ v', e = .returned v' ∧ w'.ownsRow B 54 3 v' (K.length + 1) (kcs (insK K i k)) ∧ w.grownBy w' v.ownBlock ∧ (v'.ownBlock = v.ownBlock ∨ ∀ q, v'.ownBlock = some q → w.heap.size ≤ q) := by
  by_cases he : i = K.length
  · subst he
    rw [insK_end]
    exact insEnd_c hrow hB hlen hb
  · obtain ⟨va, vc, hv⟩ := row_slice hrow
    by_cases hr : K.length + 1 ≤ vc
    · refine (insIn_c hrow hlen (by omega) hv hr hb hne).mono ?_
      rintro e w' ⟨rfl, h1, h2⟩
      exact ⟨_, rfl, h1, h2, .inl (by rw [hv]; cases va <;> rfl)⟩
    · refine (insNew_c hrow hB hlen (by omega) hv (by omega) hb).mono ?_
      rintro e w' ⟨v', rfl, h1, h2, h3⟩
      exact ⟨v', rfl, h1, ⟨h2.os, h2.tape, h2.output, h2.size, fun q hq _ => h2.block q hq (by simp)⟩, .inr h3⟩

end Go.Proofs.Ytmopfhkppjcgbaa
