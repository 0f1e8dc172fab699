/- Walks: slices.Insert of one state's kind into a row of one's own, wherever. Walks: slices.Insert of one state's kind into a row of one's own: at the end; in place. -/
import Derived.Test.YtmopfhkppjcgbaaG12PFoldsTell
import Derived.Lib.AppendZerosOnto
import Derived.Lib.Overlaps
import Derived.Shelf.Spec.SlicesInsert
set_option linter.unusedVariables false
set_option linter.unusedSimpArgs false
namespace Go.Proofs.Ytmopfhkppjcgbaa
open Go.RowKit

set_option maxRecDepth 100000
set_option linter.unusedVariables false
set_option maxHeartbeats 12800000

/-- copy of elements of several cells into a row that is known whole -/
theorem run_copy_rowK {P : Program} (w : World) (dT sT ty elem : TypeId) (g o dLen dCap : Nat) (a : Addr) (sLen sCap sz : Nat) (cur : Array Value) (t : TypeId) (cs : List Value)
    (hu : P.underlying dT = some (.slice elem)) (hs : (P.info? elem).map (·.size) = some sz)
    (hg : w.heap[g]? = some (.cells cur t (0, 0))) (hn : cs.length = Nat.min sLen dLen * sz)
    (hsrc : ∀ j v, cs[j]? = some v → w.cell? (a.add j) = some v) (hfit : o + cs.length ≤ cur.size) (h1 : ∀ v ∈ cs, v.oneCell' = true) :
    (Builtin.copy_ #[dT, sT] ty #[.slice (some ⟨g, o, none⟩) dLen dCap, .slice (some a) sLen sCap]).run P w =
      .ok (goInt (Nat.min sLen dLen)) (w.setRow g (cur.toList.take o ++ cs ++ cur.toList.drop (o + cs.length)).toArray) := by
  have hl := run_loadCells_list (P := P) w a cs hsrc
  have hst := run_storeCells_at P g o t cs 0 cur w hg (by simpa using hfit) h1
  cases hq : P.info? elem with
  | none => simp [hq] at hs
  | some i =>
    have hi : i.size = sz := by simpa [hq] using hs
    simp [Builtin.copy_, run_underlying hu, Builtin.lenOf, Builtin.firstCells, sizeOf, typeInfo, hq, hi, ← hn, hl, hst]

theorem kcs_drop (K : List Kd) : ∀ i, (kcs K).drop (i * 3) = kcs (K.drop i) := by
  induction K with
  | nil => intro i; simp [kcs]
  | cons k K ih =>
    intro i
    cases i with
    | zero => simp
    | succ i =>
      rw [kcs_cons, show (i + 1) * 3 = (kc k).length + i * 3 by simp [kc]; omega, ← List.drop_drop, List.drop_left, ih i]
      rfl
theorem kcs_take (K : List Kd) : ∀ i, (kcs K).take (i * 3) = kcs (K.take i) := by
  induction K with
  | nil => intro i; simp [kcs]
  | cons k K ih =>
    intro i
    cases i with
    | zero => simp [kcs]
    | succ i =>
      rw [kcs_cons, show (i + 1) * 3 = (kc k).length + i * 3 by simp [kc]; omega, List.take_length_add_append, ih i]
      rfl
theorem kcs_append (K M : List Kd) : kcs (K ++ M) = kcs K ++ kcs M := by unfold kcs; simp
/-- what stands in a row behind an insertion -/
def insK (K : List Kd) (i : Nat) (k : Kd) : List Kd := K.take i ++ k :: K.drop i
theorem insK_length (K : List Kd) (i : Nat) (k : Kd) (h : i ≤ K.length) : (insK K i k).length = K.length + 1 := by simp [insK]; omega
theorem insK_end (K : List Kd) (k : Kd) : insK K K.length k = K ++ [k] := by simp [insK]
theorem ins_cells (K : List Kd) (i : Nat) (k : Kd) (h : i ≤ K.length) : kcs (insK K i k) = (kcs K).take (i * 3) ++ (kc k ++ (kcs K).drop (i * 3)) := by
  unfold insK
  rw [kcs_append, kcs_cons, kcs_take, kcs_drop]
/-- the row behind the two copies -/
theorem shift_cells {cur : List Value} {K : List Kd} {i : Nat} {k : Kd} (hi : i ≤ K.length) (hc : cur.take (K.length * 3) = kcs K) (hl : (K.length + 1) * 3 ≤ cur.length) :
    ((((cur.take ((i + 1) * 3) ++ (kcs K).drop (i * 3) ++ cur.drop ((i + 1) * 3 + ((kcs K).drop (i * 3)).length)).take (i * 3)) ++ kc k ++ (cur.take ((i + 1) * 3) ++ (kcs K).drop (i * 3) ++ cur.drop ((i + 1) * 3 + ((kcs K).drop (i * 3)).length)).drop (i * 3 + (kc k).length)).take ((K.length + 1) * 3)) = kcs (insK K i k) := by
  have hk : (kc k).length = 3 := rfl
  have hkl := kcs_length K
  have hdl : ((kcs K).drop (i * 3)).length = K.length * 3 - i * 3 := by rw [List.length_drop, hkl]
  have h3 : (cur.take ((i + 1) * 3)).length = (i + 1) * 3 := by rw [List.length_take]; omega
  rw [ins_cells K i k hi, hdl, hk]
  have e1 : (cur.take ((i + 1) * 3) ++ (kcs K).drop (i * 3) ++ cur.drop ((i + 1) * 3 + (K.length * 3 - i * 3))).take (i * 3) = (kcs K).take (i * 3) := by
    rw [List.append_assoc, List.take_append_of_le_length (by omega), List.take_take, Nat.min_eq_left (by omega), ← hc, List.take_take, Nat.min_eq_left (by omega)]
  have e2 : (cur.take ((i + 1) * 3) ++ (kcs K).drop (i * 3) ++ cur.drop ((i + 1) * 3 + (K.length * 3 - i * 3))).drop (i * 3 + 3) = (kcs K).drop (i * 3) ++ cur.drop ((i + 1) * 3 + (K.length * 3 - i * 3)) := by
    rw [List.append_assoc, show i * 3 + 3 = (cur.take ((i + 1) * 3)).length by rw [h3]; omega, List.drop_left]
  rw [e1, e2]
  have h4 : ((kcs K).take (i * 3)).length = i * 3 := by rw [List.length_take]; omega
  have h5 : ((kcs K).take (i * 3) ++ kc k ++ (kcs K).drop (i * 3)).length = (K.length + 1) * 3 := by
    rw [List.length_append, List.length_append, h4, hk, hdl]; omega
  rw [← List.append_assoc, ← h5, List.take_left]
  simp only [List.append_assoc]

theorem setRow_grown {w : World} {g : Nat} (cs : Array Value) : w.grownBy (w.setRow g cs) (some g) := by
  refine ⟨rfl, rfl, rfl, by simp [World.setRow], fun k hk hne => setRow_other w g k cs (fun e => hne (by rw [e]))⟩

end Go.Proofs.Ytmopfhkppjcgbaa
namespace Go.Proofs.Ytmopfhkppjcgbaa
open Go.RowKit

set_option maxRecDepth 100000
set_option linter.unusedVariables false
set_option maxHeartbeats 12800000

theorem run_drew_row {w : World} {g : Nat} {x : Obj} (h : w.heap[g]? = some x) : w.drew.heap[g]? = some x := h

theorem row_caps {w : World} {B size n n' vc : Nat} {e : TypeId} {va : Option Addr} {cs : List Value} (h : w.ownsRow B e size (.slice va n' vc) n cs) : n ≤ vc ∧ vc ≤ 9223372036854775807 ∧ (va = none → vc = 0) := by
  rcases h.2 with ⟨h1, h2⟩ | ⟨g, cap, cur, h1, _, _, h3, h4, _⟩
  · cases h1; exact ⟨by omega, by omega, fun _ => rfl⟩
  · cases h1; unfold maxLen at h4; exact ⟨h3, by omega, fun h => by cases h⟩
theorem row_full {w : World} {B size n n' vc : Nat} {e : TypeId} {va : Option Addr} {cs : List Value} (h : w.ownsRow B e size (.slice va n' vc) n cs) (hn : 0 < n) : ∃ g cur, va = some ⟨g, 0, none⟩ ∧ n' = n ∧ B ≤ g ∧ w.heap[g]? = some (.cells cur e (0, 0)) ∧ n ≤ vc ∧ vc ≤ 9223372036854775807 ∧ cur.size = vc * size ∧ cur.toList.take (n * size) = cs := by
  rcases h.2 with ⟨h1, h2⟩ | ⟨g, cap, cur, h1, hb, hg, h3, h4, h5, h6⟩
  · omega
  · cases h1; unfold maxLen at h4; exact ⟨g, cur, rfl, rfl, hb, hg, h3, by omega, h5, h6⟩

/-- at the end -/
theorem insEnd_c {w : World} {B : Nat} {v : Value} {K : List Kd} {k : Kd} {b : Nat} (hrow : w.ownsRow B 54 3 v K.length (kcs K)) (hB : B ≤ w.heap.size) (hlen : K.length ≤ 1000)
    (hb : Blk w b 54 #[.string ⟨k.t.toArray⟩, .int .i64 k.m, .int .i64 k.b]) :
    Calls Try.prog 38 #[v, .int .i64 (K.length : Int), .slice (some ⟨b, 0, none⟩) 1 1] w fun e w' => ∃ v', e = .returned v' ∧ w'.ownsRow B 54 3 v' (K.length + 1) (kcs (K ++ [k])) ∧ w.grownBy w' v.ownBlock ∧ (v'.ownBlock = v.ownBlock ∨ ∀ q, v'.ownBlock = some q → w.heap.size ≤ q) := by
  obtain ⟨i, hi, hz, hsize, hby⟩ := info_parts Try.infoKi
  have HI := Lib.hid hi; have HZ := Lib.hid hz; have HSz := Lib.hid hsize; have HBy := Lib.hid hby
  have HNews : Hid (∀ j u, (kc k)[j]? = some u → w.cell? ((⟨b, 0, none⟩ : Addr).add j) = some u) := Lib.hid (fun j u hj => by
    rw [Addr.add_lit, Nat.zero_add, hb.cell j]
    simpa [kc] using hj)
  have HR := Lib.hid hrow
  have HK : Hid (kcs (K ++ [k]) = kcs K ++ kc k) := Lib.hid (kcs_snoc K k)
  have HB := Lib.hid hB
  obtain ⟨va, vc, rfl⟩ := row_slice hrow
  generalize hn : K.length = n at *
  obtain ⟨hc1, hc2, hnil⟩ := row_caps hrow
  clear hi hz hsize hby hb hrow hB
  by_cases hcn : vc = n
  all_goals
    go_enter Try.func38, Try.ntmps38
    go_wp2_with (at_builtin; refine wpList_append_lies _ rfl _ _ 22 rfl B 54 i _ 3 32 Try.underlying22 HI.out HZ.out HSz.out HBy.out (by decide) (by decide) _ n (kcs K) (by simp [Act.eval]) HR.out ⟨b, 0, none⟩ 1 1 (kc k) (by simp [Act.eval]) rfl HNews.out (kc_one' _) (by decide) (by unfold maxLen; omega) (by omega) HB.out _ rfl ?_; intro g cap1 w1 hown hgrow hat hlt2; have HOw := Lib.hid hown; have HGr := Lib.hid hgrow; have HAt := Lib.hid hat; clear hown hgrow hat)
    go_ret
    refine ⟨_, rfl, by rw [HK.out]; exact HOw.out, HGr.out, ?_⟩
    rcases HAt.out with h | h
    · exact .inl h.symm
    · exact .inr fun q hq => by cases hq; rw [h]; exact Nat.le_refl _

/-- in place -/
theorem insIn_c {w : World} {B : Nat} {v : Value} {K : List Kd} {k : Kd} {b i : Nat} (hrow : w.ownsRow B 54 3 v K.length (kcs K)) (hlen : K.length ≤ 1000) (hi : i < K.length) {va : Option Addr} {vc : Nat} (hv : v = .slice va K.length vc) (hroom : K.length + 1 ≤ vc)
    (hb : Blk w b 54 #[.string ⟨k.t.toArray⟩, .int .i64 k.m, .int .i64 k.b]) (hne : v.ownBlock ≠ some b) :
    Calls Try.prog 38 #[v, .int .i64 (i : Int), .slice (some ⟨b, 0, none⟩) 1 1] w fun e w' => e = .returned (.slice va (K.length + 1) vc) ∧ w'.ownsRow B 54 3 (.slice va (K.length + 1) vc) (K.length + 1) (kcs (insK K i k)) ∧ w.grownBy w' v.ownBlock := by
  subst hv
  obtain ⟨g, cur, rfl, _, hBg, hg, hc1, hc2, hcs, htk⟩ := row_full hrow (by omega)
  have hgb : b ≠ g := fun e => hne (by rw [e]; rfl)
  have hsz : (Try.prog.info? 54).map (·.size) = some 3 := by
    obtain ⟨i0, hi0, h0, h1, h2⟩ := info_parts Try.infoKi
    rw [hi0]; simp [h1]
  have hsa : w.shape? b = some (54, 3) := by simp [World.shape?, Blk] at hb ⊢; rw [hb]; rfl
  have hsb : w.shape? g = some (54, vc * 3) := by simp only [World.shape?]; rw [hg]; simp [hcs]
  have hfr : ∀ j, w.frozen? ⟨b, j, none⟩ = false := fun j => hb.free j
  have hov : ∀ la ca o lb cb, (callFunc 42 #[.slice (some ⟨b, 0, none⟩) la ca, .slice (some ⟨g, o, none⟩) lb cb]).run Try.prog w = .ok (.value (.bool false)) w := fun la ca o lb cb => by
    rw [run_callFunc_extern Try.func42 (by kernel_rfl) (by kernel_rfl) (by kernel_rfl) (e := Extern.SlicesOverlaps.overlaps #[22, 22] #[4]) (by kernel_rfl),
      Lib.run_overlaps_apart w 22 4 54 Try.underlying22 3 Try.sizeOf54 ⟨b, 0, none⟩ ⟨g, o, none⟩ la ca lb cb hgb _ _ 3 (vc * 3) hsa hsb (by omega) (hfr 0) (hfr 3)]
    rfl
  have hw1 : IntKind.i64.wrap ((K.length : Int) + 1) = (K.length : Int) + 1 := by rw [IntKind.wrap_i64]; omega
  have hw2 : IntKind.i64.wrap ((i : Int) + 1) = (i : Int) + 1 := by rw [IntKind.wrap_i64]; omega
  have hd1 : decide ((vc : Int) < (K.length : Int) + 1) = false := decide_eq_false (by omega)
  have hd2 : ((i : Int) == (K.length : Int)) = false := by simp; omega
  have ht1 : ((K.length : Int) + 1).toNat = K.length + 1 := by omega
  have ht2 : ((i : Int) + 1).toNat = i + 1 := by omega
  have hb1 : ¬ (vc = i) := by omega
  have hb2 : ¬ (vc = i + 1) := by omega
  have hb3 : i ≤ K.length := by omega
  have hb4 : (i : Int) + 1 ≤ (K.length : Int) + 1 := by omega
  have hb5 : (0 : Int) ≤ (i : Int) + 1 := by omega
  have hb6 : (i : Int) ≤ (K.length : Int) + 1 := by omega
  have hb7 : (0 : Int) ≤ (K.length : Int) + 1 := by omega
  have hb8 : (K.length : Int) + 1 ≤ (vc : Int) := by omega
  have hkl := kcs_length K
  have hone : ∀ u ∈ (kcs K).drop (i * 3), u.oneCell' = true := fun u hu => by
    have h1 := List.mem_of_mem_drop hu
    unfold kcs at h1
    obtain ⟨f, _, hf⟩ := List.mem_flatMap.1 h1
    exact kc_one' f u hf
  have hdl : ((kcs K).drop (i * 3)).length = (K.length - i) * 3 := by rw [List.length_drop, hkl]; omega
  have hlt : g < w.heap.size := (Array.getElem?_eq_some_iff.1 hg).1
  -- the first copy
  obtain ⟨cur1, hcur1⟩ : ∃ cur1 : List Value, cur1 = cur.toList.take ((i + 1) * 3) ++ (kcs K).drop (i * 3) ++ cur.toList.drop ((i + 1) * 3 + ((kcs K).drop (i * 3)).length) := ⟨_, rfl⟩
  have hl1 : cur1.length = cur.size := by
    rw [hcur1]; simp only [List.length_append, List.length_take, List.length_drop, Array.length_toList, hkl]; omega
  have hcp1 : ∀ ty dl dc sl sc, Nat.min sl dl = K.length - i → (Builtin.copy_ #[22, 22] ty #[.slice (some ⟨g, (i + 1) * 3, none⟩) dl dc, .slice (some ⟨g, i * 3, none⟩) sl sc]).run Try.prog w.drew = .ok (goInt ((K.length - i : Nat) : Int)) (w.drew.setRow g cur1.toArray) := fun ty dl dc sl sc hm => by
    have := run_copy_rowK (P := Try.prog) w.drew 22 22 ty 54 g ((i + 1) * 3) dl dc ⟨g, i * 3, none⟩ sl sc 3 cur 54 ((kcs K).drop (i * 3)) Try.underlying22 hsz (run_drew_row hg) (by rw [hm, hdl]) (fun j u hj => by
      rw [Addr.add_lit]
      show w.cell? _ = _
      have hj2 : (kcs K)[i * 3 + j]? = some u := by rw [List.getElem?_drop] at hj; exact hj
      have hj3 : i * 3 + j < (kcs K).length := by
        rcases Nat.lt_or_ge (i * 3 + j) (kcs K).length with h | h
        · exact h
        · rw [List.getElem?_eq_none h] at hj2; cases hj2
      rw [← htk, List.getElem?_take] at hj2
      rw [if_pos (by rw [← hkl]; exact hj3)] at hj2
      simp only [World.cell?, hg]
      simpa using hj2) (by rw [hdl, hcs]; omega) hone
    rw [hm, ← hcur1] at this
    exact this
  -- the second copy
  have hnl : (kc k).length = 3 := rfl
  have hg1 : ∀ W : World, W.heap = (w.drew.setRow g cur1.toArray).heap → W.heap[g]? = some (.cells cur1.toArray 54 (0, 0)) := fun W h => by
    rw [h]; exact setRow_heap _ _ _ _ _ _ (run_drew_row hg)
  have hbn : ∀ W : World, W.heap = (w.drew.setRow g cur1.toArray).heap → W.heap[b]? = w.heap[b]? := fun W h => by
    rw [h]; exact setRow_other w.drew g b _ hgb
  have hcp2 : ∀ (W : World), W.heap = (w.drew.setRow g cur1.toArray).heap → ∀ ty dl dc, 1 ≤ dl → (Builtin.copy_ #[22, 22] ty #[.slice (some ⟨g, i * 3, none⟩) dl dc, .slice (some ⟨b, 0, none⟩) 1 1]).run Try.prog W = .ok (goInt 1) (W.setRow g (cur1.take (i * 3) ++ kc k ++ cur1.drop (i * 3 + (kc k).length)).toArray) := fun W hW ty dl dc hm => by
    have hmn : Nat.min 1 dl = 1 := by simp only [Nat.min_def]; split <;> omega
    have := run_copy_rowK (P := Try.prog) W 22 22 ty 54 g (i * 3) dl dc ⟨b, 0, none⟩ 1 1 3 cur1.toArray 54 (kc k) Try.underlying22 hsz (hg1 W hW) (by rw [hmn]; rfl) (fun j u hj => by
      have hb2 : Blk W b 54 #[.string ⟨k.t.toArray⟩, .int .i64 k.m, .int .i64 k.b] := (hbn W hW).trans hb
      rw [Addr.add_lit, Nat.zero_add, hb2.cell j]
      simpa [kc] using hj) (by rw [List.size_toArray, hl1, hcs, hnl]; omega) (kc_one' _)
    rw [hmn] at this
    simpa using this
  have hend : (cur1.take (i * 3) ++ kc k ++ cur1.drop (i * 3 + (kc k).length)).take ((K.length + 1) * 3) = kcs (insK K i k) := by
    rw [hcur1]
    exact shift_cells (by omega) htk (by rw [show cur.toList.length = cur.size from Array.length_toList, hcs]; omega)
  have hel : (cur1.take (i * 3) ++ kc k ++ cur1.drop (i * 3 + (kc k).length)).length = vc * 3 := by
    simp only [List.length_append, List.length_take, List.length_drop, hnl, hl1]; omega
  obtain ⟨cur2, hcur2⟩ : ∃ cur2 : List Value, cur2 = cur1.take (i * 3) ++ kc k ++ cur1.drop (i * 3 + (kc k).length) := ⟨_, rfl⟩
  rw [← hcur2] at hcp2 hend hel
  have hFin : ∀ W : World, W = ((w.drew.setRow g cur1.toArray).setRow g cur2.toArray) → W.ownsRow B 54 3 (.slice (some ⟨g, 0, none⟩) (K.length + 1) vc) (K.length + 1) (kcs (insK K i k)) ∧ w.grownBy W (some g) := fun W hW => by
    subst hW
    refine ⟨⟨by rw [kcs_length, insK_length K i k (by omega)], .inr ⟨g, vc, cur2.toArray, rfl, hBg, setRow_heap _ _ _ _ _ _ (setRow_heap _ _ _ _ _ _ (run_drew_row hg)), hroom, by unfold maxLen; omega, by rw [List.size_toArray, hel], hend⟩⟩, ?_⟩
    refine ⟨rfl, rfl, rfl, by simp only [World.setRow, Array.size_modify]; exact Nat.le_refl _, fun q hq hne => ?_⟩
    have hq2 : q ≠ g := fun e => hne (by rw [e])
    rw [setRow_other _ g q _ hq2, setRow_other _ g q _ hq2]
    rfl
  have HFin := Lib.hid hFin
  have HCp1 := Lib.hid hcp1; have HCp2 := Lib.hid hcp2
  have hRes : ∀ W1 : World, W1 = w.drew.setRow g cur1.toArray → ∀ ty dl dc, 1 ≤ dl → (Builtin.copy_ #[22, 22] ty #[.slice (some ⟨g, i * 3, none⟩) dl dc, .slice (some ⟨b, 0, none⟩) 1 1]).run Try.prog W1 = .ok (goInt 1) (W1.setRow g cur2.toArray) := fun W1 h => hcp2 W1 (by rw [h])
  have HRes := Lib.hid hRes
  clear hRes hFin hcp1 hcp2 hcur1 hcur2 hend hel hg1 hbn hl1 hone hdl htk hkl hsa hsb hfr hg hcs hrow hb hsz hnl hlt
  generalize hn : K.length = n at *
  clear hn
  generalize cur1.toArray = R1 at *
  generalize cur2.toArray = R2 at *
  go_enter Try.func38, Try.ntmps38
  go_wp2_with (simp only [hov])
  go_region_law (refine Go.Proofs.step_copy_runI rfl _ _ 22 22 rfl _ _ (by simp [Act.eval, Act.put]) (by simp [Act.eval, Act.put]) (HCp1.out _ (n - i) (vc - (i + 1)) (n + 1 - i) (vc - i) (by simp only [Nat.min_def]; split <;> omega)) ?_)
  all_goals
    obtain ⟨W1, hW1⟩ : ∃ W1, W1 = w.drew.setRow g R1 := ⟨_, rfl⟩
    have HR1 := Lib.hid (HRes.out W1 hW1)
    have HF1 : Hid (∀ W, W = W1.setRow g R2 → _) := Lib.hid fun W h => HFin.out W (by rw [h, hW1])
    rw [← hW1]
    clear hW1 HCp1 HCp2 HRes HFin
    go_wp2_with fail
    rw [HR1.out _ (n + 1 - i) (vc - i) (by omega)]
    go_wp2_with fail
    go_ret
    exact ⟨rfl, HF1.out _ rfl⟩

end Go.Proofs.Ytmopfhkppjcgbaa
