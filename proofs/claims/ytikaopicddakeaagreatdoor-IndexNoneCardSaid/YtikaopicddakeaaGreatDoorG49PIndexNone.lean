/- Walks: the last chunk made sure. Walks: a record more in the last chunk. Walks: a new chunk, step by step. Walks: a new chunk. Walks: the record that stands at a place. Walks: a record in a new chunk. -/
import Derived.Test.YtikaopicddakeaaGreatDoorG48PIndexNone
import Derived.Test.YtikaopicddakeaaGreatDoorG37PIndexNone
import Derived.Deep.RegionHeld3
import Derived.Laws.BitsLemmas
import Derived.Test.YtikaopicddakeaaGreatDoorG19PIndexNone
import Derived.Deep.RegionLaw
set_option linter.unusedVariables false
set_option linter.unusedSimpArgs false
namespace Go.Proofs.YtikaopicddakeaaGreatDoor
open Go.RowKit

set_option maxRecDepth 100000
set_option linter.unusedVariables false
set_option maxHeartbeats 3200000

section
variable {w0 w : World} {g gl : Nat} {F K : Nat → Prop} {v : Value} {σ : DM} {c s sure : Int} {C : Cks}

/-- the field that says up to where it is sure is written -/
theorem LgF.setSure {xs : List Int} {sure : Int} (h : LgF w0 w g gl F v σ s xs sure K) (z : Int) : LgF w0 (w.setCell ⟨gl, 4, none⟩ (.int .i64 z)) g gl F v σ s xs z K ∧ Stay K w (w.setCell ⟨gl, 4, none⟩ (.int .i64 z)) :=
  h.log ⟨h.l.blk.set 4 (.int .i64 z), row_setOther h.l.row _ h.l.apart⟩ (OffS.set w (.inl rfl) 4 _) fun i hi => .inl hi

theorem cks_pos {C : Cks} (h : C ≠ []) : ∃ D ps, C = D ++ [ps] := by
  rcases List.eq_nil_or_concat C with h1 | ⟨D, ps, h1⟩
  · exact absurd h1 h
  · exact ⟨D, ps, by rw [h1, List.concat_eq_append]⟩

theorem cks_last (D : Cks) (ps : List (List UInt8)) : (D ++ [ps])[D.length]? = some ps := by simp

/-- up to where it is sure then -/
def syncSure (C : Cks) (sure : Int) : Int := if C = [] then sure else endL C
theorem lsync_c (h : LgF w0 w g gl F v σ s (sizesL C) sure K) (hl : Lgd σ c s C) :
    Calls Tryz.prog 82 #[.pointer (some ⟨gl, 0, none⟩)] w fun e w' => e = .returned (.int .i64 0) ∧ LgK w0 w' g gl c s C (syncSure C sure) K ∧ Stay K w w' := by
  have c0 := h.l.c0; have c3 := h.l.c3
  obtain ⟨a, k, rfl, hx⟩ := h.l.slice
  by_cases hC : C = []
  · subst hC
    have HK : Hid (LgK w0 w g gl c s [] (syncSure [] sure) K) := Lib.hid ⟨F, _, σ, h, hl⟩
    have e0 : (sizesL []).length = 0 := rfl
    clear h hl hx
    go_enter Tryz.func82, Tryz.ntmps82
    go_wp2_with fail
    go_ret
    exact ⟨rfl, HK.out, Stay.refl _ _⟩
  have HIf : Hid (syncSure C sure = endL C) := Lib.hid (by unfold syncSure; rw [if_neg hC])
  have hCl : 1 ≤ C.length := by cases C with | nil => exact absurd rfl hC | cons => simp
  obtain ⟨D, ps, hD⟩ := cks_pos hC
  have hn : (sizesL C).length = C.length := sizesL_length C
  have h200 := hl.ok.few
  rw [hn] at c3
  obtain ⟨σ', hm, hp'⟩ := hl.pl.sync (cksF_find h200 (by rw [hD]; exact cks_last D ps))
  have hnm := cname_le (D.length : Int)
  have HSY := Lib.hid (fun (wa : World) (k : Ext w wa) => show Calls Tryz.prog 124 #[.pointer (some ⟨g, 0, none⟩), .string ⟨(nameS 99 (D.length : Int)).toArray⟩] wa fun e w' => e = .returned (.int .i64 0) ∧ DkS wa g F σ' w' by
    have := sync_c (h.d.ext k) (nameS 99 (D.length : Int)) hnm
    rw [hm] at this
    exact this)
  have hM : IntKind.i64.wrap ((C.length : Int) - 1) = (D.length : Int) := by
    have : C.length = D.length + 1 := by rw [hD]; simp
    rw [IntKind.wrap_i64]; omega
  have HCH := Lib.hid (fun W => chunk_c (D.length : Int) W)
  generalize nameS 99 (D.length : Int) = nm at *
  obtain ⟨M, hMM⟩ : ∃ M : Int, (D.length : Int) = M := ⟨_, rfl⟩
  rw [hMM] at hM HCH
  have HH := Lib.hid h
  have HL := Lib.hid hl
  have HP := Lib.hid hp'
  have hw : Ext w w.drew := (Ext.refl w).drew
  have HW := Lib.hid hw
  have d0 := cell_ext hw c0; have d3 := cell_ext hw c3
  have hC0 : ((C.length : Int) == 0) = false := by simpa using hC
  clear h hl hp' hm hx hD hMM hC hn hw
  go_enter Tryz.func82, Tryz.ntmps82
  go_wp2_with fail
  go_region_held3 (fun W => W.cell? ⟨gl, 0, none⟩ = some (.pointer (some ⟨g, 0, none⟩)) ∧ W.cell? ⟨gl, 3, none⟩ = some (.slice a C.length k))
    (first | exact HS2.out | exact HS1.out | exact ⟨d0, d3⟩)
    (first
      | (go_at_call 125; refine (HCH.out _).mono ?_; rintro e wa ⟨rfl, h1⟩; have H1 := Lib.hid (HW.out.trans h1); have HS1 := Lib.hid (And.intro (cell_ext h1 d0) (cell_ext h1 d3)); clear h1)
      | (go_at_call 124; refine (HSY.out _ H1.out).mono ?_; rintro e wb ⟨rfl, h2⟩; have h3 := (HH.out.grow H1.out).disk h2; have H3 := Lib.hid h3; have HS2 := Lib.hid (And.intro h3.1.l.c0 (sizesL_length C ▸ h3.1.l.c3)); clear h2 h3))
  all_goals
    have HE := Lib.hid (end_c H3.out.1.l HL.out.ok)
    have e4 := H3.out.1.l.c4
    have z4 := H3.out.1.l.blk.free 4
    have h4 := H3.out.1.setSure (endL C)
    have HF := Lib.hid (show LgK w0 (wb.setCell ⟨gl, 4, none⟩ (.int .i64 (endL C))) g gl c s C (syncSure C sure) K from ⟨_, _, σ', by rw [HIf.out]; exact h4.1, ⟨HP.out, HL.out.ok⟩⟩)
    have HSt := Lib.hid ((HH.out.kExt H1.out).trans (H3.out.2.trans h4.2))
    clear h4
    go_wp2_with fail
    refine HE.out.mono ?_
    rintro e w' ⟨rfl, rfl⟩
    go_wp2_with fail
    go_ret
    exact ⟨rfl, HF.out, HSt.out⟩
end

end Go.Proofs.YtikaopicddakeaaGreatDoor
namespace Go.Proofs.YtikaopicddakeaaGreatDoor
open Go.RowKit

set_option maxRecDepth 100000
set_option linter.unusedVariables false
set_option maxHeartbeats 3200000

section
variable {w0 w : World} {g gl : Nat} {F K : Nat → Prop} {v : Value} {σ : DM} {c s sure : Int} {C : Cks}

theorem Lgd.free (h : Lgd σ c s C) : freeM σ = c - (usedK C : Int) := by rw [h.pl.free, cksF_used]
theorem Dk.okD {F : Nat → Prop} (h : Dk w g F σ) : okD σ := by obtain ⟨h1, _⟩ := h; exact h1
theorem LgF.room0 {xs : List Int} (h : LgF w0 w g gl F v σ s xs sure K) (hl : Lgd σ c s C) : 0 ≤ c - (usedK C : Int) ∧ c - (usedK C : Int) ≤ 1048576 := by
  have ho := h.d.okD
  have h1 := hl.free
  have h2 := ho.used; have h3 := ho.cap1
  unfold freeM at h1
  omega

/-- a cell of the row is written -/
theorem LgF.setRow {xs : List Int} (h : LgF w0 w g gl F v σ s xs sure K) {b k : Nat} (hv : v = .slice (some ⟨b, 0, none⟩) xs.length k) (j : Nat) (z : Int) : LgF w0 (w.setCell ⟨b, j, none⟩ (.int .i64 z)) g gl F v σ s (xs.set j z) sure K ∧ Stay K w (w.setCell ⟨b, j, none⟩ (.int .i64 z)) := by
  have hb : v.ownBlock = some b := by rw [hv]; rfl
  have hne : ¬ gl = b := fun e => h.l.apart (by rw [hb, e])
  refine h.log ⟨(OffS.set (F := fun i => i = b) w rfl j (.int .i64 z)).blk h.l.blk hne, ?_⟩ (OffS.set w (.inr hb) j _) fun i hi => .inl hi
  have := row_stored h.l.row hv (j := j) (.int .i64 z)
  rw [List.length_set, List.map_set]
  exact this

theorem LgF.last {D : Cks} {ps : List (List UInt8)} (h : LgF w0 w g gl F v σ s (sizesL (D ++ [ps])) sure K) :
    ∃ b k, v = .slice (some ⟨b, 0, none⟩) (D.length + 1) k ∧ w.cell? ⟨b, D.length, none⟩ = some (.int .i64 (sizeC ps : Int)) ∧ w.frozen? ⟨b, D.length, none⟩ = false := by
  have hsl : (sizesL (D ++ [ps])).length = D.length + 1 := by rw [sizesL_length]; simp
  obtain ⟨b, k, h1, h2, h3, _⟩ := (Own.of_row h.l.row).cell (j := D.length) (by rw [List.length_map, hsl]; omega)
  have hlast : ((sizesL (D ++ [ps])).map (Value.int .i64))[D.length]'(by rw [List.length_map, hsl]; omega) = .int .i64 (sizeC ps : Int) := by
    rw [List.getElem_map]
    congr 1
    have := sizesL_last D ps
    rw [List.getD_eq_getElem?_getD, List.getElem?_eq_getElem (by rw [hsl]; omega)] at this
    exact this
  rw [hlast] at h2
  rw [hsl] at h1
  exact ⟨b, k, h1, h2, h3⟩

end

end Go.Proofs.YtikaopicddakeaaGreatDoor
namespace Go.Proofs.YtikaopicddakeaaGreatDoor
open Go.RowKit

set_option maxRecDepth 100000
set_option linter.unusedVariables false
set_option maxHeartbeats 3200000

/-- a log whose disk has these files -/
def LgP (w0 w : World) (g gl : Nat) (c s : Int) (l : List (List UInt8 × List UInt8)) (xs : List Int) (sure : Int) (K : Nat → Prop) : Prop := ∃ F v σ, LgF w0 w g gl F v σ s xs sure K ∧ Pl σ c s l

theorem cell_same {w w' : World} {b : Nat} (h : w'.heap[b]? = w.heap[b]?) (o : Nat) : w'.cell? ⟨b, o, none⟩ = w.cell? ⟨b, o, none⟩ := by simp only [World.cell?, h]
theorem stay_cell {K : Nat → Prop} {w w' : World} (h : Stay K w w') {b o : Nat} (hK : K b) {u : Value} (hc : w.cell? ⟨b, o, none⟩ = some u) : w'.cell? ⟨b, o, none⟩ = some u := (cell_same (h b hK) o).trans hc

section
variable {w0 w : World} {g gl : Nat} {F K : Nat → Prop} {v : Value} {σ : DM} {c s sure : Int} {C : Cks} {xs : List Int}

end

end Go.Proofs.YtikaopicddakeaaGreatDoor
namespace Go.Proofs.YtikaopicddakeaaGreatDoor
open Go.RowKit

set_option maxRecDepth 100000
set_option linter.unusedVariables false
set_option maxHeartbeats 3200000

section
variable {w0 w : World} {g gl : Nat} {F K : Nat → Prop} {v : Value} {σ : DM} {c s sure : Int} {C : Cks} {xs : List Int}

theorem LgK.toP (h : LgK w0 w g gl c s C sure K) : LgP w0 w g gl c s (cksF 0 C) (sizesL C) sure K ∧ okC C := by
  obtain ⟨F, v, σ, h1, h2⟩ := h
  exact ⟨⟨F, v, σ, h1, h2.pl⟩, h2.ok⟩
theorem LgP.grow {l : List (List UInt8 × List UInt8)} (h : LgP w0 w g gl c s l xs sure K) {w1 : World} (k : Ext w w1) : LgP w0 w1 g gl c s l xs sure K := by
  obtain ⟨F, v, σ, h1, h2⟩ := h
  exact ⟨F, v, σ, h1.grow k, h2⟩

/-- behind so many steps -/
def StepSt (w0 : World) (g gl : Nat) (c s : Int) (C : Cks) (p : List UInt8) (sure : Int) (K : Nat → Prop) : Nat → World → Prop
  | 0, W => LgK w0 W g gl c s C sure K
  | 1, W => LgP w0 W g gl c s (cksF 0 C) (sizesL C) (syncSure C sure) K
  | 2, W => LgP w0 W g gl c s (cksF 0 C ++ [(nameS 99 (C.length : Int), [])]) (sizesL C) (syncSure C sure) K
  | _, W => LgP w0 W g gl c s (cksF 0 (C ++ [[p]])) (sizesL C) (syncSure C sure) K

end

end Go.Proofs.YtikaopicddakeaaGreatDoor
namespace Go.Proofs.YtikaopicddakeaaGreatDoor
open Go.RowKit

set_option maxRecDepth 100000
set_option linter.unusedVariables false
set_option maxHeartbeats 3200000

/-- a record cut out is told as where it stood -/
theorem getR_cut {s : List UInt8} {a : Nat} (h : a + longR s a + 12 ≤ s.length) : getR ((s.drop a).take (longR s a + 12)) 0 = (getR s a).map fun r => (r.1, r.2 - a) := by
  obtain ⟨n, hn⟩ : ∃ n, longR s a = n := ⟨_, rfl⟩
  rw [hn] at h ⊢
  have e4 : ((s.drop a).take (n + 12)).take 4 = (s.drop a).take 4 := by rw [List.take_take, Nat.min_eq_left (by omega)]
  have hlen : ((s.drop a).take (n + 12)).length = n + 12 := by simp; omega
  have hl0 : longR ((s.drop a).take (n + 12)) 0 = n := by
    unfold longR; rw [List.drop_zero, e4, ← hn]; first | done | rfl
  have hi : isR ((s.drop a).take (n + 12)) 0 = isR s a := by
    unfold isR
    rw [hl0, hlen, hn, List.drop_zero, e4]
    have e8 : ((s.drop a).take (n + 12)).take (n + 8) = (s.drop a).take (n + 8) := by rw [List.take_take, Nat.min_eq_left (by omega)]
    have ed : (((s.drop a).take (n + 12)).drop (0 + n + 8)).take 4 = (s.drop (a + n + 8)).take 4 := by
      rw [List.drop_take, List.drop_drop, List.take_take]
      congr 1
      · omega
      · congr 1; omega
    rw [e8, ed, decide_eq_true (p := 0 + 12 ≤ n + 12) (by omega), decide_eq_true (p := 0 + n + 12 ≤ n + 12) (by omega), decide_eq_true (p := a + 12 ≤ s.length) (by omega), decide_eq_true (p := a + n + 12 ≤ s.length) h]
  unfold getR
  rw [hi, hl0, hn]
  split
  · simp only [Option.map_some]
    congr 2
    · rw [List.drop_take, List.drop_drop, List.take_take]
      congr 1
      · omega
    · omega
  · rfl

section
variable {w0 w : World} {g gl : Nat} {F K : Nat → Prop} {v : Value} {σ : DM} {c s sure : Int} {C : Cks} {xs : List Int} {l : List (List UInt8 × List UInt8)} {nm : List UInt8} {x : List UInt8 × List UInt8}

theorem disk_read (h : LgF w0 w g gl F v σ s xs sure K) (hp : Pl σ c s l) (hf : findN Prod.fst nm l = some x) (hnm : nm.length ≤ 9223372036854775807) (a n : Int) (ha : 0 ≤ a) (hn : 0 ≤ n) (hl : a + n ≤ (x.2.length : Int)) (hx : (x.2.length : Int) ≤ 1048576) :
    Calls Tryz.prog 120 #[.pointer (some ⟨g, 0, none⟩), .string ⟨nm.toArray⟩, .int .i64 a, .int .i64 n] w fun e w' =>
      e = .returned (.tuple #[.string ⟨((x.2.drop a.toNat).take n.toNat).toArray⟩, .int .i64 0]) ∧ (∃ F' σ', LgF w0 w' g gl F' v σ' s xs sure K ∧ Pl σ' c s l) ∧ Stay K w w' := by
  have h1 := read_c h.d nm a n hnm (by omega) (by omega) (by omega) (by omega)
  rw [hp.read hf a n ha hn hl] at h1
  refine h1.mono ?_
  rintro e w' ⟨rfl, k⟩
  obtain ⟨k1, k2⟩ := h.disk k
  exact ⟨rfl, ⟨_, _, k1, hp.tell⟩, k2⟩

/-- the size of a chunk -/
theorem LgF.cellAt (h : LgF w0 w g gl F v σ s (sizesL C) sure K) {n : Nat} {ps : List (List UInt8)} (hps : C[n]? = some ps) :
    ∃ b k, v = .slice (some ⟨b, 0, none⟩) C.length k ∧ w.cell? ⟨b, n, none⟩ = some (.int .i64 (sizeC ps : Int)) ∧ w.frozen? ⟨b, n, none⟩ = false := by
  have hsl : (sizesL C).length = C.length := sizesL_length C
  have hn : n < C.length := (List.getElem?_eq_some_iff.1 hps).1
  obtain ⟨b, k, h1, h2, h3, _⟩ := (Own.of_row h.l.row).cell (j := n) (by rw [List.length_map, hsl]; omega)
  have hval : ((sizesL C).map (Value.int .i64))[n]'(by rw [List.length_map, hsl]; omega) = .int .i64 (sizeC ps : Int) := by
    rw [List.getElem_map]
    congr 1
    have := sizesL_getD C n hps
    rw [List.getD_eq_getElem?_getD, List.getElem?_eq_getElem (by rw [hsl]; omega)] at this
    exact this
  rw [hval] at h2
  rw [hsl] at h1
  exact ⟨b, k, h1, h2, h3⟩

theorem readL_neg {pos : Int} (h : pos < 0) : readL C pos = ([], 4) := by unfold readL; rw [if_pos h]
theorem readL_at {n a : Nat} {pos : Int} (hpos : pos = (n : Int) * 4096 + (a : Int)) (ha : a < 4096) : readL C pos = match C[n]? with
    | none => ([], 4)
    | some ps => match (if 12 ≤ a then getR (chunkB n ps) a else none) with
      | none => ([], 4)
      | some (p, _) => (p, 0) := by
  have h1 : (pos / 4096).toNat = n := by omega
  have h2 : (pos % 4096).toNat = a := by omega
  unfold readL
  rw [if_neg (by omega), h1, h2]
  cases C[n]? with
  | none => rfl
  | some ps =>
    by_cases h12 : 12 ≤ a
    · simp only [if_pos h12, if_pos (show 12 ≤ pos % 4096 by omega)]
      cases getR (chunkB n ps) a with
      | none => rfl
      | some r => rfl
    · simp only [if_neg h12, if_neg (show ¬ 12 ≤ pos % 4096 by omega)]

/-- what 'Read' leads to -/
def ReadR (w0 w : World) (g gl : Nat) (c s : Int) (C : Cks) (sure : Int) (K : Nat → Prop) (r : List UInt8 × Int) (e : Ending) (w' : World) : Prop :=
  e = .returned (.tuple #[.string ⟨r.1.toArray⟩, .int .i64 r.2]) ∧ LgK w0 w' g gl c s C sure K ∧ Stay K w w'
theorem ReadR.no {w' : World} {r : List UInt8 × Int} (h : LgK w0 w g gl c s C sure K) (k : Ext w w') (hr : r = ([], 4)) : ReadR w0 w g gl c s C sure K r (.returned (.tuple #[.string ⟨#[]⟩, .int .i64 4])) w' := by
  subst hr
  exact ⟨rfl, h.grow k, h.kExt k⟩

end

end Go.Proofs.YtikaopicddakeaaGreatDoor
namespace Go.Proofs.YtikaopicddakeaaGreatDoor
open Go.RowKit

set_option maxRecDepth 100000
set_option linter.unusedVariables false
set_option maxHeartbeats 3200000

section
variable {w0 w : World} {g gl : Nat} {F K : Nat → Prop} {v : Value} {σ : DM} {c s sure : Int} {C : Cks} {xs : List Int}

/-- a size more -/
theorem LgF.push {w3 wl w' : World} (h : LgF w0 w3 g gl F v σ s xs sure K) (hx : Ext w3 wl) {z : Int} {v' : Value} (hown : w'.ownsRow 0 3 1 v' (xs.length + 1) (xs.map (Value.int .i64) ++ [.int .i64 z])) (hgrow : wl.grownBy w' v.ownBlock)
    (hat : v'.ownBlock = v.ownBlock ∨ v'.ownBlock = some wl.heap.size) :
    LgF w0 (w'.setCell ⟨gl, 3, none⟩ v') g gl F v' σ s (xs ++ [z]) sure K ∧ Stay K w3 (w'.setCell ⟨gl, 3, none⟩ v') := by
  have hlt := h.l.blk.lt
  have hs := hx.size
  have hne : v'.ownBlock ≠ some gl := fun e => by
    rcases hat with h1 | h1
    · exact h.l.apart (h1.symm.trans e)
    · rw [h1] at e; cases e; omega
  have hb : Blk w' gl 114 #[.pointer (some ⟨g, 0, none⟩), .int .i64 s, .bool false, v, .int .i64 sure] := (h.l.blk.ext hx).same (hgrow.block gl (by omega) fun e => h.l.apart e.symm)
  refine h.log ⟨hb.set 3 v', ?_⟩ (((OffS.of_ext hx).trans (OffS.grown hgrow fun i e => .inr e)).trans (OffS.set w' (.inl rfl) 3 v')) fun i hi => ?_
  · rw [List.length_append, List.map_append]
    exact row_setOther hown v' hne
  · rcases hat with h1 | h1
    · exact .inl (h1.symm.trans hi)
    · right; rw [h1] at hi; cases hi; exact hs
/-- .. and the cells beside -/
theorem LgF.pushed {w3 wl w' : World} (h : LgF w0 w3 g gl F v σ s xs sure K) (hx : Ext w3 wl) (hgrow : wl.grownBy w' v.ownBlock) : Stay K w3 w' ∧ w'.cell? ⟨gl, 3, none⟩ = some v ∧ w'.frozen? ⟨gl, 3, none⟩ = false := by
  have hlt := h.l.blk.lt
  have hs := hx.size
  have hb : Blk w' gl 114 #[.pointer (some ⟨g, 0, none⟩), .int .i64 s, .bool false, v, .int .i64 sure] := (h.l.blk.ext hx).same (hgrow.block gl (by omega) fun e => h.l.apart e.symm)
  refine ⟨fun i hi => ?_, hb.cell 3, hb.free 3⟩
  obtain ⟨h1, _, h2⟩ := h.k i hi
  exact (hgrow.block i (by omega) fun e => h2 (.inr e.symm)).trans (hx.block i h1)

end

end Go.Proofs.YtikaopicddakeaaGreatDoor
