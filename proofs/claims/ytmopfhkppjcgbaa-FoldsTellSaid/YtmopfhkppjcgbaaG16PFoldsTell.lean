/- Walks: a state folds events (folds' Fold, Step). Walks: a state steps (folds' Step); the document's check of an event. -/
import Derived.Test.YtmopfhkppjcgbaaG15PFoldsTell
import Derived.Test.YtmopfhkppjcgbaaG11PFoldsTell
import Derived.BigRegion
import Derived.Deep.CutRange
set_option linter.unusedVariables false
set_option linter.unusedSimpArgs false
namespace Go.Proofs.Ytmopfhkppjcgbaa
open Go.RowKit

set_option maxRecDepth 100000
set_option linter.unusedVariables false
set_option maxHeartbeats 12800000

def tdc (x : Td) : List Value := [.string ⟨x.s.toArray⟩, .int .i64 x.v, .string ⟨x.t.toArray⟩, .string ⟨x.d.toArray⟩, .float .f64 x.b]
def tdcs (L : List Td) : List Value := L.flatMap tdc
theorem tdcs_length (L : List Td) : (tdcs L).length = L.length * 5 := by
  induction L with
  | nil => rfl
  | cons k L ih => unfold tdcs at ih ⊢; rw [List.flatMap_cons, List.length_append, ih, List.length_cons]; simp [tdc]; omega
theorem tdcs_at : ∀ (L : List Td) (i j : Nat), i < L.length → j < 5 → (tdcs L)[i * 5 + j]? = (tdc (L.getD i td0))[j]?
  | [], i, j, h, _ => by simp at h
  | k :: L, 0, j, _, hj => by
    rw [show tdcs (k :: L) = tdc k ++ tdcs L from rfl, List.getElem?_append_left (by simp [tdc]; omega)]
    simp
  | k :: L, i + 1, j, h, hj => by
    rw [show tdcs (k :: L) = tdc k ++ tdcs L from rfl, List.getElem?_append_right (by simp [tdc]; omega), show (i + 1) * 5 + j - (tdc k).length = i * 5 + j from by simp [tdc]; omega, tdcs_at L i j (by simpa using h) hj]
    simp
/-- a slice of events, as it reads -/
structure TDs (w : World) (ao : Option Addr) (n cap : Nat) (L : List Td) : Prop where
  len : L.length = n
  fits : n ≤ cap
  bound : cap ≤ 9223372036854775807
  nil : ao = none → cap = 0
  rd : Rd w ao (tdcs L)
theorem TDs.ext {w w' : World} {ao : Option Addr} {n cap : Nat} {L : List Td} (h : TDs w ao n cap L) (k : Ext w w') : TDs w' ao n cap L := ⟨h.len, h.fits, h.bound, h.nil, h.rd.ext k⟩
theorem TDs.at {w : World} {ao : Option Addr} {n cap : Nat} {L : List Td} (h : TDs w ao n cap L) {i : Nat} (hi : i < n) :
    ∃ b off, ao = some ⟨b, off, none⟩ ∧ w.cell? ⟨b, off + i * 5, none⟩ = some (.string ⟨(L.getD i td0).s.toArray⟩) ∧ w.cell? ⟨b, off + i * 5 + 1, none⟩ = some (.int .i64 (L.getD i td0).v) ∧ w.cell? ⟨b, off + i * 5 + 2, none⟩ = some (.string ⟨(L.getD i td0).t.toArray⟩) ∧ w.cell? ⟨b, off + i * 5 + 3, none⟩ = some (.string ⟨(L.getD i td0).d.toArray⟩) ∧ w.cell? ⟨b, off + i * 5 + 4, none⟩ = some (.float .f64 (L.getD i td0).b) := by
  have hl := h.len
  have k0 := tdcs_at L i 0 (by omega) (by decide)
  have k1 := tdcs_at L i 1 (by omega) (by decide)
  have k2 := tdcs_at L i 2 (by omega) (by decide)
  have k3 := tdcs_at L i 3 (by omega) (by decide)
  have k4 := tdcs_at L i 4 (by omega) (by decide)
  obtain ⟨b, off, rfl, h0⟩ := h.rd _ _ k0
  obtain ⟨_, _, e1, h1⟩ := h.rd _ _ k1
  cases e1
  obtain ⟨_, _, e2, h2⟩ := h.rd _ _ k2
  cases e2
  obtain ⟨_, _, e3, h3⟩ := h.rd _ _ k3
  cases e3
  obtain ⟨_, _, e4, h4⟩ := h.rd _ _ k4
  cases e4
  exact ⟨b, off, rfl, h0, h1, h2, h3, h4⟩

theorem run_store_floatF (P : Program) (w : World) (a : Addr) (m : Mode) (k : FloatKind) (b : Nat) : (store a (.float k b) m).run P w = stored P w a (.float k b) m := run_store P w a _ m rfl
attribute [local go_sem] run_store_floatF

/-- the end of a fold, as it is handed back -/
def FoldR (w : World) (z : Int × List Kd × Int) (e : Ending) (w' : World) : Prop :=
  ∃ v, e = .returned (.tuple #[.agg #[.int .i64 z.1, v], .int .i64 z.2.2]) ∧ w'.ownsRow w.heap.size 54 3 v z.2.1.length (kcs z.2.1) ∧ Ext w w'

theorem ffold_c {ao lo : Option Addr} {n cap m lcap : Nat} {nx : Int} {K : List Kd} {L : List Td} (w : World) (hx : Kds w ao n cap K) (hl : TDs w lo m lcap L) (hL : ∀ x ∈ L, x.t.length ≤ 1000000 ∧ x.d.length ≤ 1000000) :
    Calls Try.prog 16 #[.agg #[.int .i64 nx, .slice ao n cap], .slice lo m lcap] w (FoldR w (if checkN nx K = 0 then foldS nx K L else (0, [], checkN nx K))) := by
  obtain rfl : K.length = n := hx.len
  have HCk := Lib.hid (fun W (k : Ext w W) => fcheck_c nx ao K.length cap K W (hx.ext k))
  have HK := Lib.hid hx
  have HL := Lib.hid hl
  have HE1 := Lib.hid (ext_a2 w (.cells #[.int .i64 nx, .slice ao K.length cap] 24) (.cells #[.int .i64 0, .slice none 0 0] 24))
  have B0 := Lib.hid ((Blk.new w 24 #[.int .i64 nx, .slice ao K.length cap]).ext (ext_a1 _ (.cells #[.int .i64 0, .slice none 0 0] 24)))
  have b1 := Blk.new (w.alloc (.cells #[.int .i64 nx, .slice ao K.length cap] 24)) 24 #[.int .i64 0, .slice none 0 0]
  simp only [World.size_alloc] at b1
  have B1 := Lib.hid b1
  obtain ⟨wA, hwA⟩ : ∃ wA, wA = (w.alloc (.cells #[.int .i64 nx, .slice ao K.length cap] 24)).alloc (.cells #[.int .i64 0, .slice none 0 0] 24) := ⟨_, rfl⟩
  have HwA := Lib.hid hwA
  have HsA : Hid (wA.heap.size = w.heap.size + 2) := Lib.hid (by rw [hwA, World.size_alloc, World.size_alloc])
  have HEA : Hid (Ext w wA) := Lib.hid (by rw [hwA]; exact HE1.out)
  have HBA : Hid (Blk wA (w.heap.size + 1) 24 #[.int .i64 0, .slice none 0 0]) := Lib.hid (by rw [hwA]; exact B1.out)
  clear hwA
  have f1 := hl.fits; have f2 := hl.bound
  have e1 := hx.fits; have e2 := hx.bound
  have c0 := B0.out.cell 0
  have c1 := B0.out.cell 1
  clear hx hl b1
  rcases check_cases nx K with hc | hc
  · have hok := check_ok hc
    have HOk := Lib.hid hok
    rw [hc, if_pos rfl]
    rw [hc] at HCk
    clear hc
    have hK256 := hok.2.2.1
    have hlen : K.length ≤ 1000 := by omega
    have HCl := Lib.hid (fun W (k : Ext w W) => cloneK_c W (HK.out.ext k) hlen)
    go_enter Try.func16, Try.ntmps16
    go_wp2_with fail
    refine (HCk.out _ HE1.out).mono ?_
    rintro e w2 ⟨rfl, hw2⟩
    have hw2A : Ext wA w2 := by rw [HwA.out]; exact hw2
    have HW2A := Lib.hid hw2A
    have HSA : Hid (wA.heap.size ≤ ((w2.alloc (.cells #[.int .i64 0, .slice none 0 0] 24)).drew).heap.size) := Lib.hid (Nat.le_trans hw2A.size (by rw [show ((w2.alloc (.cells #[.int .i64 0, .slice none 0 0] 24)).drew).heap.size = w2.heap.size + 1 from World.size_alloc _ _]; omega))
    have HSB : Hid (wA.heap.size ≤ w2.drew.heap.size) := Lib.hid hw2A.size
    have HW2 := Lib.hid (HE1.out.trans hw2)
    have S0 := Lib.hid (B0.out.ext hw2); have S1 := Lib.hid (B1.out.ext hw2)
    have a0 : w2.cell? ⟨w.heap.size, 0, none⟩ = some (.int .i64 nx) := S0.out.cell 0
    have a1 : w2.cell? ⟨w.heap.size, 1, none⟩ = some (.slice ao K.length cap) := S0.out.cell 1
    have hsz : w.heap.size + 1 < w2.heap.size := S1.out.lt
    have hlw : w.heap.size < w2.heap.size := by omega
    have hnw : w.heap.size ≠ w2.heap.size := by omega
    have HXA := Lib.hid (HW2.out.trans (Ext.drew (ext_a1 w2 (.cells #[.int .i64 0, .slice none 0 0] 24))))
    have HXB := Lib.hid (HW2.out.trans (Ext.drew (Ext.refl w2)))
    clear hw2 c0 c1 hok
    go_upto_region 4 with fail
    go_cut [7] from 17 (fun s7 wc => ∃ G, s7 = .pointer (some ⟨G, 0, none⟩) ∧ StF wA wc G nx K)
    case first =>
      go_wp2_with fail
      go_region_law (go_simp; go_at_call 26; first
        | (refine (HCl.out _ HXA.out).mono ?_; rintro e w3 ⟨v3, rfl, hrow3, hw3⟩; obtain ⟨va, vc, rfl⟩ := row_slice hrow3; have HR3 := Lib.hid (row_base hrow3 HSA.out); have HAF := Lib.hid (((Blk.new w2 24 #[.int .i64 0, .slice none 0 0]).drew).ext hw3); have HW3 := Lib.hid (Ext.trans (Ext.drew (ext_a1 w2 (.cells #[.int .i64 0, .slice none 0 0] 24))) hw3); have HNe : Hid ((Value.slice va K.length vc).ownBlock ≠ some w2.heap.size) := Lib.hid (fun e => by have h1 := (row_lt hrow3 _ e).1; rw [show ((w2.alloc (.cells #[.int .i64 0, .slice none 0 0] 24)).drew).heap.size = w2.heap.size + 1 from World.size_alloc _ _] at h1; omega); have T0 := Lib.hid (S0.out.ext HW3.out); have b0 : w3.cell? ⟨w.heap.size, 0, none⟩ = some (.int .i64 nx) := T0.out.cell 0; have b1 : w3.cell? ⟨w.heap.size, 1, none⟩ = some (.slice ao K.length cap) := T0.out.cell 1; have q0 : w3.cell? ⟨w2.heap.size, 0, none⟩ = some (.int .i64 0) := HAF.out.cell 0; have q1 : w3.cell? ⟨w2.heap.size, 1, none⟩ = some (.slice none 0 0) := HAF.out.cell 1; have q2 := HAF.out.free 0; have q3 := HAF.out.free 1; clear hw3 hrow3)
        | (refine (HCl.out _ HXB.out).mono ?_; rintro e w3 ⟨v3, rfl, hrow3, hw3⟩; obtain ⟨va, vc, rfl⟩ := row_slice hrow3; have HR3 := Lib.hid (row_base hrow3 HSB.out); have HLt := Lib.hid (fun q hq => (row_lt hrow3 q hq).2); have HW3 := Lib.hid (Ext.trans (Ext.drew (Ext.refl w2)) hw3); have T0 := Lib.hid (S0.out.ext HW3.out); have b0 : w3.cell? ⟨w.heap.size, 0, none⟩ = some (.int .i64 nx) := T0.out.cell 0; have b1 : w3.cell? ⟨w.heap.size, 1, none⟩ = some (.slice ao K.length cap) := T0.out.cell 1; have hl3 : w.heap.size < w3.heap.size := T0.out.lt; have hn3 : w.heap.size ≠ w3.heap.size := Nat.ne_of_lt hl3; clear hw3 hrow3))
      all_goals
        go_wp2_with fail
        go_meet
        case rel =>
          first
          | exact ⟨_, rfl, ⟨_, ext_set2 (HW2A.out.trans HW3.out) w2.heap.size HW2A.out.size _ _, HW2A.out.size, (HAF.out.set 0 (.int .i64 nx)).set 1 (.slice va K.length vc), row_setOther (row_setOther HR3.out _ HNe.out) _ HNe.out, HNe.out⟩⟩
          | (have hs3 := HW3.out.size
             have hsA := HW2A.out.size
             have hne3 : (Value.slice va K.length vc).ownBlock ≠ some w3.heap.size := fun e => by have := HLt.out _ e; omega
             exact ⟨_, rfl, ⟨_, HW2A.out.trans (HW3.out.trans (ext_a1 w3 _)), by omega, Blk.new w3 _ _, row_ext HR3.out (ext_a1 w3 _), hne3⟩⟩)
    case rest =>
    obtain ⟨G, rfl, hst⟩ := hcut
    have HSt := Lib.hid hst
    have hGA : wA.heap.size ≤ G := by obtain ⟨_, _, h, _⟩ := hst; exact h
    clear hst HXA HXB a0 a1 HCl HCk S0 S1 HW2 HW2A hw2A
    have hLl := HL.out.len
    go_wp2_with fail
    go_loopw [25] (fun i W => ∃ (j : Nat) (nx' : Int) (K' : List Kd), j ≤ m ∧ i = .int .i64 (j : Int) ∧ okState nx' K' ∧ StF wA W G nx' K' ∧ foldS nx K L = foldS nx' K' (L.drop j)) (fun i _ => m - (intOf i).toNat)
    case atStart => exact ⟨0, nx, K, Nat.zero_le _, rfl, HOk.out, HSt.out, rfl⟩
    case round =>
      obtain ⟨j, nx', K', hj, rfl, hok, hst, hfo⟩ := hrel
      have HOk' := Lib.hid hok; have HSt' := Lib.hid hst; have HFo := Lib.hid hfo
      have HXW := Lib.hid hst.base
      clear hok hst hfo
      by_cases hlt : j < m
      · have hd : decide ((j : Int) < (m : Int)) = true := decide_eq_true (by omega)
        have q1 : IntKind.i64.wrap ((j : Int) + 1) = (j : Int) + 1 := by rw [IntKind.wrap_i64]; omega
        have q5 : (j : Int) < (m : Int) := by omega
        obtain ⟨b, off, rfl, c0, c1, c2, c3, c4⟩ := (HL.out.ext (HEA.out.trans HXW.out)).at hlt
        have hjL : j < L.length := by omega
        have hg : L.getD j td0 = L[j] := by rw [List.getD_eq_getElem?_getD, List.getElem?_eq_getElem hjL]; rfl
        have hdr : L.drop j = L[j] :: L.drop (j + 1) := List.drop_eq_getElem_cons hjL
        have hLx := hL _ (List.getElem_mem hjL)
        rw [hg] at c0 c1 c2 c3 c4
        have HDr := Lib.hid hdr
        generalize L[j] = x at *
        obtain ⟨s, v, t, d, fb⟩ := x
        have HSp := Lib.hid (fun W (k : StF wA W G nx' K') => fstep_c s t d v .f64 fb k HOk'.out.sorted HOk'.out.1 HOk'.out.2.1 HOk'.out.2.2.1 HOk'.out.bounds hLx.1 (by have h : d.length ≤ 1000000 := hLx.2; show ((d.length : Nat) : Int) ≤ 1000000; omega))
        have hfs : foldS nx' K' (L.drop j) = if stepE nx' K' v t d = 0 then foldS (nx' + 1) (addK K' t d.length) (L.drop (j + 1)) else (0, [], stepE nx' K' v t d) := by rw [HDr.out]; rfl
        have hos : stepE nx' K' v t d = 0 → okState (nx' + 1) (addK K' t d.length) := HOk'.out.step
        unfold StepR at HSp
        obtain ⟨c, hc⟩ : ∃ c, stepE nx' K' v t d = c := ⟨_, rfl⟩
        rw [hc] at HSp hfs hos
        clear hg hdr hLx hc
        by_cases h0 : c = 0
        · subst h0
          rw [if_pos rfl] at hfs
          have HOs := Lib.hid (hos rfl); have HFs := Lib.hid hfs
          clear hos hfs
          go_wp2_with fail
          refine (HSp.out _ (HSt'.out.grow (ext_a1 wr _))).mono ?_
          rintro e w3 ⟨rfl, hst3⟩
          rw [if_pos trivial] at hst3
          have HS3 := Lib.hid hst3
          clear hst3
          go_wp2_with fail
          go_roundw
          case rel => exact ⟨j + 1, nx' + 1, _, by omega, by go_num, HOs.out, HS3.out, HFo.out.trans HFs.out⟩
          case measure => simp [intOf]; omega
        · rw [if_neg h0] at hfs
          have hb : (c != 0) = true := by simpa using h0
          have H0 := Lib.hid h0; have HFs := Lib.hid (HFo.out.trans hfs)
          clear hos hfs h0
          go_wp2_with fail
          refine (HSp.out _ (HSt'.out.grow (ext_a1 wr _))).mono ?_
          rintro e w3 ⟨rfl, hst3⟩
          rw [if_neg H0.out] at hst3
          have HX3 := Lib.hid hst3.base
          have R3 := Lib.hid (HBA.out.ext hst3.base)
          have r0 : w3.cell? ⟨w.heap.size + 1, 0, none⟩ = some (.int .i64 0) := R3.out.cell 0
          have r1 : w3.cell? ⟨w.heap.size + 1, 1, none⟩ = some (.slice none 0 0) := R3.out.cell 1
          have f0 := R3.out.free 0; have f1 := R3.out.free 1
          clear hst3
          go_wp2_with fail
          ((try simp only [Exit.inBlock, Exit.then]); refine bodyPost_ret (v := .tuple #[.agg #[_, _], _]) (by rw [results_cell_tmp rfl]; go_simp; exact ⟨⟨rfl, rfl⟩, rfl⟩) rfl ?_)
          rw [HFs.out]
          exact ⟨_, rfl, World.ownsRow_nil _ _ _ _, ext_set2 (HEA.out.trans HX3.out) _ (by omega) _ _⟩
      · have hd : decide ((j : Int) < (m : Int)) = false := decide_eq_false (by omega)
        have hjm : j = L.length := by omega
        have hfs : foldS nx K L = (nx', K', 0) := by rw [HFo.out, hjm, List.drop_length]; rfl
        have HFs := Lib.hid hfs
        obtain ⟨v, hX, hgg, hblk, hrow, hne⟩ := HSt'.out
        obtain ⟨va, vc, rfl⟩ := row_slice hrow
        have g0 : wr.cell? ⟨G, 0, none⟩ = some (.int .i64 nx') := hblk.cell 0
        have g1 : wr.cell? ⟨G, 1, none⟩ = some (.slice va K'.length vc) := hblk.cell 1
        have R3 := Lib.hid (HBA.out.ext hX)
        have r0 : wr.cell? ⟨w.heap.size + 1, 0, none⟩ = some (.int .i64 0) := R3.out.cell 0
        have r1 : wr.cell? ⟨w.heap.size + 1, 1, none⟩ = some (.slice none 0 0) := R3.out.cell 1
        have f0 := R3.out.free 0; have f1 := R3.out.free 1
        have hne2 : (Value.slice va K'.length vc).ownBlock ≠ some (w.heap.size + 1) := fun e => by
          have h1 := (row_lt hrow _ e).1
          have h2 := HsA.out
          omega
        have HRw := Lib.hid (row_base hrow HEA.out.size); have HNe2 := Lib.hid hne2
        clear hX hgg hblk hrow hne hfs hjm hne2
        go_wp2_with fail
        ((try simp only [Exit.inBlock, Exit.then]); refine bodyPost_ret (v := .tuple #[.agg #[_, _], _]) (by rw [results_cell_tmp rfl]; go_simp; exact ⟨⟨rfl, rfl⟩, rfl⟩) rfl ?_)
        rw [HFs.out]
        exact ⟨_, rfl, row_setOther (row_setOther HRw.out _ HNe2.out) _ HNe2.out, ext_set2 (HEA.out.trans HXW.out) _ (by omega) _ _⟩
  · rw [hc, if_neg (by decide)]
    rw [hc] at HCk
    clear hc
    go_enter Try.func16, Try.ntmps16
    go_wp2_with fail
    refine (HCk.out _ HE1.out).mono ?_
    rintro e w2 ⟨rfl, hw2⟩
    have HW2 := Lib.hid (HE1.out.trans hw2)
    have S1 := Lib.hid (B1.out.ext hw2)
    have r0 : w2.cell? ⟨w.heap.size + 1, 0, none⟩ = some (.int .i64 0) := S1.out.cell 0
    have r1 : w2.cell? ⟨w.heap.size + 1, 1, none⟩ = some (.slice none 0 0) := S1.out.cell 1
    have f0 := S1.out.free 0; have f1 := S1.out.free 1
    clear hw2
    go_wp2_with fail
    ((try simp only [Exit.inBlock, Exit.then]); refine bodyPost_ret (v := .tuple #[.agg #[_, _], _]) (by rw [results_cell_tmp rfl]; go_simp; exact ⟨⟨rfl, rfl⟩, rfl⟩) rfl ?_)
    exact ⟨_, rfl, World.ownsRow_nil _ _ _ _, ext_set2 HW2.out _ (by omega) _ _⟩

end Go.Proofs.Ytmopfhkppjcgbaa
namespace Go.Proofs.Ytmopfhkppjcgbaa
open Go.RowKit

set_option maxRecDepth 100000
set_option linter.unusedVariables false
set_option maxHeartbeats 12800000

theorem run_store_floatL (P : Program) (w : World) (a : Addr) (m : Mode) (k : FloatKind) (b : Nat) : (store a (.float k b) m).run P w = stored P w a (.float k b) m := run_store P w a _ m rfl
attribute [local go_sem] run_store_floatL

def tdV (x : Td) : Value := toldV x.s x.t x.d x.v .f64 x.b

theorem fstepT_c {ao : Option Addr} {n cap : Nat} {nx : Int} {K : List Kd} (x : Td) (w : World) (hx : Kds w ao n cap K) (hL : x.t.length ≤ 1000000 ∧ x.d.length ≤ 1000000) :
    Calls Try.prog 13 #[.agg #[.int .i64 nx, .slice ao n cap], tdV x] w (FoldR w (if checkN nx K = 0 then foldS nx K [x] else (0, [], checkN nx K))) := by
  obtain ⟨s, v, t, d, b⟩ := x
  have r0 := (Blk.new ((w.alloc (.cells #[.int .i64 nx, .slice ao n cap] 24)).alloc (.cells (toldC s t d v .f64 b) 44)) 24 #[.int .i64 0, .slice none 0 0]).ext (ext_a1 _ (.cells (toldC s t d v .f64 b) 44))
  have l0 := Blk.new (((w.alloc (.cells #[.int .i64 nx, .slice ao n cap] 24)).alloc (.cells (toldC s t d v .f64 b) 44)).alloc (.cells #[.int .i64 0, .slice none 0 0] 24)) 44 (toldC s t d v .f64 b)
  have HE := Lib.hid ((ext_a2 w (.cells #[.int .i64 nx, .slice ao n cap] 24) (.cells (toldC s t d v .f64 b) 44)).trans (ext_a2 _ (.cells #[.int .i64 0, .slice none 0 0] 24) (.cells (toldC s t d v .f64 b) 44)))
  simp only [World.size_alloc] at r0 l0
  have hl : TDs ((((w.alloc (.cells #[.int .i64 nx, .slice ao n cap] 24)).alloc (.cells (toldC s t d v .f64 b) 44)).alloc (.cells #[.int .i64 0, .slice none 0 0] 24)).alloc (.cells (toldC s t d v .f64 b) 44)) (some ⟨w.heap.size + 1 + 1 + 1, 0, none⟩) 1 1 [⟨s, v, t, d, b⟩] := by
    refine ⟨rfl, Nat.le_refl _, by decide, (fun h => by cases h), fun j u hj => ⟨_, _, rfl, ?_⟩⟩
    rw [Nat.zero_add, l0.cell j]
    simpa [tdcs, tdc, toldC] using hj
  have HF := Lib.hid (ffold_c (nx := nx) _ (hx.ext HE.out) hl (fun x hx => by rw [List.mem_singleton] at hx; subst hx; exact hL))
  have R0 := Lib.hid r0
  generalize (if checkN nx K = 0 then foldS nx K [⟨s, v, t, d, b⟩] else (0, [], checkN nx K)) = z at *
  obtain ⟨nx', K', en⟩ := z
  clear r0 l0 hl hL hx
  unfold tdV toldV
  unfold toldC at HF R0 HE
  go_enter Try.func13, Try.ntmps13
  go_wp2_with fail
  refine HF.out.mono ?_
  rintro e w5 ⟨v5, rfl, hrow, hw5⟩
  obtain ⟨va, vc, rfl⟩ := row_slice hrow
  have HR := Lib.hid hrow
  have RB := Lib.hid (R0.out.ext hw5)
  have HX := Lib.hid (HE.out.trans hw5)
  have hne : (Value.slice va K'.length vc).ownBlock ≠ some (w.heap.size + 1 + 1) := fun h => by
    have h3 := Nat.lt_of_lt_of_le R0.out.lt (row_lt hrow _ h).1
    omega
  have HNe := Lib.hid hne
  have r0 : w5.cell? ⟨w.heap.size + 1 + 1, 0, none⟩ = some (.int .i64 0) := RB.out.cell 0
  have r1 : w5.cell? ⟨w.heap.size + 1 + 1, 1, none⟩ = some (.slice none 0 0) := RB.out.cell 1
  have f0 := RB.out.free 0; have f1 := RB.out.free 1
  clear hrow hw5 hne
  go_wp2_with fail
  ((try simp only [Exit.inBlock, Exit.then]); refine bodyPost_ret (v := .tuple #[.agg #[_, _], _]) (by rw [results_cell_tmp rfl]; go_simp; exact ⟨⟨rfl, rfl⟩, rfl⟩) rfl ?_)
  exact ⟨_, rfl, row_setOther (row_setOther (row_base HR.out HE.out.size) _ HNe.out) _ HNe.out, ext_set2 HX.out _ (by omega) _ _⟩

theorem refecheck_c (t d : List UInt8) (k : FloatKind) (b : Nat) (w : World) (_ht : t.length ≤ 4611686018427387903) (_hd : d.length ≤ 4611686018427387903) :
    Calls Try.prog 25 #[.agg #[.string ⟨t.toArray⟩, .string ⟨d.toArray⟩, .float k b]] w fun e w' => e = .returned (.int .i64 (echeckN t d)) ∧ Ext w w' := by
  have hbk := Blk.new w 42 #[.string ⟨t.toArray⟩, .string ⟨d.toArray⟩, .float k b]
  have HX := Lib.hid (ext_a1 w (.cells #[.string ⟨t.toArray⟩, .string ⟨d.toArray⟩, .float k b] 42))
  have c0 : (w.alloc (.cells #[.string ⟨t.toArray⟩, .string ⟨d.toArray⟩, .float k b] 42)).cell? ⟨w.heap.size, 0, none⟩ = some (.string ⟨t.toArray⟩) := hbk.cell 0
  have c1 : (w.alloc (.cells #[.string ⟨t.toArray⟩, .string ⟨d.toArray⟩, .float k b] 42)).cell? ⟨w.heap.size, 1, none⟩ = some (.string ⟨d.toArray⟩) := hbk.cell 1
  have h3 : (((t.length : Int) == 0) = true ∧ echeckN t d = 2) ∨ (((t.length : Int) == 0) = false ∧ ((decide ((16 : Int) < (t.length : Int)) = true ∧ echeckN t d = 3) ∨ (decide ((16 : Int) < (t.length : Int)) = false ∧ ((decide ((200 : Int) < (d.length : Int)) = true ∧ echeckN t d = 3) ∨ (decide ((200 : Int) < (d.length : Int)) = false ∧ echeckN t d = 0))))) := by
    unfold echeckN
    by_cases h0 : t = []
    · exact .inl ⟨by rw [h0]; rfl, by rw [if_pos h0]⟩
    · have hl : 0 < t.length := List.length_pos_iff.2 h0
      refine .inr ⟨by simp; omega, ?_⟩
      rw [if_neg h0]
      by_cases h1 : 16 < t.length
      · exact .inl ⟨decide_eq_true (by omega), by rw [if_pos h1]⟩
      · rw [if_neg h1]
        refine .inr ⟨decide_eq_false (by omega), ?_⟩
        by_cases h2 : 200 < d.length
        · exact .inl ⟨decide_eq_true (by omega), by rw [if_pos h2]⟩
        · exact .inr ⟨decide_eq_false (by omega), by rw [if_neg h2]⟩
  clear hbk
  rcases h3 with ⟨h0, he⟩ | ⟨h0, ⟨h1, he⟩ | ⟨h1, ⟨h2, he⟩ | ⟨h2, he⟩⟩⟩
  all_goals
    rw [he]
    clear he
    go_enter Try.func25, Try.ntmps25
    go_wp2_with fail
    go_ret
    exact ⟨rfl, HX.out⟩

end Go.Proofs.Ytmopfhkppjcgbaa
