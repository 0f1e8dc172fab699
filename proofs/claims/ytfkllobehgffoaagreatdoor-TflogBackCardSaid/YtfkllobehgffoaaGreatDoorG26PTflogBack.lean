/- Walks: the first record from a place on. Walks: how many chunks there are; a chunk is loaded. Walks: the chunks are read; a log is opened. Walks: a log is opened. Walks: the chapter's log. Walks: all records that a log tells. Walks: all records that a log tells, in order. -/
import Derived.Test.YtfkllobehgffoaaGreatDoorG24PTflogBack
import Derived.Test.YtfkllobehgffoaaGreatDoorG8PTflogBack
import Derived.WalkMore
import Derived.Deep.LoopGhost
import Derived.Test.YtfkllobehgffoaaGreatDoorG22PTflogBack
import Derived.Test.YtfkllobehgffoaaGreatDoorG12PTflogBack
import Derived.Test.YtfkllobehgffoaaGreatDoorG25PTflogBack
set_option linter.unusedVariables false
set_option linter.unusedSimpArgs false
namespace Go.Proofs.YtfkllobehgffoaaGreatDoor
open Go.RowKit

set_option maxRecDepth 100000
set_option linter.unusedVariables false
set_option maxHeartbeats 3200000

theorem results_tmp4 {fn : Func} {t u v x : Tmp} (h : fn.results = #[.tmp t, .tmp u, .tmp v, .tmp x]) (tmps : Array Value) (P : Program) (w : World) :
    (results fn tmps).run P w = .ok (.tuple #[tmps.getD t undef, tmps.getD u undef, tmps.getD v undef, tmps.getD x undef]) w := by
  simp [results, h]

/-- what 'Next' tells -/
def nextV (r : Option (Nat × List UInt8)) : Value := match r with
  | none => .tuple #[.string ⟨#[]⟩, .int .i64 0, .int .i64 0, .int .i64 4]
  | some (a, p) => .tuple #[.string ⟨p.toArray⟩, .int .i64 (a : Int), .int .i64 ((a : Int) + (p.length : Int) + 12), .int .i64 0]

theorem nextL_max (C : Cks) (pos : Int) : nextL C (max pos 0) = nextL C pos := by
  unfold nextL
  congr 1
  funext r
  rw [decide_eq_decide]
  omega
theorem preB_chunk (n : Nat) (ps : List (List UInt8)) : preB (chunkB n ps) (ckHead n) = true := by
  unfold preB chunkB
  rw [decide_eq_true (by simp), Bool.true_and, List.take_left]
  simp
theorem find_step2 {pos : Int} {b k : Nat} {ps : List (List UInt8)} {p : List UInt8} (B : List (Nat × List UInt8)) (h : ps[k]? = some p) : ((recsC (b + 12) ps).drop k ++ B).find? (fun r => decide (pos ≤ (r.1 : Int))) = if pos ≤ ((b + sizeC (ps.take k) : Nat) : Int) then some (b + sizeC (ps.take k), p) else ((recsC (b + 12) ps).drop (k + 1) ++ B).find? fun r => decide (pos ≤ (r.1 : Int)) := by
  have h1 := recsC_at ps (b + 12) k p h
  obtain ⟨hk, he⟩ := List.getElem?_eq_some_iff.1 h1
  rw [← List.getElem_cons_drop hk, he, List.cons_append, List.find?_cons]
  have e : b + 12 + ((ps.take k).map fun p => p.length + 12).sum = b + sizeC (ps.take k) := by unfold sizeC; omega
  simp only [e]
  by_cases hp : pos ≤ ((b + sizeC (ps.take k) : Nat) : Int)
  · rw [if_pos hp, decide_eq_true hp]
  · rw [if_neg hp, decide_eq_false hp]
theorem drop_cks {C : Cks} {n : Nat} {ps : List (List UInt8)} (h : C[n]? = some ps) : recsL (4096 * n) (C.drop n) = recsC (4096 * n + 12) ps ++ recsL (4096 * (n + 1)) (C.drop (n + 1)) := by
  obtain ⟨hk, he⟩ := List.getElem?_eq_some_iff.1 h
  rw [← List.getElem_cons_drop hk, he, recsL]
  congr 2

theorem places_cell {W : World} {B : Nat} {ps : List (List UInt8)} {pa : Option Addr} {pc k : Nat} {p : List UInt8} (h : W.ownsRow B 3 1 (.slice pa ps.length pc) ps.length ((placesC 12 ps).map fun x => Value.int .i64 (x.1 : Int))) (hp : ps[k]? = some p) :
    ∃ b3, pa = some ⟨b3, 0, none⟩ ∧ W.cell? ⟨b3, k, none⟩ = some (.int .i64 (sizeC (ps.take k) : Int)) := by
  have hk : k < ps.length := (List.getElem?_eq_some_iff.1 hp).1
  obtain ⟨b3, cap, h1, h2, _⟩ := (Own.of_row h).cell (j := k) (by rw [List.length_map, placesC_length]; exact hk)
  have hval : ((placesC 12 ps).map fun x => Value.int .i64 (x.1 : Int))[k]'(by rw [List.length_map, placesC_length]; exact hk) = .int .i64 (sizeC (ps.take k) : Int) := by
    rw [List.getElem_map]
    have h3 := placesC_at ps 12 k p hp
    obtain ⟨_, h4⟩ := List.getElem?_eq_some_iff.1 h3
    rw [h4]
    rfl
  rw [hval] at h2
  cases h1
  exact ⟨b3, rfl, h2⟩
theorem sizeC_take (ps : List (List UInt8)) (k : Nat) : sizeC (ps.take k) ≤ sizeC ps := by
  unfold sizeC
  conv => rhs; rw [← List.take_append_drop k ps, List.map_append, List.sum_append]
  omega

section
variable {w0 w : World} {g gl : Nat} {F K : Nat → Prop} {v : Value} {σ : DM} {c s sure : Int} {C : Cks} {xs : List Int}

def NextR (w0 w : World) (g gl : Nat) (c s : Int) (C : Cks) (sure : Int) (K : Nat → Prop) (pos : Int) (e : Ending) (w' : World) : Prop :=
  e = .returned (nextV (nextL C pos)) ∧ LgK w0 w' g gl c s C sure K ∧ Stay K w w'

theorem next_l (h : LgK w0 w g gl c s C sure K) (pos : Int) (p0 : -9223372036854775808 ≤ pos) (p1 : pos ≤ 9223372036854775807) :
    Calls Tryz.prog 9 #[.pointer (some ⟨gl, 0, none⟩), .int .i64 pos] w (NextR w0 w g gl c s C sure K pos) := by
  have HK := Lib.hid h
  obtain ⟨F, v, σ, h1, h2⟩ := h
  have HRd := Lib.hid (ready_c h1 h2.pl.up h2.pl.st)
  have HOk := Lib.hid h2.ok
  obtain ⟨P, hP⟩ : ∃ P : Int, max pos 0 = P := ⟨_, rfl⟩
  have HNx : Hid (nextL C pos = nextL C P) := Lib.hid (by rw [← hP, nextL_max])
  have q0 : 0 ≤ P := by omega
  have q1 : P ≤ 9223372036854775807 := by omega
  obtain ⟨m, hm⟩ : ∃ m : Nat, P / 4096 = (m : Int) := ⟨(P / 4096).toNat, by omega⟩
  have hq : P.tdiv 4096 = (m : Int) := by rw [Int.tdiv_eq_ediv_of_nonneg q0]; exact hm
  have hm1 : (m : Int) ≤ 2251799813685248 := by omega
  have HSt : Hid (nextL C P = (recsL (4096 * m) (C.drop m)).find? fun r => decide (P ≤ (r.1 : Int))) := Lib.hid (nextL_chunk C P HOk.out.size m (by omega))
  have hmax : (if pos < (0 : Int) then (0 : Int) else pos) = P := by rw [← hP]; split <;> omega
  have HM := Lib.hid hm
  clear h1 h2 hmax hq
  go_enter Tryz.func9, Tryz.ntmps9
  go_wp2_with fail
  go_step3
  go_wp2_with fail
  refine HRd.out.mono ?_
  rintro e w1 ⟨rfl, hb⟩
  have HB := Lib.hid hb
  clear hb
  go_wp2_with fail
  go_step3
  go_wp2_with fail
  go_loopw [9] (fun i W => ∃ n : Nat, i = .int .i64 (n : Int) ∧ (n : Int) ≤ 2251799813685248 ∧ nextL C P = ((recsL (4096 * n) (C.drop n)).find? fun r => decide (P ≤ (r.1 : Int))) ∧ LgK w0 W g gl c s C sure K ∧ Stay K w W) (fun i _ => C.length - (intOf i).toNat)
  case atStart => exact ⟨m, by rw [HM.out], hm1, HSt.out, HK.out.grow HB.out, HK.out.kExt HB.out⟩
  case round =>
    obtain ⟨n, rfl, hn1, hnx, hk, hst⟩ := hrel
    have HNw := Lib.hid hnx
    have HSw := Lib.hid hst
    have HKw := Lib.hid hk
    obtain ⟨F', v', σ', h1, h2⟩ := hk
    have hsl := sizesL_length C
    obtain ⟨sa, sk, hv0⟩ := row_slice h1.l.row
    rw [hsl] at hv0
    subst hv0
    have c3 := h1.l.c3
    have c0 := h1.l.c0
    clear hnx hst hsl hm1 hP hm
    by_cases hnC : C.length ≤ n
    · have HE : Hid (nextV (nextL C pos) = .tuple #[.string ⟨#[]⟩, .int .i64 0, .int .i64 0, .int .i64 4]) := Lib.hid (by
        rw [HNx.out, HNw.out, List.drop_of_length_le hnC]; rfl)
      have hd : decide ((n : Int) < (C.length : Int)) = false := by simp; omega
      clear h1 h2
      go_wp2_with fail
      try rw [Exit.noGoto_ret]
      refine bodyPost_ret (results_tmp4 rfl _ _ _) rfl ?_
      exact ⟨by rw [HE.out]; rfl, HKw.out, HSw.out⟩
    have hd : decide ((n : Int) < (C.length : Int)) = true := by simp; omega
    have hnC' : n < C.length := by omega
    obtain ⟨ps, hps⟩ : ∃ ps, C[n]? = some ps := ⟨C[n], List.getElem?_eq_getElem hnC'⟩
    have hn200 : n < 200 := by have := h2.ok.few; omega
    obtain ⟨b, sk', hv, hcz, _⟩ := h1.cellAt hps
    cases hv
    have hz4 : sizeC ps ≤ 4096 := h2.ok.size ps (List.mem_of_getElem? hps)
    have hlen := chunkB_length n ps
    have hpsl : ps.length ≤ 341 := by have := sum_ge ps; unfold sizeC at hz4; omega
    have hfind := cksF_find h2.ok.few hps
    have hpay := h2.ok.pay ps (List.mem_of_getElem? hps)
    have HNy : Hid (nextL C P = ((recsC (4096 * n + 12) ps).drop 0 ++ recsL (4096 * (n + 1)) (C.drop (n + 1))).find? fun r => decide (P ≤ (r.1 : Int))) := Lib.hid (by rw [HNw.out, drop_cks hps, List.drop_zero])
    obtain ⟨z, hz⟩ : ∃ z : Int, (sizeC ps : Int) = z := ⟨_, rfl⟩
    rw [hz] at hcz
    have z0 : 0 ≤ z := by omega
    have z1 : z ≤ 4096 := by omega
    have hnm := cname_le (n : Int)
    have HCH := Lib.hid (fun W => chunk_c (n : Int) W)
    have HR1 := Lib.hid (fun (W : World) (k : Ext wr W) => disk_read (h1.grow k) h2.pl hfind hnm 0 z (by decide) z0 (by rw [hlen]; omega) (by rw [hlen]; omega))
    have hzn : z.toNat = sizeC ps := by omega
    have htk : ((chunkB n ps).drop 0).take (sizeC ps) = chunkB n ps := by rw [List.drop_zero, List.take_of_length_le (by rw [hlen]; omega)]
    have e0 : (0 : Int).toNat = 0 := rfl
    simp only [hzn, e0, htk] at HR1
    have HSc := Lib.hid (fun W => scan_c (chunkB n ps) n W hn200 (by rw [hlen]; omega) (preB_chunk n ps))
    rw [whole_chunk n ps hpay] at HSc
    generalize hee : (endR 12 (placesC 12 ps) : Int) = ee at HSc
    have HGt := Lib.hid (fun (k : Nat) (p : List UInt8) (h : ps[k]? = some p) (W : World) => (show Calls Tryz.prog 28 #[.string ⟨(chunkB n ps).toArray⟩, .int .i64 (sizeC (ps.take k) : Int)] W fun e w' => e = .returned (.tuple #[.string ⟨p.toArray⟩, .int .i64 ((sizeC (ps.take k) + p.length + 12 : Nat) : Int), .bool true]) ∧ Ext W w' by
      have h1 := getrec_c (chunkB n ps) (sizeC (ps.take k)) W (by rw [hlen]; omega) (by
        have h3 : (sizeC (ps.take k) : Nat) ≤ 4096 := Nat.le_trans (sizeC_take ps k) hz4
        omega)
      have h2 : getV (chunkB n ps) (sizeC (ps.take k)) = .tuple #[.string ⟨p.toArray⟩, .int .i64 ((sizeC (ps.take k) + p.length + 12 : Nat) : Int), .bool true] := by
        unfold getV; rw [get_at n ps k p h (hpay p (List.mem_of_getElem? h))]
      rw [h2] at h1
      exact h1))
    have HRow : Hid (∀ (W : World) (F' : Nat → Prop) (τ : DM), LgF w0 W g gl F' (.slice (some ⟨b, 0, none⟩) C.length sk) τ s (sizesL C) sure K → W.cell? ⟨gl, 0, none⟩ = some (.pointer (some ⟨g, 0, none⟩)) ∧ W.cell? ⟨gl, 3, none⟩ = some (.slice (some ⟨b, 0, none⟩) C.length sk) ∧ W.cell? ⟨b, n, none⟩ = some (.int .i64 z)) := Lib.hid fun W F' τ hW => by
      obtain ⟨b2, k2, e1, e2, _⟩ := hW.cellAt hps
      cases e1
      rw [hz] at e2
      exact ⟨hW.l.c0, hW.l.c3, e2⟩
    have hw : Ext wr wr.drew := (Ext.refl wr).drew
    have HW := Lib.hid hw
    obtain ⟨d0, d3, dz⟩ := HRow.out _ _ _ (h1.grow hw)
    have HPl := Lib.hid h2
    generalize chunkB n ps = S at *
    generalize nameS 99 (n : Int) = nm at *
    have HZ := Lib.hid hz
    have HPs := Lib.hid hps
    have HL4 := Lib.hid hz4
    have HPay := Lib.hid hpay
    clear h1 h2 hlen hfind hpay hnm hzn htk hee hw hz hps hz4 hcz hnC
    go_wp2_with fail
    go_region_held3 (fun W => W.cell? ⟨gl, 0, none⟩ = some (.pointer (some ⟨g, 0, none⟩)) ∧ W.cell? ⟨gl, 3, none⟩ = some (.slice (some ⟨b, 0, none⟩) C.length sk) ∧ W.cell? ⟨b, n, none⟩ = some (.int .i64 z))
      (first | exact HS2.out | exact HS1.out | exact ⟨d0, d3, dz⟩)
      (first
        | (go_at_call 24; refine (HCH.out _).mono ?_; rintro e wa ⟨rfl, h1⟩; have H1 := Lib.hid (HW.out.trans h1); have HS1 := Lib.hid (And.intro (cell_ext h1 d0) (And.intro (cell_ext h1 d3) (cell_ext h1 dz))); clear h1)
        | (go_at_call 25; refine (HR1.out _ H1.out).mono ?_; rintro e wb ⟨rfl, ⟨F2, σ2, h2, h3⟩, h4⟩; have H2 := Lib.hid h2; have H3 := Lib.hid h3; have H4 := Lib.hid h4; have HS2 := Lib.hid (HRow.out _ _ _ h2); clear h2 h3 h4))
    all_goals
      go_wp2_with fail
      refine (HSc.out _).mono ?_
      rintro e wc ⟨pv, rfl, hr, hb⟩
      have HBc := Lib.hid hb
      obtain ⟨pa, pc, rfl⟩ := row_slice hr
      have HRw := Lib.hid hr
      have hpl : (placesC 12 ps).length = ps.length := placesC_length ps 12
      rw [hpl] at HRw
      rw [hpl]
      have HKc := Lib.hid (show LgK w0 wc g gl c s C sure K from ⟨F2, _, σ2, H2.out.grow hb, ⟨H3.out, HOk.out⟩⟩)
      have HStc := Lib.hid (HSw.out.trans ((HKw.out.kExt H1.out).trans (H4.out.trans (H2.out.kExt hb))))
      clear hr hb hpl
      go_wp2_with fail
      go_loopw [72] (fun i W => ∃ k : Nat, k ≤ ps.length ∧ i = .int .i64 (k : Int) ∧ nextL C P = (((recsC (4096 * n + 12) ps).drop k ++ recsL (4096 * (n + 1)) (C.drop (n + 1))).find? fun r => decide (P ≤ (r.1 : Int))) ∧ Ext wc W) (fun i _ => ps.length - (intOf i).toNat)
      case atStart => exact ⟨0, Nat.zero_le _, rfl, HNy.out, Ext.refl _⟩
      case round =>
        obtain ⟨k, hk, rfl, hnx, hb⟩ := hrel
        have HNz := Lib.hid hnx
        have HBk := Lib.hid hb
        clear hnx
        by_cases hkl : k < ps.length
        · obtain ⟨p, hp⟩ : ∃ p, ps[k]? = some p := ⟨ps[k], List.getElem?_eq_getElem hkl⟩
          have hdk : decide ((k : Int) < (ps.length : Int)) = true := by simp; omega
          obtain ⟨b3, rfl, hcp⟩ := places_cell (row_ext HRw.out hb) hp
          have HG := Lib.hid (HGt.out k p hp wr)
          have HFs := Lib.hid (find_step2 (pos := P) (b := 4096 * n) (recsL (4096 * (n + 1)) (C.drop (n + 1))) hp)
          have hy4 : sizeC (ps.take k) ≤ 4096 := Nat.le_trans (sizeC_take ps k) HL4.out
          have hpl : p.length ≤ 2000 := HPay.out p (List.mem_of_getElem? hp)
          obtain ⟨Y2, hY2⟩ : ∃ Y2 : Int, ((sizeC (ps.take k) + p.length + 12 : Nat) : Int) = Y2 := ⟨_, rfl⟩
          rw [hY2] at HG
          obtain ⟨y, hy⟩ : ∃ y : Int, (sizeC (ps.take k) : Int) = y := ⟨_, rfl⟩
          rw [hy] at hcp HG
          have hY3 : Y2 = y + (p.length : Int) + 12 := by omega
          have y0 : 0 ≤ y := by omega
          have y1 : y ≤ 4096 := by omega
          have Y0 : 0 ≤ Y2 := by omega
          have Y1 : Y2 ≤ 6108 := by omega
          have hn199 : (n : Int) ≤ 199 := by omega
          have HY3 := Lib.hid hY3; have HY := Lib.hid hy
          by_cases hlt : (n : Int) * 4096 + y < P
          · have hdl : decide ((n : Int) * 4096 + y < P) = true := by simpa using hlt
            have HN2 : Hid (nextL C P = (((recsC (4096 * n + 12) ps).drop (k + 1) ++ recsL (4096 * (n + 1)) (C.drop (n + 1))).find? fun r => decide (P ≤ (r.1 : Int)))) := Lib.hid (by
              rw [HNz.out, HFs.out, if_neg (by omega)])
            clear hy hY3 hY2 hp hb hy4
            go_wp2_with fail
            go_roundw
            case rel => exact ⟨k + 1, by omega, by go_num, HN2.out, HBk.out⟩
            case measure => simp [intOf]; omega
          · have hdl : decide ((n : Int) * 4096 + y < P) = false := by simpa using hlt
            have HE : Hid (nextV (nextL C pos) = .tuple #[.string ⟨p.toArray⟩, .int .i64 ((n : Int) * 4096 + y), .int .i64 ((n : Int) * 4096 + Y2), .int .i64 0]) := Lib.hid (by
              have e1 : nextL C pos = some (4096 * n + sizeC (ps.take k), p) := by rw [HNx.out, HNz.out, HFs.out, if_pos (by omega)]
              rw [e1]
              show Value.tuple #[.string ⟨p.toArray⟩, .int .i64 ((4096 * n + sizeC (ps.take k) : Nat) : Int), .int .i64 (((4096 * n + sizeC (ps.take k) : Nat) : Int) + (p.length : Int) + 12), .int .i64 0] = _
              have e2 : ((4096 * n + sizeC (ps.take k) : Nat) : Int) = (n : Int) * 4096 + y := by omega
              have e3 : ((4096 * n + sizeC (ps.take k) : Nat) : Int) + (p.length : Int) + 12 = (n : Int) * 4096 + Y2 := by omega
              rw [e3, e2])
            clear hy hY3 hY2 hp hb hy4
            go_wp2_with fail
            refine HG.out.mono ?_
            rintro e wd ⟨rfl, hb⟩
            have HBd := Lib.hid (HBk.out.trans hb)
            clear hb
            go_wp2_with fail
            try rw [Exit.noGoto_ret]
            refine bodyPost_ret (results_tmp4 rfl _ _ _) rfl ?_
            exact ⟨by rw [HE.out]; rfl, HKc.out.grow HBd.out, HStc.out.trans (HKc.out.kExt HBd.out)⟩
        · have hdk : decide ((k : Int) < (ps.length : Int)) = false := by simp; omega
          have HN2 : Hid (nextL C P = ((recsL (4096 * (n + 1)) (C.drop (n + 1))).find? fun r => decide (P ≤ (r.1 : Int)))) := Lib.hid (by
            rw [HNz.out, List.drop_of_length_le (by rw [recsC_length]; omega), List.nil_append])
          have hn199 : (n : Int) ≤ 199 := by omega
          clear hb
          go_wp2_with fail
          go_roundw
          case rel => exact ⟨n + 1, by go_num, by omega, HN2.out, HKc.out.grow HBk.out, HStc.out.trans (HKc.out.kExt HBk.out)⟩
          case measure => simp [intOf]; omega
end

end Go.Proofs.YtfkllobehgffoaaGreatDoor
namespace Go.Proofs.YtfkllobehgffoaaGreatDoor
open Go.RowKit Go.Maps Go.Sort

set_option maxRecDepth 100000
set_option linter.unusedVariables false
set_option maxHeartbeats 3200000

theorem Dk.names {w : World} {g : Nat} {F : Nat → Prop} {σ : DM} (h : Dk w g F σ) : Calls Tryz.prog 32 #[.pointer (some ⟨g, 0, none⟩)] w (RetN w (namesM σ)) := by
  obtain ⟨ho, m, kv, L, hi, _⟩ := h
  have := ho.many
  have hl : L.length = σ.L.length := by rw [← hi.files, List.length_map]
  have hn := names_c w g m L hi.c0 hi.c3 hi.fs (by omega)
  have e : L.map FE.nm = namesM σ := by unfold namesM; rw [← hi.files, List.map_map]; rfl
  rwa [e] at hn

section
variable {w0 w : World} {g gl : Nat} {F K : Nat → Prop} {v : Value} {σ : DM} {c s sure : Int} {C : Cks} {xs : List Int}

theorem count_c (h : Dk w g F σ) (hl : Lgd σ c s C) : Calls Tryz.prog 37 #[.pointer (some ⟨g, 0, none⟩)] w fun e w' => e = .returned (.tuple #[.int .i64 (C.length : Int), .bool true]) ∧ Ext w w' := by
  have HN := Lib.hid h.names
  have hnm : namesM σ = (List.range C.length).map fun k : Nat => nameS 99 (k : Int) := by rw [hl.pl.names, cksF_names, List.range_eq_range']
  have h200 := hl.ok.few
  rw [hnm] at HN
  have HPs := Lib.hid (fun (k : Nat) (hk : k < 200) (W : World) => (show Calls Tryz.prog 61 #[.string ⟨(nameS 99 (k : Int)).toArray⟩] W fun e w' => e = .returned (.tuple #[.int .u8 99, .int .i64 (k : Int), .bool true]) ∧ Ext W w' by
    have h1 := parse_c (nameS 99 (k : Int)) W (cname_le _)
    rw [parse_name (by decide) (by omega)] at h1
    exact h1))
  clear h hl hnm
  generalize C.length = n at *
  go_enter Tryz.func37, Tryz.ntmps37
  go_wp2_with fail
  refine HN.out.mono ?_
  intro e w1 hr
  obtain ⟨a, cap, rfl, hown, hb⟩ := hr.out
  have hll : ((List.range n).map fun k : Nat => nameS 99 (k : Int)).length = n := by simp
  rw [hll] at hown ⊢
  have HOw := Lib.hid hown
  have HB := Lib.hid hb
  clear hr hown hb hll
  go_wp2_with fail
  go_loopw [2, 3, 12] (fun m o i W => ∃ k : Nat, k ≤ n ∧ i = .int .i64 (k : Int) ∧ m = .int .i64 (k : Int) ∧ o = .bool true ∧ Ext w1 W) (fun _ _ i _ => n - (intOf i).toNat)
  case atStart => exact ⟨0, Nat.zero_le _, rfl, rfl, rfl, Ext.refl _⟩
  case round =>
    obtain ⟨k, hk, rfl, rfl, rfl, hb⟩ := hrel
    have HBk := Lib.hid hb
    by_cases hkn : k < n
    · have hd : decide ((k : Int) < (n : Int)) = true := by simp; omega
      obtain ⟨b, cap', hv, hc, _⟩ := (HOw.out.ext hb).cell (j := k) (by simp; omega)
      cases hv
      have hval : ((((List.range n).map fun k : Nat => nameS 99 (k : Int)).map encStr)[k]'(by simp; omega)) = .string ⟨(nameS 99 (k : Int)).toArray⟩ := by simp [encStr]
      rw [hval] at hc
      have HP := Lib.hid (HPs.out k (by omega))
      generalize nameS 99 (k : Int) = nm at *
      clear hval hb
      go_wp2_with fail
      refine (HP.out _).mono ?_
      rintro e w2 ⟨rfl, hb⟩
      have HB2 := Lib.hid (HBk.out.trans hb)
      clear hb
      go_wp2_with fail
      go_roundw
      case rel => exact ⟨k + 1, by omega, by go_num, by go_num, rfl, HB2.out⟩
      case measure => simp [intOf]; omega
    · have hd : decide ((k : Int) < (n : Int)) = false := by simp; omega
      obtain rfl : k = n := by omega
      have hd2 : decide ((k : Int) ≤ 200) = true := by simp; omega
      clear hb
      go_wp2_with fail
      go_ret2
      exact ⟨rfl, HB.out.trans HBk.out⟩

theorem load_c (h : LgP w0 w g gl c s (cksF 0 C) xs sure K) (hok : okC C) {n : Nat} {ps : List (List UInt8)} (hps : C[n]? = some ps) :
    Calls Tryz.prog 62 #[.pointer (some ⟨g, 0, none⟩), .int .i64 (n : Int)] w fun e w' => e = .returned (.tuple #[.string ⟨(chunkB n ps).toArray⟩, .int .i64 (sizeC ps : Int), .int .i64 0]) ∧ LgP w0 w' g gl c s (cksF 0 C) xs sure K ∧ Stay K w w' := by
  obtain ⟨F, v, σ, h1, h2⟩ := h
  have hn200 : n < 200 := by have := hok.few; have := (List.getElem?_eq_some_iff.1 hps).1; omega
  have hz4 : sizeC ps ≤ 4096 := hok.size ps (List.mem_of_getElem? hps)
  have hpay := hok.pay ps (List.mem_of_getElem? hps)
  have hlen := chunkB_length n ps
  have hfind := cksF_find hok.few hps
  have hnm := cname_le (n : Int)
  have HCH := Lib.hid (fun W => chunk_c (n : Int) W)
  have HSz := Lib.hid (fun (W : World) (k : Ext w W) => (show Calls Tryz.prog 35 #[.pointer (some ⟨g, 0, none⟩), .string ⟨(nameS 99 (n : Int)).toArray⟩] W fun e w' => e = .returned (.tuple #[.int .i64 (sizeC ps : Int), .int .i64 0]) ∧ W = w' by
    have h3 := size_c (h1.d.ext k) (nameS 99 (n : Int)) hnm
    rw [h2.size hfind] at h3
    have h4 : (((nameS 99 (n : Int), chunkB n ps) : List UInt8 × List UInt8).2.length : Int) = (sizeC ps : Int) := by simp [hlen]
    rw [h4] at h3
    exact h3))
  have HR1 := Lib.hid (fun (W : World) (k : Ext w W) => disk_read (h1.grow k) h2 hfind hnm 0 (sizeC ps : Int) (by decide) (by omega) (by rw [hlen]; omega) (by rw [hlen]; omega))
  have htk : ((chunkB n ps).drop 0).take (sizeC ps) = chunkB n ps := by rw [List.drop_zero, List.take_of_length_le (by rw [hlen]; omega)]
  have e0 : (0 : Int).toNat = 0 := rfl
  simp only [Int.toNat_natCast, e0, htk] at HR1
  have HSc := Lib.hid (fun W => scan_c (chunkB n ps) n W hn200 (by rw [hlen]; omega) (preB_chunk n ps))
  rw [whole_chunk n ps hpay] at HSc
  have hend : (endR 12 (placesC 12 ps) : Int) = (sizeC ps : Int) := by rw [placesC_end]; rfl
  rw [hend] at HSc
  have HH := Lib.hid h1
  generalize chunkB n ps = S at *
  generalize nameS 99 (n : Int) = nm at *
  generalize (sizeC ps : Int) = z at *
  clear h1 h2 hlen hfind hpay hnm htk hend hz4 hps hok
  go_enter Tryz.func62, Tryz.ntmps62
  go_wp2_with fail
  refine (HCH.out _).mono ?_
  rintro e w1 ⟨rfl, hb⟩
  have HB := Lib.hid hb; clear hb
  go_wp2_with fail
  refine (HSz.out _ HB.out).mono ?_
  rintro e w2 ⟨rfl, rfl⟩
  go_wp2_with fail
  refine (HCH.out _).mono ?_
  rintro e w3 ⟨rfl, hb⟩
  have HB3 := Lib.hid (HB.out.trans hb); clear hb
  go_wp2_with fail
  refine (HR1.out _ HB3.out).mono ?_
  rintro e w4 ⟨rfl, ⟨F2, σ2, h2, h3⟩, h4⟩
  have H2 := Lib.hid h2; have H3 := Lib.hid h3; have H4 := Lib.hid ((HH.out.kExt HB3.out).trans h4)
  clear h2 h3 h4
  go_wp2_with fail
  refine (HSc.out _).mono ?_
  rintro e w5 ⟨pv, rfl, hr, hb⟩
  have HB5 := Lib.hid hb
  obtain ⟨pa, pc, rfl⟩ := row_slice hr
  clear hr hb
  go_wp2_with fail
  go_ret3
  exact ⟨rfl, ⟨_, _, σ2, H2.out.grow HB5.out, H3.out⟩, H4.out.trans (H2.out.kExt HB5.out)⟩
end

end Go.Proofs.YtfkllobehgffoaaGreatDoor
namespace Go.Proofs.YtfkllobehgffoaaGreatDoor
open Go.RowKit

set_option maxRecDepth 100000
set_option linter.unusedVariables false
set_option maxHeartbeats 3200000

section
variable {w0 w : World} {g gl : Nat} {F K : Nat → Prop} {v : Value} {σ : DM} {c s sure : Int} {C : Cks} {xs : List Int}

theorem mend_c {D : Cks} {ps : List (List UInt8)} (h : LgP w0 w g gl c s (cksF 0 (D ++ [ps])) (sizesL D) sure K) (hok : okC (D ++ [ps])) :
    Calls Tryz.prog 63 #[.pointer (some ⟨gl, 0, none⟩), .int .i64 (D.length : Int), .string ⟨(chunkB D.length ps).toArray⟩, .int .i64 (sizeC ps : Int)] w fun e w' =>
      e = .returned (.int .i64 0) ∧ LgP w0 w' g gl c s (cksF 0 (D ++ [ps])) (sizesL (D ++ [ps])) sure K ∧ Stay K w w' := by
  obtain ⟨F, v, σ, h1, h2⟩ := h
  have h200 : D.length + 1 ≤ 200 := by have := hok.few; simpa using this
  have hz4 : sizeC ps ≤ 4096 := hok.size ps (by simp)
  have hz12 : 12 ≤ sizeC ps := by unfold sizeC; omega
  have hlen := chunkB_length D.length ps
  have hfind := cksF_find hok.few (cks_last D ps)
  have hnm := cname_le (D.length : Int)
  have HCH := Lib.hid (fun W => chunk_c (D.length : Int) W)
  obtain ⟨σ', hm, hp'⟩ := h2.sync hfind
  have HSY := Lib.hid (fun (W : World) (F' : Nat → Prop) (hW : Dk W g F' σ) => (show Calls Tryz.prog 56 #[.pointer (some ⟨g, 0, none⟩), .string ⟨(nameS 99 (D.length : Int)).toArray⟩] W fun e w' => e = .returned (.int .i64 0) ∧ DkS W g F' σ' w' by
    have := sync_c hW (nameS 99 (D.length : Int)) hnm
    rw [hm] at this
    exact this))
  have hsl := sizesL_length D
  obtain ⟨sa, sk, hv0⟩ := row_slice h1.l.row
  rw [hsl] at hv0
  subst hv0
  have hrow := h1.l.row
  rw [hsl] at hrow
  have HRow := Lib.hid hrow
  have HC3 := Lib.hid h1.l.c3
  have HH := Lib.hid h1
  have HP := Lib.hid hp'
  have hl' : ((chunkB D.length ps).length : Int) = (sizeC ps : Int) := by rw [hlen]
  have HSn : Hid (sizesL D ++ [(sizeC ps : Int)] = sizesL (D ++ [ps])) := Lib.hid (sizesL_snoc D ps).symm
  have hSl : (chunkB D.length ps).length ≤ 4096 := by omega
  obtain ⟨z, hz⟩ : ∃ z : Int, (sizeC ps : Int) = z := ⟨_, rfl⟩
  have z12 : 12 ≤ z := by omega
  have z4 : z ≤ 4096 := by omega
  have hznz : (z == 0) = false := by simp; omega
  rw [hz] at hl' HSn ⊢
  have HSl := Lib.hid hsl
  generalize chunkB D.length ps = S at *
  generalize nameS 99 (D.length : Int) = nm at *
  have hDl : D.length ≤ 199 := by omega
  generalize hn : D.length = n at *
  clear h1 h2 hp' hm hfind hnm hlen hsl hrow hz hz4 hz12 hok hn h200
  go_enter Tryz.func63, Tryz.ntmps63
  go_wp2_with fail
  refine (HCH.out _).mono ?_
  rintro e w1 ⟨rfl, hb⟩
  have HB := Lib.hid hb
  have c3 := cell_ext hb HC3.out
  have HL1 := Lib.hid (HH.out.grow hb)
  have hrow := row_ext HRow.out hb
  have HRw := Lib.hid hrow
  have z3 := (HH.out.grow hb).l.blk.free 3
  clear hb hrow
  go_wp2_with (at_builtin; refine wpList_append_hat rfl _ _ 34 rfl 0 3 _ 1 8 Tryz.underlying34 Tryz.infoI (by decide) (by decide) _ n _ rfl (row_ext HRw.out (ext_a1 _ _)) _ 1 1 [.int .i64 z] rfl rfl (fun h => by cases h) (Rd.lit _ _ _) (by simp [Value.oneCell']) (by unfold maxLen; omega) (by omega) (Nat.zero_le _) ?_; intro v' w2 hown hgrow hat; have HOw := Lib.hid hown; have HGr := Lib.hid hgrow; have HAt := Lib.hid hat; obtain ⟨_, q2, q3⟩ := HL1.out.pushed (ext_a1 _ _) hgrow; obtain ⟨a', k', rfl⟩ := row_slice hown; have hpu := HL1.out.push (ext_a1 _ _) (by rw [HSl.out]; exact hown) hgrow hat; have HPu := Lib.hid hpu; have u0 := hpu.1.l.c0; clear hown hgrow hat hpu)
  refine (HSY.out _ _ HPu.out.1.d).mono ?_
  rintro e w3 ⟨rfl, h3⟩
  have h4 := HPu.out.1.disk h3
  have H4 := Lib.hid h4
  clear h3 h4
  go_wp2_with fail
  go_ret
  exact ⟨rfl, ⟨_, _, σ', by rw [← HSn.out]; exact H4.out.1, HP.out⟩, (HH.out.kExt HB.out).trans (HPu.out.2.trans H4.out.2)⟩

theorem take_cks {k : Nat} {ps : List (List UInt8)} (h : C[k]? = some ps) : C.take (k + 1) = C.take k ++ [ps] := by
  obtain ⟨hk, he⟩ := List.getElem?_eq_some_iff.1 h
  rw [List.take_succ_eq_append_getElem hk, he]

theorem readAll_c (h : LgP w0 w g gl c s (cksF 0 C) [] sure K) (hok : okC C) :
    Calls Tryz.prog 39 #[.pointer (some ⟨gl, 0, none⟩), .int .i64 (C.length : Int)] w fun e w' => e = .returned (.int .i64 0) ∧ LgP w0 w' g gl c s (cksF 0 C) (sizesL C) sure K ∧ Stay K w w' := by
  have HK := Lib.hid h
  have HOk := Lib.hid hok
  have h200 := hok.few
  clear h hok
  go_enter Tryz.func39, Tryz.ntmps39
  go_wp2_with fail
  go_loopw [10] (fun i W => ∃ k : Nat, k ≤ C.length ∧ i = .int .i64 (k : Int) ∧ LgP w0 W g gl c s (cksF 0 C) (sizesL (C.take k)) sure K ∧ Stay K w W) (fun i _ => C.length - (intOf i).toNat)
  case atStart => exact ⟨0, Nat.zero_le _, rfl, HK.out, Stay.refl _ _⟩
  case round =>
    obtain ⟨k, hk, rfl, hl, hst⟩ := hrel
    have HSt := Lib.hid hst
    by_cases hkn : k < C.length
    · have hd : decide ((k : Int) < (C.length : Int)) = true := by simp; omega
      obtain ⟨ps, hps⟩ : ∃ ps, C[k]? = some ps := ⟨C[k], List.getElem?_eq_getElem hkn⟩
      have HLd := Lib.hid (load_c hl HOk.out hps)
      have c0 := (by obtain ⟨_, _, _, h1, _⟩ := hl; exact h1.l.c0 : wr.cell? ⟨gl, 0, none⟩ = some (.pointer (some ⟨g, 0, none⟩)))
      have hz4 : sizeC ps ≤ 4096 := HOk.out.size ps (List.mem_of_getElem? hps)
      have hz12 : 12 ≤ sizeC ps := by unfold sizeC; omega
      have hlen := chunkB_length k ps
      have hT := take_cks hps
      have hDl : (C.take k).length = k := by rw [List.length_take]; omega
      have hl' : ((chunkB k ps).length : Int) = (sizeC ps : Int) := by rw [hlen]
      have HSn : Hid (sizesL (C.take k) ++ [(sizeC ps : Int)] = sizesL (C.take (k + 1))) := Lib.hid (by rw [hT, sizesL_snoc])
      by_cases hlast : k + 1 = C.length
      · have hCe : C = C.take k ++ [ps] := by rw [← hT, hlast, List.take_length]
        have hd2 : ((k : Int) == (C.length : Int) - 1) = true := by simp; omega
        have HMd := Lib.hid (fun (W : World) (hW : LgP w0 W g gl c s (cksF 0 C) (sizesL (C.take k)) sure K) => (show Calls Tryz.prog 63 #[.pointer (some ⟨gl, 0, none⟩), .int .i64 (k : Int), .string ⟨(chunkB k ps).toArray⟩, .int .i64 (sizeC ps : Int)] W fun e w' => e = .returned (.int .i64 0) ∧ LgP w0 w' g gl c s (cksF 0 C) (sizesL C) sure K ∧ Stay K W w' by
          have h2 := mend_c (D := C.take k) (ps := ps) (by rw [← hCe]; exact hW) (by rw [← hCe]; exact HOk.out)
          rw [hDl, ← hCe] at h2
          exact h2))
        generalize chunkB k ps = S at *
        generalize (sizeC ps : Int) = z at *
        clear hl hst hps hlen hT hDl hCe hz4 hz12
        go_wp2_with fail
        refine HLd.out.mono ?_
        rintro e w2 ⟨rfl, h2, h3⟩
        have H2 := Lib.hid h2; have H3 := Lib.hid (HSt.out.trans h3)
        clear h2 h3
        go_wp2_with fail
        refine (HMd.out _ H2.out).mono ?_
        rintro e w3 ⟨rfl, h2, h3⟩
        have H4 := Lib.hid h2; have H5 := Lib.hid (H3.out.trans h3)
        clear h2 h3
        go_wp2_with fail
        go_ret
        exact ⟨rfl, H4.out, H5.out⟩
      · have hd2 : ((k : Int) == (C.length : Int) - 1) = false := by simp; omega
        obtain ⟨z, hz⟩ : ∃ z : Int, (sizeC ps : Int) = z := ⟨_, rfl⟩
        have z12 : 12 ≤ z := by omega
        have z4 : z ≤ 4096 := by omega
        have hznz : (z == 0) = false := by simp; omega
        have hSl : (chunkB k ps).length ≤ 4096 := by omega
        rw [hz] at hl' HSn HLd
        have HDl := Lib.hid hDl
        generalize chunkB k ps = S at *
        clear hl hst hps hlen hT hDl hz hz4 hz12
        go_wp2_with fail
        refine HLd.out.mono ?_
        rintro e w2 ⟨rfl, h2, h3⟩
        have H3 := Lib.hid (HSt.out.trans h3)
        obtain ⟨F2, v2, σ2, h4, h5⟩ := h2
        have hsl := sizesL_length (C.take k)
        rw [HDl.out] at hsl
        obtain ⟨sa, sk, hv0⟩ := row_slice h4.l.row
        rw [hsl] at hv0
        subst hv0
        have hrow := h4.l.row
        rw [hsl] at hrow
        have HRw := Lib.hid hrow
        have c3 := h4.l.c3
        have z3 := h4.l.blk.free 3
        have HL1 := Lib.hid h4
        have H5 := Lib.hid h5
        have HSl := Lib.hid hsl
        clear h3 h4 h5 hsl hrow c0
        go_wp2_with (at_builtin; refine wpList_append_hat rfl _ _ 34 rfl 0 3 _ 1 8 Tryz.underlying34 Tryz.infoI (by decide) (by decide) _ k _ rfl (row_ext HRw.out (ext_a1 _ _)) _ 1 1 [.int .i64 z] rfl rfl (fun h => by cases h) (Rd.lit _ _ _) (by simp [Value.oneCell']) (by unfold maxLen; omega) (by omega) (Nat.zero_le _) ?_; intro v' w3 hown hgrow hat; have HOw := Lib.hid hown; have HGr := Lib.hid hgrow; have HAt := Lib.hid hat; obtain ⟨_, q2, q3⟩ := HL1.out.pushed (ext_a1 _ _) hgrow; obtain ⟨a', k', rfl⟩ := row_slice hown; have hpu := HL1.out.push (ext_a1 _ _) (by rw [HSl.out]; exact hown) hgrow hat; have HPu := Lib.hid hpu; clear hown hgrow hat hpu)
        go_roundw
        case rel => exact ⟨k + 1, by omega, by go_num, ⟨_, _, σ2, by rw [← HSn.out]; exact HPu.out.1, H5.out⟩, H3.out.trans HPu.out.2⟩
        case measure => simp [intOf]; omega
    · have hd : decide ((k : Int) < (C.length : Int)) = false := by simp; omega
      have HL := Lib.hid (show LgP w0 wr g gl c s (cksF 0 C) (sizesL C) sure K by
        have e : C.take k = C := List.take_of_length_le (by omega)
        rwa [e] at hl)
      clear hl hst
      go_wp2_with fail
      go_ret
      exact ⟨rfl, HL.out, HSt.out⟩
end

end Go.Proofs.YtfkllobehgffoaaGreatDoor
namespace Go.Proofs.YtfkllobehgffoaaGreatDoor
open Go.RowKit

set_option maxRecDepth 100000
set_option linter.unusedVariables false
set_option maxHeartbeats 3200000

theorem open_no (w : World) (p : Option Addr) (h : NoD w p) : Calls Tryz.prog 15 #[.pointer p] w fun e w' => e = .returned (.tuple #[.pointer none, .int .i64 1]) ∧ w = w' := by
  have HU := Lib.hid (up_no w p h)
  have HS := Lib.hid (size_no w p h ⟨#[]⟩)
  clear h
  go_enter Tryz.func15, Tryz.ntmps15
  go_wp2_with fail
  refine HU.out.mono ?_
  rintro e w1 ⟨rfl, rfl⟩
  go_wp2_with fail
  refine HS.out.mono ?_
  rintro e w1 ⟨rfl, rfl⟩
  go_wp2_with fail
  go_ret2
  exact ⟨rfl, rfl⟩

theorem open_down {w : World} {g : Nat} {F : Nat → Prop} {σ : DM} (h : Dk w g F σ) (hd : σ.down = true) : Calls Tryz.prog 15 #[.pointer (some ⟨g, 0, none⟩)] w fun e w' => e = .returned (.tuple #[.pointer none, .int .i64 61]) ∧ w = w' := by
  have HU := Lib.hid (up_c h)
  rw [hd] at HU
  have hs := size_c h [] (by decide)
  have hm : sizeM σ [] = (0, 61) := by unfold sizeM; rw [if_pos hd]
  rw [hm] at hs
  have HS := Lib.hid hs
  clear h hd hs hm
  go_enter Tryz.func15, Tryz.ntmps15
  go_wp2_with fail
  refine HU.out.mono ?_
  rintro e w1 ⟨rfl, rfl⟩
  go_wp2_with fail
  refine HS.out.mono ?_
  rintro e w1 ⟨rfl, rfl⟩
  go_wp2_with fail
  go_ret2
  exact ⟨rfl, rfl⟩

section
variable {w0 w : World} {g gl : Nat} {F K : Nat → Prop} {v : Value} {σ : DM} {c s sure : Int} {C : Cks} {xs : List Int}

theorem open_l (h : DkK w0 w g c s C K) : Calls Tryz.prog 15 #[.pointer (some ⟨g, 0, none⟩)] w fun e w' => ∃ gl, e = .returned (.tuple #[.pointer (some ⟨gl, 0, none⟩), .int .i64 0]) ∧ w.heap.size ≤ gl ∧ LgK w0 w' g gl c s C (endL C) K ∧ Stay K w w' := by
  obtain ⟨F, σ, h1, h2⟩ := h
  have hlt : ∀ i, F i → i < w.heap.size := by obtain ⟨_, _, _, _, _, _, h⟩ := h1.d; exact h
  have HU := Lib.hid (up_c h1.d)
  rw [h2.pl.up] at HU
  have hs := size_c h1.d [110, 101, 119] (by decide)
  rw [h2.pl.sizeN (cksF_new h2.ok.few)] at hs
  have HS := Lib.hid hs
  have HC := Lib.hid (count_c h1.d h2)
  have HSt := Lib.hid (fun (W : World) (k : Ext w W) => starts_c (h1.d.ext k))
  rw [h2.pl.st] at HSt
  have HNew := Lib.hid (fun (W : World) (k : Ext w W) => show LgP w0 (W.alloc (.cells #[.pointer (some ⟨g, 0, none⟩), .int .i64 s, .bool false, .slice none 0 0, .int .i64 0] 36)) g W.heap.size c s (cksF 0 C) [] 0 K ∧ Stay K w (W.alloc (.cells #[.pointer (some ⟨g, 0, none⟩), .int .i64 s, .bool false, .slice none 0 0, .int .i64 0] 36)) from by
    have hk := k.size
    have k2 := k.trans (ext_a1 W (.cells #[.pointer (some ⟨g, 0, none⟩), .int .i64 s, .bool false, .slice none 0 0, .int .i64 0] 36))
    have hin : ∀ i, InLg W.heap.size (.slice none 0 0) i → i = W.heap.size := fun i hi => by rcases hi with h | h; exact h; cases h
    refine ⟨⟨F, .slice none 0 0, σ, ⟨h1.d.ext k2, ⟨Blk.new _ _ _, World.ownsRow_nil _ _ _ _⟩, fun i hi hg => ?_, h1.bF, fun i hi => ?_, h1.ext.trans k2, fun i hi => ⟨?_, (h1.k i hi).2, fun hg => ?_⟩⟩, h2.pl⟩, fun i hi => k2.block i (h1.k i hi).1⟩
    · have := hin i hg; have := hlt i hi; omega
    · have := hin i hi; have := h1.ext.size; omega
    · have := (h1.k i hi).1; have := k2.size; omega
    · have := hin i hg; have := (h1.k i hi).1; omega)
  have HOk := Lib.hid h2.ok
  clear h1 h2 hs hlt
  go_enter Tryz.func15, Tryz.ntmps15
  go_wp2_with fail
  refine HU.out.mono ?_
  rintro e w1 ⟨rfl, rfl⟩
  go_wp2_with fail
  refine HS.out.mono ?_
  rintro e w1 ⟨rfl, rfl⟩
  go_wp2_with fail
  refine HC.out.mono ?_
  rintro e w1 ⟨rfl, hb⟩
  have HB := Lib.hid hb
  clear hb
  go_wp2_with fail
  refine (HSt.out _ HB.out).mono ?_
  rintro e w2 ⟨rfl, rfl⟩
  go_wp2_with fail
  obtain ⟨h3, h4⟩ := HNew.out _ HB.out
  have H4 := Lib.hid h4
  have HRd := Lib.hid (readAll_c h3 HOk.out)
  have HS1 := Lib.hid HB.out.size
  clear h3 h4
  refine HRd.out.mono ?_
  rintro e w3 ⟨rfl, ⟨F3, v3, σ3, h5, h6⟩, h7⟩
  have HE := Lib.hid (end_c h5.l HOk.out)
  have z4 := h5.l.blk.free 4
  have c4 := h5.l.c4
  have h8 := h5.setSure (endL C)
  have H8 := Lib.hid h8
  have H6 := Lib.hid h6
  have H7 := Lib.hid (H4.out.trans (h7.trans h8.2))
  clear h5 h6 h7 h8
  go_wp2_with fail
  refine HE.out.mono ?_
  rintro e w4 ⟨rfl, rfl⟩
  go_wp2_with fail
  go_ret2
  exact ⟨_, rfl, HS1.out, ⟨F3, v3, σ3, H8.out.1, ⟨H6.out, HOk.out⟩⟩, H7.out⟩
end

end Go.Proofs.YtfkllobehgffoaaGreatDoor
namespace Go.Proofs.YtfkllobehgffoaaGreatDoor
open Go.RowKit

set_option maxRecDepth 100000
set_option linter.unusedVariables false
set_option maxHeartbeats 6400000

def noK : Nat → Prop := fun _ => False

theorem DkK.new (w : World) (c : Int) (h0 : 0 ≤ c) (h1 : c ≤ 1048576) : Calls Tryz.prog 13 #[.int .i64 c] w fun e w' => ∃ g, e = .returned (.tuple #[.pointer (some ⟨g, 0, none⟩), .int .i64 0]) ∧ DkK w w' g c 0 [] noK := by
  refine (new_c w c h0 h1).mono ?_
  rintro e w' ⟨g, F, rfl, h1, h2, h3⟩
  exact ⟨g, rfl, F, newM c, ⟨h1, h2, h3, fun i hi => hi.elim⟩, lgd_new c⟩

/-- 'make([]byte, n)' -/
theorem zeros_map (n : Nat) : List.replicate n (Value.int .u8 0) = (List.replicate n (0 : UInt8)).map byteV := by rw [List.map_replicate]; rfl

theorem append_k {w0 w : World} {g gl : Nat} {c s sure x r z : Int} {C C' : Cks} {K : Nat → Prop} (h : LgK w0 w g gl c s C sure K) (p : List UInt8) (hp9 : p.length ≤ 9223372036854775807) (he : appendL (c - (usedK C : Int)) C p = (x, r, C')) (hs : appSure (c - (usedK C : Int)) sure C p = z) :
    Calls Tryz.prog 7 #[.pointer (some ⟨gl, 0, none⟩), .string ⟨p.toArray⟩] w fun e w' => e = .returned (.tuple #[.int .i64 x, .int .i64 r]) ∧ LgK w0 w' g gl c s C' z K ∧ Stay K w w' := by
  have h1 := append_l h p hp9
  unfold AppR at h1
  rw [he, hs] at h1
  exact h1
theorem read_k {w0 w : World} {g gl : Nat} {c s sure r : Int} {C : Cks} {K : Nat → Prop} (h : LgK w0 w g gl c s C sure K) (pos : Int) (p0 : -9223372036854775808 ≤ pos) (p1 : pos ≤ 9223372036854775807) {p : List UInt8} (he : readL C pos = (p, r)) :
    Calls Tryz.prog 8 #[.pointer (some ⟨gl, 0, none⟩), .int .i64 pos] w fun e w' => e = .returned (.tuple #[.string ⟨p.toArray⟩, .int .i64 r]) ∧ LgK w0 w' g gl c s C sure K ∧ Stay K w w' := by
  have h1 := read_l h pos p0 p1
  unfold ReadR at h1
  rw [he] at h1
  exact h1
theorem next_k {w0 w : World} {g gl : Nat} {c s sure : Int} {C : Cks} {K : Nat → Prop} (h : LgK w0 w g gl c s C sure K) (pos : Int) (p0 : -9223372036854775808 ≤ pos) (p1 : pos ≤ 9223372036854775807) {r : Option (Nat × List UInt8)} (he : nextL C pos = r) :
    Calls Tryz.prog 9 #[.pointer (some ⟨gl, 0, none⟩), .int .i64 pos] w fun e w' => e = .returned (nextV r) ∧ LgK w0 w' g gl c s C sure K ∧ Stay K w w' := by
  have h1 := next_l h pos p0 p1
  unfold NextR at h1
  rw [he] at h1
  exact h1
theorem end_k {w0 w : World} {g gl : Nat} {c s sure z : Int} {C : Cks} {K : Nat → Prop} (h : LgK w0 w g gl c s C sure K) (he : endL C = z) : Calls Tryz.prog 11 #[.pointer (some ⟨gl, 0, none⟩)] w fun e w' => e = .returned (.int .i64 z) ∧ w = w' := by
  obtain ⟨_, _, _, k1, k2⟩ := h
  have := end_c k1.l k2.ok
  rwa [he] at this
theorem sure_k {w0 w : World} {g gl : Nat} {c s sure : Int} {C : Cks} {K : Nat → Prop} (h : LgK w0 w g gl c s C sure K) : Calls Tryz.prog 12 #[.pointer (some ⟨gl, 0, none⟩)] w fun e w' => e = .returned (.int .i64 sure) ∧ w = w' := by
  obtain ⟨_, _, _, k1, k2⟩ := h
  exact sure_c k1.l.c4
theorem free_k {w0 w : World} {g gl : Nat} {c s sure : Int} {C : Cks} {K : Nat → Prop} (h : LgK w0 w g gl c s C sure K) : Calls Tryz.prog 18 #[.pointer (some ⟨g, 0, none⟩)] w fun e w' => e = .returned (.int .i64 (c - (usedK C : Int))) ∧ Ext w w' := by
  obtain ⟨_, _, _, k1, k2⟩ := h
  have := free_c k1.d
  rwa [k2.free] at this

abbrev lodA : List UInt8 := [97, 98]
abbrev lodB : List UInt8 := [99]
theorem lod1 : appendL (20000 - (usedK [] : Int)) [] lodA = (12, 0, [[lodA]]) := by decide
theorem lod1s : appSure (20000 - (usedK [] : Int)) 0 [] lodA = 0 := by decide
theorem lod2 : appendL (20000 - (usedK [[lodA]] : Int)) [[lodA]] lodB = (26, 0, [[lodA, lodB]]) := by decide
theorem lod2s : appSure (20000 - (usedK [[lodA]] : Int)) 0 [[lodA]] lodB = 0 := by decide
theorem lod3 : endL [[lodA, lodB]] = 39 := by decide
theorem lod4 : nextL [[lodA, lodB]] 13 = some (26, lodB) := by decide
theorem lod5 : readL [[lodA, lodB]] 12 = (lodA, 0) := by kernel_rfl
theorem lod6 : readL [[lodA, lodB]] 13 = ([], 4) := by kernel_rfl

section
variable {P : List UInt8}
theorem lodL {C : Cks} {fr : Int} {Q : List UInt8} (h : Q.length = 2001) : appendL fr C Q = (0, 3, C) := appendL_long (by omega)
theorem lodLs {C : Cks} {fr : Int} {Q : List UInt8} (h : Q.length = 2001) : appSure fr 39 C Q = 39 := by unfold appSure; rw [lodL h, if_neg (fun h => absurd (show (3 : Int) = 0 from h.1) (by decide))]
theorem szP1 (h : P.length = 2000) : sizeC [lodA, lodB, P] = 2051 := by simp [sizeC, h]
theorem szP2 (h : P.length = 2000) : sizeC [lodA, lodB, P, P] = 4063 := by simp [sizeC, h]
theorem lodP1 (h : P.length = 2000) : appendL (20000 - (usedK [[lodA, lodB]] : Int)) [[lodA, lodB]] P = (39, 0, [[lodA, lodB, P]]) :=
  appendL_one (D := []) (ps := [lodA, lodB]) (by omega) (by unfold fitsL; simp [sizeC, h]) (by rw [h]; decide)
theorem lodP1s (h : P.length = 2000) : appSure (20000 - (usedK [[lodA, lodB]] : Int)) 39 [[lodA, lodB]] P = 39 := by
  unfold appSure; rw [lodP1 h, if_neg (fun k => by have := k.2.1; unfold fitsL at this; simp [sizeC, h] at this)]
theorem lodP2 (h : P.length = 2000) : appendL (20000 - (usedK [[lodA, lodB, P]] : Int)) [[lodA, lodB, P]] P = (2051, 0, [[lodA, lodB, P, P]]) := by
  have h1 := appendL_one (fr := 20000 - (usedK [[lodA, lodB, P]] : Int)) (D := []) (ps := [lodA, lodB, P]) (p := P) (by omega) (by unfold fitsL; simp [sizeC, h]) (by unfold usedK; rw [List.map_cons, szP1 h, h]; decide)
  rw [szP1 h] at h1
  exact h1
theorem lodP2s (h : P.length = 2000) : appSure (20000 - (usedK [[lodA, lodB, P]] : Int)) 39 [[lodA, lodB, P]] P = 39 := by
  unfold appSure; rw [lodP2 h, if_neg (fun k => by have := k.2.1; unfold fitsL at this; simp [sizeC, h] at this)]
theorem lodP3 (h : P.length = 2000) : appendL (20000 - (usedK [[lodA, lodB, P, P]] : Int)) [[lodA, lodB, P, P]] P = (4108, 0, [[lodA, lodB, P, P], [P]]) :=
  appendL_new (C := [[lodA, lodB, P, P]]) (by omega) (by unfold fitsL; simp [sizeC, h]) (by
    have e : usedK [[lodA, lodB, P, P]] = 4063 := by unfold usedK; simp [szP2 h]
    rw [e, h]
    rintro (k | k)
    · simp at k
    · omega)
end

theorem lodged_c (w : World) : Calls Tryz.prog 6 #[] w fun e w' => e = .returned (.bool true) ∧ Ext w w' := by
  obtain ⟨i, hi, hz, hsize, hby⟩ := info_parts Tryz.infoU8
  obtain ⟨Z, hZ⟩ : ∃ Z, List.replicate 2001 (0 : UInt8) = Z := ⟨_, rfl⟩
  have hZl : Z.length = 2001 := by rw [← hZ, List.length_replicate]
  obtain ⟨P, hP⟩ : ∃ P, Z.take 2000 = P := ⟨_, rfl⟩
  have hPl : P.length = 2000 := by rw [← hP]; simp [hZl]
  have HZc : Hid (List.replicate 2001 (Value.int .u8 0) = Z.map byteV) := Lib.hid (by rw [zeros_map, hZ])
  have HZl := Lib.hid hZl; have HPl := Lib.hid hPl
  have hsl : ∀ w, (Instr.slice 9 (.string ⟨Z.toArray⟩) none (some (.int .i64 2000)) none).run Tryz.prog w = .ok (.string ⟨P.toArray⟩) w := fun w => by
    rw [slice_to Z 2000 2000 rfl (by omega) w, hP]
  clear hZ hP hZl hPl
  have HN := Lib.hid (DkK.new w 20000 (by decide) (by decide))
  go_enter Tryz.func6, Tryz.ntmps6
  go_wp2_with fail
  refine HN.out.mono ?_
  rintro e w1 ⟨g, rfl, h1⟩
  have HO := Lib.hid (open_l h1); clear h1
  go_wp2_with fail
  refine HO.out.mono ?_
  rintro e w2 ⟨gl, rfl, _, h1, _⟩
  have HA := Lib.hid (append_k h1 lodA (by decide) lod1 lod1s); clear h1
  go_wp2_with fail
  refine HA.out.mono ?_
  rintro e w3 ⟨rfl, h1, _⟩
  have HB := Lib.hid (append_k h1 lodB (by decide) lod2 lod2s); clear h1
  go_wp2_with fail
  refine HB.out.mono ?_
  rintro e w4 ⟨rfl, h1, _⟩
  have HE := Lib.hid (end_k h1 lod3)
  have HS := Lib.hid (sure_k h1)
  have HR := Lib.hid (read_k h1 12 (by decide) (by decide) lod5)
  clear h1
  go_wp2_with fail
  refine HE.out.mono ?_
  rintro e w5 ⟨rfl, rfl⟩
  go_wp2_with fail
  refine HS.out.mono ?_
  rintro e w5 ⟨rfl, rfl⟩
  go_wp2_with fail
  refine HR.out.mono ?_
  rintro e w5 ⟨rfl, h1, _⟩
  have HR2 := Lib.hid (read_k h1 13 (by decide) (by decide) lod6); clear h1
  go_wp2_with fail
  refine HR2.out.mono ?_
  rintro e w6 ⟨rfl, h1, _⟩
  have HX := Lib.hid (next_k h1 13 (by decide) (by decide) lod4); clear h1
  go_wp2_with fail
  refine HX.out.mono ?_
  unfold nextV
  rintro e w7 ⟨rfl, h1, _⟩
  have HF := Lib.hid (flush_l h1); clear h1
  go_wp2_with fail
  refine HF.out.mono ?_
  rintro e w8 ⟨rfl, h1, _⟩
  have h2 : LgK w w8 g gl 20000 0 [[lodA, lodB]] 39 noK := h1
  have HS := Lib.hid (sure_k h2)
  have HK8 := Lib.hid h2
  have HB8 := Lib.hid h2.base
  clear h1 h2
  go_wp2_with fail
  refine HS.out.mono ?_
  rintro e w9 ⟨rfl, rfl⟩
  go_wp2_with (at_make; refine wpList_make_full _ rfl _ _ 53 rfl w8.heap.size 5 i (.int .u8 0) 1 Tryz.underlying53 hi hz hsize .i64 .i64 _ _ 2001 rfl rfl rfl rfl (by rw [hby]; omega) (by unfold maxLen; omega) (Nat.le_refl _) ?_; intro w9 hown hg; have ho := Own.of_row hown; rw [Nat.mul_one, show (madeCells (Value.int .u8 0).cells 2001).toList = List.replicate 2001 (.int .u8 0) from toList_madeCells_one _ _, HZc.out] at ho; have HB9 := Lib.hid ((Ext.refl w8).grown hg (Nat.le_refl _) (fun k hk => by cases hk)); have hcv := run_tostr (P := Tryz.prog) w9 53 9 5 (a := ⟨w8.heap.size, 0, none⟩) (n := 2001) (cap := 2001) Tryz.underlying53 Tryz.underlying5 Tryz.underlying9 HZl.out (by obtain ⟨_, _, e, _, _, _, r⟩ := ho.rd; cases e; exact r); clear hown hg ho)
  have HA := Lib.hid (append_k (HK8.out.grow HB9.out) Z (by rw [HZl.out]; decide) (lodL HZl.out) (lodLs HZl.out))
  refine HA.out.mono ?_
  rintro e w10 ⟨rfl, h1, _⟩
  have HA := Lib.hid (append_k h1 P (by rw [HPl.out]; decide) (lodP1 HPl.out) (lodP1s HPl.out)); clear h1
  clear hcv
  go_wp2_with fail
  refine HA.out.mono ?_
  rintro e w11 ⟨rfl, h1, _⟩
  have HA := Lib.hid (append_k h1 P (by rw [HPl.out]; decide) (lodP2 HPl.out) (lodP2s HPl.out)); clear h1
  go_wp2_with fail
  refine HA.out.mono ?_
  rintro e w12 ⟨rfl, h1, _⟩
  have HA := Lib.hid (append_k h1 P (by rw [HPl.out]; decide) (lodP3 HPl.out) rfl); clear h1
  go_wp2_with fail
  refine HA.out.mono ?_
  rintro e w13 ⟨rfl, h1, _⟩
  have HB13 := Lib.hid h1.base
  clear h1
  go_wp2_with fail
  go_ret
  exact ⟨rfl, HB13.out⟩

end Go.Proofs.YtfkllobehgffoaaGreatDoor
namespace Go.Proofs.YtfkllobehgffoaaGreatDoor
open Go.RowKit

set_option maxRecDepth 100000
set_option linter.unusedVariables false
set_option maxHeartbeats 6400000

theorem Tryz.infoStr : (Tryz.prog.info? 9).map (fun i => (i.zero, i.size, i.bytes)) = some (some (.string ⟨#[]⟩), 1, 16) := by kernel_rfl
abbrev strV (l : List UInt8) : Value := .string ⟨l.toArray⟩

theorem ends_eq (z : Int) (w : World) : Calls Tryz.prog 40 #[.int .i64 z, .int .i64 z] w fun e w' => e = .returned (.bool true) ∧ w = w' := by
  go_enter Tryz.func40, Tryz.ntmps40
  go_wp2_with fail
  go_ret
  exact ⟨rfl, rfl⟩

theorem begins_c {w : World} {a b : Option Addr} {n ca cb : Nat} {xs : List (List UInt8)} (hx : Slf strV w a n ca xs) (hy : Slf strV w b n cb xs) :
    Calls Tryz.prog 17 #[.slice a n ca, .slice b n cb] w fun e w' => e = .returned (.bool true) ∧ Ext w w' := by
  have HX := Lib.hid hx; have HY := Lib.hid hy
  have hn1 : n ≤ 9223372036854775807 := Nat.le_trans hx.fits hx.bound
  clear hx hy
  go_enter Tryz.func17, Tryz.ntmps17
  go_wp2_with fail
  go_loopw [5] (fun i wr => ∃ k : Nat, k ≤ n ∧ i = .int .i64 k ∧ Ext w wr) (fun i _ => n - (intOf i).toNat)
  case atStart => exact ⟨0, Nat.zero_le _, rfl, Ext.refl _⟩
  case round =>
    obtain ⟨k, hk, rfl, hb⟩ := hrel
    have HB := Lib.hid hb
    by_cases hlt : k < n
    · obtain ⟨b1, o1, rfl, hc1⟩ := (HX.out.ext hb).at [] hlt
      obtain ⟨b2, o2, rfl, hc2⟩ := (HY.out.ext hb).at [] hlt
      generalize xs.getD k [] = x at *
      clear hb
      go_wp2_with fail
      go_quiet (fail)
      go_wp2_with fail
      go_roundw
      case rel => exact ⟨k + 1, by omega, by go_num, HB.out.drewN _⟩
      case measure => simp [intOf]; omega
    · clear hb
      go_wp2_with fail
      go_ret
      exact ⟨rfl, HB.out⟩

def KR (K : Nat → Prop) (vp vq : Value) (i : Nat) : Prop := K i ∨ vp.ownBlock = some i ∨ vq.ownBlock = some i

section
variable {w0 w W W1 W2 : World} {g gl : Nat} {K K1 K2 : Nat → Prop} {c s sure : Int} {C : Cks}
theorem LgK.rows (h : LgK w0 W g gl c s C sure K1) (hs : W.heap.size ≤ W1.heap.size) (hx : Ext w0 W1) (same : ∀ i, i < W.heap.size → ¬ K1 i → W1.heap[i]? = W.heap[i]?) (hK2 : ∀ i, K2 i → K1 i ∨ (W.heap.size ≤ i ∧ i < W1.heap.size)) : LgK w0 W1 g gl c s C sure K2 := by
  obtain ⟨F, v, σ, h2, h3⟩ := h
  have hlt : ∀ i, F i → i < W.heap.size := by obtain ⟨_, _, _, _, _, _, h⟩ := h2.d; exact h
  refine ⟨F, v, σ, ⟨h2.d.held hs fun i hi => same i (hlt i hi) fun hk => (h2.k i hk).2.1 hi, h2.l.same fun i hi => same i (h2.l.lt hi) fun hk => (h2.k i hk).2.2 hi, h2.ap, h2.bF, h2.bG, hx, fun i hi => ?_⟩, h3⟩
  rcases hK2 i hi with h4 | ⟨h4, h5⟩
  · exact ⟨Nat.lt_of_lt_of_le (h2.k i h4).1 hs, (h2.k i h4).2⟩
  · refine ⟨h5, fun hf => ?_, fun hg => ?_⟩
    · have := hlt i hf; omega
    · have := h2.l.lt hg; omega
theorem LgK.klt (h : LgK w0 W g gl c s C sure K) : ∀ i, K i → i < W.heap.size := by
  obtain ⟨F, v, σ, h2, h3⟩ := h
  exact fun i hi => (h2.k i hi).1

/-- two rows, of another type each, lie apart -/
theorem rows_apart {B B' : Nat} {e e' : TypeId} {size size' n n' : Nat} {v v' : Value} {xs ys : List Value} (h : W.ownsRow B e size v n xs) (h' : W.ownsRow B' e' size' v' n' ys) (hne : e ≠ e') : ∀ i, v.ownBlock = some i → v'.ownBlock ≠ some i := fun i h1 h2 => by
  obtain ⟨c1, k1⟩ := row_etype h h1
  obtain ⟨c2, k2⟩ := row_etype h' h2
  rw [k1] at k2
  cases k2
  exact hne rfl

/-- both rows have one more -/
theorem rows_step {B n : Nat} {vp vq v1 v2 : Value} {xs ys xs1 ys1 : List Value} {l1 l2 : Obj} {ts ti : TypeId} (hne : ts ≠ ti) (h : LgK w0 W g gl c s C sure (KR K vp vq)) (hB : w0.heap.size ≤ B) (hdis : ∀ i, K i → vp.ownBlock ≠ some i ∧ vq.ownBlock ≠ some i)
    (hp : W.ownsRow B ts 1 vp n xs) (hq : W.ownsRow B ti 1 vq n ys)
    (h1 : W1.ownsRow B ts 1 v1 (n + 1) xs1) (g1 : (W.alloc l1).grownBy W1 vp.ownBlock) (a1 : v1.ownBlock = vp.ownBlock ∨ v1.ownBlock = some (W.alloc l1).heap.size)
    (h2 : W2.ownsRow B ti 1 v2 (n + 1) ys1) (g2 : (W1.alloc l2).grownBy W2 vq.ownBlock) (a2 : v2.ownBlock = vq.ownBlock ∨ v2.ownBlock = some (W1.alloc l2).heap.size) :
    LgK w0 W2 g gl c s C sure (KR K v1 v2) ∧ Stay K W W2 ∧ W2.ownsRow B ts 1 v1 (n + 1) xs1 ∧ (∀ i, K i → v1.ownBlock ≠ some i ∧ v2.ownBlock ≠ some i) := by
  have s1 := g1.size; have s2 := g2.size
  rw [World.size_alloc] at s1 s2
  have hpb : ∀ i, vp.ownBlock = some i → B ≤ i ∧ i < W.heap.size := row_lt hp
  have hqb : ∀ i, vq.ownBlock = some i → B ≤ i ∧ i < W.heap.size := row_lt hq
  have hv1 : ∀ i, v1.ownBlock = some i → (vp.ownBlock = some i ∨ i = W.heap.size + 1) := fun i hi => by
    rcases a1 with k | k
    · exact .inl (k.symm.trans hi)
    · rw [k, World.size_alloc] at hi; cases hi; exact .inr rfl
  have hv2 : ∀ i, v2.ownBlock = some i → (vq.ownBlock = some i ∨ i = W1.heap.size + 1) := fun i hi => by
    rcases a2 with k | k
    · exact .inl (k.symm.trans hi)
    · rw [k, World.size_alloc] at hi; cases hi; exact .inr rfl
  have e1 : ∀ i, i < W.heap.size → vp.ownBlock ≠ some i → W1.heap[i]? = W.heap[i]? := fun i hi hn => (g1.block i (by rw [World.size_alloc]; omega) fun e => hn e.symm).trans ((ext_a1 W l1).block i hi)
  have e2 : ∀ i, i < W1.heap.size → vq.ownBlock ≠ some i → W2.heap[i]? = W1.heap[i]? := fun i hi hn => (g2.block i (by rw [World.size_alloc]; omega) fun e => hn e.symm).trans ((ext_a1 W1 l2).block i hi)
  have hx0 := h.base
  have hx1 : Ext w0 W1 := Below.grown (hx0.alloc l1) g1 (by rw [World.size_alloc]; have := hx0.size; omega) fun k hk => by have := (hpb k hk).1; omega
  have hx2 : Ext w0 W2 := Below.grown (hx1.alloc l2) g2 (by rw [World.size_alloc]; have := hx1.size; omega) fun k hk => by have := (hqb k hk).1; omega
  refine ⟨h.rows (by omega) hx2 (fun i hi hn => ?_) fun i hi => ?_, fun i hi => ?_, row_same h1 fun i hi => e2 i ?_ fun hq2 => ?_, fun i hi => ⟨fun e => ?_, fun e => ?_⟩⟩
  · exact (e2 i (by omega) fun e => hn (.inr (.inr e))).trans (e1 i hi fun e => hn (.inr (.inl e)))
  · rcases hi with k | k | k
    · exact .inl (.inl k)
    · rcases hv1 i k with k2 | k2
      · exact .inl (.inr (.inl k2))
      · have := (row_lt h1 i k).2; right; omega
    · rcases hv2 i k with k2 | k2
      · exact .inl (.inr (.inr k2))
      · have := (row_lt h2 i k).2; right; omega
  · have hlt := h.klt i (.inl hi)
    exact (e2 i (by omega) (hdis i hi).2).trans (e1 i hlt (hdis i hi).1)
  · exact (row_lt h1 i hi).2
  · rcases hv1 i hi with k | k
    · exact rows_apart hp hq hne i k hq2
    · have := (hqb i hq2).2; omega
  · rcases hv1 i e with k | k
    · exact (hdis i hi).1 k
    · have := h.klt i (.inl hi); omega
  · rcases hv2 i e with k | k
    · exact (hdis i hi).2 k
    · have := h.klt i (.inl hi); omega
end

theorem endOf_le {R A t : List (Nat × List UInt8)} {r : Nat × List UInt8} (h : R.Pairwise BehR) (he : R = A ++ r :: t) : endOf A ≤ r.1 := by
  rcases List.eq_nil_or_concat A with rfl | ⟨D, q, rfl⟩
  · exact Nat.zero_le _
  · rw [List.concat_eq_append] at *
    rw [he] at h
    have := (List.pairwise_append.1 h).2.2 q (by simp) r (by simp)
    rw [endOf_snoc]; exact this

end Go.Proofs.YtfkllobehgffoaaGreatDoor
namespace Go.Proofs.YtfkllobehgffoaaGreatDoor
open Go.RowKit

set_option maxRecDepth 100000
set_option linter.unusedVariables false
set_option maxHeartbeats 6400000

section
variable {w0 w W W1 W2 : World} {g gl : Nat} {K K1 K2 : Nat → Prop} {c s sure : Int} {C : Cks}

/-- what 'records' hands back: payloads, places, true -/
def RecR (w0 w : World) (g gl : Nat) (c s : Int) (C : Cks) (sure : Int) (K : Nat → Prop) (e : Ending) (w' : World) : Prop :=
  ∃ vp vq, e = .returned (.tuple #[vp, vq, .bool true]) ∧ w'.ownsRow w0.heap.size 9 1 vp (recsL 0 C).length ((recsL 0 C).map fun r => strV r.2) ∧ w'.ownsRow w0.heap.size 3 1 vq (recsL 0 C).length ((recsL 0 C).map fun r => Value.int .i64 (r.1 : Int)) ∧
    LgK w0 w' g gl c s C sure (KR K vp vq) ∧ Stay K w w'

theorem records_c (h : LgK w0 w g gl c s C sure K) (hm : (recsL 0 C).length ≤ 999) : Calls Tryz.prog 16 #[.pointer (some ⟨gl, 0, none⟩)] w (RecR w0 w g gl c s C sure K) := by
  have hok : okC C := h.toP.2
  have hpw := recsL_pw C 0 hok.size
  have HOk := Lib.hid hok; have HPw := Lib.hid hpw
  have HL := Lib.hid (show LgK w0 w g gl c s C sure (KR K (.slice none 0 0) (.slice none 0 0)) from h.rows (Nat.le_refl _) h.base (fun _ _ _ => rfl) fun i hi => by
    rcases hi with k | k | k
    · exact .inl k
    · cases k
    · cases k)
  have HEnd := Lib.hid (endOf_recs hok)
  clear h hok hpw
  go_enter Tryz.func16, Tryz.ntmps16
  go_wp2_with fail
  go_loopw [5, 6, 7, 8] (fun ps qs po tu W => ∃ (A B : List (Nat × List UInt8)) (vp vq : Value), recsL 0 C = A ++ B ∧ ps = vp ∧ qs = vq ∧ po = .int .i64 (endOf A : Int) ∧ tu = .int .i64 (A.length : Int) ∧
    W.ownsRow w0.heap.size 9 1 vp A.length (A.map fun r => strV r.2) ∧ W.ownsRow w0.heap.size 3 1 vq A.length (A.map fun r => Value.int .i64 (r.1 : Int)) ∧ LgK w0 W g gl c s C sure (KR K vp vq) ∧ Stay K w W ∧ (∀ i, K i → vp.ownBlock ≠ some i ∧ vq.ownBlock ≠ some i)) (fun _ _ _ tu _ => 1000 - (intOf tu).toNat)
  case atStart => exact ⟨[], recsL 0 C, .slice none 0 0, .slice none 0 0, rfl, rfl, rfl, rfl, rfl, World.ownsRow_nil _ _ _ _, World.ownsRow_nil _ _ _ _, HL.out, Stay.refl _ _, fun i _ => ⟨fun e => (by cases e), fun e => (by cases e)⟩⟩
  case round =>
    obtain ⟨A, B, vp, vq, hAB, rfl, rfl, rfl, rfl, hp, hq, hl, hst, hdis⟩ := hrel
    have HDis := Lib.hid hdis
    clear hdis
    obtain ⟨pa, pc, rfl⟩ := row_slice hp
    obtain ⟨qa, qc, rfl⟩ := row_slice hq
    have hAl : A.length ≤ 999 := by have := congrArg List.length hAB; rw [List.length_append] at this; omega
    have hd : decide ((A.length : Int) < 1000) = true := by simp; omega
    have hpos : endOf A ≤ 900000 := by
      rcases List.eq_nil_or_concat A with rfl | ⟨D, q, rfl⟩
      · exact Nat.zero_le _
      · rw [List.concat_eq_append] at *
        have hq1 : q ∈ recsL 0 C := by rw [hAB]; simp
        have h1 := recsL_lt HOk.out hq1
        obtain ⟨n, ps, k, e1, e2, e3⟩ := recsL_mem C 0 q hq1
        have h2 := HOk.out.pay ps (List.mem_of_getElem? e1) q.2 (List.mem_of_getElem? e2)
        rw [endOf_snoc]; omega
    have HNx := Lib.hid (next_k hl (endOf A : Int) (by omega) (by omega) (nextL_part HOk.out.size hAB))
    have HP := Lib.hid hp; have HQ := Lib.hid hq; have HSt := Lib.hid hst; have HAB := Lib.hid hAB
    have HEn := Lib.hid hl
    clear hp hq hl hst
    cases B with
    | nil =>
      have hA : A = recsL 0 C := by rw [hAB, List.append_nil]
      have HA := Lib.hid hA
      have hz : (endOf A : Int) = endL C := by rw [hA]; exact HEnd.out
      obtain ⟨z, hzz⟩ : ∃ z, endL C = z := ⟨_, rfl⟩
      rw [hz, hzz] at HNx ⊢
      have HZ := Lib.hid hzz
      have hz0 : 0 ≤ z := by omega
      clear hAB hA hz hzz hpos
      go_wp2_with fail
      refine HNx.out.mono ?_
      unfold nextV
      rintro e w1 ⟨rfl, h1, h2⟩
      have HE := Lib.hid (end_k h1 HZ.out)
      have H1 := Lib.hid h1; have H2 := Lib.hid h2
      clear h1 h2
      go_wp2_with fail
      refine HE.out.mono ?_
      rintro e w2 ⟨rfl, rfl⟩
      go_wp2_with fail
      refine (ends_eq z _).mono ?_
      rintro e w2 ⟨rfl, rfl⟩
      go_wp2_with fail
      go_ret3
      refine ⟨_, _, rfl, ?_, ?_, H1.out, HSt.out.trans fun i hi => H2.out i (.inl hi)⟩
      · rw [← HA.out]; exact row_same HP.out fun i hi => H2.out i (.inr (.inl hi))
      · rw [← HA.out]; exact row_same HQ.out fun i hi => H2.out i (.inr (.inr hi))
    | cons r t =>
      have hr : r ∈ recsL 0 C := by rw [hAB]; simp
      have hle := endOf_le HPw.out hAB
      have hat := recsL_lt HOk.out hr
      have hpl : r.2.length ≤ 2000 := by
        obtain ⟨n, ps, k, e1, e2, e3⟩ := recsL_mem C 0 r hr
        exact HOk.out.pay ps (List.mem_of_getElem? e1) r.2 (List.mem_of_getElem? e2)
      have HRd := Lib.hid (readL_mem HOk.out hr)
      obtain ⟨x, p⟩ := r
      have hd2 : decide ((x : Int) < (endOf A : Int)) = false := by simp; exact hle
      have hAl2 : A.length + 1 ≤ 999 := by have := congrArg List.length hAB; rw [List.length_append, List.length_cons] at this; omega
      have HE2 : Hid ((endOf (A ++ [(x, p)]) : Int) = (x : Int) + (p.length : Int) + 12) := Lib.hid (by rw [endOf_snoc]; show ((x + p.length + 12 : Nat) : Int) = _; omega)
      have hx9 : x ≤ 819200 := hat
      have hp9 : p.length ≤ 2000 := hpl
      obtain ⟨eA, heA⟩ : ∃ eA : Int, (endOf A : Int) = eA := ⟨_, rfl⟩
      rw [heA] at HNx hd2 ⊢
      clear hAB hr hle hat hpl hpos heA
      go_wp2_with fail
      refine HNx.out.mono ?_
      show ∀ (a : Ending) (w' : World), (a = .returned (.tuple #[.string ⟨p.toArray⟩, .int .i64 (x : Int), .int .i64 ((x : Int) + (p.length : Int) + 12), .int .i64 0]) ∧ _ ∧ _) → _
      rintro e w1 ⟨rfl, h1, h2⟩
      have HR := Lib.hid (read_k h1 (x : Int) (by omega) (by omega) HRd.out)
      have H2 := Lib.hid h2
      clear h1 h2
      go_wp2_with fail
      refine HR.out.mono ?_
      rintro e w2 ⟨rfl, h1, h2⟩
      have H3 := Lib.hid (H2.out.trans h2)
      have HL3 := Lib.hid h1
      have HP3 := Lib.hid (row_same HP.out fun i hi => H3.out i (.inr (.inl hi)))
      have HQ3 := Lib.hid (row_same HQ.out fun i hi => H3.out i (.inr (.inr hi)))
      have hbs := h1.base.size
      have HBs := Lib.hid hbs
      clear h1 h2
      go_wp2_with (first
        | (at_builtin; refine wpList_append_hat rfl _ _ 46 rfl w0.heap.size 9 _ 1 16 Tryz.underlying46 Tryz.infoStr (by decide) (by decide) _ A.length _ rfl (row_ext HP3.out (ext_a1 _ _)) _ 1 1 [strV p] rfl rfl (fun h => by cases h) (Rd.lit _ _ _) (by simp [Value.oneCell']) (by unfold maxLen; omega) (by omega) (by have := HBs.out; simp; omega) ?_; intro v1 w4 hown hgrow hat; have HO1 := Lib.hid hown; have HG1 := Lib.hid hgrow; have HA1 := Lib.hid hat; have HQ4 := Lib.hid (row_same HQ3.out fun i hi => (hgrow.block i (by rw [World.size_alloc]; have := (row_lt HQ3.out i hi).2; omega) fun e => rows_apart HP3.out HQ3.out (by decide) i e.symm hi).trans ((ext_a1 _ _).block i (row_lt HQ3.out i hi).2)); have HBt := Lib.hid (Nat.le_trans HBs.out (Nat.le_trans (by rw [World.size_alloc]; omega : w2.heap.size ≤ _) hgrow.size)); obtain ⟨a1, k1, rfl⟩ := row_slice hown; clear hown hgrow hat)
        | (at_builtin; refine wpList_append_hat rfl _ _ 34 rfl w0.heap.size 3 _ 1 8 Tryz.underlying34 Tryz.infoI (by decide) (by decide) _ A.length _ rfl (row_ext HQ4.out (ext_a1 _ _)) _ 1 1 [.int .i64 (x : Int)] rfl rfl (fun h => by cases h) (Rd.lit _ _ _) (by simp [Value.oneCell']) (by unfold maxLen; omega) (by omega) (by have := HBt.out; simp; omega) ?_; intro v2 w5 hown hgrow hat; obtain ⟨a2, k2, rfl⟩ := row_slice hown; have HF := Lib.hid (rows_step (by decide) HL3.out (Nat.le_refl _) HDis.out HP3.out HQ3.out HO1.out HG1.out HA1.out hown hgrow hat); have HO2 := Lib.hid hown; clear hown hgrow hat))
      go_roundw
      case rel => exact ⟨A ++ [(x, p)], t, _, _, by rw [HAB.out]; simp, rfl, rfl, by rw [HE2.out], by rw [List.length_append]; go_num, by simpa using HF.out.2.2.1, by simpa using HO2.out, HF.out.1, HSt.out.trans (Stay.trans (K := K) (fun i hi => H3.out i (.inl hi)) HF.out.2.1), HF.out.2.2.2⟩
      case measure => simp [intOf]; omega
end

end Go.Proofs.YtfkllobehgffoaaGreatDoor
