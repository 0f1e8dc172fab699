/- Walks: one table in the place of a level's. -/
import Derived.Test.YtkkafjknogfdnaaChecked
import Derived.Test.YtkkafjknogfdnaaLI
namespace Go.Proofs.Ytkkafjknogfdnaa
open Go.RowKit

/-- the grid's cell is known and may be written -/
theorem OGr.cell0 {w : World} {B : Nat} {tO tI : TypeId} {vs : List Value} {L : List (List Int)} {i n cap : Nat} {ao : Option Addr} (h : OGr w B tO tI (.slice ao n cap) vs L) (hne : tO ≠ tI) (hi : i < L.length) :
    ∃ g, ao = some ⟨g, 0, none⟩ ∧ w.cell? ⟨g, i, none⟩ = some (vs.getD i (.slice none 0 0)) ∧ w.frozen? ⟨g, i, none⟩ = false ∧ B ≤ g := by
  obtain ⟨g, h1, h2, _, h3, h4⟩ := h.cell hne hi (World.grownBy.refl w none) (.inl rfl)
  exact ⟨g, h1, h2, h3, h4⟩

theorem OGr.addr {w : World} {B : Nat} {tO tI : TypeId} {v : Value} {vs : List Value} {L : List (List Int)} (h : OGr w B tO tI v vs L) (hi : 0 < L.length) : ∃ G c, v = .slice (some ⟨G, 0, none⟩) L.length c := by
  obtain ⟨a, c, rfl⟩ := h.own.slice
  obtain ⟨g, _, _, rfl, _⟩ := h.head hi
  exact ⟨g, c, rfl⟩

/-- a row is struck -/
theorem OGr.strike {w : World} {B : Nat} {tO tI : TypeId} {vs : List Value} {L : List (List Int)} {i g n cap : Nat} (h : OGr w B tO tI (.slice (some ⟨g, 0, none⟩) n cap) vs L) (hne : tO ≠ tI) (hi : i < L.length) :
    OGr (w.setCell ⟨g, i, none⟩ (.slice none 0 0)) B tO tI (.slice (some ⟨g, 0, none⟩) n cap) (vs.set i (.slice none 0 0)) (L.set i []) :=
  h.put (l := []) hne rfl hi (Own.nil _ _ _ _) (World.grownBy.refl w none) (.inl rfl) (.inl rfl)

set_option maxRecDepth 100000 in
set_option maxHeartbeats 3200000 in
theorem replace_c (ao : Option Addr) (n cap : Nat) (L : List (List Int)) (k x : Int) (w : World) (hx : Grid w ao n cap L) (hsum : L.flatten.length ≤ 1000000000) (hn : n ≤ 1000000000) (hwf : ∀ x ∈ L.flatten, (Lit.int .i64 x).wf = true) :
    Calls Try.prog 18 #[.slice ao n cap, .int .i64 k, .int .i64 x] w (RetGE 25 3 w (replaceS L k x)) := by
  have Hx := Lib.hid hx
  have b1 := hx.fits; have b2 := hx.bound
  have HLen := Lib.hid hx.len
  clear hx
  go_enter Try.func18, Try.ntmps18
  go_wp2_with fail
  refine (pick_c _ _ _ L k _ Hx.out (by omega) hwf).mono ?_
  rintro e w1 ⟨v1, rfl, hown, hb1⟩
  obtain ⟨a1, c1, rfl⟩ := hown.slice
  have HB1 := Lib.hid hb1
  clear hb1 hown hwf
  have S1 := Lib.hid (replaceS_err L k x); have S2 := Lib.hid (replaceS_arg L k x); have S3 := Lib.hid (replaceS_ok L k x)
  have HPZ := Lib.hid (pickS_zero L k)
  have HRL := Lib.hid (row_le_flatten L)
  have HVL := Lib.hid (validB_len L)
  generalize hF : L.flatten = xs at *
  have HF := Lib.hid hF; clear hF
  generalize (pickS L k).1.length = pl at *
  generalize (pickS L k).2 = pe at *
  by_cases hp : pe ≠ 0
  · have hp1 : (pe != 0) = true := by simpa using hp
    have HPP := Lib.hid hp; clear hp
    go_wp2_with fail
    go_ret2
    exact RetGE.err (S1.out HPP.out) HB1.out
  have hp : pe = 0 := by omega
  obtain ⟨z1, z2, z3, z4⟩ := HPZ.out (by omega)
  have S2' := Lib.hid (S2.out (by omega)); have S3' := Lib.hid (S3.out (by omega))
  subst hp
  obtain ⟨j, rfl⟩ := Int.eq_ofNat_of_zero_le z2
  rw [Int.toNat_natCast] at z4 S3'
  have hj : j < 5 := by omega
  have h5 := (HVL.out z1).1
  have hrepP := repP_eq L j x h5 hj z4
  have hjt := lt_trimL L j z4
  have htl : (trimL L).length ≤ 5 := by have := trimN_le L L.length; rw [trimL_length]; omega
  have HRP := Lib.hid hrepP; have HJT := Lib.hid hjt
  clear S1 S2 S3 HPZ HVL z1 z2 z3 z4 hrepP hjt h5
  by_cases h0 : x < 0
  · go_wp2_with fail
    go_ret2
    exact RetGE.err (S2'.out (.inl h0)) HB1.out
  go_wp2_with fail
  refine (all_c _ _ _ L _ (Hx.out.ext HB1.out) (by rw [HF.out]; omega)).mono ?_
  rintro e w2 ⟨v2, rfl, hown, hb2⟩
  obtain ⟨a2, c2, rfl, hi⟩ := own_ints hown
  have HB2 := Lib.hid (HB1.out.trans hb2)
  rw [HF.out] at hi ⊢
  have HI := Lib.hid hi
  have f1 := hi.fits; have f2 := hi.bound
  clear hown hb2 hi
  go_wp2_with fail
  refine (contains_c _ _ _ xs x _ HI.out).mono ?_
  rintro e w3 ⟨rfl, hb3⟩
  have HB3 := Lib.hid (HB2.out.trans hb3)
  clear hb3 HB2 HI
  by_cases hin : x ∈ xs
  · have hd : decide (x ∈ xs) = true := decide_eq_true hin
    have HIN := Lib.hid hin; clear hin
    go_wp2_with fail
    go_ret2
    exact RetGE.err (S2'.out (.inr HIN.out)) HB3.out
  have hd : decide (x ∈ xs) = false := decide_eq_false hin
  have hno : ¬ (x < 0 ∨ x ∈ xs) := by rintro (h | h); exact absurd h (by omega); exact hin h
  have S3 := Lib.hid (S3'.out hno); clear hno hin S2' S3'
  go_wp2_with fail
  refine (trim_c _ _ _ L _ (Hx.out.ext HB3.out) (fun i => by have := HRL.out i; omega) hn).mono ?_
  rintro e w4 ⟨v4, vs4, rfl, hgr0, hb4⟩
  have HB4 := Lib.hid (HB3.out.trans hb4)
  have hgr := hgr0.base HB3.out.size
  clear hgr0 hb4 HB3
  obtain ⟨a4, c4, rfl⟩ := hgr.own.slice
  have hTR : ∀ i, ((trimL L).getD i []).length ≤ xs.length := fun i => by rw [trimL_getD]; exact HRL.out i
  have HTR := Lib.hid hTR
  have hRPe : repL L j x = (if ((trimL L).set j []).length ≤ min (j + 1) 4 then (trimL L).set j [] ++ [[]] else (trimL L).set j []).set (min (j + 1) 4) ((if ((trimL L).set j []).length ≤ min (j + 1) 4 then (trimL L).set j [] ++ [[]] else (trimL L).set j []).getD (min (j + 1) 4) [] ++ [x]) := HRP.out.symm
  have HRPE := Lib.hid hRPe
  clear hTR hRPe HRP
  generalize trimL L = T at *
  obtain ⟨G, e0, d0, d1, d2⟩ := hgr.cell0 (by decide) HJT.out
  cases e0
  have hst := hgr.strike (by decide) HJT.out
  have hbs : Ext w (w4.setCell ⟨G, j, none⟩ (.slice none 0 0)) := HB4.out.setCell (p := ⟨G, j, none⟩) d2 _
  obtain ⟨_, _, e, m1, m2, _⟩ := hgr.own.rd
  cases e
  have HST := Lib.hid hst; have HBS := Lib.hid hbs
  have hM1 : (T.set j []).length = T.length := List.length_set
  have hjt := HJT.out
  have hM1r : ∀ i, ((T.set j []).getD i []).length ≤ xs.length := by
    intro i; rw [getD_set _ _ _ _ _ hjt]; split
    · simp
    · exact HTR.out i
  have HM1R := Lib.hid hM1r
  clear hgr hst hbs hM1r HTR
  obtain ⟨t, ht⟩ : ∃ t : Nat, t = min (j + 1) 4 := ⟨_, rfl⟩
  have hmin : (if (4 : Int) < (j : Int) + 1 then (4 : Int) else (j : Int) + 1) = (t : Int) := by split <;> omega
  have t1 : t ≤ 4 := by omega
  have t2 : T.length ≤ t → t = T.length := by omega
  have HT2 := Lib.hid t2
  rw [← ht, hM1] at HRPE
  have HM1 := Lib.hid hM1
  have HT := Lib.hid ht
  clear t2 hM1 hjt ht
  go_upto_if 42 with fail
  generalize w4.setCell ⟨G, j, none⟩ (.slice none 0 0) = W at *
  go_cut [10] (fun v w' => ∃ (M : List (List Int)) (vs : List Value) (G c : Nat), v = .slice (some ⟨G, 0, none⟩) M.length c ∧ OGr w' w.heap.size 25 3 v vs M ∧ t < M.length ∧ M.set t (M.getD t [] ++ [x]) = repL L j x ∧ (M.getD t []).length ≤ xs.length ∧ Ext w w')
  case first =>
    by_cases hle : T.length ≤ t
    · have hfin : (T.set j [] ++ [[]]).set t ((T.set j [] ++ [[]]).getD t [] ++ [x]) = repL L j x := by rw [HRPE.out, if_pos hle]
      have HFIN := Lib.hid hfin; clear hfin HRPE
      have HTE := Lib.hid (HT2.out hle)
      have hout := HST.out.ext ((Ext.refl _).alloc (.cells #[.slice none 0 0] 25))
      have HOut := Lib.hid hout
      clear hout
      go_wp2_with (at_builtin; refine wpList_append_any rfl _ _ 22 rfl w.heap.size 25 _ 1 24 Try.underlying22 Try.infoInts rfl (by decide) _ _ _ rfl HOut.out.own _ _ _ [.slice none 0 0] rfl rfl (fun h => by cases h) (Rd.lit _ _ _) (by intro u hu; rw [List.mem_singleton.1 hu]; rfl) (by rw [HM1.out]; omega) (by rw [HM1.out]; omega) (by have := HBS.out.size; simp; omega) ?_; intro v' w6 hown' hg _)
      have hb6 := below_own (HBS.out.alloc (.cells #[.slice none 0 0] 25)) HOut.out.own hg (by have := HBS.out.size; simp; omega)
      have hgr6 := HOut.out.push (l := []) (B' := (W.alloc (.cells #[.slice none 0 0] 25)).heap.size) (by decide) (Own.nil _ _ _ _) (by have := HBS.out.size; simp; omega) HOut.out.lt hown' hg
      obtain ⟨G6, c6, e6⟩ := hgr6.addr (by simp)
      subst e6
      have HG6 := Lib.hid hgr6; have HB6 := Lib.hid hb6
      clear hgr6 hb6 hown' hg
      go_wp2_with fail
      go_meet
      exact ⟨T.set j [] ++ [[]], _, G6, c6, by simp, HG6.out, by have := HTE.out; have := HM1.out; simp; omega, HFIN.out, by rw [getD_snoc]; split; exact HM1R.out _; split <;> simp, HB6.out⟩
    · have hfin : (T.set j []).set t ((T.set j []).getD t [] ++ [x]) = repL L j x := by rw [HRPE.out, if_neg hle]
      have HFIN := Lib.hid hfin; clear hfin HRPE
      go_wp2_with fail
      go_meet
      exact ⟨_, _, _, _, by rw [HM1.out], HST.out, by rw [HM1.out]; omega, HFIN.out, HM1R.out _, HBS.out⟩
  case rest =>
    obtain ⟨M, vs, G, c, rfl, hgr, hlt, hfin, hrow, hbel⟩ := hcut
    have HFIN := Lib.hid hfin
    have HBel := Lib.hid hbel
    have HLt := Lib.hid hlt
    obtain ⟨g, ai, ci, e0, k1, k2, k3, k4⟩ := hgr.head (i := t) hlt
    cases e0
    obtain ⟨_, _, e, m3, m4, _⟩ := hgr.own.rd
    cases e
    have HOWN1 := Lib.hid (hgr.ext ((Ext.refl _).alloc (.cells #[.int .i64 x] 3)))
    generalize M.getD t [] = R at *
    have HRow := Lib.hid k3
    have HVs := Lib.hid k2
    clear HRPE hfin hbel hgr k2 k3 HB4 HST HBS HM1R HM1
    go_wp2_with (at_builtin; refine wpList_append_any rfl _ _ 25 rfl w.heap.size 3 _ 1 8 Try.underlying25 Try.infoInt rfl (by decide) _ _ _ rfl (HRow.out.ext ((Ext.refl _).alloc _)) _ _ _ [.int .i64 x] rfl rfl (fun h => by cases h) (Rd.lit _ _ _) (by intro u hu; rw [List.mem_singleton.1 hu]; rfl) (by omega) (by omega) (by have := HBel.out.size; simp; omega) ?_; intro v' w9 hown' hg hfr; obtain ⟨a', c', e2⟩ := hown'.slice; subst e2; obtain ⟨g', e1, d0, d1, d2, d3⟩ := HOWN1.out.cell (i := t) (by decide) HLt.out hg (.inr (by rw [HVs.out]; rfl)); cases e1)
    have hput := HOWN1.out.put (i := t) (by decide) rfl HLt.out (l := R ++ [x]) (by simpa using hown') hg (.inr (by rw [HVs.out]; rfl)) hfr
    have hb5 := (below_own (HBel.out.alloc (.cells #[.int .i64 x] 3)) (HRow.out.ext ((Ext.refl _).alloc _)) hg (by have := HBel.out.size; simp; omega)).setCell (p := ⟨G, t, none⟩) k4 (.slice a' (R.length + 1) c')
    have HP := Lib.hid hput
    have HB5 := Lib.hid hb5
    clear hput hb5 hown' hg hfr
    go_wp2_with fail
    go_ret2
    exact RetGE.mk S3.out (HFIN.out ▸ HP.out) HB5.out

end Go.Proofs.Ytkkafjknogfdnaa
