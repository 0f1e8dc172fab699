/- Walks: clones, trimmed levels, five levels. Walks: the document's five levels, and trimmed ones. -/
import Derived.Test.YtmgpffknmmoggaaGreatDoorChecked
import Derived.Test.YtmgpffknmmoggaaGreatDoorG19PIndexPlay
import Derived.Test.YtmgpffknmmoggaaGreatDoorG1PIndexPlay
import Derived.WalkSpells
set_option linter.unusedVariables false
set_option linter.unusedSimpArgs false
namespace Go.Proofs.YtmgpffknmmoggaaGreatDoor
open Go.RowKit
theorem Rd.none {w : World} {cs : List Value} (h : Rd w none cs) : cs = [] := by
  cases cs with
  | nil => rfl
  | cons y ys => obtain ⟨b, off, e, _⟩ := h 0 y rfl; cases e
set_option maxRecDepth 100000 in
set_option maxHeartbeats 400000 in
theorem clone_c (ao : Option Addr) (n cap : Nat) (xs : List Int) (w : World) (hx : Ints w ao n cap xs) (hs : n ≤ 17592186044416) :
    Calls Tryz.prog 124 #[.slice ao n cap] w (RetI 3 w xs) := by
  have Hx := Lib.hid hx
  have b1 := hx.fits; have b2 := hx.bound
  have hl := hx.len
  have hnil := hx.nil
  have hq := fun (w : World) (a : Option Addr) (n c n' c' : Nat) => Lib.run_eql_slice_nil (P := Tryz.prog) w 88 3 a n c n' c' Tryz.underlying88
  cases ao with
  | none =>
    have h0 : xs = [] := by simpa using hx.rd.none
    have hc := hnil rfl
    subst h0 hc
    obtain rfl : n = 0 := by omega
    clear hx hl hnil
    go_enter Tryz.func124, Tryz.ntmps124
    go_wp2_with fail
    go_ret
    exact ⟨_, rfl, Own.nil _ _ _ _, Ext.refl _⟩
  | some a =>
    have HL := Lib.hid hl
    clear hx hl hnil
    go_enter Tryz.func124, Tryz.ntmps124
    go_wp2_with (at_builtin; refine wpList_append_any rfl _ _ 88 rfl w.heap.size 3 _ 1 8 Tryz.underlying88 Tryz.infoInt rfl (by decide) _ _ _ rfl (Own.lit w #[] 3 1 0 (Nat.le_refl _) rfl (by omega)) _ _ _ (xs.map (Value.int .i64)) rfl (by rw [List.length_map, HL.out]; omega) (fun h => by cases h) (Hx.out.rd.ext ((Ext.refl w).alloc _)) (ints_oneCell _ _) (by omega) (by omega) (by simp) ?_; intro v' w1 hown' hg _)
    have hb := below_own ((Ext.refl w).alloc (.cells #[] 3)) (Own.lit w #[] 3 1 0 (Nat.le_refl _) rfl (by omega)) hg (by simp)
    have HB := Lib.hid hb
    have HO := Lib.hid hown'
    clear hb hown' hg
    go_wp2_with fail
    go_ret
    exact ⟨_, rfl, by have := HO.out; rw [HL.out]; simpa using this, HB.out⟩
set_option maxRecDepth 100000 in
set_option maxHeartbeats 1600000 in
theorem clip_c (ao : Option Addr) (n cap : Nat) (w : World) (h : n ≤ cap) (_hb : cap ≤ 9223372036854775807) :
    Calls Tryz.prog 171 #[.slice ao n cap] w fun e w' => e = .returned (.slice ao n n) ∧ w = w' := by
  go_enter Tryz.func171, Tryz.ntmps171
  go_wp2_with fail
  go_ret
  exact ⟨rfl, rfl⟩
set_option maxRecDepth 100000 in
set_option maxHeartbeats 1600000 in
theorem ltrim_c (ao : Option Addr) (n cap : Nat) (L : List (List Int)) (w : World) (hx : Grid w ao n cap L) (hs : ∀ i, (L.getD i []).length ≤ 17592186044416) (hn : n ≤ 1000000000) :
    Calls Tryz.prog 116 #[.slice ao n cap] w (RetG 88 3 w (trimL L)) := by
  have Hx := Lib.hid hx
  have b1 := hx.fits; have b2 := hx.bound
  clear hx
  go_enter Tryz.func116, Tryz.ntmps116
  go_wp2_with fail
  go_loopw [3, 8] (fun v i w' => ∃ k : Nat, k ≤ n ∧ i = .int .i64 k ∧ (∃ vs, OGr w' w.heap.size 88 3 v vs (L.take k)) ∧ Ext w w') (fun _ i _ => n - (intOf i).toNat)
  case atStart => exact ⟨0, Nat.zero_le _, rfl, ⟨[], OGr.nil _ _ _ _⟩, Ext.refl _⟩
  case round =>
    obtain ⟨k, hk, rfl, ⟨vs, hown⟩, hb⟩ := hrel
    have Hb := Lib.hid hb; clear hb
    have Hown := Lib.hid hown; clear hown
    by_cases hlt : k < n
    · obtain ⟨b, off, ai, ni, ci, rfl, c1, r1⟩ := (Hx.out.ext Hb.out).at hlt
      have hkl : k < L.length := by rw [Hx.out.len]; exact hlt
      have hni : ni ≤ 17592186044416 := by have := r1.len; have := hs k; omega
      have htk := take_succ_getD L [] k hkl
      generalize L.getD k [] = R at *
      have R1 := Lib.hid r1; clear r1
      have HTK := Lib.hid htk; clear htk
      go_wp2_with fail
      refine (clone_c _ _ _ R _ R1.out hni).mono ?_
      rintro e w1 ⟨vi, rfl, hvi, hb1⟩
      obtain ⟨ai', ci', rfl⟩ := hvi.slice
      have HV := Lib.hid hvi
      have HB1 := Lib.hid hb1
      have hsz := hb1.size
      have hsz0 := Hb.out.size
      clear hvi hb1
      have hlk : (L.take k).length = k := by simp; omega
      have HLK := Lib.hid hlk; clear hlk
      have hout : OGr (w1.alloc (.cells #[.slice ai' R.length ci'] 88)) w.heap.size 88 3 u3 vs (L.take k) := (Hown.out.ext HB1.out).ext ((Ext.refl _).alloc _)
      have HOut := Lib.hid hout; clear hout
      go_wp2_with (at_builtin; refine wpList_append_any rfl _ _ 36 rfl w.heap.size 88 _ 1 24 Tryz.underlying36 Tryz.infoInts rfl (by decide) _ _ _ rfl HOut.out.own _ _ _ [.slice ai' R.length ci'] rfl rfl (fun h => by cases h) (Rd.lit _ _ _) (by intro u hu; rw [List.mem_singleton.1 hu]; rfl) (by rw [HLK.out]; omega) (by rw [HLK.out]; omega) (by simp; omega) ?_; intro v' w2 hown' hg _)
      have hb2 := below_own (Hb.out.trans (HB1.out.alloc _)) HOut.out.own hg (by simp; omega)
      have HB2 := Lib.hid hb2; clear hb2
      have hgr := HOut.out.push (by decide) (HV.out.ext ((Ext.refl _).alloc _)) hsz0 Hown.out.lt hown' hg
      rw [← HTK.out] at hgr
      have HGR := Lib.hid hgr; clear hgr hown' hg
      go_wp2_with fail
      go_roundw
      case rel => exact ⟨k + 1, by omega, by go_num, ⟨_, HGR.out⟩, HB2.out⟩
      case measure => simp [intOf]; omega
    · have hkn : k = n := by omega
      have hL : L.take k = L.take n := by rw [hkn]
      rw [hL] at Hown
      clear hL hkn
      have hll := Hx.out.len
      have h1 := Hown.out
      obtain ⟨ao1, cap1, rfl, _⟩ := h1.grid
      have hnn : (L.take n).length = n := by simp; omega
      rw [hnn] at h1
      rw [hnn]
      have HLL := Lib.hid hll; clear hll
      have H1 := Lib.hid h1; clear h1 hnn Hown
      go_wp2_with fail
      go_loopw [3] (fun v w' => ∃ m : Nat, m ≤ n ∧ (∃ ao c vs, v = .slice ao m c ∧ OGr w' w.heap.size 88 3 v vs (L.take m)) ∧ trimN L m = trimN L n ∧ Ext w w') (fun v _ => lenS v)
      case atStart => exact ⟨n, Nat.le_refl _, ⟨_, _, _, rfl, H1.out⟩, rfl, Hb.out⟩
      case round =>
        clear Hb H1 hlt hk
        obtain ⟨m, hm, ⟨ao2, c2, vs2, rfl, hown⟩, htn, hb⟩ := hrel
        have HTN := Lib.hid htn; clear htn
        have Hb := Lib.hid hb; clear hb
        have Hown := Lib.hid hown; clear hown
        have hmm : (L.take m).length = m := by have := HLL.out; simp; omega
        have fin : ∀ w', Ext w w' → OGr w' w.heap.size 88 3 (.slice ao2 m c2) vs2 (L.take m) → trimN L m = m → RetG 88 3 w (trimL L) (.returned (.slice ao2 m m)) w' := by
          intro w' he hg ht
          have hT : trimL L = (L.take m).take m := by
            rw [trimL, HLL.out, ← HTN.out, ht, List.take_take, Nat.min_self]
          refine ⟨_, vs2.take m, rfl, ?_, he⟩
          rw [hT]
          obtain ⟨_, _, e, hgr⟩ := hg.grid
          rw [hmm] at e
          cases e
          exact hg.cut hmm (Nat.le_refl _) (Nat.le_refl _) (by have := hgr.fits; omega)
        have FIN := Lib.hid fin; clear fin
        have hgr := Hown.out.grid
        obtain ⟨_, _, e, hgr⟩ := hgr
        rw [hmm] at e hgr
        cases e
        have HGR := Lib.hid hgr
        have f1 := hgr.fits; have f2 := hgr.bound
        clear hgr
        have HMM := Lib.hid hmm; clear hmm
        cases m with
        | zero =>
          go_wp2_with (go_at_call 171; (with_reducible refine (clip_c _ _ _ _ (by omega) (by omega)).mono ?_); rintro e w1 ⟨rfl, rfl⟩)
          go_ret
          exact FIN.out _ Hb.out Hown.out rfl
        | succ m =>
          obtain ⟨b, off, ai, ni, ci, rfl, c1, r1⟩ := HGR.out.at (Nat.lt_succ_self m)
          have hrow : (L.take (m + 1)).getD m [] = L.getD m [] := getD_take_lt _ _ _ _ (by omega)
          rw [hrow] at r1
          have hR := r1.len
          have g1 := r1.fits; have g2 := r1.bound
          have HR := Lib.hid hR
          clear r1 hrow hR
          by_cases h0 : ni = 0
          · have he : L.getD m [] = [] := List.eq_nil_of_length_eq_zero (by have := HR.out; omega)
            have HE := Lib.hid he; clear he
            subst h0
            go_wp2_with fail
            go_roundw
            case rel =>
              refine ⟨m, by omega, ⟨_, _, vs2.take m, rfl, ?_⟩, by rw [← trimN_empty L m HE.out]; exact HTN.out, Hb.out⟩
              have hc := Hown.out.cut HMM.out (m := m) (c := c2) (by omega) (by omega) (Nat.le_refl _)
              rw [List.take_take, Nat.min_eq_left (by omega)] at hc
              exact hc
            case measure => simp [lenS]
          · have hne : L.getD m [] ≠ [] := by intro h; have := HR.out; rw [h] at this; simp at this; omega
            have hz : ((ni : Int) == 0) = false := by simpa using h0
            have HNE := Lib.hid hne; clear hne h0
            go_wp2_with (go_at_call 171; (with_reducible refine (clip_c _ _ _ _ (by omega) (by omega)).mono ?_); rintro e w1 ⟨rfl, rfl⟩)
            go_ret
            exact FIN.out _ Hb.out Hown.out (trimN_stop L m HNE.out)
end Go.Proofs.YtmgpffknmmoggaaGreatDoor
namespace Go.Proofs.YtmgpffknmmoggaaGreatDoor
open Go.RowKit
theorem OGr.made {w : World} {B : Nat} {tO tI : TypeId} {v : Value} (h : Own w B tO 1 v 5 (List.replicate 5 (.slice none 0 0))) : OGr w B tO tI v (List.replicate 5 (.slice none 0 0)) (List.replicate 5 []) := by
  have e : ∀ {α : Type} (d : α) (n i : Nat), (List.replicate n d).getD i d = d := by
    intro α d n i
    simp only [List.getD_eq_getElem?_getD, List.getElem?_replicate]
    split <;> rfl
  refine ⟨h, fun i => ?_, fun i j g _ hg => ?_⟩
  · rw [e, e]; exact Own.nil _ _ _ _
  · rw [e] at hg; cases hg
set_option maxRecDepth 100000 in
set_option maxHeartbeats 1600000 in
theorem wide_c (ao : Option Addr) (n cap : Nat) (L : List (List Int)) (w : World) (hx : Grid w ao n cap L) (hs : ∀ i, (L.getD i []).length ≤ 17592186044416) (hn : n ≤ 5) :
    Calls Tryz.prog 123 #[.slice ao n cap] w (RetG 88 3 w (wideL L)) := by
  have Hx := Lib.hid hx
  have b1 := hx.fits; have b2 := hx.bound
  clear hx
  obtain ⟨i, hi, hz, hsize, hby⟩ := info_parts Tryz.infoInts
  go_enter Tryz.func123, Tryz.ntmps123
  go_wp2_with (at_make; refine wpList_make_full _ rfl _ _ 36 rfl w.heap.size 88 i (.slice none 0 0) 1 Tryz.underlying36 hi hz hsize .i64 .i64 5 5 5 rfl rfl rfl rfl (by rw [hby]; omega) (by unfold maxLen; omega) (Nat.le_refl _) ?_; intro w1 hown hg)
  clear hi hz hsize hby
  have h0 : OGr w1 w.heap.size 88 3 (.slice (some ⟨w.heap.size, 0, none⟩) 5 5) (List.replicate 5 (.slice none 0 0)) (wideL (L.take 0)) := by
    have := Own.of_row hown
    have e : (madeCells (Value.cells (.slice none 0 0)) (5 * 1)).toList = List.replicate 5 (.slice none 0 0) := toList_madeCells_one _ _
    rw [e] at this
    exact OGr.made this
  have H0 := Lib.hid h0
  have hb0 : Ext w w1 := (Ext.refl w).grown hg (Nat.le_refl _) (fun k hk => by cases hk)
  have HB0 := Lib.hid hb0
  clear h0 hown hg hb0
  go_wp2_with fail
  go_loopw [4] (fun i w' => ∃ k : Nat, k ≤ n ∧ i = .int .i64 k ∧ (∃ vs, OGr w' w.heap.size 88 3 (.slice (some ⟨w.heap.size, 0, none⟩) 5 5) vs (wideL (L.take k))) ∧ Ext w w') (fun i _ => n - (intOf i).toNat)
  case atStart => exact ⟨0, Nat.zero_le _, rfl, ⟨_, H0.out⟩, HB0.out⟩
  case round =>
    clear H0 HB0
    obtain ⟨k, hk, rfl, ⟨vs, hown⟩, hb⟩ := hrel
    have Hb := Lib.hid hb; clear hb
    have Hown := Lib.hid hown; clear hown
    by_cases hlt : k < n
    · obtain ⟨b, off, ai, ni, ci, rfl, c1, r1⟩ := (Hx.out.ext Hb.out).at hlt
      have hkl : k < L.length := by rw [Hx.out.len]; exact hlt
      have hwl : (wideL (L.take k)).length = 5 := wideL_length _ (by simp; omega)
      have hni : ni ≤ 17592186044416 := by have := r1.len; have := hs k; omega
      have hws := wideL_succ L k hkl (by have := Hx.out.len; omega)
      generalize L.getD k [] = R at *
      have R1 := Lib.hid r1; clear r1
      have HWS := Lib.hid hws; clear hws
      have HWL := Lib.hid hwl; clear hwl
      go_wp2_with (at_builtin; refine wpList_append_any rfl _ _ 88 rfl w.heap.size 3 _ 1 8 Tryz.underlying88 Tryz.infoInt rfl (by decide) _ _ _ rfl (Own.nil _ _ _ _) _ _ _ (R.map (Value.int .i64)) rfl (by rw [List.length_map, R1.out.len]; omega) R1.out.nil R1.out.rd (ints_oneCell _ _) (by omega) (by omega) Hb.out.size ?_; intro v' w2 hown' hg hfr; simp only [Nat.zero_add, List.nil_append] at hown'; obtain ⟨a', c', e2⟩ := hown'.slice; subst e2; obtain ⟨g, e1, d0, d1, d2, d3⟩ := Hown.out.cell (i := k) (by decide) (by rw [HWL.out]; omega) hg (.inl rfl); cases e1)
      have hput := Hown.out.put (i := k) (by decide) rfl (by rw [HWL.out]; omega) (l := R) (by have := hown'; rw [R1.out.len]; simpa using this) hg (.inl rfl) hfr
      have hb2 := (below_own Hb.out (Own.nil _ w.heap.size 3 1) hg Hb.out.size).setCell (p := ⟨w.heap.size, k, none⟩) (Nat.le_refl _) (.slice a' ni c')
      rw [HWS.out] at hput
      have HP := Lib.hid hput
      have HB2 := Lib.hid hb2
      clear hput hb2 hown' hg hfr
      go_wp2_with fail
      go_roundw
      case rel => exact ⟨k + 1, by omega, by go_num, ⟨_, HP.out⟩, HB2.out⟩
      case measure => simp [intOf]; omega
    · have hk2 : L.take k = L := List.take_of_length_le (by have := Hx.out.len; omega)
      have HK := Lib.hid hk2; clear hk2
      go_wp2_with fail
      go_ret
      exact ⟨_, _, rfl, by have := Hown.out; rw [HK.out] at this; exact this, Hb.out⟩
set_option maxRecDepth 100000 in
set_option maxHeartbeats 800000 in
theorem reftrim_c (ao : Option Addr) (n cap : Nat) (L : List (List Int)) (w : World) (hx : Grid w ao n cap L) :
    Calls Tryz.prog 72 #[.slice ao n cap] w fun e w' => e = .returned (.slice ao (trimN L n) cap) ∧ Ext w w' := by
  have Hx := Lib.hid hx
  have b1 := hx.fits; have b2 := hx.bound
  clear hx
  go_enter Tryz.func72, Tryz.ntmps72
  go_wp2_with fail
  go_loopw [3] (fun i w' => ∃ m : Nat, m ≤ n ∧ i = .int .i64 m ∧ trimN L m = trimN L n ∧ Ext w w') (fun i _ => (intOf i).toNat)
  case atStart => exact ⟨n, Nat.le_refl _, rfl, rfl, Ext.refl _⟩
  case round =>
    obtain ⟨m, hm, rfl, htn, hb⟩ := hrel
    have HTN := Lib.hid htn; clear htn
    have Hb := Lib.hid hb; clear hb
    cases m with
    | zero =>
      have ht : trimN L n = 0 := HTN.out.symm
      have HT := Lib.hid ht; clear ht
      go_wp2_with fail
      go_ret
      exact ⟨by rw [HT.out]; rfl, Hb.out⟩
    | succ m =>
      obtain ⟨b, off, ai, ni, ci, rfl, c1, r1⟩ := (Hx.out.ext Hb.out).at (show m < n by omega)
      have hR := r1.len
      have g1 := r1.fits; have g2 := r1.bound
      have HR := Lib.hid hR
      clear r1 hR
      by_cases h0 : ni = 0
      · have he : L.getD m [] = [] := List.eq_nil_of_length_eq_zero (by have := HR.out; omega)
        have HE := Lib.hid he; clear he
        subst h0
        go_wp2_with fail
        go_roundw
        case rel => exact ⟨m, by omega, by go_num, by rw [← trimN_empty L m HE.out]; exact HTN.out, Hb.out⟩
        case measure => simp [intOf]
      · have hne : L.getD m [] ≠ [] := by intro h; have := HR.out; rw [h] at this; simp at this; omega
        have hz : ((ni : Int) == 0) = false := by simpa using h0
        have hT : trimN L n = m + 1 := by rw [← HTN.out]; exact trimN_stop L m hne
        have HNE := Lib.hid hne; clear hne h0
        have HT := Lib.hid hT; clear hT
        go_wp2_with fail
        go_ret
        exact ⟨by rw [HT.out]; rfl, Hb.out⟩
end Go.Proofs.YtmgpffknmmoggaaGreatDoor
