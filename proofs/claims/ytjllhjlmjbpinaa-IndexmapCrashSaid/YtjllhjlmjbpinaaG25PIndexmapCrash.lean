/- Walks: the law IndexmapCrash. -/
import Derived.Test.YtjllhjlmjbpinaaG24PIndexmapCrash
import Derived.Test.YtjllhjlmjbpinaaG23PIndexmapCrash
import Derived.Deep.Cut
import Derived.Laws.BitsLemmas
set_option linter.unusedVariables false
set_option linter.unusedSimpArgs false
namespace Go.Proofs.Ytjllhjlmjbpinaa
open Go.RowKit

theorem msame_trim (nx ck sd : Int) (L : List (List Int)) : msame nx ck sd (trimL L) nx ck sd L = true := by rw [msame_yes, trimL_trimL]; simp
theorem sizeS {σ : DM} {S : List UInt8} (h : HasS σ mapN (some S)) : findN FM.nm mapN σ.L = some ⟨mapN, S, S.length⟩ := h
theorem size0 {σ : DM} (h : HasS σ mapN none) (hup : σ.down = false) : sizeM σ mapN = (0, 4) := by
  unfold sizeM
  rw [if_neg (by rw [hup]; decide), show findN FM.nm mapN σ.L = none from h]

/-- the disk as it is when it is to fail, when it went down, when it is up again -/
structure Laid (σ : DM) (v : Bool) (S : List UInt8) (o : Option (List UInt8)) (c : Int) (τ : DM) : Prop where
  ok : c = 0 → v = true ∧ τ.down = false ∧ HasS τ mapN (some S)
  no : c ≠ 0 → HasS τ mapN o
  arg : (c == 2) = !v

theorem laid_swap {σ : DM} {o : Option (List UInt8)} (h : HasS σ mapN o) (hup : σ.down = false) (v : Bool) (S : List UInt8) {r : Int × DM} (hr : swapM σ S (if v then 0 else 2) = r) : Laid σ v S o r.1 r.2 := by
  subst hr
  cases v with
  | true =>
    rcases swap_cases h hup S with ⟨h0, h1, h2⟩ | ⟨h0, h1, h2⟩
    · exact ⟨fun _ => ⟨rfl, h1, h2⟩, fun e => absurd h0 e, by rw [show (if true = true then (0 : Int) else 2) = 0 from rfl, h0]; rfl⟩
    · exact ⟨fun e => absurd e h0, fun _ => h2, by rw [show (if true = true then (0 : Int) else 2) = 0 from rfl]; simpa using h1⟩
  | false => exact ⟨fun e => (by cases e), fun _ => h, rfl⟩

set_option maxRecDepth 100000
set_option linter.unusedVariables false
set_option maxHeartbeats 12800000

theorem crashmap_c (nx ck sd : Int) (ao : Option Addr) (n cap : Nat) (L : List (List Int)) (nx' ck' sd' : Int) (bo : Option Addr) (m cap2 : Nat) (L' : List (List Int)) (co : Option Addr) (k cap3 : Nat) (bs : List Int) (w : World)
    (hx : Grid w ao n cap L) (hy : Grid w bo m cap2 L') (hz : U8s w co k cap3 bs)
    (hwf : ∀ x ∈ L.flatten, (Lit.int .i64 x).wf = true) (hs0 : 0 ≤ sd) (hs1 : sd < 18446744073709551616) (hwf' : ∀ x ∈ L'.flatten, (Lit.int .i64 x).wf = true) (hs0' : 0 ≤ sd') (hs1' : sd' < 18446744073709551616) (hwb : ∀ x ∈ bs, (Lit.int .u8 x).wf = true) :
    Calls Try.prog 5 #[.agg #[.int .i64 nx, .int .i64 ck, .int .u64 sd, .slice ao n cap], .agg #[.int .i64 nx', .int .i64 ck', .int .u64 sd', .slice bo m cap2], .slice co k cap3] w fun e w' => e = .returned (.bool true) ∧ Ext w w' := by
  have Hx := Lib.hid hx; have Hy := Lib.hid hy; have Hz := Lib.hid hz
  have HWF := Lib.hid hwf; have HWF' := Lib.hid hwf'; have HWB := Lib.hid hwb
  have S0 := Lib.hid hs0; have S1 := Lib.hid hs1; have S0' := Lib.hid hs0'; have S1' := Lib.hid hs1'
  have b1 := hz.fits; have b2 := hz.bound
  have HLz := Lib.hid hz.len
  clear hx hy hz hwf hwf' hwb hs0 hs1 hs0' hs1'
  obtain ⟨W0, hW0⟩ : ∃ W, (w.alloc (.cells #[.int .i64 nx, .int .i64 ck, .int .u64 sd, .slice ao n cap] 45)).alloc (.cells #[.int .i64 nx', .int .i64 ck', .int .u64 sd', .slice bo m cap2] 45) = W := ⟨_, rfl⟩
  have HE0 : Hid (Ext w W0) := Lib.hid (by rw [← hW0]; exact ext_a2 w _ _)
  have HBm : Hid (Blk W0 w.heap.size 45 #[.int .i64 nx, .int .i64 ck, .int .u64 sd, .slice ao n cap]) := Lib.hid (by rw [← hW0]; exact (Blk.new w _ _).ext (ext_a1 _ _))
  have HBn : Hid (Blk W0 (w.heap.size + 1) 45 #[.int .i64 nx', .int .i64 ck', .int .u64 sd', .slice bo m cap2]) := Lib.hid (by
    rw [← hW0]; have h := Blk.new (w.alloc (.cells #[.int .i64 nx, .int .i64 ck, .int .u64 sd, .slice ao n cap] 45)) 45 #[.int .i64 nx', .int .i64 ck', .int .u64 sd', .slice bo m cap2]
    rw [World.size_alloc] at h; exact h)
  have HC : Hid (∀ W, Ext W0 W → (W.cell? ⟨w.heap.size, 0, none⟩ = some (.int .i64 nx) ∧ W.cell? ⟨w.heap.size, 1, none⟩ = some (.int .i64 ck) ∧ W.cell? ⟨w.heap.size, 2, none⟩ = some (.int .u64 sd) ∧ W.cell? ⟨w.heap.size, 3, none⟩ = some (.slice ao n cap)) ∧
      (W.cell? ⟨w.heap.size + 1, 0, none⟩ = some (.int .i64 nx') ∧ W.cell? ⟨w.heap.size + 1, 1, none⟩ = some (.int .i64 ck') ∧ W.cell? ⟨w.heap.size + 1, 2, none⟩ = some (.int .u64 sd') ∧ W.cell? ⟨w.heap.size + 1, 3, none⟩ = some (.slice bo m cap2))) := Lib.hid fun W hW => by
    have h1 := HBm.out.ext hW; have h2 := HBn.out.ext hW
    exact ⟨⟨h1.cell 0, h1.cell 1, h1.cell 2, h1.cell 3⟩, ⟨h2.cell 0, h2.cell 1, h2.cell 2, h2.cell 3⟩⟩
  obtain ⟨⟨a0, a1, a2, a3⟩, ⟨c0, c1, c2, c3⟩⟩ := HC.out W0 (Ext.refl _)
  go_enter Try.func5, Try.ntmps5
  go_wp2_with fail
  try rw [hW0]
  have HW0 := Lib.hid hW0
  clear hW0
  refine (great_c _ _ _ L _ (Hx.out.ext HE0.out)).mono ?_
  rintro e w1 ⟨rfl, hb1⟩
  have HB1 := Lib.hid hb1; clear hb1
  obtain ⟨⟨a0, a1, a2, a3⟩, ⟨c0, c1, c2, c3⟩⟩ := HC.out w1 HB1.out
  by_cases hgr : greatB L = true
  · go_wp2_with fail
    refine (mapped_c _).mono ?_
    rintro e w' ⟨rfl, hx⟩
    have HX := Lib.hid ((HE0.out.trans HB1.out).trans hx)
    clear hx
    go_wp2_with fail
    go_ret
    exact ⟨rfl, HX.out⟩
  have hgr' : greatB L = false := by simpa using hgr
  have HGL := Lib.hid (great_len L hgr')
  clear hgr
  go_wp2_with fail
  refine (great_c _ _ _ L' _ (Hy.out.ext (HE0.out.trans HB1.out))).mono ?_
  rintro e w2 ⟨rfl, hb2⟩
  have HB2 := Lib.hid (HB1.out.trans hb2); clear hb2
  obtain ⟨⟨a0, a1, a2, a3⟩, ⟨c0, c1, c2, c3⟩⟩ := HC.out w2 HB2.out
  by_cases hgr2 : greatB L' = true
  · go_wp2_with fail
    refine (mapped_c _).mono ?_
    rintro e w' ⟨rfl, hx⟩
    have HX := Lib.hid ((HE0.out.trans HB2.out).trans hx)
    clear hx
    go_wp2_with fail
    go_ret
    exact ⟨rfl, HX.out⟩
  have hgr2' : greatB L' = false := by simpa using hgr2
  have HGL' := Lib.hid (great_len L' hgr2')
  clear hgr2
  by_cases hk20 : 20 < k
  · go_wp2_with fail
    refine (mapped_c _).mono ?_
    rintro e w' ⟨rfl, hx⟩
    have HX := Lib.hid ((HE0.out.trans HB2.out).trans hx)
    clear hx
    go_wp2_with fail
    go_ret
    exact ⟨rfl, HX.out⟩
  obtain ⟨v, hv⟩ : ∃ v, mvalid nx ck L = v := ⟨_, rfl⟩
  obtain ⟨v', hv'⟩ : ∃ v, mvalid nx' ck' L' = v := ⟨_, rfl⟩
  obtain ⟨S, hS⟩ : ∃ S, (mputS nx ck sd L).1 = S := ⟨_, rfl⟩
  obtain ⟨S', hS'⟩ : ∃ S, (mputS nx' ck' sd' L').1 = S := ⟨_, rfl⟩
  have HP : Hid (mputS nx ck sd L = (S, if v then 0 else 2)) := Lib.hid (by rw [← hS, ← hv]; unfold mputS; split <;> rename_i h <;> simp [h])
  have HP' : Hid (mputS nx' ck' sd' L' = (S', if v' then 0 else 2)) := Lib.hid (by rw [← hS', ← hv']; unfold mputS; split <;> rename_i h <;> simp [h])
  have HSl : Hid ((S.length : Int) ≤ 300) := Lib.hid (by
    rw [← hS]; unfold mputS; split
    · rename_i h; have := man_le sd h; show ((sealS (manBody nx ck sd L)).length : Int) ≤ 300; omega
    · show (([] : List UInt8).length : Int) ≤ 300; decide)
  have HSl' : Hid ((S'.length : Int) ≤ 300) := Lib.hid (by
    rw [← hS']; unfold mputS; split
    · rename_i h; have := man_le sd' h; show ((sealS (manBody nx' ck' sd' L')).length : Int) ≤ 300; omega
    · show (([] : List UInt8).length : Int) ≤ 300; decide)
  have HG : Hid (v = true → mgetS S = ⟨nx, ck, sd, trimL L, 0⟩) := Lib.hid (fun h => by rw [← hS]; unfold mputS; rw [if_pos (hv.trans h)]; exact mget_put (hv.trans h) S0.out S1.out)
  have HG' : Hid (v' = true → mgetS S' = ⟨nx', ck', sd', trimL L', 0⟩) := Lib.hid (fun h => by rw [← hS']; unfold mputS; rw [if_pos (hv'.trans h)]; exact mget_put (hv'.trans h) S0'.out S1'.out)
  have HV := Lib.hid hv; have HV' := Lib.hid hv'
  obtain ⟨f, hf⟩ : ∃ f : Int, (if v then (0 : Int) else 2) = f := ⟨_, rfl⟩
  obtain ⟨f', hf'⟩ : ∃ f : Int, (if v' then (0 : Int) else 2) = f := ⟨_, rfl⟩
  rw [hf] at HP
  rw [hf'] at HP'
  have HFe := Lib.hid hf; have HFe' := Lib.hid hf'
  clear hv hv' hS hS' hf hf'
  go_wp2_with fail
  refine (KD.new W0 20000 (by decide) (by decide) HB2.out).mono ?_
  rintro e w3 ⟨g, rfl, hkd⟩
  have HK := Lib.hid hkd
  clear hkd
  obtain ⟨⟨a0, a1, a2, a3⟩, ⟨c0, c1, c2, c3⟩⟩ := HC.out w3 HK.out.base
  go_wp2_with fail
  obtain ⟨F, hd0, hF, hx⟩ := HK.out
  refine (swap_c hd0 (Hx.out.ext (HE0.out.trans hx)) (by have := HGL.out.2.2; omega) HWF.out S0.out S1.out HP.out (by have := HSl.out; omega)).mono ?_
  have HSw : Hid (∃ o σ1, swapM (newM 20000) S f = (f, σ1) ∧ HasS σ1 mapN o ∧ σ1.down = false ∧ (v = true → o = some S) ∧ (v = false → o = none)) := Lib.hid (by
    have h := HFe.out
    cases v with
    | true => subst h; exact ⟨some S, _, swap_fresh S (by have := HSl.out; omega), rfl, rfl, fun _ => rfl, fun h => by cases h⟩
    | false => subst h; exact ⟨none, _, rfl, rfl, rfl, fun h => (by cases h), fun _ => rfl⟩)
  obtain ⟨o, σ1, ho, hho, hup, ho1, ho2⟩ := HSw.out
  rw [ho]
  rintro e w4 ⟨rfl, hd⟩
  have HK4 : Hid (KD W0 w4 g σ1) := Lib.hid (KD.dkS hF hx hd)
  have HHas := Lib.hid hho; have HUp := Lib.hid hup; have HO1 := Lib.hid ho1; have HO2 := Lib.hid ho2
  clear hd hd0 hF hx HK ho hho hup ho1 ho2 HSw F
  obtain ⟨⟨a0, a1, a2, a3⟩, ⟨c0, c1, c2, c3⟩⟩ := HC.out w4 HK4.out.base
  have hk8 : ∀ (W : World), Ext W0 W → Calls Try.prog 24 #[.agg #[.int .i64 nx, .int .i64 ck, .int .u64 sd, .slice ao n cap]] W fun e w' => e = .returned (.bool v) ∧ Ext W w' := fun W hW => by
    have h := mvalid_c nx ck sd _ _ _ L W (Hx.out.ext (HE0.out.trans hW)) (by have := HGL.out.2.2; omega) HWF.out
    rwa [HV.out] at h
  have HK8 := Lib.hid hk8
  have hk9 : ∀ (W : World), Ext W0 W → Calls Try.prog 24 #[.agg #[.int .i64 nx', .int .i64 ck', .int .u64 sd', .slice bo m cap2]] W fun e w' => e = .returned (.bool v') ∧ Ext W w' := fun W hW => by
    have h := mvalid_c nx' ck' sd' _ _ _ L' W (Hy.out.ext (HE0.out.trans hW)) (by have := HGL'.out.2.2; omega) HWF'.out
    rwa [HV'.out] at h
  have HK9 := Lib.hid hk9
  clear hk8 hk9 HV HV' HP HSl HWF HGL
  go_wp2_with fail
  refine (HK8.out w4 HK4.out.base).mono ?_
  rintro e w5 ⟨rfl, hx⟩
  have HK5 := Lib.hid (HK4.out.ext hx)
  clear hx
  have hfv : (f == 0) = v := by have h := HFe.out; cases v <;> subst h <;> rfl
  clear a0 a1 a2 a3 c0 c1 c2 c3
  go_upto_if 50 with fail
  go_cut [10] from 18 (fun s wc => (∃ A : Int, s = .int .i64 A ∧ 0 ≤ A ∧ A ≤ 255) ∧ wc = w5)
  case first =>
    by_cases hk0 : 0 < k
    · obtain ⟨b, off, rfl, z1⟩ := (Hz.out.ext (HE0.out.trans HK5.out.base)).at 0 hk0
      have z1' := z1
      rw [Nat.add_zero] at z1'
      have hwx := wf_getD HWB.out 0 (by decide)
      generalize bs.getD 0 0 = X at *
      have hX := bounds_u8 hwx
      clear hwx
      have hand : bits .and .u8 X 7 = X % 8 := bits_mask .u8 8 (by decide) wraps_u8 3 (by decide) X (by omega) (by omega)
      go_wp2_with fail
      go_meet
      case rel => exact ⟨⟨_, rfl, by omega, by omega⟩, rfl⟩
    · go_wp2_with fail
      go_meet
      case rel => exact ⟨⟨0, rfl, by omega, by omega⟩, rfl⟩
  case rest =>
  obtain ⟨⟨A, rfl, hA0, hA1⟩, rfl⟩ := hcut
  clear hfv
  go_wp2_with fail
  go_loopw [11, 12] (fun kv i wr => ∃ j : Nat, j ≤ k ∧ i = .int .i64 j ∧ Own wr wc.heap.size 3 1 kv j ((bs.take j).map (Value.int .i64)) ∧ Ext wc wr) (fun _ i _ => k - (intOf i).toNat)
  case atStart => exact ⟨0, Nat.zero_le _, rfl, Own.nil _ _ _ _, Ext.refl _⟩
  case round =>
  obtain ⟨j, hj, rfl, hown, hb⟩ := hrel
  have Hb := Lib.hid hb; clear hb
  have Hown := Lib.hid hown; clear hown
  by_cases hlt : j < k
  · obtain ⟨b, off, rfl, z1⟩ := (Hz.out.ext ((HE0.out.trans HK5.out.base).trans Hb.out)).at 0 hlt
    have hwx := wf_getD HWB.out j (by decide)
    have HT := Lib.hid (take_succ_getD bs 0 j (by rw [HLz.out]; exact hlt))
    generalize bs.getD j 0 = X at *
    have hX := bounds_u8 hwx
    clear hwx
    go_wp2_with (at_builtin; refine wpList_append_any rfl _ _ 32 rfl wc.heap.size 3 _ 1 8 Try.underlying32 Try.infoInt rfl (by decide) _ _ _ rfl (Hown.out.ext ((Ext.refl _).alloc _)) _ _ _ [.int .i64 X] rfl rfl (fun h => by cases h) (Rd.lit _ _ _) (by intro u hu; rw [List.mem_singleton.1 hu]; rfl) (by omega) (by omega) (by have := Hb.out.size; simp; omega) ?_; intro v' w6 hown' hg hfr)
    have hb1 := below_own (Hb.out.alloc (.cells #[.int .i64 X] 3)) (Hown.out.ext ((Ext.refl _).alloc _)) hg (by have := Hb.out.size; simp; omega)
    have HB6 := Lib.hid hb1; clear hb1
    have hown2 : Own w6 wc.heap.size 3 1 v' (j + 1) ((bs.take (j + 1)).map (Value.int .i64)) := by rw [HT.out, List.map_append]; exact hown'
    have HO := Lib.hid hown2; clear hown2 hown' hg hfr
    go_wp2_with fail
    go_roundw
    case rel => exact ⟨j + 1, by omega, by go_num, HO.out, HB6.out⟩
    case measure => simp [intOf]; omega
  · obtain rfl : j = k := by omega
    have HTk : Hid (bs.take j = bs) := Lib.hid (List.take_of_length_le (by rw [HLz.out]; exact Nat.le_refl _))
    have hown := Hown.out
    rw [HTk.out] at hown
    have hlt := hown.lt
    have hlz := HLz.out
    obtain ⟨ka, kc, rfl, hints⟩ := own_ints hown
    obtain ⟨F, hd, hF, hx⟩ := HK5.out
    have hFl : ∀ i, F i → i < wc.heap.size := by obtain ⟨_, _, _, _, _, _, h⟩ := hd; exact h
    have HD6 := Lib.hid (hd.ext Hb.out)
    have HF := Lib.hid hF
    have HX6 := Lib.hid (hx.trans Hb.out)
    have HKp := Lib.hid (hints.off (F := F) fun a e hf => by subst e; have h1 := (hlt a.block rfl).1; have h2 := hFl _ hf; omega)
    have HI := Lib.hid hints
    clear hown hlt hlz hints hd hF hx hFl HK5
    go_wp2_with fail
    refine (fail_c HD6.out A (by omega) HI.out (by omega)).mono ?_
    rw [show failD σ1 A bs = (0, { σ1 with fail := true, left := A, keep := bs }) from by unfold failD; rw [if_neg (by rw [HUp.out]; decide), if_neg (by omega)]]
    rintro e w7 ⟨rfl, hd⟩
    have HH := Lib.hid hd
    obtain ⟨σ2, hσ2⟩ : ∃ τ, ({ σ1 with fail := true, left := A, keep := bs } : DM) = τ := ⟨_, rfl⟩
    rw [hσ2] at HH
    have HHas2 : Hid (HasS σ2 mapN o) := Lib.hid (by rw [← hσ2]; exact HHas.out)
    have HUp2 : Hid (σ2.down = false) := Lib.hid (by rw [← hσ2]; exact HUp.out)
    clear hd hσ2 HHas HUp
    have HX := Lib.hid (HH.out.off.ext HX6.out HF.out)
    obtain ⟨⟨a0, a1, a2, a3⟩, ⟨c0, c1, c2, c3⟩⟩ := HC.out w7 HX.out
    go_wp2_with fail
    obtain ⟨r, hr⟩ : ∃ r, swapM σ2 S' f' = r := ⟨_, rfl⟩
    have HLaid : Hid (Laid σ2 v' S' o r.1 r.2) := Lib.hid (laid_swap HHas2.out HUp2.out v' S' (by rw [HFe'.out]; exact hr))
    have HR := Lib.hid hr
    obtain ⟨c, τ⟩ := r
    clear hr
    refine (swap_c HH.out.dk (Hy.out.ext (HE0.out.trans HX.out)) (by have := HGL'.out.2.2; omega) HWF'.out S0'.out S1'.out HP'.out (by have := HSl'.out; omega)).mono ?_
    rw [HR.out]
    rintro e w8 ⟨rfl, hd⟩
    have HH := Lib.hid (HH.out.trans hd)
    clear hd HX a0 a1 a2 a3 c0 c1 c2 c3
    go_wp2_with fail
    refine (up_c HH.out.dk).mono ?_
    rintro e w' ⟨rfl, rfl⟩
    go_upto_if 79 with fail
    go_cut [] from 18 (fun wc => ∃ τ', DkS wr g F τ' wc ∧ τ'.down = true ∧ ∀ o', HasS τ mapN o' → HasS τ' mapN o')
    case first =>
      cases hdn : τ.down with
      | true =>
        go_wp2_with fail
        go_meet
        case rel => exact ⟨τ, HH.out, hdn, fun _ h => h⟩
      | false =>
        have HCr : Hid (crashD τ bs = (0, crashM τ bs)) := Lib.hid (by unfold crashD; rw [if_neg (by rw [hdn]; decide)])
        go_wp2_with fail
        refine (crashD_c HH.out.dk _ _ _ bs (fun W hW => HKp.out W (HH.out.off.gr hW))).mono ?_
        rw [HCr.out]
        rintro e w9 ⟨rfl, hd⟩
        have HH := Lib.hid (HH.out.trans hd)
        clear hd
        go_wp2_with fail
        go_meet
        case rel => exact ⟨crashM τ bs, HH.out, rfl, fun o' h => h.crash bs⟩
    case rest =>
    obtain ⟨τ', hd', hdn', hhas'⟩ := hcut
    have HH := Lib.hid hd'
    have HSt : Hid (startM τ' = (0, { τ' with down := false, starts := wrap64 (τ'.starts + 1) })) := Lib.hid (by unfold startM; rw [if_pos hdn'])
    obtain ⟨τ3, hτ3⟩ : ∃ t, ({ τ' with down := false, starts := wrap64 (τ'.starts + 1) } : DM) = t := ⟨_, rfl⟩
    have HL0 : Hid (c = 0 → v' = true ∧ HasS τ3 mapN (some S')) := Lib.hid (fun h => ⟨(HLaid.out.ok h).1, by rw [← hτ3]; exact hhas' _ (HLaid.out.ok h).2.2⟩)
    have HL1 : Hid (c ≠ 0 → HasS τ3 mapN o) := Lib.hid (fun h => by rw [← hτ3]; exact hhas' _ (HLaid.out.no h))
    have HDn : Hid (τ3.down = false) := Lib.hid (by rw [← hτ3])
    have hca : (c == 2) = !v' := HLaid.out.arg
    rw [hτ3] at HSt
    clear hd' hdn' hhas' hτ3 HLaid HR
    go_wp2_with fail
    refine (start_c HH.out.dk).mono ?_
    rw [HSt.out]
    rintro e w10 ⟨rfl, hd⟩
    have HH := Lib.hid (HH.out.trans hd)
    clear hd
    go_wp2_with fail
    by_cases hc : c = 0
    case pos =>
      subst hc
      obtain ⟨hv1, hS3⟩ := HL0.out rfl
      subst hv1
      have HS3 := Lib.hid hS3
      clear hS3 hca
      refine (load_some HH.out.dk (sizeS HS3.out) HDn.out).mono ?_
      show ∀ e w', RetL _ _ _ _ (mgetS S') e w' → _
      rw [HG'.out rfl]
      rintro e w11 ⟨a5, c5, rfl, hg5, hd⟩
      have HX := Lib.hid (((HH.out.trans hd).off.ext HX6.out HF.out).trans (ext_a1 w11 (.cells #[.int .i64 nx', .int .i64 ck', .int .u64 sd', .slice a5 (trimL L').length c5] 45)))
      have hbx := Blk.new w11 45 #[.int .i64 nx', .int .i64 ck', .int .u64 sd', .slice a5 (trimL L').length c5]
      have HG5 := Lib.hid (hg5.ext (ext_a1 w11 (.cells #[.int .i64 nx', .int .i64 ck', .int .u64 sd', .slice a5 (trimL L').length c5] 45)))
      have HBx := Lib.hid hbx
      have d0 := hbx.cell 0; have d1 := hbx.cell 1; have d2 := hbx.cell 2; have d3 := hbx.cell 3
      obtain ⟨⟨a0, a1, a2, a3⟩, ⟨c0, c1, c2, c3⟩⟩ := HC.out _ HX.out
      clear hd hg5 hbx
      have hel : (trimL L').length ≤ 9223372036854775807 := by have h : (trimL L').length ≤ c5 := HG5.out.fits; have h2 := HG5.out.bound; omega
      go_wp2_with fail
      refine (refmsame_c nx' ck' sd' _ _ _ (trimL L') nx' ck' sd' _ _ _ L' _ HG5.out (Hy.out.ext (HE0.out.trans HX.out))).mono ?_
      rw [msame_trim]
      rintro e w12 ⟨rfl, hx⟩
      have HX := Lib.hid (HX.out.trans hx)
      have HBx := Lib.hid (HBx.out.ext hx)
      have HG5 := Lib.hid (HG5.out.ext hx)
      have d0 := HBx.out.cell 0; have d1 := HBx.out.cell 1; have d2 := HBx.out.cell 2; have d3 := HBx.out.cell 3
      obtain ⟨⟨a0, a1, a2, a3⟩, ⟨c0, c1, c2, c3⟩⟩ := HC.out _ HX.out
      clear hx
      go_wp2_with fail
      refine (mapped_c _).mono ?_
      rintro e w' ⟨rfl, hx⟩
      have HE := Lib.hid ((HE0.out.trans HX.out).trans hx)
      clear hx
      go_wp2_with fail
      go_ret
      exact ⟨rfl, HE.out⟩
    case neg =>
    have HS3 := Lib.hid (HL1.out hc)
    have hc0 : (c == 0) = false := by simpa using hc
    clear hc HL0 HL1
    cases v with
    | true =>
      obtain rfl : o = some S := HO1.out rfl
      obtain rfl : f = 0 := HFe.out.symm
      refine (load_some HH.out.dk (sizeS HS3.out) HDn.out).mono ?_
      show ∀ e w', RetL _ _ _ _ (mgetS S) e w' → _
      rw [HG.out rfl]
      rintro e w11 ⟨a5, c5, rfl, hg5, hd⟩
      have HX := Lib.hid (((HH.out.trans hd).off.ext HX6.out HF.out).trans (ext_a1 w11 (.cells #[.int .i64 nx, .int .i64 ck, .int .u64 sd, .slice a5 (trimL L).length c5] 45)))
      have hbx := Blk.new w11 45 #[.int .i64 nx, .int .i64 ck, .int .u64 sd, .slice a5 (trimL L).length c5]
      have HG5 := Lib.hid (hg5.ext (ext_a1 w11 (.cells #[.int .i64 nx, .int .i64 ck, .int .u64 sd, .slice a5 (trimL L).length c5] 45)))
      have HBx := Lib.hid hbx
      have d0 := hbx.cell 0; have d1 := hbx.cell 1; have d2 := hbx.cell 2; have d3 := hbx.cell 3
      obtain ⟨⟨a0, a1, a2, a3⟩, ⟨c0, c1, c2, c3⟩⟩ := HC.out _ HX.out
      clear hd hg5 hbx
      have hel : (trimL L).length ≤ 9223372036854775807 := by have h : (trimL L).length ≤ c5 := HG5.out.fits; have h2 := HG5.out.bound; omega
      go_wp2_with fail
      refine (refmsame_c nx ck sd _ _ _ (trimL L) nx ck sd _ _ _ L _ HG5.out (Hx.out.ext (HE0.out.trans HX.out))).mono ?_
      rw [msame_trim]
      rintro e w12 ⟨rfl, hx⟩
      have HX := Lib.hid (HX.out.trans hx)
      have HBx := Lib.hid (HBx.out.ext hx)
      have HG5 := Lib.hid (HG5.out.ext hx)
      have d0 := HBx.out.cell 0; have d1 := HBx.out.cell 1; have d2 := HBx.out.cell 2; have d3 := HBx.out.cell 3
      obtain ⟨⟨a0, a1, a2, a3⟩, ⟨c0, c1, c2, c3⟩⟩ := HC.out _ HX.out
      clear hx
      go_wp2_with fail
      refine (HK9.out _ HX.out).mono ?_
      rintro e w13 ⟨rfl, hx⟩
      have HX := Lib.hid (HX.out.trans hx)
      have HBx := Lib.hid (HBx.out.ext hx)
      have HG5 := Lib.hid (HG5.out.ext hx)
      have d0 := HBx.out.cell 0; have d1 := HBx.out.cell 1; have d2 := HBx.out.cell 2; have d3 := HBx.out.cell 3
      obtain ⟨⟨a0, a1, a2, a3⟩, ⟨c0, c1, c2, c3⟩⟩ := HC.out _ HX.out
      clear hx
      cases v' with
      | true =>
        go_wp2_with fail
        refine (refmsame_c nx ck sd _ _ _ (trimL L) nx' ck' sd' _ _ _ L' _ HG5.out (Hy.out.ext (HE0.out.trans HX.out))).mono ?_
        generalize msame nx ck sd (trimL L) nx' ck' sd' L' = qq
        rintro e w14 ⟨rfl, hx⟩
        have HX := Lib.hid (HX.out.trans hx)
        have HBx := Lib.hid (HBx.out.ext hx)
        have HG5 := Lib.hid (HG5.out.ext hx)
        have d0 := HBx.out.cell 0; have d1 := HBx.out.cell 1; have d2 := HBx.out.cell 2; have d3 := HBx.out.cell 3
        obtain ⟨⟨a0, a1, a2, a3⟩, ⟨c0, c1, c2, c3⟩⟩ := HC.out _ HX.out
        clear hx
        go_wp2_with fail
        refine (HK9.out _ HX.out).mono ?_
        rintro e w15 ⟨rfl, hx⟩
        have HX := Lib.hid (HX.out.trans hx)
        have HBx := Lib.hid (HBx.out.ext hx)
        have HG5 := Lib.hid (HG5.out.ext hx)
        have d0 := HBx.out.cell 0; have d1 := HBx.out.cell 1; have d2 := HBx.out.cell 2; have d3 := HBx.out.cell 3
        obtain ⟨⟨a0, a1, a2, a3⟩, ⟨c0, c1, c2, c3⟩⟩ := HC.out _ HX.out
        clear hx
        go_wp2_with fail
        refine (mapped_c _).mono ?_
        rintro e w' ⟨rfl, hx⟩
        have HE := Lib.hid ((HE0.out.trans HX.out).trans hx)
        clear hx
        go_wp2_with fail
        go_ret
        exact ⟨rfl, HE.out⟩
      | false =>
        go_wp2_with fail
        refine (HK9.out _ HX.out).mono ?_
        rintro e w15 ⟨rfl, hx⟩
        have HX := Lib.hid (HX.out.trans hx)
        have HBx := Lib.hid (HBx.out.ext hx)
        have HG5 := Lib.hid (HG5.out.ext hx)
        have d0 := HBx.out.cell 0; have d1 := HBx.out.cell 1; have d2 := HBx.out.cell 2; have d3 := HBx.out.cell 3
        obtain ⟨⟨a0, a1, a2, a3⟩, ⟨c0, c1, c2, c3⟩⟩ := HC.out _ HX.out
        clear hx
        go_wp2_with fail
        refine (mapped_c _).mono ?_
        rintro e w' ⟨rfl, hx⟩
        have HE := Lib.hid ((HE0.out.trans HX.out).trans hx)
        clear hx
        go_wp2_with fail
        go_ret
        exact ⟨rfl, HE.out⟩
    | false =>
      obtain rfl : o = none := HO2.out rfl
      obtain rfl : f = 2 := HFe.out.symm
      refine (load_none HH.out.dk (size0 HS3.out HDn.out)).mono ?_
      rintro e w11 ⟨a5, c5, rfl, hg5, hd⟩
      have HX := Lib.hid (((HH.out.trans hd).off.ext HX6.out HF.out).trans (ext_a1 w11 (.cells #[.int .i64 0, .int .i64 0, .int .u64 0, .slice a5 0 c5] 45)))
      have hbx := Blk.new w11 45 #[.int .i64 0, .int .i64 0, .int .u64 0, .slice a5 0 c5]
      have HBx := Lib.hid hbx
      have d0 := hbx.cell 0; have d1 := hbx.cell 1; have d2 := hbx.cell 2; have d3 := hbx.cell 3
      obtain ⟨⟨a0, a1, a2, a3⟩, ⟨c0, c1, c2, c3⟩⟩ := HC.out _ HX.out
      clear hd hg5 hbx
      go_wp2_with fail
      refine (HK9.out _ HX.out).mono ?_
      rintro e w13 ⟨rfl, hx⟩
      have HX := Lib.hid (HX.out.trans hx)
      have HBx := Lib.hid (HBx.out.ext hx)
      have d0 := HBx.out.cell 0; have d1 := HBx.out.cell 1; have d2 := HBx.out.cell 2; have d3 := HBx.out.cell 3
      obtain ⟨⟨a0, a1, a2, a3⟩, ⟨c0, c1, c2, c3⟩⟩ := HC.out _ HX.out
      clear hx
      cases v' with
      | true =>
        go_wp2_with fail
        refine (HK9.out _ HX.out).mono ?_
        rintro e w15 ⟨rfl, hx⟩
        have HX := Lib.hid (HX.out.trans hx)
        have HBx := Lib.hid (HBx.out.ext hx)
        have d0 := HBx.out.cell 0; have d1 := HBx.out.cell 1; have d2 := HBx.out.cell 2; have d3 := HBx.out.cell 3
        obtain ⟨⟨a0, a1, a2, a3⟩, ⟨c0, c1, c2, c3⟩⟩ := HC.out _ HX.out
        clear hx
        go_wp2_with fail
        refine (mapped_c _).mono ?_
        rintro e w' ⟨rfl, hx⟩
        have HE := Lib.hid ((HE0.out.trans HX.out).trans hx)
        clear hx
        go_wp2_with fail
        go_ret
        exact ⟨rfl, HE.out⟩
      | false =>
        go_wp2_with fail
        refine (HK9.out _ HX.out).mono ?_
        rintro e w15 ⟨rfl, hx⟩
        have HX := Lib.hid (HX.out.trans hx)
        have HBx := Lib.hid (HBx.out.ext hx)
        have d0 := HBx.out.cell 0; have d1 := HBx.out.cell 1; have d2 := HBx.out.cell 2; have d3 := HBx.out.cell 3
        obtain ⟨⟨a0, a1, a2, a3⟩, ⟨c0, c1, c2, c3⟩⟩ := HC.out _ HX.out
        clear hx
        go_wp2_with fail
        refine (mapped_c _).mono ?_
        rintro e w' ⟨rfl, hx⟩
        have HE := Lib.hid ((HE0.out.trans HX.out).trans hx)
        clear hx
        go_wp2_with fail
        go_ret
        exact ⟨rfl, HE.out⟩

end Go.Proofs.Ytjllhjlmjbpinaa
