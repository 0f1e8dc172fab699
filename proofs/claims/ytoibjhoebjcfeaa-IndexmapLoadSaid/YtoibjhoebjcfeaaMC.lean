/- Walks: the document's bytes of a manifest. -/
import Derived.Test.YtoibjhoebjcfeaaChecked
import Derived.Test.YtoibjhoebjcfeaaMB
namespace Go.Proofs.Ytoibjhoebjcfeaa
open Go.RowKit

set_option maxRecDepth 100000 in
set_option maxHeartbeats 3200000 in
theorem refmput_c (nx ck sd : Int) (ao : Option Addr) (n cap : Nat) (L : List (List Int)) (w : World) (hx : Grid w ao n cap L) (hsum : L.flatten.length ≤ 17592186044416) (hs0 : 0 ≤ sd) (hs1 : sd < 18446744073709551616) :
    Calls Try.prog 66 #[.agg #[.int .i64 nx, .int .i64 ck, .int .u64 sd, .slice ao n cap]] w fun e w' => e = .returned (.tuple #[.string ⟨(mputS nx ck sd L).1.toArray⟩, .int .i64 (mputS nx ck sd L).2]) ∧ Ext w w' := by
  have Hx := Lib.hid hx
  have HLen := Lib.hid hx.len
  clear hx
  go_enter Try.func66, Try.ntmps66
  go_wp2_with fail
  refine (refmvalid_c nx ck sd _ _ _ L _ (Hx.out.ext (ext_a1 _ _)) hsum).mono ?_
  rintro e w1 ⟨rfl, hb⟩
  obtain ⟨d0, d1, d2, d3⟩ := box4 hb
  have HB := Lib.hid hb; clear hb
  by_cases hv : mvalid nx ck L = false
  · have HV : Hid (mputS nx ck sd L = ([], 2)) := Lib.hid (by unfold mputS; rw [hv]; rfl)
    go_wp2_with fail
    go_ret2
    exact ⟨by rw [HV.out]; rfl, (ext_a1 _ _).trans HB.out⟩
  have hv' : mvalid nx ck L = true := by simpa using hv
  have HV : Hid (mputS nx ck sd L = (sealS (manBody nx ck sd L), 0)) := Lib.hid (by unfold mputS; rw [hv']; rfl)
  obtain ⟨⟨n1, n2, n3, n4⟩, hvb, hlt⟩ := mvalid_parts hv'
  obtain ⟨v1, v2, v3, _⟩ := (by unfold validB at hvb; exact of_decide_eq_true hvb : L.length ≤ 5 ∧ L.flatten.length ≤ 40 ∧ (∀ x ∈ L.flatten, 0 ≤ x) ∧ L.flatten.Nodup)
  have V2 := Lib.hid v2; have V3 := Lib.hid v3; have HLT := Lib.hid hlt
  have hn5 : n ≤ 5 := by have := HLen.out; omega
  clear hv hvb v1 v2 v3 hlt
  go_wp2_with fail
  refine (reftrim_c _ _ _ L _ ((Hx.out.ext (ext_a1 _ _)).ext HB.out)).mono ?_
  rintro e w2 ⟨rfl, hb⟩
  have HB2 := Lib.hid (HB.out.trans hb)
  obtain ⟨e0, e1, e2, e3⟩ := box4 HB2.out
  clear hb HB d0 d1 d2 d3
  have f0 := cell_of e0; have f1 := cell_of e1; have f2 := cell_of e2
  have hT : (trimL L).length = trimN L n := by rw [trimL_length, HLen.out]
  have htn : trimN L n ≤ n := trimN_le L n
  have hGT : Grid w2 ao (trimN L n) cap (trimL L) := ((Hx.out.ext (ext_a1 _ _)).ext HB2.out).trim
  have HGT := Lib.hid hGT
  have HTN := Lib.hid hT
  have HHead : Hid (manHead nx ck sd (trimN L n) = [105, 109, 97, 112] ++ be 4 nx.toNat ++ be 4 ck.toNat ++ be 8 sd.toNat ++ be 1 (trimN L n)) := Lib.hid rfl
  have hl4a := be_length 4 nx.toNat; have hl4b := be_length 4 ck.toNat; have hl8 := be_length 8 sd.toNat; have hl1 := be_length 1 (trimN L n)
  have tl5 : trimN L n ≤ 5 := by omega
  have HBody : Hid (manBody nx ck sd L = manHead nx ck sd (trimL L).length ++ ((trimL L).map levBytes).flatten) := Lib.hid rfl
  have hbt : cap ≤ 9223372036854775807 := hGT.bound
  have htc : trimN L n ≤ cap := hGT.fits
  have HTF : Hid ((trimL L).flatten.length ≤ 40) := Lib.hid (by rw [trimL_flatten]; exact V2.out)
  have HTR : Hid (∀ k, ∀ x ∈ (trimL L).getD k [], 0 ≤ x ∧ x ≤ 1000000) := Lib.hid (by
    intro k x hx
    rw [trimL_getD] at hx
    have hxm : x ∈ L.flatten := by
      rcases Nat.lt_or_ge k L.length with h | h
      · rw [List.getD_eq_getElem?_getD, List.getElem?_eq_getElem h] at hx
        exact List.mem_flatten.2 ⟨_, List.getElem_mem h, hx⟩
      · rw [getD_ge _ _ _ h] at hx; cases hx
    have := V3.out x hxm; have := HLT.out x hxm
    omega)
  clear hGT hT e0 e1 e2 e3
  generalize trimN L n = m at *
  generalize trimL L = T at *
  go_wp2_with fail
  refine wp_region_ext (by kernel_rfl) (by kernel_rfl) ?_
  repeat (go_big_quiet_step (first | exact Calls.quiet_ext (refput_k _ _ 4 _ (by decide) (by omega) (by omega) (by omega) (by omega)) | exact Calls.quiet_ext (refput_k _ _ 8 _ (by decide) (by omega) (by omega) (by omega) (by omega)) | exact Calls.quiet_ext (refput_n _ _ 1 _ (by decide) (by omega) (by omega) (by omega))))
  refine wpQuiet_nil ?_
  intro w3 hw3
  have HB3 := Lib.hid (HB2.out.trans hw3)
  have HG3 := Lib.hid (HGT.out.ext hw3)
  have hst : (({ data := #[105, 109, 97, 112] } ++ { data := (be 4 nx.toNat).toArray } ++ { data := (be 4 ck.toNat).toArray } ++ { data := (be 8 sd.toNat).toArray } ++ { data := (be 1 m).toArray }) : ByteArray) = ⟨(manHead nx ck sd m ++ ((T.take 0).map levBytes).flatten).toArray⟩ := by
    rw [HHead.out]
    have e0 : ({ data := #[105, 109, 97, 112] } : ByteArray) = ⟨([105, 109, 97, 112] : List UInt8).toArray⟩ := rfl
    rw [e0, ByteArray.mk_append_mk, ByteArray.mk_append_mk, ByteArray.mk_append_mk, ByteArray.mk_append_mk]
    simp
  have HST := Lib.hid hst
  have hml := levs_length T
  have HML := Lib.hid hml
  have hfl : ∀ k, (manHead nx ck sd m ++ ((T.take k).map levBytes).flatten).length ≤ 300 := by
    intro k
    rw [List.length_append, manHead_length, levs_length]
    have h1 : (T.take k).length ≤ T.length := by simp; omega
    have h2 := flatten_take_le T k
    have h3 := HTF.out; have h4 := HTN.out
    omega
  have HFL := Lib.hid hfl
  clear hw3 hst hml hfl HB2 HGT HHead f0 f1 f2 hl4a hl4b hl8 hl1
  go_wp2_with fail
  go_loopw [5, 6] (fun s i w' => ∃ k : Nat, k ≤ m ∧ i = .int .i64 k ∧ s = .string ⟨(manHead nx ck sd m ++ ((T.take k).map levBytes).flatten).toArray⟩ ∧ Ext w3 w') (fun _ i _ => m - (intOf i).toNat)
  case atStart => exact ⟨0, Nat.zero_le _, rfl, by rw [HST.out], Ext.refl _⟩
  case round =>
    obtain ⟨k, hk, rfl, rfl, hb⟩ := hrel
    have Hb := Lib.hid hb
    clear hb
    by_cases hlt : k < m
    · obtain ⟨b, off, ai, ni, ci, rfl, c1, r1⟩ := (HG3.out.ext Hb.out).at hlt
      have hkT : k < T.length := by have := HTN.out; omega
      have hnext := map_take_succ levBytes T [] k hkT
      have hrows : ∀ x ∈ T.getD k [], 0 ≤ x ∧ x ≤ 1000000 := HTR.out k
      have hpl := HFL.out k
      have hrl : (T.getD k []).length ≤ 40 := by have := row_le_flatten T k; have := HTF.out; omega
      generalize T.getD k [] = R at *
      generalize hP : manHead nx ck sd m ++ ((T.take k).map levBytes).flatten = P at *
      have HNX : Hid (manHead nx ck sd m ++ ((T.take (k + 1)).map levBytes).flatten = P ++ levBytes R) := Lib.hid (by rw [hnext, ← List.append_assoc, hP])
      have R1 := Lib.hid r1
      have g1 := r1.fits; have g2 := r1.bound; have g3 := r1.len
      have hni : ni ≤ 40 := by omega
      have HR := Lib.hid hrows
      have G3 := Lib.hid g3
      have C1 := Lib.hid c1
      clear r1 hnext hP hrows g3
      go_wp2_with fail
      have hc := refput_c (ni : Int) 1 wr (by omega) (by omega) (by omega) (by omega)
      rw [Int.toNat_natCast] at hc
      refine hc.mono ?_
      clear hc
      rintro e w4 ⟨rfl, hb4⟩
      have HB4 := Lib.hid (Hb.out.trans hb4)
      have C4 := Lib.hid (cell_ext hb4 C1.out)
      have R1' := Lib.hid (R1.out.ext hb4)
      clear hb4
      have hs1 : (({ data := P.toArray } ++ { data := (be 1 ni).toArray }) : ByteArray) = ⟨(P ++ (be 1 ni ++ ((R.take 0).map fun x => be 4 x.toNat).flatten)).toArray⟩ := by
        rw [ByteArray.mk_append_mk]; simp
      have HS1 := Lib.hid hs1; clear hs1
      have hb1 := be_length 1 ni
      go_wp2_with fail
      go_loopw [5, 7] (fun s i w' => ∃ j : Nat, j ≤ ni ∧ i = .int .i64 j ∧ s = .string ⟨(P ++ (be 1 ni ++ ((R.take j).map fun x => be 4 x.toNat).flatten)).toArray⟩ ∧ Ext w4 w') (fun _ i _ => ni - (intOf i).toNat)
      case atStart => exact ⟨0, Nat.zero_le _, rfl, by rw [HS1.out], Ext.refl _⟩
      case round =>
        obtain ⟨j, hj, rfl, rfl, hb5⟩ := hrel
        have Hb5 := Lib.hid hb5
        have c5 := cell_ext hb5 C4.out
        clear hb5
        by_cases hjl : j < ni
        · obtain ⟨b', off', rfl, d1⟩ := (R1'.out.ext Hb5.out).at hjl
          have hjR : j < R.length := by have := G3.out; omega
          have hnx := map_take_succ (fun x : Int => be 4 x.toNat) R 0 j hjR
          have hx := HR.out _ (getD_mem R j hjR)
          have hql : (P ++ (be 1 ni ++ ((R.take j).map fun x => be 4 x.toNat).flatten)).length ≤ 500 := by
            rw [List.length_append, List.length_append, hb1, flat4_length]
            have := List.length_take_le j R; omega
          generalize R.getD j 0 = X at *
          have HQ : Hid (P ++ (be 1 ni ++ ((R.take (j + 1)).map fun x => be 4 x.toNat).flatten) = (P ++ (be 1 ni ++ ((R.take j).map fun x => be 4 x.toNat).flatten)) ++ be 4 X.toNat) := Lib.hid (by rw [hnx]; simp)
          generalize P ++ (be 1 ni ++ ((R.take j).map fun x => be 4 x.toNat).flatten) = Q at *
          obtain ⟨x1, x2⟩ := hx
          clear hnx
          go_wp2_with fail
          refine (refput_c X 4 _ (by omega) (by omega) (by omega) (by omega)).mono ?_
          rintro e w5 ⟨rfl, hb6⟩
          have HB6 := Lib.hid (Hb5.out.trans hb6)
          have hb4 := be_length 4 X.toNat
          clear hb6
          go_wp2_with fail
          go_roundw
          case rel => exact ⟨j + 1, by omega, by go_num, by rw [HQ.out, ← ByteArray.mk_append_mk], HB6.out⟩
          case measure => simp [intOf]; omega
        · have hjn : R.take j = R := List.take_of_length_le (by have := G3.out; omega)
          have HJN := Lib.hid hjn; clear hjn
          go_wp2_with fail
          go_roundw
          case rel => exact ⟨k + 1, by omega, by go_num, by rw [HNX.out, HJN.out]; unfold levBytes; rw [G3.out], HB4.out.trans Hb5.out⟩
          case measure => simp [intOf]; omega
    · have hkm : k = m := by omega
      have hTk : T.take k = T := List.take_of_length_le (by have := HTN.out; omega)
      have hbody : manHead nx ck sd m ++ ((T.take k).map levBytes).flatten = manBody nx ck sd L := by rw [HBody.out, HTN.out, hTk]
      rw [hbody]
      have hbl : (manBody nx ck sd L).length ≤ 300 := by have := HFL.out k; rwa [hbody] at this
      clear hbody hkm hTk
      go_wp2_with fail
      refine (refseal_c _ _ (by omega)).mono ?_
      rintro e w6 ⟨rfl, hb6⟩
      have HB6 := Lib.hid (Hb.out.trans hb6); clear hb6
      go_wp2_with fail
      go_ret2
      exact ⟨by rw [HV.out]; rfl, (ext_a1 _ _).trans (HB3.out.trans HB6.out)⟩

end Go.Proofs.Ytoibjhoebjcfeaa
