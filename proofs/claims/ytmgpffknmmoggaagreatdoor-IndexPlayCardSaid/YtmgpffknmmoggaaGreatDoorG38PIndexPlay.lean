/- Walks: a manifest's bytes. Walks: the document's bytes of a manifest. Walks: whether two manifests are the same, by the package and by the statements. Walks: the reader of a manifest's bytes. -/
import Derived.Test.YtmgpffknmmoggaaGreatDoorChecked
import Derived.Test.YtmgpffknmmoggaaGreatDoorG22PIndexPlay
import Derived.Test.YtmgpffknmmoggaaGreatDoorG20PIndexPlay
import Derived.Test.YtmgpffknmmoggaaGreatDoorG1PIndexPlay
import Derived.Test.YtmgpffknmmoggaaGreatDoorG4PIndexPlay
import Derived.Test.YtmgpffknmmoggaaGreatDoorG19PIndexPlay
set_option linter.unusedVariables false
set_option linter.unusedSimpArgs false
namespace Go.Proofs.YtmgpffknmmoggaaGreatDoor
open Go.RowKit
set_option maxRecDepth 100000 in
set_option maxHeartbeats 1600000 in
theorem mtrim_c (ao : Option Addr) (n cap : Nat) (L : List (List Int)) (w : World) (hx : Grid w ao n cap L) :
    Calls Tryz.prog 212 #[.slice ao n cap] w fun e w' => e = .returned (.slice ao (trimN L n) cap) ∧ Ext w w' := by
  have Hx := Lib.hid hx
  have b1 := hx.fits; have b2 := hx.bound
  clear hx
  go_enter Tryz.func212, Tryz.ntmps212
  go_wp2_with fail
  go_loopw [0] (fun v w' => ∃ m : Nat, m ≤ n ∧ v = .slice ao m cap ∧ trimN L m = trimN L n ∧ Ext w w') (fun v _ => lenS v)
  case atStart => exact ⟨n, Nat.le_refl _, rfl, rfl, Ext.refl _⟩
  case round =>
    obtain ⟨m, hm, rfl, htn, hb⟩ := hrel
    have HTN := Lib.hid htn; clear htn
    have Hb := Lib.hid hb; clear hb
    cases m with
    | zero =>
      have ht : trimN L n = 0 := HTN.out.symm
      have HT := Lib.hid ht; clear ht
      go_wp2_with fail
      go_ret
      exact ⟨by rw [HT.out]; rfl, Hb.out⟩
    | succ m =>
      obtain ⟨b, off, ai, ni, ci, rfl, c1, r1⟩ := (Hx.out.ext Hb.out).at (show m < n by omega)
      have hR := r1.len
      have g1 := r1.fits; have g2 := r1.bound
      have HR := Lib.hid hR
      clear r1 hR
      by_cases h0 : ni = 0
      · have he : L.getD m [] = [] := List.eq_nil_of_length_eq_zero (by have := HR.out; omega)
        have HE := Lib.hid he; clear he
        subst h0
        go_wp2_with fail
        go_roundw
        case rel => exact ⟨m, by omega, rfl, by rw [← trimN_empty L m HE.out]; exact HTN.out, Hb.out⟩
        case measure => simp [lenS]
      · have hne : L.getD m [] ≠ [] := by intro h; have := HR.out; rw [h] at this; simp at this; omega
        have hz : ((ni : Int) == 0) = false := by simpa using h0
        have hT : trimN L n = m + 1 := by rw [← HTN.out]; exact trimN_stop L m hne
        have HNE := Lib.hid hne; clear hne h0
        have HT := Lib.hid hT; clear hT
        go_wp2_with fail
        go_ret
        exact ⟨by rw [HT.out]; rfl, Hb.out⟩
theorem Grid.cut {w : World} {ao : Option Addr} {n cap : Nat} {L : List (List Int)} (h : Grid w ao n cap L) {m : Nat} (hm : m ≤ n) : Grid w ao m cap (L.take m) := by
  have hl := h.len
  have hlm : (L.take m).length = m := by simp; omega
  refine ⟨hlm, Nat.le_trans hm h.fits, h.bound, h.nil, fun i hi => ?_⟩
  obtain ⟨b, off, ai, ci, x1, x2, x3⟩ := h.rd i (by omega)
  rw [List.getElem_take]
  exact ⟨b, off, ai, ci, x1, x2, x3⟩
theorem Grid.trim {w : World} {ao : Option Addr} {n cap : Nat} {L : List (List Int)} (h : Grid w ao n cap L) : Grid w ao (trimN L n) cap (trimL L) := by
  have e : trimL L = L.take (trimN L n) := by unfold trimL; rw [h.len]
  rw [e]
  exact h.cut (trimN_le L n)
def levBytes (l : List Int) : List UInt8 := be 1 l.length ++ (l.map fun x => be 4 x.toNat).flatten
def manHead (nx ck sd : Int) (k : Nat) : List UInt8 := [105, 109, 97, 112] ++ be 4 nx.toNat ++ be 4 ck.toNat ++ be 8 sd.toNat ++ be 1 k
def manBody (nx ck sd : Int) (L : List (List Int)) : List UInt8 := manHead nx ck sd (trimL L).length ++ ((trimL L).map levBytes).flatten
def mputS (nx ck sd : Int) (L : List (List Int)) : List UInt8 × Int := if mvalid nx ck L then (sealS (manBody nx ck sd L), 0) else ([], 2)
theorem flat4_length (l : List Int) : (l.map fun x => be 4 x.toNat).flatten.length = 4 * l.length := by
  induction l with
  | nil => rfl
  | cons x l ih => simp only [List.map_cons, List.flatten_cons, List.length_append, ih, be_length, List.length_cons]; omega
theorem levBytes_length (l : List Int) : (levBytes l).length = 1 + 4 * l.length := by
  unfold levBytes; rw [List.length_append, be_length, flat4_length]
theorem levs_length (T : List (List Int)) : (T.map levBytes).flatten.length = T.length + 4 * T.flatten.length := by
  induction T with
  | nil => rfl
  | cons x l ih => simp only [List.map_cons, List.flatten_cons, List.length_append, ih, levBytes_length, List.length_cons]; omega
theorem manHead_length (nx ck sd : Int) (k : Nat) : (manHead nx ck sd k).length = 21 := by simp [manHead, be_length]
theorem mvalid_parts {nx ck : Int} {L : List (List Int)} (h : mvalid nx ck L = true) : (0 ≤ nx ∧ nx ≤ 1000000 ∧ 0 ≤ ck ∧ ck ≤ 2147483647) ∧ validB L = true ∧ ∀ x ∈ L.flatten, x < nx := by
  unfold mvalid at h
  rw [Bool.and_eq_true, Bool.and_eq_true] at h
  exact ⟨of_decide_eq_true h.1.1, h.1.2, fun x hx => of_decide_eq_true (List.all_eq_true.1 h.2 x hx)⟩
theorem map_take_succ {α β : Type} (f : α → List β) (l : List α) (d : α) (k : Nat) (h : k < l.length) : ((l.take (k + 1)).map f).flatten = ((l.take k).map f).flatten ++ f (l.getD k d) := by
  rw [take_succ_getD l d k h]; simp
set_option maxRecDepth 100000 in
set_option maxHeartbeats 3200000 in
theorem mput_c (nx ck sd : Int) (ao : Option Addr) (n cap : Nat) (L : List (List Int)) (w : World) (hx : Grid w ao n cap L) (hsum : L.flatten.length ≤ 17592186044416) (hwf : ∀ x ∈ L.flatten, (Lit.int .i64 x).wf = true) (hs0 : 0 ≤ sd) (hs1 : sd < 18446744073709551616) :
    Calls Tryz.prog 177 #[.agg #[.int .i64 nx, .int .i64 ck, .int .u64 sd, .slice ao n cap]] w fun e w' => e = .returned (.tuple #[.string ⟨(mputS nx ck sd L).1.toArray⟩, .int .i64 (mputS nx ck sd L).2]) ∧ Ext w w' := by
  have Hx := Lib.hid hx
  have HLen := Lib.hid hx.len
  clear hx
  go_enter Tryz.func177, Tryz.ntmps177
  go_wp2_with fail
  refine (mvalid_c nx ck sd _ _ _ L _ (Hx.out.ext (ext_a1 _ _)) hsum hwf).mono ?_
  rintro e w1 ⟨rfl, hb⟩
  obtain ⟨d0, d1, d2, d3⟩ := box4 hb
  have HB := Lib.hid hb; clear hb hwf
  by_cases hv : mvalid nx ck L = false
  · have HV : Hid (mputS nx ck sd L = ([], 2)) := Lib.hid (by unfold mputS; rw [hv]; rfl)
    go_wp2_with fail
    go_ret2
    exact ⟨by rw [HV.out]; rfl, (ext_a1 _ _).trans HB.out⟩
  have hv' : mvalid nx ck L = true := by simpa using hv
  have HV : Hid (mputS nx ck sd L = (sealS (manBody nx ck sd L), 0)) := Lib.hid (by unfold mputS; rw [hv']; rfl)
  obtain ⟨⟨n1, n2, n3, n4⟩, hvb, hlt⟩ := mvalid_parts hv'
  obtain ⟨v1, v2, v3, _⟩ := (by unfold validB at hvb; exact of_decide_eq_true hvb : L.length ≤ 5 ∧ L.flatten.length ≤ 40 ∧ (∀ x ∈ L.flatten, 0 ≤ x) ∧ L.flatten.Nodup)
  have V2 := Lib.hid v2; have V3 := Lib.hid v3; have HLT := Lib.hid hlt
  have hn5 : n ≤ 5 := by have := HLen.out; omega
  clear hv hvb v1 v2 v3 hlt
  go_wp2_with fail
  refine (mtrim_c _ _ _ L _ ((Hx.out.ext (ext_a1 _ _)).ext HB.out)).mono ?_
  rintro e w2 ⟨rfl, hb⟩
  have HB2 := Lib.hid (HB.out.trans hb)
  obtain ⟨e0, e1, e2, e3⟩ := box4 HB2.out
  clear hb HB d0 d1 d2 d3
  have f0 := cell_of e0; have f1 := cell_of e1; have f2 := cell_of e2
  have hT : (trimL L).length = trimN L n := by rw [trimL_length, HLen.out]
  have htn : trimN L n ≤ n := trimN_le L n
  have hGT : Grid w2 ao (trimN L n) cap (trimL L) := ((Hx.out.ext (ext_a1 _ _)).ext HB2.out).trim
  have HGT := Lib.hid hGT
  have HTN := Lib.hid hT
  have HHead : Hid (manHead nx ck sd (trimN L n) = [105, 109, 97, 112] ++ be 4 nx.toNat ++ be 4 ck.toNat ++ be 8 sd.toNat ++ be 1 (trimN L n)) := Lib.hid rfl
  have hl4a := be_length 4 nx.toNat; have hl4b := be_length 4 ck.toNat; have hl8 := be_length 8 sd.toNat; have hl1 := be_length 1 (trimN L n)
  have tl5 : trimN L n ≤ 5 := by omega
  have HBody : Hid (manBody nx ck sd L = manHead nx ck sd (trimL L).length ++ ((trimL L).map levBytes).flatten) := Lib.hid rfl
  have hbt : cap ≤ 9223372036854775807 := hGT.bound
  have htc : trimN L n ≤ cap := hGT.fits
  have HTF : Hid ((trimL L).flatten.length ≤ 40) := Lib.hid (by rw [trimL_flatten]; exact V2.out)
  have HTR : Hid (∀ k, ∀ x ∈ (trimL L).getD k [], 0 ≤ x ∧ x ≤ 1000000) := Lib.hid (by
    intro k x hx
    rw [trimL_getD] at hx
    have hxm : x ∈ L.flatten := by
      rcases Nat.lt_or_ge k L.length with h | h
      · rw [List.getD_eq_getElem?_getD, List.getElem?_eq_getElem h] at hx
        exact List.mem_flatten.2 ⟨_, List.getElem_mem h, hx⟩
      · rw [getD_ge _ _ _ h] at hx; cases hx
    have := V3.out x hxm; have := HLT.out x hxm
    omega)
  clear hGT hT e0 e1 e2 e3
  generalize trimN L n = m at *
  generalize trimL L = T at *
  go_wp2_with fail
  refine wp_region_ext (by kernel_rfl) (by kernel_rfl) ?_
  repeat (go_big_quiet_step (first | exact Calls.quiet_ext (put_k _ _ 4 _ (by decide) (by omega) (by omega) (by omega) (by omega)) | exact Calls.quiet_ext (put_k _ _ 8 _ (by decide) (by omega) (by omega) (by omega) (by omega)) | exact Calls.quiet_ext (put_n _ _ 1 _ (by decide) (by omega) (by omega) (by omega))))
  refine wpQuiet_nil ?_
  intro w3 hw3
  have HB3 := Lib.hid (HB2.out.trans hw3)
  have HG3 := Lib.hid (HGT.out.ext hw3)
  have hst : (({ data := #[105, 109, 97, 112] } ++ { data := (be 4 nx.toNat).toArray } ++ { data := (be 4 ck.toNat).toArray } ++ { data := (be 8 sd.toNat).toArray } ++ { data := (be 1 m).toArray }) : ByteArray) = ⟨(manHead nx ck sd m ++ ((T.take 0).map levBytes).flatten).toArray⟩ := by
    rw [HHead.out]
    have e0 : ({ data := #[105, 109, 97, 112] } : ByteArray) = ⟨([105, 109, 97, 112] : List UInt8).toArray⟩ := rfl
    rw [e0, ByteArray.mk_append_mk, ByteArray.mk_append_mk, ByteArray.mk_append_mk, ByteArray.mk_append_mk]
    simp
  have HST := Lib.hid hst
  have hml := levs_length T
  have HML := Lib.hid hml
  have hfl : ∀ k, (manHead nx ck sd m ++ ((T.take k).map levBytes).flatten).length ≤ 300 := by
    intro k
    rw [List.length_append, manHead_length, levs_length]
    have h1 : (T.take k).length ≤ T.length := by simp; omega
    have h2 := flatten_take_le T k
    have h3 := HTF.out; have h4 := HTN.out
    omega
  have HFL := Lib.hid hfl
  clear hw3 hst hml hfl HB2 HGT HHead f0 f1 f2 hl4a hl4b hl8 hl1
  go_wp2_with fail
  go_loopw [5, 37] (fun s i w' => ∃ k : Nat, k ≤ m ∧ i = .int .i64 k ∧ s = .string ⟨(manHead nx ck sd m ++ ((T.take k).map levBytes).flatten).toArray⟩ ∧ Ext w3 w') (fun _ i _ => m - (intOf i).toNat)
  case atStart => exact ⟨0, Nat.zero_le _, rfl, by rw [HST.out], Ext.refl _⟩
  case round =>
    obtain ⟨k, hk, rfl, rfl, hb⟩ := hrel
    have Hb := Lib.hid hb
    clear hb
    by_cases hlt : k < m
    · obtain ⟨b, off, ai, ni, ci, rfl, c1, r1⟩ := (HG3.out.ext Hb.out).at hlt
      have hkT : k < T.length := by have := HTN.out; omega
      have hnext := map_take_succ levBytes T [] k hkT
      have hrows : ∀ x ∈ T.getD k [], 0 ≤ x ∧ x ≤ 1000000 := HTR.out k
      have hpl := HFL.out k
      have hrl : (T.getD k []).length ≤ 40 := by have := row_le_flatten T k; have := HTF.out; omega
      generalize T.getD k [] = R at *
      generalize hP : manHead nx ck sd m ++ ((T.take k).map levBytes).flatten = P at *
      have HNX : Hid (manHead nx ck sd m ++ ((T.take (k + 1)).map levBytes).flatten = P ++ levBytes R) := Lib.hid (by rw [hnext, ← List.append_assoc, hP])
      have R1 := Lib.hid r1
      have g1 := r1.fits; have g2 := r1.bound; have g3 := r1.len
      have hni : ni ≤ 40 := by omega
      have HR := Lib.hid hrows
      have G3 := Lib.hid g3
      clear r1 hnext hP hrows g3
      go_wp2_with fail
      have hc := put_c (ni : Int) 1 wr (by omega) (by omega) (by omega) (by omega)
      rw [Int.toNat_natCast] at hc
      refine hc.mono ?_
      clear hc
      rintro e w4 ⟨rfl, hb4⟩
      have HB4 := Lib.hid (Hb.out.trans hb4)
      have R1' := Lib.hid (R1.out.ext hb4)
      clear hb4
      have hs1 : (({ data := P.toArray } ++ { data := (be 1 ni).toArray }) : ByteArray) = ⟨(P ++ (be 1 ni ++ ((R.take 0).map fun x => be 4 x.toNat).flatten)).toArray⟩ := by
        rw [ByteArray.mk_append_mk]; simp
      have HS1 := Lib.hid hs1; clear hs1
      have hb1 := be_length 1 ni
      go_wp2_with fail
      go_loopw [5, 49] (fun s i w' => ∃ j : Nat, j ≤ ni ∧ i = .int .i64 j ∧ s = .string ⟨(P ++ (be 1 ni ++ ((R.take j).map fun x => be 4 x.toNat).flatten)).toArray⟩ ∧ Ext w4 w') (fun _ i _ => ni - (intOf i).toNat)
      case atStart => exact ⟨0, Nat.zero_le _, rfl, by rw [HS1.out], Ext.refl _⟩
      case round =>
        obtain ⟨j, hj, rfl, rfl, hb5⟩ := hrel
        have Hb5 := Lib.hid hb5
        clear hb5
        by_cases hjl : j < ni
        · obtain ⟨b', off', rfl, d1⟩ := (R1'.out.ext Hb5.out).at hjl
          have hjR : j < R.length := by have := G3.out; omega
          have hnx := map_take_succ (fun x : Int => be 4 x.toNat) R 0 j hjR
          have hx := HR.out _ (getD_mem R j hjR)
          have hql : (P ++ (be 1 ni ++ ((R.take j).map fun x => be 4 x.toNat).flatten)).length ≤ 500 := by
            rw [List.length_append, List.length_append, hb1, flat4_length]
            have := List.length_take_le j R; omega
          generalize R.getD j 0 = X at *
          have HQ : Hid (P ++ (be 1 ni ++ ((R.take (j + 1)).map fun x => be 4 x.toNat).flatten) = (P ++ (be 1 ni ++ ((R.take j).map fun x => be 4 x.toNat).flatten)) ++ be 4 X.toNat) := Lib.hid (by rw [hnx]; simp)
          generalize P ++ (be 1 ni ++ ((R.take j).map fun x => be 4 x.toNat).flatten) = Q at *
          obtain ⟨x1, x2⟩ := hx
          clear hnx
          go_wp2_with fail
          refine (put_c X 4 _ (by omega) (by omega) (by omega) (by omega)).mono ?_
          rintro e w5 ⟨rfl, hb6⟩
          have HB6 := Lib.hid (Hb5.out.trans hb6)
          have hb4 := be_length 4 X.toNat
          clear hb6
          go_wp2_with fail
          go_roundw
          case rel => exact ⟨j + 1, by omega, by go_num, by rw [HQ.out, ← ByteArray.mk_append_mk], HB6.out⟩
          case measure => simp [intOf]; omega
        · have hjn : R.take j = R := List.take_of_length_le (by have := G3.out; omega)
          have HJN := Lib.hid hjn; clear hjn
          go_wp2_with fail
          go_roundw
          case rel => exact ⟨k + 1, by omega, by go_num, by rw [HNX.out, HJN.out]; unfold levBytes; rw [G3.out], HB4.out.trans Hb5.out⟩
          case measure => simp [intOf]; omega
    · have hkm : k = m := by omega
      have hTk : T.take k = T := List.take_of_length_le (by have := HTN.out; omega)
      have hbody : manHead nx ck sd m ++ ((T.take k).map levBytes).flatten = manBody nx ck sd L := by rw [HBody.out, HTN.out, hTk]
      rw [hbody]
      have hbl : (manBody nx ck sd L).length ≤ 300 := by have := HFL.out k; rwa [hbody] at this
      clear hbody hkm hTk
      go_wp2_with fail
      refine (seal_c _ _ (by omega)).mono ?_
      rintro e w6 ⟨rfl, hb6⟩
      have HB6 := Lib.hid (Hb.out.trans hb6); clear hb6
      go_wp2_with fail
      go_ret2
      exact ⟨by rw [HV.out]; rfl, (ext_a1 _ _).trans (HB3.out.trans HB6.out)⟩
end Go.Proofs.YtmgpffknmmoggaaGreatDoor
namespace Go.Proofs.YtmgpffknmmoggaaGreatDoor
open Go.RowKit
end Go.Proofs.YtmgpffknmmoggaaGreatDoor
namespace Go.Proofs.YtmgpffknmmoggaaGreatDoor
open Go.RowKit
def msame (nx ck sd : Int) (L : List (List Int)) (nx' ck' sd' : Int) (L' : List (List Int)) : Bool :=
  decide (nx = nx' ∧ ck = ck' ∧ sd = sd') && decide (trimL L = trimL L')
theorem msame_no {nx ck sd nx' ck' sd' : Int} {L L' : List (List Int)} (h : ¬ (nx = nx' ∧ ck = ck' ∧ sd = sd')) : msame nx ck sd L nx' ck' sd' L' = false := by
  unfold msame; rw [decide_eq_false h, Bool.false_and]
theorem msame_yes {nx ck sd : Int} {L L' : List (List Int)} : msame nx ck sd L nx ck sd L' = decide (trimL L = trimL L') := by
  unfold msame; rw [decide_eq_true ⟨rfl, rfl, rfl⟩, Bool.true_and]
theorem box8 (w : World) (a b c d : Value) (t : TypeId) (a' b' c' d' : Value) (t' : TypeId) :
    (∀ x : ExtOf ((w.alloc (.cells #[a, b, c, d] t)).alloc (.cells #[a', b', c', d'] t')), x.w'.cell? ⟨w.heap.size, 0, none⟩ = some a) ∧
    (∀ x : ExtOf ((w.alloc (.cells #[a, b, c, d] t)).alloc (.cells #[a', b', c', d'] t')), x.w'.cell? ⟨w.heap.size, 1, none⟩ = some b) ∧
    (∀ x : ExtOf ((w.alloc (.cells #[a, b, c, d] t)).alloc (.cells #[a', b', c', d'] t')), x.w'.cell? ⟨w.heap.size, 2, none⟩ = some c) ∧
    (∀ x : ExtOf ((w.alloc (.cells #[a, b, c, d] t)).alloc (.cells #[a', b', c', d'] t')), x.w'.cell? ⟨w.heap.size, 3, none⟩ = some d) ∧
    (∀ x : ExtOf ((w.alloc (.cells #[a, b, c, d] t)).alloc (.cells #[a', b', c', d'] t')), x.w'.cell? ⟨w.heap.size + 1, 0, none⟩ = some a') ∧
    (∀ x : ExtOf ((w.alloc (.cells #[a, b, c, d] t)).alloc (.cells #[a', b', c', d'] t')), x.w'.cell? ⟨w.heap.size + 1, 1, none⟩ = some b') ∧
    (∀ x : ExtOf ((w.alloc (.cells #[a, b, c, d] t)).alloc (.cells #[a', b', c', d'] t')), x.w'.cell? ⟨w.heap.size + 1, 2, none⟩ = some c') ∧
    (∀ x : ExtOf ((w.alloc (.cells #[a, b, c, d] t)).alloc (.cells #[a', b', c', d'] t')), x.w'.cell? ⟨w.heap.size + 1, 3, none⟩ = some d') := by
  have h := box4 (w := w.alloc (.cells #[a, b, c, d] t)) (Ext.refl ((w.alloc (.cells #[a, b, c, d] t)).alloc (.cells #[a', b', c', d'] t')))
  have k := box4 (w := w) (ext_a1 (w.alloc (.cells #[a, b, c, d] t)) (.cells #[a', b', c', d'] t') : Ext _ _)
  have e : (w.alloc (.cells #[a, b, c, d] t)).heap.size = w.heap.size + 1 := by simp
  rw [e] at h
  exact ⟨cell_of k.1, cell_of k.2.1, cell_of k.2.2.1, cell_of k.2.2.2, cell_of h.1, cell_of h.2.1, cell_of h.2.2.1, cell_of h.2.2.2⟩
set_option maxRecDepth 100000 in
set_option maxHeartbeats 1600000 in
theorem refmsame_c (nx ck sd : Int) (ao : Option Addr) (n cap : Nat) (L : List (List Int)) (nx' ck' sd' : Int) (bo : Option Addr) (m cap2 : Nat) (L' : List (List Int)) (w : World) (hx : Grid w ao n cap L) (hy : Grid w bo m cap2 L') :
    Calls Tryz.prog 25 #[.agg #[.int .i64 nx, .int .i64 ck, .int .u64 sd, .slice ao n cap], .agg #[.int .i64 nx', .int .i64 ck', .int .u64 sd', .slice bo m cap2]] w fun e w' => e = .returned (.bool (msame nx ck sd L nx' ck' sd' L')) ∧ Ext w w' := by
  have Hx := Lib.hid hx; have Hy := Lib.hid hy
  clear hx hy
  by_cases h1 : nx = nx'
  case neg =>
    have HM := Lib.hid (msame_no (L := L) (L' := L') (fun h => h1 h.1 : ¬ (nx = nx' ∧ ck = ck' ∧ sd = sd')))
    have h1' : (nx == nx') = false := by simpa using h1
    clear h1
    obtain ⟨f0, f1, f2, f3, f4, f5, f6, f7⟩ := box8 w (.int .i64 nx) (.int .i64 ck) (.int .u64 sd) (.slice ao n cap) 38 (.int .i64 nx') (.int .i64 ck') (.int .u64 sd') (.slice bo m cap2) 38
    go_enter Tryz.func25, Tryz.ntmps25
    go_wp2_with fail
    refine wp_region_ext (by kernel_rfl) (by kernel_rfl) ?_
    repeat (go_big_quiet_step (fail))
    refine wpQuiet_nil ?_
    intro w2 hw2
    have HW := Lib.hid hw2; clear hw2
    go_wp2_with fail
    go_ret
    exact ⟨rb HM.out, (ext_a2 _ _ _).trans HW.out⟩
  subst h1
  by_cases h1 : ck = ck'
  case neg =>
    have HM := Lib.hid (msame_no (L := L) (L' := L') (fun h => h1 h.2.1 : ¬ (nx = nx ∧ ck = ck' ∧ sd = sd')))
    have h1' : (ck == ck') = false := by simpa using h1
    clear h1
    obtain ⟨f0, f1, f2, f3, f4, f5, f6, f7⟩ := box8 w (.int .i64 nx) (.int .i64 ck) (.int .u64 sd) (.slice ao n cap) 38 (.int .i64 nx) (.int .i64 ck') (.int .u64 sd') (.slice bo m cap2) 38
    go_enter Tryz.func25, Tryz.ntmps25
    go_wp2_with fail
    refine wp_region_ext (by kernel_rfl) (by kernel_rfl) ?_
    repeat (go_big_quiet_step (fail))
    refine wpQuiet_nil ?_
    intro w2 hw2
    have HW := Lib.hid hw2; clear hw2
    go_wp2_with fail
    go_ret
    exact ⟨rb HM.out, (ext_a2 _ _ _).trans HW.out⟩
  subst h1
  by_cases h1 : sd = sd'
  case neg =>
    have HM := Lib.hid (msame_no (L := L) (L' := L') (fun h => h1 h.2.2 : ¬ (nx = nx ∧ ck = ck ∧ sd = sd')))
    have h1' : (sd == sd') = false := by simpa using h1
    clear h1
    obtain ⟨f0, f1, f2, f3, f4, f5, f6, f7⟩ := box8 w (.int .i64 nx) (.int .i64 ck) (.int .u64 sd) (.slice ao n cap) 38 (.int .i64 nx) (.int .i64 ck) (.int .u64 sd') (.slice bo m cap2) 38
    go_enter Tryz.func25, Tryz.ntmps25
    go_wp2_with fail
    refine wp_region_ext (by kernel_rfl) (by kernel_rfl) ?_
    repeat (go_big_quiet_step (fail))
    refine wpQuiet_nil ?_
    intro w2 hw2
    have HW := Lib.hid hw2; clear hw2
    go_wp2_with fail
    go_ret
    exact ⟨rb HM.out, (ext_a2 _ _ _).trans HW.out⟩
  subst h1
  have HM := Lib.hid (msame_yes (nx := nx) (ck := ck) (sd := sd) (L := L) (L' := L'))
  obtain ⟨f0, f1, f2, f3, f4, f5, f6, f7⟩ := box8 w (.int .i64 nx) (.int .i64 ck) (.int .u64 sd) (.slice ao n cap) 38 (.int .i64 nx) (.int .i64 ck) (.int .u64 sd) (.slice bo m cap2) 38
  have b1 := Hx.out.fits; have b2 := Hx.out.bound; have b3 := Hy.out.fits; have b4 := Hy.out.bound
  have hd : ∃ r, decide (trimL L = trimL L') = r := ⟨_, rfl⟩
  obtain ⟨r, hd⟩ := hd
  have HD := Lib.hid hd; clear hd
  go_enter Tryz.func25, Tryz.ntmps25
  go_wp2_with fail
  refine wp_region_ext (by kernel_rfl) (by kernel_rfl) ?_
  repeat (go_big_quiet_step (first | exact Calls.quiet_ext (reftrim_c _ _ _ L _ (Hx.out.ext ((ext_a2 _ _ _).trans (ExtOf.h _)))) | exact Calls.quiet_ext (reftrim_c _ _ _ L' _ (Hy.out.ext ((ext_a2 _ _ _).trans (ExtOf.h _)))) | exact Calls.quiet_ext (Calls.to (congrArg Value.bool HD.out) (same_c _ _ _ _ _ _ _ _ _ (Grid.trim (Hx.out.ext ((ext_a2 _ _ _).trans (ExtOf.h _)))) (Grid.trim (Hy.out.ext ((ext_a2 _ _ _).trans (ExtOf.h _))))))))
  refine wpQuiet_nil ?_
  intro w2 hw2
  have HW := Lib.hid hw2; clear hw2
  cases r
  · go_wp2_with fail
    go_ret
    exact ⟨by rw [HM.out, HD.out]; rfl, (ext_a2 _ _ _).trans HW.out⟩
  · go_wp2_with fail
    go_ret
    exact ⟨by rw [HM.out, HD.out]; rfl, (ext_a2 _ _ _).trans HW.out⟩
end Go.Proofs.YtmgpffknmmoggaaGreatDoor
namespace Go.Proofs.YtmgpffknmmoggaaGreatDoor
open Go.RowKit
end Go.Proofs.YtmgpffknmmoggaaGreatDoor
