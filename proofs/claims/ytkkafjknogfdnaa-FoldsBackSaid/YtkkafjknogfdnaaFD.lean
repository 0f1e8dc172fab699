/- Walks: a state's bytes, by the document. -/
import Derived.Test.YtkkafjknogfdnaaChecked
import Derived.Test.YtkkafjknogfdnaaFC
namespace Go.Proofs.Ytkkafjknogfdnaa
open Go.RowKit

set_option maxRecDepth 100000 in
set_option maxHeartbeats 3200000 in
theorem reffput_c (nx : Int) (ao : Option Addr) (n cap : Nat) (K : List Kd) (w : World) (hx : Kds w ao n cap K) :
    Calls Try.prog 40 #[.agg #[.int .i64 nx, .slice ao n cap]] w fun e w' => e = .returned (.tuple #[.string ⟨(fputS nx K).1.toArray⟩, .int .i64 (fputS nx K).2]) ∧ Ext w w' := by
  have Hx := Lib.hid hx
  have b1 := hx.fits; have b2 := hx.bound
  have HLen := Lib.hid hx.len
  clear hx
  go_enter Try.func40, Try.ntmps40
  go_wp2_with fail
  refine (reffcheck_c nx _ _ _ K _ (Hx.out.ext (ext_a1 _ _))).mono ?_
  rcases check_cases nx K with hc | hc
  case inr =>
    have HP := Lib.hid (fputS_no hc)
    rw [hc]
    rintro e w1 ⟨rfl, hb⟩
    have HB := Lib.hid ((ext_a1 _ _).trans hb); clear hb hc
    go_wp2_with fail
    go_ret2
    exact ⟨by rw [HP.out]; rfl, HB.out⟩
  have HP := Lib.hid (fputS_yes hc)
  have hok := check_ok hc
  have HOk := Lib.hid hok
  have n0 := hok.1; have n1 := hok.2.1
  have n2 : (n : Int) ≤ 256 := by have := hok.2.2.1; have := HLen.out; omega
  rw [hc]
  rintro e w1 ⟨rfl, hb⟩
  obtain ⟨f0, f1⟩ := box2 hb
  have u0 := cell_of f0; have u1 := cell_of f1
  have HB := Lib.hid ((ext_a1 _ _).trans hb)
  have HK := Lib.hid (Hx.out.ext ((ext_a1 _ _).trans hb))
  clear hb hc hok
  go_wp2_with fail
  have hl4 := be_length 4 nx.toNat; have hl2 := be_length 2 n
  have HC1 := Lib.hid (fun wx : World => refput_k nx 4 4 wx rfl (by decide) (by decide) (by omega) (by omega))
  have HC2 := Lib.hid (fun wx : World => refput_n n 2 2 wx rfl (by decide) (by decide) (by omega))
  refine wp_region_ext (by kernel_rfl) (by kernel_rfl) ?_
  repeat (go_big_quiet_step (fail))
  go_big_quiet_step (exact Calls.quiet_ext (HC1.out _))
  repeat (go_big_quiet_step (fail))
  go_big_quiet_step (exact Calls.quiet_ext (HC2.out _))
  repeat (go_big_quiet_step (fail))
  refine wpQuiet_nil ?_
  intro w2 hw2
  have HB2 := Lib.hid (HB.out.trans hw2)
  have HK2 := Lib.hid (HK.out.ext hw2)
  have g1 := cell_ext hw2 f1
  have hst : (({ data := (be 4 nx.toNat).toArray } ++ { data := (be 2 n).toArray }) : ByteArray) = ⟨(stHead nx n ++ ((K.take 0).map kdB).flatten).toArray⟩ := by rw [ByteArray.mk_append_mk]; unfold stHead; simp
  have HST := Lib.hid hst
  clear hw2 hst f0 f1 u0 u1 hl4 hl2
  go_wp2_with fail
  go_loopw [4, 5] (fun s i w' => ∃ k : Nat, k ≤ n ∧ i = .int .i64 k ∧ s = .string ⟨(stHead nx n ++ ((K.take k).map kdB).flatten).toArray⟩ ∧ Ext w2 w') (fun _ i _ => n - (intOf i).toNat)
  case atStart => exact ⟨0, Nat.zero_le _, rfl, by rw [HST.out], Ext.refl _⟩
  case round =>
    obtain ⟨k, hk, rfl, rfl, hb⟩ := hrel
    have Hb := Lib.hid hb
    have s1 := cell_ext hb g1
    clear hb
    have hpl : (stHead nx n ++ ((K.take k).map kdB).flatten).length ≤ 10000 := by
      have h1 := take_le_kd K k
      have h2 := kdBs_le K (fun i hi => (okState_kd HOk.out i hi).2.1)
      have := HLen.out
      rw [List.length_append]; unfold stHead
      simp only [List.length_append, be_length]
      omega
    have HPl := Lib.hid hpl
    by_cases hlt : k < n
    · obtain ⟨b, off, rfl, c0, c1, c2⟩ := (HK2.out.ext Hb.out).at hlt
      obtain ⟨z1, z2, z3, z4, z5, z6⟩ := okState_kd HOk.out k (by rw [HLen.out]; exact hlt)
      have HNx := Lib.hid (map_take_kd K k (by rw [HLen.out]; exact hlt))
      obtain ⟨q, hq⟩ : ∃ q, K.getD k kd0 = q := ⟨_, rfl⟩
      rw [hq] at c0 c1 c2 z1 z2 z3 z4 z5 z6 HNx
      obtain ⟨t, mm, bb⟩ := q
      have z2' : t.length ≤ 16 := z2
      have z3' : 1 ≤ mm := z3
      have z4' : mm ≤ 1073741824 := z4
      have z5' : 0 ≤ bb := z5
      have z6' : bb ≤ 214748364800 := z6
      generalize hP : stHead nx n ++ ((K.take k).map kdB).flatten = P at *
      have HPP : Hid (stHead nx n ++ ((K.take (k + 1)).map kdB).flatten = P ++ kdB ⟨t, mm, bb⟩) := Lib.hid (by rw [HNx.out, ← List.append_assoc, hP])
      have htx : (textS t).length ≤ 18 := by rw [textS_yes (by omega)]; simp [be_length]; omega
      have HSt : Hid ((({ data := P.toArray } ++ { data := (textS t).toArray } ++ { data := (be 4 mm.toNat).toArray } ++ { data := (be 8 bb.toNat).toArray }) : ByteArray) = ⟨(P ++ kdB ⟨t, mm, bb⟩).toArray⟩) := Lib.hid (by
        rw [ByteArray.mk_append_mk, ByteArray.mk_append_mk, ByteArray.mk_append_mk]; unfold kdB; simp)
      have e0 : (wr.alloc (.cells #[.string ⟨t.toArray⟩, .int .i64 mm, .int .i64 bb] 104)).cell? ⟨wr.heap.size, 0, none⟩ = some (.string ⟨t.toArray⟩) := by simp
      have e1 : (wr.alloc (.cells #[.string ⟨t.toArray⟩, .int .i64 mm, .int .i64 bb] 104)).cell? ⟨wr.heap.size, 1, none⟩ = some (.int .i64 mm) := by simp
      have e2 : (wr.alloc (.cells #[.string ⟨t.toArray⟩, .int .i64 mm, .int .i64 bb] 104)).cell? ⟨wr.heap.size, 2, none⟩ = some (.int .i64 bb) := by simp
      have u0 := cell_of e0; have u1 := cell_of e1; have u2' := cell_of e2
      have HC1 := Lib.hid (fun wx : World => reftext_c t wx (by omega))
      have HC2 := Lib.hid (fun wx : World => refput_k mm 4 4 wx rfl (by decide) (by decide) (by omega) (by omega))
      have HC3 := Lib.hid (fun wx : World => refput_k bb 8 8 wx rfl (by decide) (by decide) (by omega) (by omega))
      have hl4 := be_length 4 mm.toNat; have hl8 := be_length 8 bb.toNat
      clear hP hq z1 z2 z3 z4 z5 z6
      go_wp2_with fail
      clear c0 c1 c2 e0 e1 e2
      refine wp_region_ext (by kernel_rfl) (by kernel_rfl) ?_
      repeat (go_big_quiet_step (fail))
      go_big_quiet_step (exact Calls.quiet_ext (HC1.out _))
      repeat (go_big_quiet_step (fail))
      go_big_quiet_step (exact Calls.quiet_ext (HC2.out _))
      repeat (go_big_quiet_step (fail))
      go_big_quiet_step (exact Calls.quiet_ext (HC3.out _))
      repeat (go_big_quiet_step (fail))
      refine wpQuiet_nil ?_
      intro w4 hw4
      have HW4 := Lib.hid (Hb.out.trans ((ext_a1 _ _).trans hw4)); clear hw4 u0 u1 u2'
      go_wp2_with fail
      go_roundw
      case rel => exact ⟨k + 1, by omega, by go_num, by rw [HPP.out, ← HSt.out], HW4.out⟩
      case measure => simp [intOf]; omega
    · have hkn : k = n := by omega
      have ht : K.take k = K := List.take_of_length_le (by rw [HLen.out]; omega)
      have hbd : stHead nx n ++ ((K.take k).map kdB).flatten = stBody nx K := by rw [ht]; unfold stBody; rw [HLen.out]
      rw [hbd] at HPl ⊢
      clear hpl hkn ht hbd
      generalize stBody nx K = P at *
      go_wp2_with fail
      refine (refseal_c P _ (by have := HPl.out; omega)).mono ?_
      rintro e w5 ⟨rfl, hb5⟩
      have HE := Lib.hid (HB2.out.trans (Hb.out.trans hb5)); clear hb5
      go_wp2_with fail
      go_ret2
      exact ⟨by rw [HP.out]; rfl, HE.out⟩

end Go.Proofs.Ytkkafjknogfdnaa
