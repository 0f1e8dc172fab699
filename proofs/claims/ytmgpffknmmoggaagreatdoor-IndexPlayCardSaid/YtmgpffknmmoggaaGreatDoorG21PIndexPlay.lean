/- Walks: whether levels may be. -/
import Derived.Test.YtmgpffknmmoggaaGreatDoorChecked
import Derived.Test.YtmgpffknmmoggaaGreatDoorG19PIndexPlay
import Derived.Test.YtmgpffknmmoggaaGreatDoorG1PIndexPlay
import Derived.Maps.OwnOps
import Derived.Maps.OwnSet
import Derived.Maps.Views
set_option linter.unusedVariables false
set_option linter.unusedSimpArgs false
namespace Go.Proofs.YtmgpffknmmoggaaGreatDoor
open Go.RowKit Go.Maps
theorem Tryz.keyInt : Keyed Tryz.prog 3 := int_keyed Tryz.underlying3
theorem Tryz.zeroInt (w : World) : (zeroValue 3).run Tryz.prog w = .ok (.int .i64 0) w := by kernel_rfl
def Seen (w : World) (b n : Nat) (xs : List Int) : Prop :=
  ∃ D : DataW Unit, w.ownsMap Tryz.prog 3 (plainElem Tryz.prog 3) b n D ∧ ∀ x, D.atKey (.int .i64 x) (.lit (.int .i64 0)) = .lit (.int .i64 (if x ∈ xs then 1 else 0))
theorem Seen.made (w : World) : Seen (w.alloc (.map #[] 0)) w.heap.size 0 [] := ⟨_, World.ownsMap_made _ _ _ _, fun x => by simp [DataW.atKey]⟩
set_option maxRecDepth 100000 in
theorem Seen.look {w : World} {b n : Nat} {xs : List Int} (h : Seen w b n xs) (x : Int) (hw : (Lit.int .i64 x).wf = true) :
    (Instr.lookup 208 (.map (some b)) (.int .i64 x) false).run Tryz.prog w = .ok (.int .i64 (if x ∈ xs then 1 else 0)) w := by
  obtain ⟨D, h1, h2⟩ := h
  obtain ⟨c, hrun, hat, _⟩ := h1.lookup_int Tryz.keyInt Tryz.underlying208 Tryz.underlying3 (Tryz.zeroInt _) (keyOf_int_mk Tryz.underlying3 hw)
  rw [h2 x] at hat
  injection hat with hat
  injection hat with _ hat
  rw [hat]; exact hrun
theorem Seen.put {w' : World} {b n : Nat} {xs : List Int} {D : DataW Unit} (hD : ∀ x, D.atKey (.int .i64 x) (.lit (.int .i64 0)) = .lit (.int .i64 (if x ∈ xs then 1 else 0))) (hm : IsMap D) (x : Int)
    (h : w'.ownsMap Tryz.prog 3 (plainElem Tryz.prog 3) b n (D.put (.int .i64 x) (.lit (.int .i64 1)))) (ys : List Int) (hy : ∀ z, z ∈ ys ↔ (z ∈ xs ∨ z = x)) : Seen w' b n ys := by
  refine ⟨_, h, fun z => ?_⟩
  by_cases hz : z = x
  · subst hz
    rw [atKey_put_same hm (k := .int .i64 z) (show WideAt.IsKeyLit (.int .i64 z) from trivial), if_pos ((hy z).2 (.inr rfl))]
  · rw [atKey_put_other (by intro h; injection h with _ h; exact hz h), hD z]
    have : (z ∈ ys) ↔ (z ∈ xs) := by rw [hy]; exact ⟨fun h => h.elim id fun h => (hz h).elim, .inl⟩
    simp only [this]
set_option maxRecDepth 100000 in
set_option maxHeartbeats 1600000 in
theorem valid_c (ao : Option Addr) (n cap : Nat) (L : List (List Int)) (w : World) (hx : Grid w ao n cap L) (hsum : L.flatten.length ≤ 17592186044416) (hwf : ∀ x ∈ L.flatten, (Lit.int .i64 x).wf = true) :
    Calls Tryz.prog 101 #[.slice ao n cap] w fun e w' => e = .returned (.bool (validB L)) ∧ Ext w w' := by
  have Hx := Lib.hid hx
  have b1 := hx.fits; have b2 := hx.bound; have hl := hx.len
  have HL := Lib.hid hl
  have HWF := Lib.hid hwf
  clear hx hl hwf
  have hmm := @run_makeMap Tryz.prog
  go_enter Tryz.func101, Tryz.ntmps101
  go_wp2_with fail
  refine (all_c _ _ _ L _ Hx.out hsum).mono ?_
  rintro e w1 ⟨v1, rfl, hown, hb1⟩
  obtain ⟨a1, c1, rfl, hi⟩ := own_ints hown
  have HB1 := Lib.hid hb1
  have HI := Lib.hid hi
  have f1 := hi.fits; have f2 := hi.bound
  clear hown hb1 hi
  have V1 := Lib.hid (validB_many L); have V2 := Lib.hid (validB_great L); have V3 := Lib.hid (validB_neg L); have V4 := Lib.hid (validB_dup L); have V5 := Lib.hid (validB_ok L)
  generalize L.flatten = xs at *
  by_cases h5 : 5 < n
  · go_wp2_with fail
    go_ret
    exact ⟨rb (V1.out (by rw [HL.out]; exact h5)), HB1.out⟩
  by_cases h40 : 40 < xs.length
  · go_wp2_with fail
    go_ret
    exact ⟨rb (V2.out h40), HB1.out⟩
  go_wp2_with fail
  go_loopw [20] (fun i w' => ∃ k : Nat, k ≤ xs.length ∧ i = .int .i64 k ∧ Seen w' w1.heap.size k (xs.take k) ∧ (∀ x ∈ xs.take k, 0 ≤ x) ∧ (xs.take k).Nodup ∧ Ext w1 w') (fun i _ => xs.length - (intOf i).toNat)
  case atStart => exact ⟨0, Nat.zero_le _, rfl, Seen.made _, by simp, by simp, (Ext.refl _).alloc _⟩
  case round =>
    obtain ⟨k, hk, rfl, hseen, hpos, hnd, hb⟩ := hrel
    have HS := Lib.hid hseen; have HP := Lib.hid hpos; have HN := Lib.hid hnd; have Hb := Lib.hid hb
    clear hseen hpos hnd hb
    by_cases hlt : k < xs.length
    · obtain ⟨b, off, rfl, d1⟩ := (HI.out.ext Hb.out).at hlt
      have v3 := V3.out k hlt
      have v4 := V4.out k hlt
      have n1 := nonneg_take_succ xs k hlt HP.out
      have n2 := nodup_take_succ xs k hlt HN.out
      have n3 := mem_take_succ xs k hlt
      have hwx := HWF.out _ (getD_mem xs k hlt)
      generalize xs.getD k 0 = X at *
      have V3' := Lib.hid v3; have V4' := Lib.hid v4; have N1 := Lib.hid n1; have N2 := Lib.hid n2; have N3 := Lib.hid n3; have HWX := Lib.hid hwx
      clear v3 v4 n1 n2 n3 hwx
      by_cases hneg : X < 0
      · go_wp2_with fail
        go_ret
        exact ⟨rb (V3'.out hneg), HB1.out.trans Hb.out⟩
      · have hlook := HS.out.look X HWX.out
        by_cases hin : X ∈ xs.take k
        · rw [if_pos hin] at hlook
          have HIN := Lib.hid hin; clear hin
          go_wp2_with fail
          go_ret
          exact ⟨rb (V4'.out HIN.out), HB1.out.trans Hb.out⟩
        · rw [if_neg hin] at hlook
          have HIN := Lib.hid hin; clear hin
          obtain ⟨D, o1, o2⟩ := HS.out
          have O1 := Lib.hid o1; have O2 := Lib.hid o2; clear o1 o2
          go_wp2_with (at_mapUpdate; refine wpList_mapUpdate_own _ rfl _ _ _ 208 rfl 3 3 Tryz.keyInt Tryz.underlying208 _ w1.heap.size k _ rfl O1.out (by unfold maxLen; omega) _ _ _ rfl rfl (keyOf_int_mk Tryz.underlying3 HWX.out) _ [] (plainElem_int Tryz.underlying3 (by decide)) ?_; intro w2 hown2 hgrow2)
          have hs2 := Seen.put O2.out (World.ownsMap.isMap O1.out) X hown2 (xs.take (k + 1)) N3.out
          have hb2 : Ext w1 w2 := Hb.out.grown hgrow2 Hb.out.size (fun j hj => by cases hj; exact Nat.le_refl _)
          have HS2 := Lib.hid hs2; have HB2 := Lib.hid hb2
          clear hs2 hb2 hown2 hgrow2
          go_wp2_with fail
          go_roundw
          case rel => exact ⟨k + 1, by omega, by go_num, HS2.out, N1.out hneg, N2.out HIN.out, HB2.out⟩
          case measure => simp [intOf]; omega
    · have hk2 : xs.take k = xs := List.take_of_length_le (by omega)
      have HK := Lib.hid hk2; clear hk2
      go_wp2_with fail
      go_ret
      exact ⟨rb (V5.out (by rw [HL.out]; omega) (by omega) (by have := HP.out; rwa [HK.out] at this) (by have := HN.out; rwa [HK.out] at this)), HB1.out.trans Hb.out⟩
end Go.Proofs.YtmgpffknmmoggaaGreatDoor
