/- Walks: the bytes of a table. -/
import Derived.Test.YtmgpffknmmoggaaGreatDoorG26PIndexPlay
import Derived.Test.YtmgpffknmmoggaaGreatDoorG31PIndexPlay
set_option linter.unusedVariables false
set_option linter.unusedSimpArgs false
namespace Go.Proofs.YtmgpffknmmoggaaGreatDoor
open Go.RowKit
set_option maxRecDepth 100000
set_option linter.unusedVariables false
set_option maxHeartbeats 6400000
def tabK (L : List En) (k : Nat) : List UInt8 := tabF ++ (be 4 L.length ++ ((L.take k).map entB).flatten)
theorem tabK_length (L : List En) (k : Nat) (hk : k ≤ L.length) : (tabK L k).length = 8 + 24 * k := by
  unfold tabK tabF; rw [List.length_append, List.length_append, be_length, ents_length, List.length_take]; simp; omega
theorem tabK_step (L : List En) (k : Nat) (hk : k < L.length) : tabK L (k + 1) = tabK L k ++ entB (L.getD k en0) := by
  unfold tabK
  have e : L.take (k + 1) = L.take k ++ [L.getD k en0] := by
    rw [List.take_add_one, List.getElem?_eq_getElem hk]
    simp [List.getD, List.getElem?_eq_getElem hk]
  rw [e]
  simp
theorem tabK_all (L : List En) : tabK L L.length = tabC L := by unfold tabK tabC; rw [List.take_length]
theorem RowN.weak {w : World} {B base : Nat} {e : TypeId} {v : Value} {n : Nat} {xs : List Value} (h : RowN w base e v n xs) (k : B ≤ base) : RowN w B e v n xs := by
  obtain ⟨h0, g, cap, cur, fz, h1, h2, h3⟩ := h
  exact ⟨h0, g, cap, cur, fz, h1, Nat.le_trans k h2, h3⟩
def tputV (L : List En) : Value := if sortB L then .tuple #[.string ⟨(tabB L).toArray⟩, .int .i64 0] else .tuple #[.string ⟨#[]⟩, .int .i64 2]
theorem tput_c {ao : Option Addr} {n cap : Nat} {L : List En} (w : World) (hx : Ens w ao n cap L) (hn : n ≤ 1000) (hok : ∀ e ∈ L, okEn e = true) : Calls Tryz.prog 172 #[.slice ao n cap] w fun r w' => r = .returned (tputV L) ∧ Ext w w' := by
  have Hx := Lib.hid hx
  have b1 := hx.fits; have b2 := hx.bound
  have hlen := hx.len
  have HLen := Lib.hid hlen
  have HS := Lib.hid (fun W (k : Ext w W) => sorted_e W (hx.ext k))
  have HOk := Lib.hid hok
  clear hx hok
  cases hq : sortB L with
  | false =>
    have HV : Hid (tputV L = .tuple #[.string ⟨#[]⟩, .int .i64 2]) := Lib.hid (by unfold tputV; rw [if_neg (by rw [hq]; decide)])
    rw [hq] at HS
    clear hq hlen
    go_enter Tryz.func172, Tryz.ntmps172
    go_wp2_with fail
    refine (HS.out _ (Ext.refl _)).mono ?_
    rintro e w1 ⟨rfl, hb⟩
    have HB := Lib.hid hb; clear hb
    go_wp2_with fail
    go_ret2
    rw [HV.out]
    exact ⟨rfl, HB.out⟩
  | true =>
    have HV : Hid (tputV L = .tuple #[.string ⟨(tabB L).toArray⟩, .int .i64 0]) := Lib.hid (by unfold tputV; rw [if_pos hq])
    rw [hq] at HS
    have hw1 : IntKind.u64.wrap (n : Int) = (n : Int) := by rw [IntKind.wrap_u64]; omega
    have HP := Lib.hid (fun W => put_c (n : Int) 4 W (by omega) (by omega) (by omega) (by omega))
    have hnn : ((n : Int)).toNat = n := by omega
    rw [hnn] at HP
    have HB4 := Lib.hid (be_length 4 n)
    have q1 : ¬ (9223372036854775807 < ([112, 116, 97, 98] : List UInt8).length + (be 4 n).length) := by rw [HB4.out]; decide
    have HK0 : Hid (([112, 116, 97, 98] : List UInt8) ++ be 4 n = tabK L 0) := Lib.hid (by unfold tabK tabF; rw [HLen.out]; simp)
    have HConv : Hid (∀ W : World, (convert 9 142 (Value.string ((⟨#[112, 116, 97, 98]⟩ : ByteArray) ++ ⟨(be 4 n).toArray⟩))).run Tryz.prog W = .ok (.slice (some ⟨W.heap.size, 0, none⟩) (tabK L 0).length (grownCap W (tabK L 0).length 0 5)) (Lib.bytesWorld W 5 ⟨(tabK L 0).toArray⟩)) := Lib.hid (fun W => by
      have h := Lib.run_convert_string_bytes (P := Tryz.prog) W 9 142 5 ⟨(tabK L 0).toArray⟩ Tryz.underlying9 Tryz.underlying142 Tryz.underlying5
      have e : ((⟨#[112, 116, 97, 98]⟩ : ByteArray) ++ ⟨(be 4 n).toArray⟩) = ⟨(tabK L 0).toArray⟩ := by
        rw [← HK0.out]
        exact cat_mk [112, 116, 97, 98] (be 4 n)
      rw [e]
      exact h)
    have HR0 := Lib.hid (fun W => RowN.of_string W 5 (tabK L 0) (by rw [tabK_length _ _ (Nat.zero_le _)]; omega))
    have HL0 := Lib.hid (tabK_length L 0 (Nat.zero_le _))
    clear hq hlen
    go_enter Tryz.func172, Tryz.ntmps172
    go_wp2_with fail
    refine (HS.out _ (Ext.refl _)).mono ?_
    rintro e w1 ⟨rfl, hb⟩
    have HB := Lib.hid hb; clear hb
    go_wp2_with fail
    refine (HP.out _).mono ?_
    rintro e w2 ⟨rfl, hb⟩
    have HB2 := Lib.hid (HB.out.trans hb); clear hb
    go_wp2_with fail
    rw [HConv.out]
    have HR := Lib.hid ((HR0.out w2).weak HB2.out.size)
    have HB3 := Lib.hid (HB2.out.trans (ext_bytesWorld w2 5 ⟨(tabK L 0).toArray⟩))
    generalize Lib.bytesWorld w2 5 ⟨(tabK L 0).toArray⟩ = w3 at *
    generalize grownCap w2 (tabK L 0).length 0 5 = cap0 at *
    clear HConv HR0
    rw [HL0.out] at *
    go_wp2_with fail
    go_loopw [4, 19] (fun v i W => ∃ k : Nat, k ≤ n ∧ i = .int .i64 (k : Int) ∧ RowN W w.heap.size 5 v (8 + 24 * k) (Lib.strCells ⟨(tabK L k).toArray⟩) ∧ Ext w W) (fun _ i _ => n - (intOf i).toNat)
    case atStart => exact ⟨0, Nat.zero_le _, rfl, by have := HR.out; exact this, HB3.out⟩
    case round =>
      obtain ⟨k, hk, rfl, hrow, hb⟩ := hrel
      have HRow := Lib.hid hrow; have HBk := Lib.hid hb
      by_cases hlt : k < n
      · have hd : decide ((k : Int) < (n : Int)) = true := by simp; omega
        obtain ⟨b, off, rfl, c0, c1, c2⟩ := (Hx.out.ext hb).at hlt
        have HStep := Lib.hid (tabK_step L k (by rw [HLen.out]; exact hlt))
        have hke := HOk.out (L.getD k en0) (by rw [List.getD, List.getElem?_eq_getElem (by rw [HLen.out]; exact hlt)]; simp)
        have HPe := Lib.hid (fun W => putent_c (L.getD k en0) W hke)
        have HEl := Lib.hid (entB_length (L.getD k en0))
        clear hke
        generalize L.getD k en0 = z at *
        obtain ⟨z1, z2, z3⟩ := z
        unfold enV ec at HPe
        generalize entB (z1, z2, z3) = E at *
        have u0 := cell_of c0; have u1 := cell_of c1; have u2 := cell_of c2
        have hEl := HEl.out
        clear hrow hb
        obtain ⟨ga, ca, rfl⟩ : ∃ ga ca, u4 = .slice (some ⟨ga, 0, none⟩) (8 + 24 * k) ca := by
          obtain ⟨_, g, cap, _, _, h, _⟩ := HRow.out
          exact ⟨g, cap, h⟩
        go_wp2_with fail
        refine (HPe.out _).mono ?_
        rintro e w4 ⟨rfl, hb⟩
        have HX4 := Lib.hid ((ext_a1 _ _).trans hb)
        have HB4' := Lib.hid (HBk.out.trans HX4.out)
        have HR4 := Lib.hid (HRow.out.kept HX4.out)
        clear hb
        have hEs : (⟨E.toArray⟩ : ByteArray).size = 24 := hEl
        go_wp2_with (at_builtin; refine wpList_append_strN _ rfl (.tmp 28) (.tmp 29) 142 9 rfl w.heap.size 5 Tryz.underlying142 Tryz.underlying9 Tryz.infoU8 _ (8 + 24 * k) _ rfl HR4.out ⟨E.toArray⟩ rfl (by rw [hEs]; unfold maxLen; omega) (by rw [hEs]; omega) HB4'.out.size ?_; intro v5 w5 hown hgrow; obtain ⟨g5, c5, rfl⟩ : ∃ ga ca, v5 = .slice (some ⟨ga, 0, none⟩) (8 + 24 * k + (⟨E.toArray⟩ : ByteArray).size) ca := (by obtain ⟨_, g, cap, _, _, h, _⟩ := hown; exact ⟨g, cap, h⟩); have HO5 := Lib.hid hown; have HB5 := Lib.hid ((HB4'.out : Below w.heap.size w _).grown hgrow HB4'.out.size (fun q hq => by obtain ⟨_, g, _, _, _, e1, e2, _⟩ := HR4.out; cases e1; cases hq; exact e2)); clear hown hgrow)
        have e24 : 8 + 24 * k + 24 = 8 + 24 * (k + 1) := by omega
        go_roundw
        case rel => exact ⟨k + 1, hlt, by go_num, by have := HO5.out; rw [hEs, e24, strCells_cat, ← HStep.out] at this; exact this, HB5.out⟩
        case measure => simp [intOf]; omega
      · have hd : decide ((k : Int) < (n : Int)) = false := by simp; omega
        have hkn : k = n := by omega
        subst hkn
        have hlC := tabC_length L
        rw [HLen.out] at hlC
        have HK : Hid (tabK L k = tabC L) := Lib.hid (by rw [← HLen.out]; exact tabK_all L)
        have HConv : Hid ((convert 142 9 u4).run Tryz.prog wr = .ok (.string ⟨(tabC L).toArray⟩) wr) := Lib.hid (convN (P := Tryz.prog) wr 142 9 5 w.heap.size u4 (tabC L) Tryz.underlying142 Tryz.underlying5 Tryz.underlying9 (by rw [hlC, ← HK.out]; exact HRow.out))
        have HSe := Lib.hid (fun W => seal_c (tabC L) W (by omega))
        have HTb : Hid (sealS (tabC L) = tabB L) := Lib.hid rfl
        rw [HTb.out] at HSe
        generalize tabC L = TC at *
        clear hrow hb
        go_wp2_with fail
        rw [HConv.out]
        go_wp2_with fail
        refine (HSe.out _).mono ?_
        rintro e w5 ⟨rfl, hb⟩
        have HB5 := Lib.hid (HBk.out.trans hb); clear hb
        go_wp2_with fail
        go_ret2
        rw [HV.out]
        exact ⟨rfl, HB5.out⟩
end Go.Proofs.YtmgpffknmmoggaaGreatDoor
