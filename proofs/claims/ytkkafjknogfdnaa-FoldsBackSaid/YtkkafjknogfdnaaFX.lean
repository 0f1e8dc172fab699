/- Walks: the law FoldsGet. -/
import Derived.Test.YtkkafjknogfdnaaChecked
import Derived.Test.YtkkafjknogfdnaaFW
import Derived.Test.YtkkafjknogfdnaaFV
import Derived.Test.YtkkafjknogfdnaaFL
import Derived.Test.YtkkafjknogfdnaaFG
namespace Go.Proofs.Ytkkafjknogfdnaa
open Go.RowKit

theorem fget_small (s : List UInt8) : (fgetS s).K.length ≤ 256 := by
  by_cases hz : (fgetS s).en = 0
  · exact (fget_ok hz).1.2.2.1
  · rw [fget_bad hz]; exact Nat.zero_le _

/-- a state that is got, laid open -/
theorem RetSE.out {w w' : World} {e : Ending} {t : TypeId} {g : GotS} (h : RetSE w t g e w') : ∃ a c, e = .returned (.tuple #[.agg #[.int .i64 g.nx, .slice a g.K.length c], .int .i64 g.en]) ∧ Kds w' a g.K.length c g.K ∧ Ext w w' := by
  obtain ⟨v, rfl, hrow, hb⟩ := h
  obtain ⟨a, c, rfl, hk⟩ := Kds.of_own (Own.of_row hrow)
  exact ⟨a, c, rfl, hk, hb⟩
theorem RetS.out {w w' : World} {e : Ending} {t : TypeId} {nx : Int} {K : List Kd} (h : RetS w t nx K e w') : ∃ a c, e = .returned (.agg #[.int .i64 nx, .slice a K.length c]) ∧ Kds w' a K.length c K ∧ Ext w w' := by
  obtain ⟨v, rfl, hrow, hb⟩ := h
  obtain ⟨a, c, rfl, hk⟩ := Kds.of_own (Own.of_row hrow)
  exact ⟨a, c, rfl, hk, hb⟩

set_option maxRecDepth 100000 in
set_option maxHeartbeats 3200000 in
theorem fgetlaw_c (s : List UInt8) (w : World) (hsl : s.length ≤ 9223372036854775807) :
    Calls Try.prog 10 #[.string ⟨s.toArray⟩] w fun e w' => e = .returned (.bool true) ∧ Ext w w' := by
  by_cases hls : 700 < (s.length : Int)
  · go_enter Try.func10, Try.ntmps10
    go_wp2_with fail
    refine (folded_c _).mono ?_
    rintro e w2 ⟨rfl, hb2⟩
    have HB2 := Lib.hid hb2
    clear hb2
    go_wp2_with fail
    go_ret
    exact ⟨rfl, HB2.out⟩
  have hsm := fget_small s
  have HRG := Lib.hid (reffget_c s)
  obtain ⟨nx, K, en, hg⟩ : ∃ nx K en, fgetS s = ⟨nx, K, en⟩ := ⟨_, _, _, rfl⟩
  have HG := Lib.hid hg
  rw [hg] at hsm
  have hsm' : K.length ≤ 256 := hsm
  have HRF : Hid (rfgetS s = ⟨nx, K, en⟩) := Lib.hid (by rw [← fget_rfget]; exact hg)
  clear hg hsm
  go_enter Try.func10, Try.ntmps10
  go_wp2_with fail
  refine (fget_c s _ (by omega)).mono ?_
  rw [HG.out]
  intro e w1 hr
  obtain ⟨a1, c1, rfl, hk1, hb1⟩ := hr.out
  have HK1 := Lib.hid hk1; have HB1 := Lib.hid hb1
  clear hr hk1 hb1
  go_wp2_with fail
  refine (HRG.out _ (by omega)).mono ?_
  rw [HRF.out]
  intro e w2 hr
  obtain ⟨a2, c2, rfl, hk2, hb2⟩ := hr.out
  have k2 := hk2.ext (ext_a1 w2 (.cells #[.int .i64 nx, .slice a2 K.length c2] 61))
  have HK2 := Lib.hid k2
  have S1 := Lib.hid ((Blk.new w1 55 #[.int .i64 nx, .slice a1 K.length c1]).ext (hb2.trans (ext_a1 w2 (.cells #[.int .i64 nx, .slice a2 K.length c2] 61))))
  have S2 := Lib.hid (Blk.new w2 61 #[.int .i64 nx, .slice a2 K.length c2])
  have HE := Lib.hid (hb2.trans (ext_a1 w2 (.cells #[.int .i64 nx, .slice a2 K.length c2] 61)))
  have HK1' := Lib.hid ((HK1.out.ext (ext_a1 w1 (.cells #[.int .i64 nx, .slice a1 K.length c1] 55))).ext HE.out)
  have hlt : w1.heap.size < w2.heap.size := by have h := hb2.size; rw [World.size_alloc] at h; omega
  have hne : w1.heap.size ≠ w2.heap.size := Nat.ne_of_lt hlt
  have HEw := Lib.hid (HB1.out.trans ((ext_a1 w1 (.cells #[.int .i64 nx, .slice a1 K.length c1] 55)).trans HE.out))
  clear hr hk2 hb2 k2 HRG
  go_wp2_with fail
  generalize hWW : w2.alloc (.cells #[.int .i64 nx, .slice a2 K.length c2] 61) = W at HK2 S1 S2 HE HK1' HEw ⊢
  have g0 : W.cell? ⟨w1.heap.size, 0, none⟩ = some (.int .i64 nx) := S1.out.cell 0
  have g1 : W.cell? ⟨w1.heap.size, 1, none⟩ = some (.slice a1 K.length c1) := S1.out.cell 1
  have g2 : W.cell? ⟨w2.heap.size, 0, none⟩ = some (.int .i64 nx) := S2.out.cell 0
  have g3 : W.cell? ⟨w2.heap.size, 1, none⟩ = some (.slice a2 K.length c2) := S2.out.cell 1
  clear hWW
  have HKd := Lib.hid (HK1'.out.ext (Ext.drew (Ext.refl W)))
  have HK2d := Lib.hid (HK2.out.ext (Ext.drew (Ext.refl W)))
  have S2d := Lib.hid S2.out.drew
  have HEd := Lib.hid HEw.out.drew
  go_region_law (go_simp; first | (go_at_call 38; refine (doc_c nx a1 _ c1 K _ HKd.out (by omega)).mono ?_; intro e wa hra; obtain ⟨av, cv, rfl, hka, hxa⟩ := hra.out; have HKa := Lib.hid hka; have HXa := Lib.hid (Ext.trans HEd.out hxa); have HK2a := Lib.hid (HK2d.out.ext hxa); have S2a := Lib.hid (S2d.out.ext hxa); have q2 : wa.cell? ⟨w2.heap.size, 0, none⟩ = some (.int .i64 nx) := S2a.out.cell 0; have q3 : wa.cell? ⟨w2.heap.size, 1, none⟩ = some (.slice a2 K.length c2) := S2a.out.cell 1; clear hra hka hxa) | (go_at_call 46; refine (reffsame_c nx nx av a2 _ _ cv c2 K K _ HKa.out HK2a.out).mono ?_; rw [sameS_refl]; rintro e wb ⟨rfl, hxb⟩; have HXb := Lib.hid (HXa.out.trans hxb); clear hxb) | (go_at_call 37; refine (folded_c _).mono ?_; rintro e wc ⟨rfl, hxc⟩; have HXc := Lib.hid (HXb.out.trans hxc); clear hxc))
  all_goals
    go_wp2_with fail
    go_ret
    exact ⟨rfl, HXc.out⟩

end Go.Proofs.Ytkkafjknogfdnaa
