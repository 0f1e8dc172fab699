/- Walks: clones, trimmed levels, five levels. -/
import Derived.Test.YtoibjhoebjcfeaaChecked
import Derived.Test.YtoibjhoebjcfeaaLC
import Derived.Test.YtoibjhoebjcfeaaLS
import Derived.WalkSpells
namespace Go.Proofs.Ytoibjhoebjcfeaa
open Go.RowKit

theorem Rd.none {w : World} {cs : List Value} (h : Rd w none cs) : cs = [] := by
  cases cs with
  | nil => rfl
  | cons y ys => obtain ⟨b, off, e, _⟩ := h 0 y rfl; cases e

set_option maxRecDepth 100000 in
set_option maxHeartbeats 400000 in
theorem clone_c (ao : Option Addr) (n cap : Nat) (xs : List Int) (w : World) (hx : Ints w ao n cap xs) (hs : n ≤ 17592186044416) :
    Calls Try.prog 50 #[.slice ao n cap] w (RetI 3 w xs) := by
  have Hx := Lib.hid hx
  have b1 := hx.fits; have b2 := hx.bound
  have hl := hx.len
  have hnil := hx.nil
  have hq := fun (w : World) (a : Option Addr) (n c n' c' : Nat) => Lib.run_eql_slice_nil (P := Try.prog) w 30 3 a n c n' c' Try.underlying30
  cases ao with
  | none =>
    have h0 : xs = [] := by simpa using hx.rd.none
    have hc := hnil rfl
    subst h0 hc
    obtain rfl : n = 0 := by omega
    clear hx hl hnil
    go_enter Try.func50, Try.ntmps50
    go_wp2_with fail
    go_ret
    exact ⟨_, rfl, Own.nil _ _ _ _, Ext.refl _⟩
  | some a =>
    have HL := Lib.hid hl
    clear hx hl hnil
    go_enter Try.func50, Try.ntmps50
    go_wp2_with (at_builtin; refine wpList_append_any rfl _ _ 30 rfl w.heap.size 3 _ 1 8 Try.underlying30 Try.infoInt rfl (by decide) _ _ _ rfl (Own.lit w #[] 3 1 0 (Nat.le_refl _) rfl (by omega)) _ _ _ (xs.map (Value.int .i64)) rfl (by rw [List.length_map, HL.out]; omega) (fun h => by cases h) (Hx.out.rd.ext ((Ext.refl w).alloc _)) (ints_oneCell _ _) (by omega) (by omega) (by simp) ?_; intro v' w1 hown' hg _)
    have hb := below_own ((Ext.refl w).alloc (.cells #[] 3)) (Own.lit w #[] 3 1 0 (Nat.le_refl _) rfl (by omega)) hg (by simp)
    have HB := Lib.hid hb
    have HO := Lib.hid hown'
    clear hb hown' hg
    go_wp2_with fail
    go_ret
    exact ⟨_, rfl, by have := HO.out; rw [HL.out]; simpa using this, HB.out⟩

end Go.Proofs.Ytoibjhoebjcfeaa
