/- Walks: the small helpers of the statements on levels. Walks: whether two manifests are the same, by the package and by the statements. Walks: the reader of a manifest's bytes. Walks: clones, trimmed levels, five levels. -/
import Derived.Test.YtjllhjlmjbpinaaChecked
import Derived.Test.YtjllhjlmjbpinaaG1PIndexmapCrash
import Derived.Test.YtjllhjlmjbpinaaG8PIndexmapCrash
import Derived.Test.YtjllhjlmjbpinaaG6PIndexmapCrash
import Derived.WalkSpells
namespace Go.Proofs.Ytjllhjlmjbpinaa
open Go.RowKit

theorem take_eq_succ (xs ys : List Int) (k : Nat) (h1 : k < xs.length) (h2 : k < ys.length) (h : xs.take k = ys.take k) (he : xs.getD k 0 = ys.getD k 0) : xs.take (k + 1) = ys.take (k + 1) := by
  rw [take_succ_getD xs 0 k h1, take_succ_getD ys 0 k h2, h, he]

theorem decide_ne_of_getD (xs ys : List Int) (k : Nat) (he : xs.getD k 0 ≠ ys.getD k 0) : decide (xs = ys) = false := by
  rw [decide_eq_false_iff_not]; intro h; exact he (by rw [h])

theorem decide_ne_of_len (xs ys : List Int) (he : xs.length ≠ ys.length) : decide (xs = ys) = false := by
  rw [decide_eq_false_iff_not]; intro h; exact he (by rw [h])

theorem decide_eq_of_take (xs ys : List Int) (n k : Nat) (h1 : xs.length = n) (h2 : ys.length = n) (hk : n ≤ k) (he : xs.take k = ys.take k) : decide (xs = ys) = true := by
  rw [decide_eq_true_iff]
  rwa [List.take_of_length_le (by omega), List.take_of_length_le (by omega)] at he

set_option maxHeartbeats 400000 in
theorem ints_c (ao bo : Option Addr) (n m cap cap2 : Nat) (xs ys : List Int) (w : World) (hx : Ints w ao n cap xs) (hy : Ints w bo m cap2 ys) :
    Calls Try.prog 87 #[.slice ao n cap, .slice bo m cap2] w fun e w' => e = .returned (.bool (decide (xs = ys))) ∧ Ext w w' := by
  have Hx := Lib.hid hx; have Hy := Lib.hid hy
  have b1 := hx.fits; have b2 := hx.bound; have b3 := hy.fits; have b4 := hy.bound
  clear hx hy
  by_cases hlen : (n : Int) = m
  · have hlen1 : ((n : Int) != m) = false := by simp [hlen]
    have Hl := Lib.hid hlen; clear hlen
    go_enter Try.func87, Try.ntmps87
    go_wp2_with fail
    go_loopw [5] (fun i w' => ∃ k : Nat, k ≤ n ∧ i = .int .i64 k ∧ xs.take k = ys.take k ∧ Ext w w') (fun i _ => n - (intOf i).toNat)
    case atStart => exact ⟨0, Nat.zero_le _, rfl, rfl, Ext.refl _⟩
    case round =>
      obtain ⟨k, hk, rfl, heq, hb⟩ := hrel
      have Heq := Lib.hid heq; clear heq
      have Hb := Lib.hid hb; clear hb
      by_cases hlt : k < n
      · have hk2 : k < m := by have := Hl.out; omega
        obtain ⟨b, off, rfl, c1⟩ := (Hx.out.ext Hb.out).at hlt
        obtain ⟨b', off', rfl, c2⟩ := (Hy.out.ext Hb.out).at hk2
        generalize hX : xs.getD k 0 = X at *
        generalize hY : ys.getD k 0 = Y at *
        have HX := Lib.hid hX; clear hX
        have HY := Lib.hid hY; clear hY
        go_wp2_with fail
        go_quiet (fail)
        go_wp2_with fail
        · have hne : (X != Y) = true := by assumption
          go_ret
          exact ⟨rb (decide_ne_of_getD xs ys k (by rw [HX.out, HY.out]; simpa using hne)), Hb.out.drewN _⟩
        · have hne : (X != Y) = false := by assumption
          go_roundw
          case rel => exact ⟨k + 1, by omega, by go_num, take_eq_succ xs ys k (by have := Hx.out.len; omega) (by have := Hy.out.len; omega) Heq.out (by rw [HX.out, HY.out]; simpa using hne), Hb.out.drewN _⟩
          case measure => simp [intOf]; omega
      · go_wp2_with fail
        go_ret
        exact ⟨rb (decide_eq_of_take xs ys n k Hx.out.len (by have := Hy.out.len; have := Hl.out; omega) (by omega) Heq.out), Hb.out⟩
  · have hlen1 : ((n : Int) != m) = true := by simpa using hlen
    have Hl := Lib.hid hlen; clear hlen
    go_enter Try.func87, Try.ntmps87
    go_wp2_with fail
    go_ret
    exact ⟨rb (decide_ne_of_len xs ys (by have := Hx.out.len; have := Hy.out.len; have := Hl.out; omega)), Ext.refl _⟩

theorem gtake_eq_succ (xs ys : List (List Int)) (k : Nat) (h1 : k < xs.length) (h2 : k < ys.length) (h : xs.take k = ys.take k) (he : xs.getD k [] = ys.getD k []) : xs.take (k + 1) = ys.take (k + 1) := by
  rw [take_succ_getD xs [] k h1, take_succ_getD ys [] k h2, h, he]
theorem gdecide_ne_of_getD (xs ys : List (List Int)) (k : Nat) (he : xs.getD k [] ≠ ys.getD k []) : decide (xs = ys) = false := by
  rw [decide_eq_false_iff_not]; intro h; exact he (by rw [h])
theorem gdecide_ne_of_len (xs ys : List (List Int)) (he : xs.length ≠ ys.length) : decide (xs = ys) = false := by
  rw [decide_eq_false_iff_not]; intro h; exact he (by rw [h])
theorem gdecide_eq_of_take (xs ys : List (List Int)) (n k : Nat) (h1 : xs.length = n) (h2 : ys.length = n) (hk : n ≤ k) (he : xs.take k = ys.take k) : decide (xs = ys) = true := by
  rw [decide_eq_true_iff]
  rwa [List.take_of_length_le (by omega), List.take_of_length_le (by omega)] at he

set_option maxHeartbeats 400000 in
theorem same_c (ao bo : Option Addr) (n m cap cap2 : Nat) (xs ys : List (List Int)) (w : World) (hx : Grid w ao n cap xs) (hy : Grid w bo m cap2 ys) :
    Calls Try.prog 61 #[.slice ao n cap, .slice bo m cap2] w fun e w' => e = .returned (.bool (decide (xs = ys))) ∧ Ext w w' := by
  have Hx := Lib.hid hx; have Hy := Lib.hid hy
  have b1 := hx.fits; have b2 := hx.bound; have b3 := hy.fits; have b4 := hy.bound
  clear hx hy
  by_cases hlen : (n : Int) = m
  · have hlen1 : ((n : Int) != m) = false := by simp [hlen]
    have Hl := Lib.hid hlen; clear hlen
    go_enter Try.func61, Try.ntmps61
    go_wp2_with fail
    go_loopw [5] (fun i w' => ∃ k : Nat, k ≤ n ∧ i = .int .i64 k ∧ xs.take k = ys.take k ∧ Ext w w') (fun i _ => n - (intOf i).toNat)
    case atStart => exact ⟨0, Nat.zero_le _, rfl, rfl, Ext.refl _⟩
    case round =>
      obtain ⟨k, hk, rfl, heq, hb⟩ := hrel
      have Heq := Lib.hid heq; clear heq
      have Hb := Lib.hid hb; clear hb
      by_cases hlt : k < n
      · have hk2 : k < m := by have := Hl.out; omega
        obtain ⟨b, off, ai, ni, ci, rfl, c1, r1⟩ := (Hx.out.ext Hb.out).at hlt
        obtain ⟨b', off', ai', ni', ci', rfl, c2, r2⟩ := (Hy.out.ext Hb.out).at hk2
        have d1 := cell_of c1; have d2 := cell_of c2
        have R1 := Lib.hid r1; have R2 := Lib.hid r2; clear r1 r2
        go_wp2_with fail
        by_cases hne : xs.getD k [] = ys.getD k []
        · have hd : decide (xs.getD k [] = ys.getD k []) = true := decide_eq_true hne
          have Hd := Lib.hid hd; have Hne := Lib.hid hne; clear hd hne
          refine wp_region_ext (by kernel_rfl) (by kernel_rfl) ?_
          repeat (go_big_quiet_step (exact Calls.quiet_ext (Calls.to (congrArg Value.bool Hd.out) (ints_c _ _ _ _ _ _ _ _ _ (R1.out.ext (ExtOf.h _)) (R2.out.ext (ExtOf.h _))))))
          refine wpQuiet_nil ?_
          intro w2 hw2
          have HW := Lib.hid hw2; clear hw2
          go_wp2_with fail
          go_roundw
          case rel => exact ⟨k + 1, by omega, by go_num, gtake_eq_succ xs ys k (by have := Hx.out.len; omega) (by have := Hy.out.len; omega) Heq.out Hne.out, Hb.out.trans HW.out⟩
          case measure => simp [intOf]; omega
        · have hd : decide (xs.getD k [] = ys.getD k []) = false := decide_eq_false hne
          have Hd := Lib.hid hd; have Hne := Lib.hid hne; clear hd hne
          refine wp_region_ext (by kernel_rfl) (by kernel_rfl) ?_
          repeat (go_big_quiet_step (exact Calls.quiet_ext (Calls.to (congrArg Value.bool Hd.out) (ints_c _ _ _ _ _ _ _ _ _ (R1.out.ext (ExtOf.h _)) (R2.out.ext (ExtOf.h _))))))
          refine wpQuiet_nil ?_
          intro w2 hw2
          have HW := Lib.hid hw2; clear hw2
          go_wp2_with fail
          go_ret
          exact ⟨rb (gdecide_ne_of_getD xs ys k Hne.out), Hb.out.trans HW.out⟩
      · go_wp2_with fail
        go_ret
        exact ⟨rb (gdecide_eq_of_take xs ys n k Hx.out.len (by have := Hy.out.len; have := Hl.out; omega) (by omega) Heq.out), Hb.out⟩
  · have hlen1 : ((n : Int) != m) = true := by simpa using hlen
    have Hl := Lib.hid hlen; clear hlen
    go_enter Try.func61, Try.ntmps61
    go_wp2_with fail
    go_ret
    exact ⟨rb (gdecide_ne_of_len xs ys (by have := Hx.out.len; have := Hy.out.len; have := Hl.out; omega)), Ext.refl _⟩

end Go.Proofs.Ytjllhjlmjbpinaa
namespace Go.Proofs.Ytjllhjlmjbpinaa
open Go.RowKit

/-- whether two are the same -/
def msame (nx ck sd : Int) (L : List (List Int)) (nx' ck' sd' : Int) (L' : List (List Int)) : Bool :=
  decide (nx = nx' ∧ ck = ck' ∧ sd = sd') && decide (trimL L = trimL L')

theorem msame_no {nx ck sd nx' ck' sd' : Int} {L L' : List (List Int)} (h : ¬ (nx = nx' ∧ ck = ck' ∧ sd = sd')) : msame nx ck sd L nx' ck' sd' L' = false := by
  unfold msame; rw [decide_eq_false h, Bool.false_and]
theorem msame_yes {nx ck sd : Int} {L L' : List (List Int)} : msame nx ck sd L nx ck sd L' = decide (trimL L = trimL L') := by
  unfold msame; rw [decide_eq_true ⟨rfl, rfl, rfl⟩, Bool.true_and]

theorem box8 (w : World) (a b c d : Value) (t : TypeId) (a' b' c' d' : Value) (t' : TypeId) :
    (∀ x : ExtOf ((w.alloc (.cells #[a, b, c, d] t)).alloc (.cells #[a', b', c', d'] t')), x.w'.cell? ⟨w.heap.size, 0, none⟩ = some a) ∧
    (∀ x : ExtOf ((w.alloc (.cells #[a, b, c, d] t)).alloc (.cells #[a', b', c', d'] t')), x.w'.cell? ⟨w.heap.size, 1, none⟩ = some b) ∧
    (∀ x : ExtOf ((w.alloc (.cells #[a, b, c, d] t)).alloc (.cells #[a', b', c', d'] t')), x.w'.cell? ⟨w.heap.size, 2, none⟩ = some c) ∧
    (∀ x : ExtOf ((w.alloc (.cells #[a, b, c, d] t)).alloc (.cells #[a', b', c', d'] t')), x.w'.cell? ⟨w.heap.size, 3, none⟩ = some d) ∧
    (∀ x : ExtOf ((w.alloc (.cells #[a, b, c, d] t)).alloc (.cells #[a', b', c', d'] t')), x.w'.cell? ⟨w.heap.size + 1, 0, none⟩ = some a') ∧
    (∀ x : ExtOf ((w.alloc (.cells #[a, b, c, d] t)).alloc (.cells #[a', b', c', d'] t')), x.w'.cell? ⟨w.heap.size + 1, 1, none⟩ = some b') ∧
    (∀ x : ExtOf ((w.alloc (.cells #[a, b, c, d] t)).alloc (.cells #[a', b', c', d'] t')), x.w'.cell? ⟨w.heap.size + 1, 2, none⟩ = some c') ∧
    (∀ x : ExtOf ((w.alloc (.cells #[a, b, c, d] t)).alloc (.cells #[a', b', c', d'] t')), x.w'.cell? ⟨w.heap.size + 1, 3, none⟩ = some d') := by
  have h := box4 (w := w.alloc (.cells #[a, b, c, d] t)) (Ext.refl ((w.alloc (.cells #[a, b, c, d] t)).alloc (.cells #[a', b', c', d'] t')))
  have k := box4 (w := w) (ext_a1 (w.alloc (.cells #[a, b, c, d] t)) (.cells #[a', b', c', d'] t') : Ext _ _)
  have e : (w.alloc (.cells #[a, b, c, d] t)).heap.size = w.heap.size + 1 := by simp
  rw [e] at h
  exact ⟨cell_of k.1, cell_of k.2.1, cell_of k.2.2.1, cell_of k.2.2.2, cell_of h.1, cell_of h.2.1, cell_of h.2.2.1, cell_of h.2.2.2⟩

set_option maxRecDepth 100000 in
set_option maxHeartbeats 1600000 in
theorem refmsame_c (nx ck sd : Int) (ao : Option Addr) (n cap : Nat) (L : List (List Int)) (nx' ck' sd' : Int) (bo : Option Addr) (m cap2 : Nat) (L' : List (List Int)) (w : World) (hx : Grid w ao n cap L) (hy : Grid w bo m cap2 L') :
    Calls Try.prog 21 #[.agg #[.int .i64 nx, .int .i64 ck, .int .u64 sd, .slice ao n cap], .agg #[.int .i64 nx', .int .i64 ck', .int .u64 sd', .slice bo m cap2]] w fun e w' => e = .returned (.bool (msame nx ck sd L nx' ck' sd' L')) ∧ Ext w w' := by
  have Hx := Lib.hid hx; have Hy := Lib.hid hy
  clear hx hy
  by_cases h1 : nx = nx'
  case neg =>
    have HM := Lib.hid (msame_no (L := L) (L' := L') (fun h => h1 h.1 : ¬ (nx = nx' ∧ ck = ck' ∧ sd = sd')))
    have h1' : (nx == nx') = false := by simpa using h1
    clear h1
    obtain ⟨f0, f1, f2, f3, f4, f5, f6, f7⟩ := box8 w (.int .i64 nx) (.int .i64 ck) (.int .u64 sd) (.slice ao n cap) 45 (.int .i64 nx') (.int .i64 ck') (.int .u64 sd') (.slice bo m cap2) 45
    go_enter Try.func21, Try.ntmps21
    go_wp2_with fail
    refine wp_region_ext (by kernel_rfl) (by kernel_rfl) ?_
    repeat (go_big_quiet_step (fail))
    refine wpQuiet_nil ?_
    intro w2 hw2
    have HW := Lib.hid hw2; clear hw2
    go_wp2_with fail
    go_ret
    exact ⟨rb HM.out, (ext_a2 _ _ _).trans HW.out⟩
  subst h1
  by_cases h1 : ck = ck'
  case neg =>
    have HM := Lib.hid (msame_no (L := L) (L' := L') (fun h => h1 h.2.1 : ¬ (nx = nx ∧ ck = ck' ∧ sd = sd')))
    have h1' : (ck == ck') = false := by simpa using h1
    clear h1
    obtain ⟨f0, f1, f2, f3, f4, f5, f6, f7⟩ := box8 w (.int .i64 nx) (.int .i64 ck) (.int .u64 sd) (.slice ao n cap) 45 (.int .i64 nx) (.int .i64 ck') (.int .u64 sd') (.slice bo m cap2) 45
    go_enter Try.func21, Try.ntmps21
    go_wp2_with fail
    refine wp_region_ext (by kernel_rfl) (by kernel_rfl) ?_
    repeat (go_big_quiet_step (fail))
    refine wpQuiet_nil ?_
    intro w2 hw2
    have HW := Lib.hid hw2; clear hw2
    go_wp2_with fail
    go_ret
    exact ⟨rb HM.out, (ext_a2 _ _ _).trans HW.out⟩
  subst h1
  by_cases h1 : sd = sd'
  case neg =>
    have HM := Lib.hid (msame_no (L := L) (L' := L') (fun h => h1 h.2.2 : ¬ (nx = nx ∧ ck = ck ∧ sd = sd')))
    have h1' : (sd == sd') = false := by simpa using h1
    clear h1
    obtain ⟨f0, f1, f2, f3, f4, f5, f6, f7⟩ := box8 w (.int .i64 nx) (.int .i64 ck) (.int .u64 sd) (.slice ao n cap) 45 (.int .i64 nx) (.int .i64 ck) (.int .u64 sd') (.slice bo m cap2) 45
    go_enter Try.func21, Try.ntmps21
    go_wp2_with fail
    refine wp_region_ext (by kernel_rfl) (by kernel_rfl) ?_
    repeat (go_big_quiet_step (fail))
    refine wpQuiet_nil ?_
    intro w2 hw2
    have HW := Lib.hid hw2; clear hw2
    go_wp2_with fail
    go_ret
    exact ⟨rb HM.out, (ext_a2 _ _ _).trans HW.out⟩
  subst h1
  have HM := Lib.hid (msame_yes (nx := nx) (ck := ck) (sd := sd) (L := L) (L' := L'))
  obtain ⟨f0, f1, f2, f3, f4, f5, f6, f7⟩ := box8 w (.int .i64 nx) (.int .i64 ck) (.int .u64 sd) (.slice ao n cap) 45 (.int .i64 nx) (.int .i64 ck) (.int .u64 sd) (.slice bo m cap2) 45
  have b1 := Hx.out.fits; have b2 := Hx.out.bound; have b3 := Hy.out.fits; have b4 := Hy.out.bound
  have hd : ∃ r, decide (trimL L = trimL L') = r := ⟨_, rfl⟩
  obtain ⟨r, hd⟩ := hd
  have HD := Lib.hid hd; clear hd
  go_enter Try.func21, Try.ntmps21
  go_wp2_with fail
  refine wp_region_ext (by kernel_rfl) (by kernel_rfl) ?_
  repeat (go_big_quiet_step (first | exact Calls.quiet_ext (reftrim_c _ _ _ L _ (Hx.out.ext ((ext_a2 _ _ _).trans (ExtOf.h _)))) | exact Calls.quiet_ext (reftrim_c _ _ _ L' _ (Hy.out.ext ((ext_a2 _ _ _).trans (ExtOf.h _)))) | exact Calls.quiet_ext (Calls.to (congrArg Value.bool HD.out) (same_c _ _ _ _ _ _ _ _ _ (Grid.trim (Hx.out.ext ((ext_a2 _ _ _).trans (ExtOf.h _)))) (Grid.trim (Hy.out.ext ((ext_a2 _ _ _).trans (ExtOf.h _))))))))
  refine wpQuiet_nil ?_
  intro w2 hw2
  have HW := Lib.hid hw2; clear hw2
  cases r
  · go_wp2_with fail
    go_ret
    exact ⟨by rw [HM.out, HD.out]; rfl, (ext_a2 _ _ _).trans HW.out⟩
  · go_wp2_with fail
    go_ret
    exact ⟨by rw [HM.out, HD.out]; rfl, (ext_a2 _ _ _).trans HW.out⟩

end Go.Proofs.Ytjllhjlmjbpinaa
namespace Go.Proofs.Ytjllhjlmjbpinaa
open Go.RowKit

theorem frozen_ext {w w' : World} (h : Ext w w') {a : Addr} {u : Value} (hc : w.cell? a = some u) (hz : w.frozen? a = false) : w'.frozen? a = false :=
  (h.frozen (World.block_lt_of_cell? (h := hc))).trans hz

theorem Own.setBelow {w : World} {B : Nat} {e : TypeId} {size : Nat} {v : Value} {n : Nat} {cs : List Value} (h : Own w B e size v n cs) {g : Nat} (hg : g < B) (k : Nat) (u : Value) : Own (w.setCell ⟨g, k, none⟩ u) B e size v n cs :=
  h.setOther u fun hb => by have := (h.lt _ hb).1; simp at this; omega

theorem OGr.setBelow {w : World} {B : Nat} {tO tI : TypeId} {v : Value} {vs : List Value} {L : List (List Int)} (h : OGr w B tO tI v vs L) {g : Nat} (hg : g < B) (k : Nat) (u : Value) : OGr (w.setCell ⟨g, k, none⟩ u) B tO tI v vs L :=
  ⟨h.own.setBelow hg k u, fun i => (h.row i).setBelow hg k u, h.sep⟩

set_option maxRecDepth 100000 in
set_option maxHeartbeats 800000 in
theorem take_no (l : List UInt8) (ok : Bool) (g : Nat) (k : Int) (w : World) (c0 : w.cell? ⟨g, 0, none⟩ = some (.string ⟨l.toArray⟩)) (c1 : w.cell? ⟨g, 1, none⟩ = some (.bool ok)) (z0 : w.frozen? ⟨g, 0, none⟩ = false) (z1 : w.frozen? ⟨g, 1, none⟩ = false) (_hl : l.length ≤ 9223372036854775807) (_hk0 : 0 ≤ k) (hk : (l.length : Int) < k) :
    Calls Try.prog 82 #[.pointer (some ⟨g, 0, none⟩), .int .i64 k] w fun e w' => e = .returned (.int .u64 0) ∧ w' = (w.setCell ⟨g, 0, none⟩ (.string ⟨#[]⟩)).setCell ⟨g, 1, none⟩ (.bool false) := by
  go_enter Try.func82, Try.ntmps82
  go_wp2_with fail
  go_ret
  exact ⟨rfl, rfl⟩

set_option maxRecDepth 100000 in
set_option maxHeartbeats 800000 in
theorem take_yes (l : List UInt8) (g : Nat) (k : Nat) (w : World) (c0 : w.cell? ⟨g, 0, none⟩ = some (.string ⟨l.toArray⟩)) (z0 : w.frozen? ⟨g, 0, none⟩ = false) (_hl : l.length ≤ 9223372036854775807) (hk : k ≤ l.length) (h8 : k ≤ 8) :
    Calls Try.prog 82 #[.pointer (some ⟨g, 0, none⟩), .int .i64 k] w fun e w' => e = .returned (.int .u64 (unbe (l.take k))) ∧ ∃ w1, Ext w w1 ∧ w' = w1.setCell ⟨g, 0, none⟩ (.string ⟨(l.drop k).toArray⟩) := by
  go_enter Try.func82, Try.ntmps82
  have hlt : (l.take k).length ≤ 9223372036854775807 := by simp; omega
  have ht : (l.take k).take 8 = l.take k := by rw [List.take_take]; congr 1; omega
  have HT := Lib.hid ht; clear ht
  go_wp2_with fail
  refine (get_c _ _ hlt).mono ?_
  rw [HT.out]
  rintro e w1 ⟨rfl, hb⟩
  have c1 := cell_ext hb c0
  have z1 := frozen_ext hb c0 z0
  have HB := Lib.hid hb; clear hb
  go_wp2_with fail
  go_ret
  exact ⟨rfl, w1, HB.out, rfl⟩

/-- all that was there is as it was, but for block g -/
structure Off (g : Nat) (w w' : World) : Prop where
  os : w'.os = w.os
  tape : w'.tape = w.tape
  output : w'.output = w.output
  size : w.heap.size ≤ w'.heap.size
  block : ∀ i, i < w.heap.size → i ≠ g → w'.heap[i]? = w.heap[i]?

theorem Off.refl (g : Nat) (w : World) : Off g w w := ⟨rfl, rfl, rfl, Nat.le_refl _, fun _ _ _ => rfl⟩
theorem Off.trans {g : Nat} {a b c : World} (h : Off g a b) (k : Off g b c) : Off g a c :=
  ⟨k.os.trans h.os, k.tape.trans h.tape, k.output.trans h.output, Nat.le_trans h.size k.size, fun i hi hn => (k.block i (Nat.lt_of_lt_of_le hi h.size) hn).trans (h.block i hi hn)⟩
theorem Off.of_ext {g : Nat} {w w' : World} (h : Ext w w') : Off g w w' := ⟨h.os, h.tape, h.output, h.size, fun i hi _ => h.block i hi⟩
theorem Off.set {g : Nat} (w : World) (k : Nat) (u : Value) : Off g w (w.setCell ⟨g, k, none⟩ u) :=
  ⟨rfl, rfl, rfl, by simp [World.setCell], fun i _ hn => Below.heap_setCell _ _ _ _ hn⟩
theorem Off.ext {g : Nat} {w0 w w' : World} (h : Ext w0 w) (hg : w0.heap.size ≤ g) (k : Off g w w') : Ext w0 w' :=
  ⟨k.os.trans h.os, k.tape.trans h.tape, k.output.trans h.output, Nat.le_trans h.size k.size, fun i hi => (k.block i (Nat.lt_of_lt_of_le hi h.size) (by omega)).trans (h.block i hi)⟩
theorem Off.below {g B : Nat} {w0 w w' : World} (h : Below B w0 w) (hg : B ≤ g) (hs : B ≤ w.heap.size) (k : Off g w w') : Below B w0 w' :=
  ⟨k.os.trans h.os, k.tape.trans h.tape, k.output.trans h.output, Nat.le_trans h.size k.size, fun i hi => (k.block i (by omega) (by omega)).trans (h.block i hi)⟩
theorem Off.own {g : Nat} {w w' : World} {B : Nat} {e : TypeId} {size : Nat} {v : Value} {n : Nat} {cs : List Value} (h : Own w B e size v n cs) (hg : g < B) (k : Off g w w') : Own w' B e size v n cs :=
  h.same fun i hb => k.block i (h.lt i hb).2 (by have := (h.lt i hb).1; omega)
theorem Off.ogr {g : Nat} {w w' : World} {B : Nat} {tO tI : TypeId} {v : Value} {vs : List Value} {L : List (List Int)} (h : OGr w B tO tI v vs L) (hg : g < B) (k : Off g w w') : OGr w' B tO tI v vs L :=
  ⟨Off.own h.own hg k, fun i => Off.own (h.row i) hg k, h.sep⟩
theorem Off.grown {g B : Nat} {e : TypeId} {size : Nat} {v : Value} {n : Nat} {xs : List Value} {w0 w w' : World} (h : Off g w0 w) (hown : Own w B e size v n xs) (hg : w.grownBy w' v.ownBlock) (hB : w0.heap.size ≤ B) : Off g w0 w' :=
  ⟨hg.os.trans h.os, hg.tape.trans h.tape, hg.output.trans h.output, Nat.le_trans h.size hg.size, fun i hi hn => (hg.block i (Nat.lt_of_lt_of_le hi h.size) (fun e => by have := (hown.lt i e.symm).1; omega)).trans (h.block i hi hn)⟩

/-- the reader lies in block g -/
def Rdr (w : World) (g : Nat) (s : List UInt8) (ok : Bool) : Prop := w.heap[g]? = some (.cells #[.string ⟨s.toArray⟩, .bool ok] 102 (0, 0))

theorem Rdr.c0 {w : World} {g : Nat} {s : List UInt8} {ok : Bool} (h : Rdr w g s ok) : w.cell? ⟨g, 0, none⟩ = some (.string ⟨s.toArray⟩) := by unfold Rdr at h; simp [World.cell?, h]
theorem Rdr.c1 {w : World} {g : Nat} {s : List UInt8} {ok : Bool} (h : Rdr w g s ok) : w.cell? ⟨g, 1, none⟩ = some (.bool ok) := by unfold Rdr at h; simp [World.cell?, h]
theorem Rdr.z0 {w : World} {g : Nat} {s : List UInt8} {ok : Bool} (h : Rdr w g s ok) : w.frozen? ⟨g, 0, none⟩ = false := by unfold Rdr at h; simp [World.frozen?, h]
theorem Rdr.z1 {w : World} {g : Nat} {s : List UInt8} {ok : Bool} (h : Rdr w g s ok) : w.frozen? ⟨g, 1, none⟩ = false := by unfold Rdr at h; simp [World.frozen?, h]
theorem Rdr.same {w w' : World} {g : Nat} {s : List UInt8} {ok : Bool} (h : Rdr w g s ok) (k : w'.heap[g]? = w.heap[g]?) : Rdr w' g s ok := k.trans h
theorem Rdr.lt {w : World} {g : Nat} {s : List UInt8} {ok : Bool} (h : Rdr w g s ok) : g < w.heap.size := World.block_lt_of_cell? (h := h.c0)
theorem Rdr.ext {w w' : World} {g : Nat} {s : List UInt8} {ok : Bool} (h : Rdr w g s ok) (k : Ext w w') : Rdr w' g s ok := h.same (k.block g h.lt)

def takeV (k : Nat) (s : List UInt8) : Nat := if s.length < k then 0 else unbe (s.take k)
def takeR (k : Nat) (s : List UInt8) : List UInt8 := if s.length < k then [] else s.drop k
def takeO (k : Nat) (s : List UInt8) (ok : Bool) : Bool := if s.length < k then false else ok

theorem take_c (l : List UInt8) (ok : Bool) (g k : Nat) (N : Int) (w : World) (hN : N = (k : Int)) (h : Rdr w g l ok) (hl : l.length ≤ 9223372036854775807) (h8 : k ≤ 8) :
    Calls Try.prog 82 #[.pointer (some ⟨g, 0, none⟩), .int .i64 N] w fun e w' => e = .returned (.int .u64 (takeV k l)) ∧ Rdr w' g (takeR k l) (takeO k l ok) ∧ Off g w w' := by
  subst hN
  by_cases hk : l.length < k
  · refine (take_no l ok g k w h.c0 h.c1 h.z0 h.z1 hl (by omega) (by omega)).mono ?_
    rintro e w' ⟨rfl, rfl⟩
    refine ⟨by unfold takeV; rw [if_pos hk]; rfl, ?_, (Off.set _ _ _).trans (Off.set _ _ _)⟩
    unfold takeR takeO Rdr; rw [if_pos hk, if_pos hk]
    unfold Rdr at h
    simp [World.setCell, Array.getElem?_modify, h]
  · refine (take_yes l g k w h.c0 h.z0 hl (by omega) h8).mono ?_
    rintro e w' ⟨rfl, w1, hb, rfl⟩
    have h1 := h.ext hb
    refine ⟨by unfold takeV; rw [if_neg hk], ?_, (Off.of_ext hb).trans (Off.set _ _ _)⟩
    unfold takeR takeO Rdr; rw [if_neg hk, if_neg hk]
    unfold Rdr at h1
    simp [World.setCell, Array.getElem?_modify, h1]

end Go.Proofs.Ytjllhjlmjbpinaa
namespace Go.Proofs.Ytjllhjlmjbpinaa
open Go.RowKit

theorem Rd.none {w : World} {cs : List Value} (h : Rd w none cs) : cs = [] := by
  cases cs with
  | nil => rfl
  | cons y ys => obtain ⟨b, off, e, _⟩ := h 0 y rfl; cases e

set_option maxRecDepth 100000 in
set_option maxHeartbeats 400000 in
theorem clone_c (ao : Option Addr) (n cap : Nat) (xs : List Int) (w : World) (hx : Ints w ao n cap xs) (hs : n ≤ 17592186044416) :
    Calls Try.prog 70 #[.slice ao n cap] w (RetI 3 w xs) := by
  have Hx := Lib.hid hx
  have b1 := hx.fits; have b2 := hx.bound
  have hl := hx.len
  have hnil := hx.nil
  have hq := fun (w : World) (a : Option Addr) (n c n' c' : Nat) => Lib.run_eql_slice_nil (P := Try.prog) w 32 3 a n c n' c' Try.underlying32
  cases ao with
  | none =>
    have h0 : xs = [] := by simpa using hx.rd.none
    have hc := hnil rfl
    subst h0 hc
    obtain rfl : n = 0 := by omega
    clear hx hl hnil
    go_enter Try.func70, Try.ntmps70
    go_wp2_with fail
    go_ret
    exact ⟨_, rfl, Own.nil _ _ _ _, Ext.refl _⟩
  | some a =>
    have HL := Lib.hid hl
    clear hx hl hnil
    go_enter Try.func70, Try.ntmps70
    go_wp2_with (at_builtin; refine wpList_append_any rfl _ _ 32 rfl w.heap.size 3 _ 1 8 Try.underlying32 Try.infoInt rfl (by decide) _ _ _ rfl (Own.lit w #[] 3 1 0 (Nat.le_refl _) rfl (by omega)) _ _ _ (xs.map (Value.int .i64)) rfl (by rw [List.length_map, HL.out]; omega) (fun h => by cases h) (Hx.out.rd.ext ((Ext.refl w).alloc _)) (ints_oneCell _ _) (by omega) (by omega) (by simp) ?_; intro v' w1 hown' hg _)
    have hb := below_own ((Ext.refl w).alloc (.cells #[] 3)) (Own.lit w #[] 3 1 0 (Nat.le_refl _) rfl (by omega)) hg (by simp)
    have HB := Lib.hid hb
    have HO := Lib.hid hown'
    clear hb hown' hg
    go_wp2_with fail
    go_ret
    exact ⟨_, rfl, by have := HO.out; rw [HL.out]; simpa using this, HB.out⟩

end Go.Proofs.Ytjllhjlmjbpinaa
