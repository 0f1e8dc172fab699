/- Plain laws: a state's bytes. Walks: whether a state may be. Walks: whether a state may be, by the document. Walks: a text with its length ahead; a state's bytes. Walks: a state's bytes, by the document. Walks: great states, and whether two are the same. -/
import Derived.Test.YtmopfhkppjcgbaaG5PFoldsTell
import Derived.Test.YtmopfhkppjcgbaaG6PFoldsTell
import Derived.Test.YtmopfhkppjcgbaaChecked
import Derived.Test.YtmopfhkppjcgbaaG7PFoldsTell
set_option linter.unusedVariables false
set_option linter.unusedSimpArgs false
namespace Go.Proofs.Ytmopfhkppjcgbaa
open Go.RowKit

/-- a text with its length ahead of it -/
def textS (s : List UInt8) : List UInt8 := if s.length ≤ 65535 then be 2 s.length ++ s else []
theorem textS_yes {s : List UInt8} (h : s.length ≤ 65535) : textS s = be 2 s.length ++ s := by unfold textS; rw [if_pos h]
theorem textS_no {s : List UInt8} (h : ¬ s.length ≤ 65535) : textS s = [] := by unfold textS; rw [if_neg h]

theorem be2 (x : Nat) : be 2 x = [UInt8.ofNat (x / 256), UInt8.ofNat x] := by simp [be]

/-- the bytes of a kind, and of a state -/
def kdB (k : Kd) : List UInt8 := textS k.t ++ be 4 k.m.toNat ++ be 8 k.b.toNat
def stHead (nx : Int) (n : Nat) : List UInt8 := be 4 nx.toNat ++ be 2 n
def stBody (nx : Int) (K : List Kd) : List UInt8 := stHead nx K.length ++ (K.map kdB).flatten
noncomputable def fputS (nx : Int) (K : List Kd) : List UInt8 × Int := if checkN nx K = 0 then (sealS (stBody nx K), 0) else ([], 2)

theorem check_ok {nx : Int} {K : List Kd} (h : checkN nx K = 0) : okState nx K := by
  by_cases ho : okState nx K
  · exact ho
  · rw [checkN_no ho] at h; cases h
theorem check_cases (nx : Int) (K : List Kd) : checkN nx K = 0 ∨ checkN nx K = 2 := by
  by_cases ho : okState nx K
  · exact .inl (checkN_yes ho)
  · exact .inr (checkN_no ho)
theorem fputS_yes {nx : Int} {K : List Kd} (h : checkN nx K = 0) : fputS nx K = (sealS (stBody nx K), 0) := by unfold fputS; rw [if_pos h]
theorem fputS_no {nx : Int} {K : List Kd} (h : checkN nx K = 2) : fputS nx K = ([], 2) := by unfold fputS; rw [h]; rfl

/-- each kind of a state that may be, in its bounds -/
theorem okState_kd {nx : Int} {K : List Kd} (h : okState nx K) (i : Nat) (hi : i < K.length) :
    1 ≤ (K.getD i kd0).t.length ∧ (K.getD i kd0).t.length ≤ 16 ∧ 1 ≤ (K.getD i kd0).m ∧ (K.getD i kd0).m ≤ 1073741824 ∧ 0 ≤ (K.getD i kd0).b ∧ (K.getD i kd0).b ≤ 214748364800 := by
  obtain ⟨h1, h2, h3, h4, h5⟩ := h
  obtain ⟨a1, a2, a3, a4, a5, _⟩ := h4 i hi
  have hs := sumM_take_le K (i + 1) h4
  rw [sumM_take_succ K i hi, h5] at hs
  have h0 : 0 ≤ sumM (K.take i) := sumM_nonneg _ fun k hk => by
    obtain ⟨j, hj, rfl⟩ := List.mem_iff_getElem.1 (List.mem_of_mem_take hk)
    have := (h4 j hj).2.2.1
    rwa [List.getD_eq_getElem?_getD, List.getElem?_eq_getElem hj] at this
  refine ⟨a1, a2, a3, by omega, a4, by omega⟩

theorem kdB_length (k : Kd) (h : k.t.length ≤ 65535) : (kdB k).length = 14 + k.t.length := by
  unfold kdB; rw [textS_yes h]; simp [be_length]; omega

theorem kdBs_le (K : List Kd) (h : ∀ i, i < K.length → (K.getD i kd0).t.length ≤ 16) : (K.map kdB).flatten.length ≤ 30 * K.length := by
  induction K with
  | nil => simp
  | cons k K ih =>
    have h0 : k.t.length ≤ 16 := h 0 (by simp)
    have h1 := ih fun i hi => h (i + 1) (by simpa using hi)
    have h2 := kdB_length k (by omega)
    simp only [List.map_cons, List.flatten_cons, List.length_append, List.length_cons, h2]
    omega

theorem map_take_kd (K : List Kd) (k : Nat) (h : k < K.length) : ((K.take (k + 1)).map kdB).flatten = ((K.take k).map kdB).flatten ++ kdB (K.getD k kd0) := by
  rw [take_succ_kd K k h]; simp

theorem take_le_kd (K : List Kd) (k : Nat) : ((K.take k).map kdB).flatten.length ≤ (K.map kdB).flatten.length := by
  conv => rhs; rw [← List.take_append_drop k K, List.map_append, List.flatten_append, List.length_append]
  omega

end Go.Proofs.Ytmopfhkppjcgbaa
namespace Go.Proofs.Ytmopfhkppjcgbaa
open Go.RowKit

theorem box2 {w w1 : World} {a b : Value} {t : TypeId} (h : Ext (w.alloc (.cells #[a, b] t)) w1) : w1.cell? ⟨w.heap.size, 0, none⟩ = some a ∧ w1.cell? ⟨w.heap.size, 1, none⟩ = some b :=
  ⟨cell_ext h (by simp), cell_ext h (by simp)⟩

set_option maxRecDepth 100000 in
set_option maxHeartbeats 3200000 in
theorem fcheck_c (nx : Int) (ao : Option Addr) (n cap : Nat) (K : List Kd) (w : World) (hx : Kds w ao n cap K) :
    Calls Try.prog 10 #[.agg #[.int .i64 nx, .slice ao n cap]] w fun e w' => e = .returned (.int .i64 (checkN nx K)) ∧ Ext w w' := by
  have Hx := Lib.hid hx
  have b1 := hx.fits; have b2 := hx.bound
  have HLen := Lib.hid hx.len
  clear hx
  by_cases hnum : 0 ≤ nx ∧ nx ≤ 1073741824 ∧ n ≤ 256
  case neg =>
    have HN := Lib.hid (checkN_no (nx := nx) (K := K) (fun h => hnum ⟨h.1, h.2.1, by have := HLen.out; have := h.2.2.1; omega⟩))
    have hcase : nx < 0 ∨ (0 ≤ nx ∧ 1073741824 < nx) ∨ (0 ≤ nx ∧ nx ≤ 1073741824 ∧ 256 < (n : Int)) := by omega
    clear hnum
    go_enter Try.func10, Try.ntmps10
    rcases hcase with h | ⟨h0, h⟩ | ⟨h0, h1, h⟩
    all_goals
      go_wp2_with fail
      go_ret
      exact ⟨rn HN.out, ext_a1 _ _⟩
  obtain ⟨n0, n1, n2⟩ := hnum
  go_enter Try.func10, Try.ntmps10
  go_wp2_with fail
  go_loopw [3, 25] (fun l i w' => ∃ (k : Nat) (left : Int), k ≤ n ∧ i = .int .i64 k ∧ l = .int .i64 left ∧ 0 ≤ left ∧ left = nx - sumM (K.take k) ∧ (∀ j, j < k → okAt K j) ∧ Ext (w.alloc (.cells #[.int .i64 nx, .slice ao n cap] 24)) w') (fun _ i _ => n - (intOf i).toNat)
  case atStart => exact ⟨0, nx, Nat.zero_le _, rfl, rfl, n0, by simp [sumM_nil], by omega, Ext.refl _⟩
  case round =>
    obtain ⟨k, left, hk, rfl, rfl, hl0, hl, hok, hb⟩ := hrel
    have HL := Lib.hid hl; have HOk := Lib.hid hok; have Hb := Lib.hid hb
    have hl1 : left ≤ 1073741824 := by
      have : 0 ≤ sumM (K.take k) := sumM_nonneg _ fun x hx => by
        obtain ⟨j, hj, rfl⟩ := List.mem_iff_getElem.1 hx
        rw [List.length_take] at hj
        have := (hok j (by omega)).2.2.1
        rw [List.getElem_take]
        rwa [List.getD_eq_getElem?_getD, List.getElem?_eq_getElem (by omega)] at this
      omega
    clear hl hok hb
    by_cases hlt : k < n
    · obtain ⟨b, off, rfl, c0, c1, c2⟩ := (Hx.out.ext ((ext_a1 _ _).trans Hb.out)).at hlt
      obtain ⟨q, hq⟩ : ∃ q, K.getD k kd0 = q := ⟨_, rfl⟩
      rw [hq] at c0 c1 c2
      have HQ := Lib.hid hq; clear hq
      obtain ⟨t, mm, bb⟩ := q
      have HNo : Hid (¬ (okK (prevT K k) ⟨t, mm, bb⟩ ∧ mm ≤ left) → checkN nx K = 2) := Lib.hid (fun h => checkN_no fun ho => h (by
        have h1 := ho.2.2.2.1 k (by rw [HLen.out]; exact hlt)
        unfold okAt at h1
        rw [HQ.out] at h1
        refine ⟨h1, ?_⟩
        have h2 := sumM_take_le K (k + 1) ho.2.2.2.1
        rw [sumM_take_succ K k (by rw [HLen.out]; exact hlt), HQ.out, ho.2.2.2.2] at h2
        have := HL.out
        have h3 : ({ t := t, m := mm, b := bb } : Kd).m = mm := rfl
        omega))
      have e0 : (wr.alloc (.cells #[.string ⟨t.toArray⟩, .int .i64 mm, .int .i64 bb] 54)).cell? ⟨wr.heap.size, 0, none⟩ = some (.string ⟨t.toArray⟩) := by simp
      have e1 : (wr.alloc (.cells #[.string ⟨t.toArray⟩, .int .i64 mm, .int .i64 bb] 54)).cell? ⟨wr.heap.size, 1, none⟩ = some (.int .i64 mm) := by simp
      have e2 : (wr.alloc (.cells #[.string ⟨t.toArray⟩, .int .i64 mm, .int .i64 bb] 54)).cell? ⟨wr.heap.size, 2, none⟩ = some (.int .i64 bb) := by simp
      have s1 := cell_ext (ext_a1 wr (.cells #[.string ⟨t.toArray⟩, .int .i64 mm, .int .i64 bb] 54)) (box2 Hb.out).2
      have u0 := cell_of e0; have u1 := cell_of e1; have u2' := cell_of e2; have y1 := cell_of s1
      have htl : t.length ≤ 9223372036854775807 ∨ True := .inr trivial
      clear htl
      go_wp2_with fail
      clear c0 c1 c2
      by_cases hbase : 1 ≤ (t.length : Int) ∧ (t.length : Int) ≤ 16 ∧ 1 ≤ mm ∧ mm ≤ left ∧ 0 ≤ bb ∧ bb ≤ 200 * mm
      case neg =>
        have HN := Lib.hid (HNo.out (fun h => hbase (by
          obtain ⟨⟨a1, a2, a3, a4, a5, _⟩, a6⟩ := h
          have a1' : 1 ≤ t.length := a1
          have a2' : t.length ≤ 16 := a2
          have a3' : 1 ≤ mm := a3
          have a4' : 0 ≤ bb := a4
          have a5' : bb ≤ 200 * mm := a5
          omega)))
        have hcase : ((t.length : Int) < 1) ∨ (¬ (t.length : Int) < 1 ∧ 16 < (t.length : Int)) ∨ (¬ (t.length : Int) < 1 ∧ ¬ 16 < (t.length : Int) ∧ mm < 1) ∨ (¬ (t.length : Int) < 1 ∧ ¬ 16 < (t.length : Int) ∧ ¬ mm < 1 ∧ left < mm) ∨ (¬ (t.length : Int) < 1 ∧ ¬ 16 < (t.length : Int) ∧ ¬ mm < 1 ∧ ¬ left < mm ∧ bb < 0) ∨ (¬ (t.length : Int) < 1 ∧ ¬ 16 < (t.length : Int) ∧ ¬ mm < 1 ∧ ¬ left < mm ∧ ¬ bb < 0 ∧ 200 * mm < bb) := by omega
        clear hbase HNo
        rcases hcase with h1 | ⟨h1, h2⟩ | ⟨h1, h2, h3⟩ | ⟨h1, h2, h3, h4⟩ | ⟨h1, h2, h3, h4, h5⟩ | ⟨h1, h2, h3, h4, h5, h6⟩
        · have d1 := decide_eq_true h1
          refine wp_region_ext (by kernel_rfl) (by kernel_rfl) ?_
          repeat (go_big_quiet_step (fail))
          refine wpQuiet_nil ?_
          intro w4 hw4
          have HW := Lib.hid (((ext_a1 _ _).trans Hb.out).trans ((ext_a1 _ _).trans hw4)); have HW4 := Lib.hid hw4; clear hw4
          go_wp2_with fail
          go_ret
          exact ⟨rn HN.out, HW.out⟩
        · have d1 := decide_eq_false h1
          have d2 := decide_eq_true h2
          refine wp_region_ext (by kernel_rfl) (by kernel_rfl) ?_
          repeat (go_big_quiet_step (fail))
          refine wpQuiet_nil ?_
          intro w4 hw4
          have HW := Lib.hid (((ext_a1 _ _).trans Hb.out).trans ((ext_a1 _ _).trans hw4)); have HW4 := Lib.hid hw4; clear hw4
          go_wp2_with fail
          go_ret
          exact ⟨rn HN.out, HW.out⟩
        · have d1 := decide_eq_false h1
          have d2 := decide_eq_false h2
          have d3 := decide_eq_true h3
          refine wp_region_ext (by kernel_rfl) (by kernel_rfl) ?_
          repeat (go_big_quiet_step (fail))
          refine wpQuiet_nil ?_
          intro w4 hw4
          have HW := Lib.hid (((ext_a1 _ _).trans Hb.out).trans ((ext_a1 _ _).trans hw4)); have HW4 := Lib.hid hw4; clear hw4
          go_wp2_with fail
          go_ret
          exact ⟨rn HN.out, HW.out⟩
        · have d1 := decide_eq_false h1
          have d2 := decide_eq_false h2
          have d3 := decide_eq_false h3
          have d4 := decide_eq_true h4
          refine wp_region_ext (by kernel_rfl) (by kernel_rfl) ?_
          repeat (go_big_quiet_step (fail))
          refine wpQuiet_nil ?_
          intro w4 hw4
          have HW := Lib.hid (((ext_a1 _ _).trans Hb.out).trans ((ext_a1 _ _).trans hw4)); have HW4 := Lib.hid hw4; clear hw4
          go_wp2_with fail
          go_ret
          exact ⟨rn HN.out, HW.out⟩
        · have d1 := decide_eq_false h1
          have d2 := decide_eq_false h2
          have d3 := decide_eq_false h3
          have d4 := decide_eq_false h4
          have d5 := decide_eq_true h5
          refine wp_region_ext (by kernel_rfl) (by kernel_rfl) ?_
          repeat (go_big_quiet_step (fail))
          refine wpQuiet_nil ?_
          intro w4 hw4
          have HW := Lib.hid (((ext_a1 _ _).trans Hb.out).trans ((ext_a1 _ _).trans hw4)); have HW4 := Lib.hid hw4; clear hw4
          go_wp2_with fail
          go_ret
          exact ⟨rn HN.out, HW.out⟩
        · have d1 := decide_eq_false h1
          have d2 := decide_eq_false h2
          have d3 := decide_eq_false h3
          have d4 := decide_eq_false h4
          have d5 := decide_eq_false h5
          have d6 := decide_eq_true h6
          refine wp_region_ext (by kernel_rfl) (by kernel_rfl) ?_
          repeat (go_big_quiet_step (fail))
          refine wpQuiet_nil ?_
          intro w4 hw4
          have HW := Lib.hid (((ext_a1 _ _).trans Hb.out).trans ((ext_a1 _ _).trans hw4)); have HW4 := Lib.hid hw4; clear hw4
          go_wp2_with fail
          go_ret
          exact ⟨rn HN.out, HW.out⟩
      obtain ⟨h1, h2, h3, h4, h5, h6⟩ := hbase
      have d1 := decide_eq_false (show ¬ (t.length : Int) < 1 by omega)
      have d2 := decide_eq_false (show ¬ 16 < (t.length : Int) by omega)
      have d3 := decide_eq_false (show ¬ mm < 1 by omega)
      have d4 := decide_eq_false (show ¬ left < mm by omega)
      have d5 := decide_eq_false (show ¬ bb < 0 by omega)
      have d6 := decide_eq_false (show ¬ 200 * mm < bb by omega)
      cases k with
      | zero =>
        have dk : decide ((0 : Int) < ((0 : Nat) : Int)) = false := by decide
        have HRel : Hid (∀ j, j < 0 + 1 → okAt K j) := Lib.hid (fun j hj => by
          obtain rfl : j = 0 := by omega
          unfold okAt
          rw [HQ.out]
          exact ⟨by show 1 ≤ t.length; omega, by show t.length ≤ 16; omega, h3, h5, h6, fun q hq => by simp [prevT] at hq⟩)
        refine wp_region_ext (by kernel_rfl) (by kernel_rfl) ?_
        repeat (go_big_quiet_step (fail))
        refine wpQuiet_nil ?_
        intro w4 hw4
        have HW := Lib.hid (((ext_a1 _ _).trans Hb.out).trans ((ext_a1 _ _).trans hw4)); have HW4 := Lib.hid hw4; clear hw4
        have m1 := cell_ext HW4.out e1
        go_wp2_with fail
        go_roundw
        case rel => exact ⟨1, left - mm, by omega, rfl, rfl, by omega, by rw [sumM_take_succ K 0 (by rw [HLen.out]; exact hlt), HQ.out, HL.out]; show _ = nx - (_ + mm); omega, HRel.out, Hb.out.trans ((ext_a1 _ _).trans HW4.out)⟩
        case measure => simp [intOf]; omega
      | succ k =>
        have dk : decide ((0 : Int) < ((k + 1 : Nat) : Int)) = true := decide_eq_true (by omega)
        have dk2 : decide (0 < (k : Int) + 1) = true := decide_eq_true (by omega)
        have hpk : prevT K (k + 1) = some (K.getD k kd0).t := by unfold prevT; rw [if_neg (by omega)]; rfl
        obtain ⟨b2, off2, eb, c0, _, _⟩ := (Hx.out.ext ((ext_a1 _ _).trans Hb.out)).at (i := k) (by omega)
        cases eb
        have g0 := cell_of (cell_ext (ext_a1 wr (.cells #[.string ⟨t.toArray⟩, .int .i64 mm, .int .i64 bb] 54)) c0)
        obtain ⟨pt, hpt⟩ : ∃ p, (K.getD k kd0).t = p := ⟨_, rfl⟩
        rw [hpt] at g0 hpk
        have HPk := Lib.hid hpk
        have hidx : (k : Int) + 1 - 1 = (k : Int) := by omega
        clear hpk hpt c0
        cases hle : Op.bytesLess pt t with
        | true =>
          have HRel : Hid (∀ j, j < k + 1 + 1 → okAt K j) := Lib.hid (fun j hj => by
            by_cases hjk : j < k + 1
            · exact HOk.out j hjk
            obtain rfl : j = k + 1 := by omega
            unfold okAt
            rw [HQ.out]
            exact ⟨by show 1 ≤ t.length; omega, by show t.length ≤ 16; omega, h3, h5, h6, fun q hq => by rw [HPk.out] at hq; cases hq; exact hle⟩)
          refine wp_region_ext (by kernel_rfl) (by kernel_rfl) ?_
          repeat (go_big_quiet_step (fail))
          refine wpQuiet_nil ?_
          intro w4 hw4
          have HW := Lib.hid (((ext_a1 _ _).trans Hb.out).trans ((ext_a1 _ _).trans hw4)); have HW4 := Lib.hid hw4; clear hw4
          have m1 := cell_ext HW4.out e1
          have HLe := Lib.hid hle
          clear hle
          go_wp2_with fail
          go_roundw
          case rel => exact ⟨k + 1 + 1, left - mm, by omega, by go_num, rfl, by omega, by rw [sumM_take_succ K (k + 1) (by rw [HLen.out]; exact hlt), HQ.out, HL.out]; show _ = nx - (_ + mm); omega, HRel.out, Hb.out.trans ((ext_a1 _ _).trans HW4.out)⟩
          case measure => simp [intOf]; omega
        | false =>
          have HN := Lib.hid (HNo.out (fun h => by
            have := h.1.2.2.2.2.2 pt HPk.out
            have h2 : Op.bytesLess pt t = true := this
            rw [hle] at h2; cases h2))
          refine wp_region_ext (by kernel_rfl) (by kernel_rfl) ?_
          repeat (go_big_quiet_step (fail))
          refine wpQuiet_nil ?_
          intro w4 hw4
          have HW := Lib.hid (((ext_a1 _ _).trans Hb.out).trans ((ext_a1 _ _).trans hw4)); have HW4 := Lib.hid hw4; clear hw4
          clear hle
          go_wp2_with fail
          go_ret
          exact ⟨rn HN.out, HW.out⟩
    · have hkn : k = n := by omega
      have ht : K.take k = K := List.take_of_length_le (by rw [HLen.out]; omega)
      rw [ht] at HL
      have hokn : ∀ j, j < K.length → okAt K j := fun j hj => HOk.out j (by rw [HLen.out] at hj; omega)
      by_cases hz : left = 0
      · have HN := Lib.hid (checkN_yes (nx := nx) (K := K) ⟨n0, n1, by rw [HLen.out]; exact n2, hokn, by have := HL.out; omega⟩)
        subst hz
        clear ht hkn hokn
        go_wp2_with fail
        go_ret
        exact ⟨rn HN.out, (ext_a1 _ _).trans Hb.out⟩
      · have HN := Lib.hid (checkN_no (nx := nx) (K := K) (fun h => hz (by have := HL.out; have := h.2.2.2.2; omega)))
        have hz' : (left != 0) = true := by simpa using hz
        clear ht hkn hokn hz
        go_wp2_with fail
        go_ret
        exact ⟨rn HN.out, (ext_a1 _ _).trans Hb.out⟩

end Go.Proofs.Ytmopfhkppjcgbaa
namespace Go.Proofs.Ytmopfhkppjcgbaa
open Go.RowKit

/-- what the document's loop holds -/
def RefSt (nx : Int) (K : List Kd) (k : Nat) (al : Int) (ok : Bool) : Prop :=
  (ok = true → al = sumM (K.take k) ∧ (∀ j, j < k → okAt K j) ∧ 0 ≤ al ∧ al ≤ k * 1073741824) ∧ (ok = false → checkN nx K = 2)

set_option maxRecDepth 100000 in
set_option maxHeartbeats 6400000 in
theorem reffcheck_c (nx : Int) (ao : Option Addr) (n cap : Nat) (K : List Kd) (w : World) (hx : Kds w ao n cap K) :
    Calls Try.prog 11 #[.agg #[.int .i64 nx, .slice ao n cap]] w fun e w' => e = .returned (.int .i64 (checkN nx K)) ∧ Ext w w' := by
  have Hx := Lib.hid hx
  have b1 := hx.fits; have b2 := hx.bound
  have HLen := Lib.hid hx.len
  clear hx
  by_cases hnum : 0 ≤ nx ∧ nx ≤ 1073741824 ∧ (n : Int) ≤ 256
  case neg =>
    have HN := Lib.hid (checkN_no (nx := nx) (K := K) (fun h => hnum ⟨h.1, h.2.1, by have := HLen.out; have := h.2.2.1; omega⟩))
    have hcase : (¬ 0 ≤ nx) ∨ (0 ≤ nx ∧ ¬ nx ≤ 1073741824) ∨ (0 ≤ nx ∧ nx ≤ 1073741824 ∧ ¬ (n : Int) ≤ 256) := by omega
    clear hnum
    have s1 := (box2 (Ext.refl (w.alloc (.cells #[.int .i64 nx, .slice ao n cap] 31)))).2
    go_enter Try.func11, Try.ntmps11
    rcases hcase with h | ⟨h0, h⟩ | ⟨h0, h1, h⟩
    · have d9 := decide_eq_false h
      go_wp2_with fail
      refine wp_loop_rounds 1 ?_
      rw [rounds_succ]
      go_wp2_with fail
      all_goals
        go_ret
        exact ⟨rn HN.out, ext_a1 _ _⟩
    · have d1 := decide_eq_true h0
      have d9 := decide_eq_false h
      go_wp2_with fail
      refine wp_loop_rounds 1 ?_
      rw [rounds_succ]
      go_wp2_with fail
      all_goals
        go_ret
        exact ⟨rn HN.out, ext_a1 _ _⟩
    · have d1 := decide_eq_true h0
      have d2 := decide_eq_true h1
      have d9 := decide_eq_false h
      go_wp2_with fail
      refine wp_loop_rounds 1 ?_
      rw [rounds_succ]
      go_wp2_with fail
      all_goals
        go_ret
        exact ⟨rn HN.out, ext_a1 _ _⟩
  obtain ⟨n0, n1, n2⟩ := hnum
  have d1 := decide_eq_true n0; have d2 := decide_eq_true n1; have d3 := decide_eq_true n2
  go_enter Try.func11, Try.ntmps11
  go_wp2_with fail
  clear d1 d2 d3
  go_loopw [3, 4, 5] (fun a o i w' => ∃ (k : Nat) (al : Int) (ok : Bool), k ≤ n ∧ i = .int .i64 k ∧ a = .int .i64 al ∧ o = .bool ok ∧ RefSt nx K k al ok ∧ Ext (w.alloc (.cells #[.int .i64 nx, .slice ao n cap] 31)) w') (fun _ _ i _ => n - (intOf i).toNat)
  case atStart => exact ⟨0, 0, true, Nat.zero_le _, rfl, rfl, rfl, ⟨fun _ => ⟨rfl, by omega, by omega, by omega⟩, fun h => by cases h⟩, Ext.refl _⟩
  case round =>
    obtain ⟨k, al, ok, hk, rfl, rfl, rfl, hst, hb⟩ := hrel
    have HSt := Lib.hid hst; have Hb := Lib.hid hb
    have s1 := (box2 hb).2
    have s0 := (box2 hb).1
    clear hst hb
    cases ok with
    | false =>
      have HN := Lib.hid (HSt.out.2 rfl)
      by_cases hlt : k < n
      all_goals
        go_wp2_with fail
        go_ret
        exact ⟨rn HN.out, (ext_a1 _ _).trans Hb.out⟩
    | true =>
      by_cases hlt : k < n
      · obtain ⟨hal, hok, al0, al1⟩ := HSt.out.1 rfl
        have HAl := Lib.hid hal; have HOk := Lib.hid hok
        have al2 : al ≤ 274877906944 := by omega
        clear hal hok
        obtain ⟨b, off, rfl, c0, c1, c2⟩ := (Hx.out.ext ((ext_a1 _ _).trans Hb.out)).at hlt
        obtain ⟨q, hq⟩ : ∃ q, K.getD k kd0 = q := ⟨_, rfl⟩
        rw [hq] at c0 c1 c2
        have HQ := Lib.hid hq; clear hq
        obtain ⟨t, mm, bb⟩ := q
        have HNo : Hid (¬ (okK (prevT K k) ⟨t, mm, bb⟩ ∧ mm ≤ nx) → checkN nx K = 2) := Lib.hid (fun h => checkN_no fun ho => h (by
          have h1 := ho.2.2.2.1 k (by rw [HLen.out]; exact hlt)
          unfold okAt at h1
          rw [HQ.out] at h1
          refine ⟨h1, ?_⟩
          have h2 := sumM_take_le K (k + 1) ho.2.2.2.1
          have h4 : 0 ≤ sumM (K.take k) := by rw [← HAl.out]; exact al0
          rw [sumM_take_succ K k (by rw [HLen.out]; exact hlt), HQ.out, ho.2.2.2.2] at h2
          have h3 : ({ t := t, m := mm, b := bb } : Kd).m = mm := rfl
          omega))
        have e0 : (wr.alloc (.cells #[.string ⟨t.toArray⟩, .int .i64 mm, .int .i64 bb] 55)).cell? ⟨wr.heap.size, 0, none⟩ = some (.string ⟨t.toArray⟩) := by simp
        have e1 : (wr.alloc (.cells #[.string ⟨t.toArray⟩, .int .i64 mm, .int .i64 bb] 55)).cell? ⟨wr.heap.size, 1, none⟩ = some (.int .i64 mm) := by simp
        have e2 : (wr.alloc (.cells #[.string ⟨t.toArray⟩, .int .i64 mm, .int .i64 bb] 55)).cell? ⟨wr.heap.size, 2, none⟩ = some (.int .i64 bb) := by simp
        have s1' := cell_ext (ext_a1 wr (.cells #[.string ⟨t.toArray⟩, .int .i64 mm, .int .i64 bb] 55)) s1
        have s0' := cell_ext (ext_a1 wr (.cells #[.string ⟨t.toArray⟩, .int .i64 mm, .int .i64 bb] 55)) s0
        have u0 := cell_of e0; have u1 := cell_of e1; have u2' := cell_of e2; have y1 := cell_of s1'; have y0 := cell_of s0'
        go_wp2_with fail
        clear c0 c1 c2 s0 s1 s0' s1'
        by_cases hbase : 1 ≤ (t.length : Int) ∧ (t.length : Int) ≤ 16 ∧ 1 ≤ mm ∧ mm ≤ nx ∧ 0 ≤ bb ∧ bb ≤ 200 * mm
        case neg =>
          have HN := Lib.hid (HNo.out (fun h => hbase (by
            obtain ⟨⟨a1, a2, a3, a4, a5, _⟩, a6⟩ := h
            have a1' : 1 ≤ t.length := a1
            have a2' : t.length ≤ 16 := a2
            have a3' : 1 ≤ mm := a3
            have a4' : 0 ≤ bb := a4
            have a5' : bb ≤ 200 * mm := a5
            omega)))
          have hcase : (¬ 1 ≤ (t.length : Int)) ∨ (1 ≤ (t.length : Int) ∧ ¬ (t.length : Int) ≤ 16) ∨ (1 ≤ (t.length : Int) ∧ (t.length : Int) ≤ 16 ∧ ¬ 1 ≤ mm) ∨ (1 ≤ (t.length : Int) ∧ (t.length : Int) ≤ 16 ∧ 1 ≤ mm ∧ ¬ mm ≤ nx) ∨ (1 ≤ (t.length : Int) ∧ (t.length : Int) ≤ 16 ∧ 1 ≤ mm ∧ mm ≤ nx ∧ ¬ 0 ≤ bb) ∨ (1 ≤ (t.length : Int) ∧ (t.length : Int) ≤ 16 ∧ 1 ≤ mm ∧ mm ≤ nx ∧ 0 ≤ bb ∧ ¬ bb ≤ 200 * mm) := by omega
          clear hbase HNo
          rcases hcase with h1 | ⟨h1, h2⟩ | ⟨h1, h2, h3⟩ | ⟨h1, h2, h3, h4⟩ | ⟨h1, h2, h3, h4, h5⟩ | ⟨h1, h2, h3, h4, h5, h6⟩
          · have d1 := decide_eq_false h1
            refine wp_region_ext (by kernel_rfl) (by kernel_rfl) ?_
            repeat (go_big_quiet_step (fail))
            refine wpQuiet_nil ?_
            intro w4 hw4
            have HW := Lib.hid (Hb.out.trans ((ext_a1 _ _).trans hw4)); have HW4 := Lib.hid hw4; clear hw4
            go_wp2_with fail
            go_roundw
            case rel => exact ⟨k + 1, al, false, by omega, by go_num, rfl, rfl, ⟨fun h => (by cases h), fun _ => HN.out⟩, HW.out⟩
            case measure => simp [intOf]; omega
          · have d1 := decide_eq_true h1
            have d2 := decide_eq_false h2
            refine wp_region_ext (by kernel_rfl) (by kernel_rfl) ?_
            repeat (go_big_quiet_step (fail))
            refine wpQuiet_nil ?_
            intro w4 hw4
            have HW := Lib.hid (Hb.out.trans ((ext_a1 _ _).trans hw4)); have HW4 := Lib.hid hw4; clear hw4
            go_wp2_with fail
            go_roundw
            case rel => exact ⟨k + 1, al, false, by omega, by go_num, rfl, rfl, ⟨fun h => (by cases h), fun _ => HN.out⟩, HW.out⟩
            case measure => simp [intOf]; omega
          · have d1 := decide_eq_true h1
            have d2 := decide_eq_true h2
            have d3 := decide_eq_false h3
            refine wp_region_ext (by kernel_rfl) (by kernel_rfl) ?_
            repeat (go_big_quiet_step (fail))
            refine wpQuiet_nil ?_
            intro w4 hw4
            have HW := Lib.hid (Hb.out.trans ((ext_a1 _ _).trans hw4)); have HW4 := Lib.hid hw4; clear hw4
            go_wp2_with fail
            go_roundw
            case rel => exact ⟨k + 1, al, false, by omega, by go_num, rfl, rfl, ⟨fun h => (by cases h), fun _ => HN.out⟩, HW.out⟩
            case measure => simp [intOf]; omega
          · have d1 := decide_eq_true h1
            have d2 := decide_eq_true h2
            have d3 := decide_eq_true h3
            have d4 := decide_eq_false h4
            refine wp_region_ext (by kernel_rfl) (by kernel_rfl) ?_
            repeat (go_big_quiet_step (fail))
            refine wpQuiet_nil ?_
            intro w4 hw4
            have HW := Lib.hid (Hb.out.trans ((ext_a1 _ _).trans hw4)); have HW4 := Lib.hid hw4; clear hw4
            go_wp2_with fail
            go_roundw
            case rel => exact ⟨k + 1, al, false, by omega, by go_num, rfl, rfl, ⟨fun h => (by cases h), fun _ => HN.out⟩, HW.out⟩
            case measure => simp [intOf]; omega
          · have d1 := decide_eq_true h1
            have d2 := decide_eq_true h2
            have d3 := decide_eq_true h3
            have d4 := decide_eq_true h4
            have d5 := decide_eq_false h5
            refine wp_region_ext (by kernel_rfl) (by kernel_rfl) ?_
            repeat (go_big_quiet_step (fail))
            refine wpQuiet_nil ?_
            intro w4 hw4
            have HW := Lib.hid (Hb.out.trans ((ext_a1 _ _).trans hw4)); have HW4 := Lib.hid hw4; clear hw4
            go_wp2_with fail
            go_roundw
            case rel => exact ⟨k + 1, al, false, by omega, by go_num, rfl, rfl, ⟨fun h => (by cases h), fun _ => HN.out⟩, HW.out⟩
            case measure => simp [intOf]; omega
          · have d1 := decide_eq_true h1
            have d2 := decide_eq_true h2
            have d3 := decide_eq_true h3
            have d4 := decide_eq_true h4
            have d5 := decide_eq_true h5
            have d6 := decide_eq_false h6
            refine wp_region_ext (by kernel_rfl) (by kernel_rfl) ?_
            repeat (go_big_quiet_step (fail))
            refine wpQuiet_nil ?_
            intro w4 hw4
            have HW := Lib.hid (Hb.out.trans ((ext_a1 _ _).trans hw4)); have HW4 := Lib.hid hw4; clear hw4
            go_wp2_with fail
            go_roundw
            case rel => exact ⟨k + 1, al, false, by omega, by go_num, rfl, rfl, ⟨fun h => (by cases h), fun _ => HN.out⟩, HW.out⟩
            case measure => simp [intOf]; omega
        obtain ⟨h1, h2, h3, h4, h5, h6⟩ := hbase
        have d1 := decide_eq_true h1
        have d2 := decide_eq_true h2
        have d3 := decide_eq_true h3
        have d4 := decide_eq_true h4
        have d5 := decide_eq_true h5
        have d6 := decide_eq_true h6
        cases k with
        | zero =>
          have HRel : Hid (∀ j, j < 0 + 1 → okAt K j) := Lib.hid (fun j hj => by
            obtain rfl : j = 0 := by omega
            unfold okAt
            rw [HQ.out]
            exact ⟨by show 1 ≤ t.length; omega, by show t.length ≤ 16; omega, h3, h5, h6, fun q hq => by simp [prevT] at hq⟩)
          refine wp_region_ext (by kernel_rfl) (by kernel_rfl) ?_
          repeat (go_big_quiet_step (fail))
          refine wpQuiet_nil ?_
          intro w4 hw4
          have HW := Lib.hid (Hb.out.trans ((ext_a1 _ _).trans hw4)); have HW4 := Lib.hid hw4; clear hw4
          have m1 := cell_ext HW4.out e1
          go_wp2_with fail
          go_roundw
          case rel => exact ⟨0 + 1, al + mm, true, by omega, by first | rfl | go_num, rfl, rfl, ⟨fun _ => ⟨by rw [sumM_take_succ K (0) (by rw [HLen.out]; exact hlt), HQ.out, HAl.out], HRel.out, by omega, by omega⟩, fun h => by cases h⟩, HW.out⟩
          case measure => simp [intOf]; omega
        | succ k =>
          have dk : (((k + 1 : Nat) : Int) == 0) = false := by simp; omega
          have dk2 : ((k : Int) + 1 == 0) = false := by simp; omega
          have hpk : prevT K (k + 1) = some (K.getD k kd0).t := by unfold prevT; rw [if_neg (by omega)]; rfl
          obtain ⟨b2, off2, eb, c0, _, _⟩ := (Hx.out.ext ((ext_a1 _ _).trans Hb.out)).at (i := k) (by omega)
          cases eb
          have g0 := cell_of (cell_ext (ext_a1 wr (.cells #[.string ⟨t.toArray⟩, .int .i64 mm, .int .i64 bb] 55)) c0)
          obtain ⟨pt, hpt⟩ : ∃ p, (K.getD k kd0).t = p := ⟨_, rfl⟩
          rw [hpt] at g0 hpk
          have HPk := Lib.hid hpk
          have hidx : (k : Int) + 1 - 1 = (k : Int) := by omega
          clear hpk hpt c0
          cases hle : Op.bytesLess pt t with
          | true =>
            have HRel : Hid (∀ j, j < k + 1 + 1 → okAt K j) := Lib.hid (fun j hj => by
              by_cases hjk : j < k + 1
              · exact HOk.out j hjk
              obtain rfl : j = k + 1 := by omega
              unfold okAt
              rw [HQ.out]
              exact ⟨by show 1 ≤ t.length; omega, by show t.length ≤ 16; omega, h3, h5, h6, fun q hq => by rw [HPk.out] at hq; cases hq; exact hle⟩)
            refine wp_region_ext (by kernel_rfl) (by kernel_rfl) ?_
            repeat (go_big_quiet_step (fail))
            refine wpQuiet_nil ?_
            intro w4 hw4
            have HW := Lib.hid (Hb.out.trans ((ext_a1 _ _).trans hw4)); have HW4 := Lib.hid hw4; clear hw4
            have HLe := Lib.hid hle
            clear hle
            have m1 := cell_ext HW4.out e1
            go_wp2_with fail
            go_roundw
            case rel => exact ⟨k + 1 + 1, al + mm, true, by omega, by first | rfl | go_num, rfl, rfl, ⟨fun _ => ⟨by rw [sumM_take_succ K (k + 1) (by rw [HLen.out]; exact hlt), HQ.out, HAl.out], HRel.out, by omega, by omega⟩, fun h => by cases h⟩, HW.out⟩
            case measure => simp [intOf]; omega
          | false =>
            have HN := Lib.hid (HNo.out (fun h => by
              have h2 : Op.bytesLess pt t = true := h.1.2.2.2.2.2 pt HPk.out
              rw [hle] at h2; cases h2))
            refine wp_region_ext (by kernel_rfl) (by kernel_rfl) ?_
            repeat (go_big_quiet_step (fail))
            refine wpQuiet_nil ?_
            intro w4 hw4
            have HW := Lib.hid (Hb.out.trans ((ext_a1 _ _).trans hw4)); have HW4 := Lib.hid hw4; clear hw4
            clear hle
            go_wp2_with fail
            go_roundw
            case rel => exact ⟨k + 1 + 1, al, false, by omega, by go_num, rfl, rfl, ⟨fun h => (by cases h), fun _ => HN.out⟩, HW.out⟩
            case measure => simp [intOf]; omega
      · have hkn : k = n := by omega
        obtain ⟨hal, hok, al0, al1⟩ := HSt.out.1 rfl
        have ht : K.take k = K := List.take_of_length_le (by rw [HLen.out]; omega)
        rw [ht] at hal
        have hokn : ∀ j, j < K.length → okAt K j := fun j hj => hok j (by rw [HLen.out] at hj; omega)
        by_cases hz : al = nx
        · have HN := Lib.hid (checkN_yes (nx := nx) (K := K) ⟨n0, n1, by rw [HLen.out]; omega, hokn, by omega⟩)
          clear ht hkn hokn hok hal
          subst hz
          go_wp2_with fail
          go_ret
          exact ⟨rn HN.out, (ext_a1 _ _).trans Hb.out⟩
        · have HN := Lib.hid (checkN_no (nx := nx) (K := K) (fun h => hz (by have := h.2.2.2.2; omega)))
          have hz' : (al != nx) = true := by simpa using hz
          clear ht hkn hokn hz hok hal
          go_wp2_with fail
          go_ret
          exact ⟨rn HN.out, (ext_a1 _ _).trans Hb.out⟩

end Go.Proofs.Ytmopfhkppjcgbaa
namespace Go.Proofs.Ytmopfhkppjcgbaa
open Go.RowKit

set_option maxRecDepth 100000 in
set_option maxHeartbeats 800000 in
theorem text_c (s : List UInt8) (w : World) (hl : s.length ≤ 4611686018427387903) :
    Calls Try.prog 19 #[.string ⟨s.toArray⟩] w fun e w' => e = .returned (.string ⟨(textS s).toArray⟩) ∧ Ext w w' := by
  by_cases h : 65535 < (s.length : Int)
  · have HT := Lib.hid (textS_no (s := s) (by omega))
    go_enter Try.func19, Try.ntmps19
    go_wp2_with fail
    go_ret
    exact ⟨by rw [HT.out]; rfl, Ext.refl _⟩
  · have HT := Lib.hid (textS_yes (s := s) (by omega))
    have h' : (s.length : Int) ≤ 65535 := by omega
    clear h
    go_enter Try.func19, Try.ntmps19
    go_wp2_with fail
    refine (put_n s.length 2 2 _ rfl (by decide) (by decide) (by omega)).mono ?_
    rintro e w1 ⟨rfl, hb⟩
    have HB := Lib.hid hb; clear hb
    have hbl := be_length 2 s.length
    go_wp2_with fail
    go_ret
    exact ⟨by rw [HT.out, ByteArray.mk_append_mk]; simp, HB.out⟩

set_option maxRecDepth 100000 in
set_option maxHeartbeats 800000 in
theorem reftext_c (s : List UInt8) (w : World) (hl : s.length ≤ 4611686018427387903) :
    Calls Try.prog 22 #[.string ⟨s.toArray⟩] w fun e w' => e = .returned (.string ⟨(textS s).toArray⟩) ∧ Ext w w' := by
  by_cases h : 65535 < (s.length : Int)
  · have HT := Lib.hid (textS_no (s := s) (by omega))
    go_enter Try.func22, Try.ntmps22
    go_wp2_with fail
    go_ret
    exact ⟨by rw [HT.out]; rfl, Ext.refl _⟩
  · have HT := Lib.hid (textS_yes (s := s) (by omega))
    have h' : (s.length : Int) ≤ 65535 := by omega
    have hv0 : (s.length : Int) / 256 = ((UInt8.ofNat (s.length / 256)).toNat : Int) := by rw [UInt8.toNat_ofNat']; omega
    have hv1 : (s.length : Int) % 256 = ((UInt8.ofNat s.length).toNat : Int) := by rw [UInt8.toNat_ofNat']; omega
    have hrd := run_tostr (P := Try.prog) (w.alloc (.cells #[.int .u8 ((s.length : Int) / 256), .int .u8 ((s.length : Int) % 256)] 5)) 63 9 5 (a := ⟨w.heap.size, 0, none⟩) (n := 2) (cap := 2) (l := [UInt8.ofNat (s.length / 256), UInt8.ofNat s.length]) Try.underlying63 Try.underlying5 Try.underlying9 rfl (by
      have := Rd.lit w #[.int .u8 ((s.length : Int) / 256), .int .u8 ((s.length : Int) % 256)] 5
      rw [hv0, hv1] at this ⊢
      exact this)
    have HBe := Lib.hid (be2 s.length)
    clear h hv0 hv1
    go_enter Try.func22, Try.ntmps22
    go_wp2_with fail
    go_ret
    exact ⟨by rw [HT.out, HBe.out, show (⟨#[UInt8.ofNat (s.length / 256), UInt8.ofNat s.length]⟩ : ByteArray) = ⟨[UInt8.ofNat (s.length / 256), UInt8.ofNat s.length].toArray⟩ from rfl, ByteArray.mk_append_mk]; simp, ext_a1 _ _⟩

set_option maxRecDepth 100000 in
set_option maxHeartbeats 3200000 in
theorem fput_c (nx : Int) (ao : Option Addr) (n cap : Nat) (K : List Kd) (w : World) (hx : Kds w ao n cap K) :
    Calls Try.prog 8 #[.agg #[.int .i64 nx, .slice ao n cap]] w fun e w' => e = .returned (.tuple #[.string ⟨(fputS nx K).1.toArray⟩, .int .i64 (fputS nx K).2]) ∧ Ext w w' := by
  have Hx := Lib.hid hx
  have b1 := hx.fits; have b2 := hx.bound
  have HLen := Lib.hid hx.len
  clear hx
  go_enter Try.func8, Try.ntmps8
  go_wp2_with fail
  refine (fcheck_c nx _ _ _ K _ (Hx.out.ext (ext_a1 _ _))).mono ?_
  rcases check_cases nx K with hc | hc
  case inr =>
    have HP := Lib.hid (fputS_no hc)
    rw [hc]
    rintro e w1 ⟨rfl, hb⟩
    have HB := Lib.hid ((ext_a1 _ _).trans hb); clear hb hc
    go_wp2_with fail
    go_ret2
    exact ⟨by rw [HP.out]; rfl, HB.out⟩
  have HP := Lib.hid (fputS_yes hc)
  have hok := check_ok hc
  have HOk := Lib.hid hok
  have n0 := hok.1; have n1 := hok.2.1
  have n2 : (n : Int) ≤ 256 := by have := hok.2.2.1; have := HLen.out; omega
  rw [hc]
  rintro e w1 ⟨rfl, hb⟩
  obtain ⟨f0, f1⟩ := box2 hb
  have u0 := cell_of f0; have u1 := cell_of f1
  have HB := Lib.hid ((ext_a1 _ _).trans hb)
  have HK := Lib.hid (Hx.out.ext ((ext_a1 _ _).trans hb))
  clear hb hc hok
  go_wp2_with fail
  have hl4 := be_length 4 nx.toNat; have hl2 := be_length 2 n
  have HC1 := Lib.hid (fun wx : World => put_k nx 4 4 wx rfl (by decide) (by decide) (by omega) (by omega))
  have HC2 := Lib.hid (fun wx : World => put_n n 2 2 wx rfl (by decide) (by decide) (by omega))
  refine wp_region_ext (by kernel_rfl) (by kernel_rfl) ?_
  repeat (go_big_quiet_step (fail))
  go_big_quiet_step (exact Calls.quiet_ext (HC1.out _))
  repeat (go_big_quiet_step (fail))
  go_big_quiet_step (exact Calls.quiet_ext (HC2.out _))
  repeat (go_big_quiet_step (fail))
  refine wpQuiet_nil ?_
  intro w2 hw2
  have HB2 := Lib.hid (HB.out.trans hw2)
  have HK2 := Lib.hid (HK.out.ext hw2)
  have g1 := cell_ext hw2 f1
  have hst : (({ data := (be 4 nx.toNat).toArray } ++ { data := (be 2 n).toArray }) : ByteArray) = ⟨(stHead nx n ++ ((K.take 0).map kdB).flatten).toArray⟩ := by rw [ByteArray.mk_append_mk]; unfold stHead; simp
  have HST := Lib.hid hst
  clear hw2 hst f0 f1 u0 u1 hl4 hl2
  go_wp2_with fail
  go_loopw [5, 26] (fun s i w' => ∃ k : Nat, k ≤ n ∧ i = .int .i64 k ∧ s = .string ⟨(stHead nx n ++ ((K.take k).map kdB).flatten).toArray⟩ ∧ Ext w2 w') (fun _ i _ => n - (intOf i).toNat)
  case atStart => exact ⟨0, Nat.zero_le _, rfl, by rw [HST.out], Ext.refl _⟩
  case round =>
    obtain ⟨k, hk, rfl, rfl, hb⟩ := hrel
    have Hb := Lib.hid hb
    clear hb
    have hpl : (stHead nx n ++ ((K.take k).map kdB).flatten).length ≤ 10000 := by
      have h1 := take_le_kd K k
      have h2 := kdBs_le K (fun i hi => (okState_kd HOk.out i hi).2.1)
      have := HLen.out
      rw [List.length_append]; unfold stHead
      simp only [List.length_append, be_length]
      omega
    have HPl := Lib.hid hpl
    by_cases hlt : k < n
    · obtain ⟨b, off, rfl, c0, c1, c2⟩ := (HK2.out.ext Hb.out).at hlt
      obtain ⟨z1, z2, z3, z4, z5, z6⟩ := okState_kd HOk.out k (by rw [HLen.out]; exact hlt)
      have HNx := Lib.hid (map_take_kd K k (by rw [HLen.out]; exact hlt))
      obtain ⟨q, hq⟩ : ∃ q, K.getD k kd0 = q := ⟨_, rfl⟩
      rw [hq] at c0 c1 c2 z1 z2 z3 z4 z5 z6 HNx
      obtain ⟨t, mm, bb⟩ := q
      have z2' : t.length ≤ 16 := z2
      have z3' : 1 ≤ mm := z3
      have z4' : mm ≤ 1073741824 := z4
      have z5' : 0 ≤ bb := z5
      have z6' : bb ≤ 214748364800 := z6
      generalize hP : stHead nx n ++ ((K.take k).map kdB).flatten = P at *
      have HPP : Hid (stHead nx n ++ ((K.take (k + 1)).map kdB).flatten = P ++ kdB ⟨t, mm, bb⟩) := Lib.hid (by rw [HNx.out, ← List.append_assoc, hP])
      have htx : (textS t).length ≤ 18 := by rw [textS_yes (by omega)]; simp [be_length]; omega
      have HSt : Hid ((({ data := P.toArray } ++ ({ data := (textS t).toArray } ++ { data := (be 4 mm.toNat).toArray } ++ { data := (be 8 bb.toNat).toArray })) : ByteArray) = ⟨(P ++ kdB ⟨t, mm, bb⟩).toArray⟩) := Lib.hid (by
        rw [ByteArray.mk_append_mk, ByteArray.mk_append_mk, ByteArray.mk_append_mk]; unfold kdB; simp)
      have e0 : (wr.alloc (.cells #[.string ⟨t.toArray⟩, .int .i64 mm, .int .i64 bb] 54)).cell? ⟨wr.heap.size, 0, none⟩ = some (.string ⟨t.toArray⟩) := by simp
      have e1 : (wr.alloc (.cells #[.string ⟨t.toArray⟩, .int .i64 mm, .int .i64 bb] 54)).cell? ⟨wr.heap.size, 1, none⟩ = some (.int .i64 mm) := by simp
      have e2 : (wr.alloc (.cells #[.string ⟨t.toArray⟩, .int .i64 mm, .int .i64 bb] 54)).cell? ⟨wr.heap.size, 2, none⟩ = some (.int .i64 bb) := by simp
      have u0 := cell_of e0; have u1 := cell_of e1; have u2' := cell_of e2
      have HC1 := Lib.hid (fun wx : World => text_c t wx (by omega))
      have HC2 := Lib.hid (fun wx : World => put_k mm 4 4 wx rfl (by decide) (by decide) (by omega) (by omega))
      have HC3 := Lib.hid (fun wx : World => put_k bb 8 8 wx rfl (by decide) (by decide) (by omega) (by omega))
      have hl4 := be_length 4 mm.toNat; have hl8 := be_length 8 bb.toNat
      clear hP hq z1 z2 z3 z4 z5 z6
      go_wp2_with fail
      clear c0 c1 c2 e0 e1 e2
      refine wp_region_ext (by kernel_rfl) (by kernel_rfl) ?_
      repeat (go_big_quiet_step (fail))
      go_big_quiet_step (exact Calls.quiet_ext (HC1.out _))
      repeat (go_big_quiet_step (fail))
      go_big_quiet_step (exact Calls.quiet_ext (HC2.out _))
      repeat (go_big_quiet_step (fail))
      go_big_quiet_step (exact Calls.quiet_ext (HC3.out _))
      repeat (go_big_quiet_step (fail))
      refine wpQuiet_nil ?_
      intro w4 hw4
      have HW4 := Lib.hid (Hb.out.trans ((ext_a1 _ _).trans hw4)); clear hw4 u0 u1 u2'
      go_wp2_with fail
      go_roundw
      case rel => exact ⟨k + 1, by omega, by go_num, by rw [HPP.out, ← HSt.out], HW4.out⟩
      case measure => simp [intOf]; omega
    · have hkn : k = n := by omega
      have ht : K.take k = K := List.take_of_length_le (by rw [HLen.out]; omega)
      have hbd : stHead nx n ++ ((K.take k).map kdB).flatten = stBody nx K := by rw [ht]; unfold stBody; rw [HLen.out]
      rw [hbd] at HPl ⊢
      clear hpl hkn ht hbd
      generalize stBody nx K = P at *
      go_wp2_with fail
      refine (seal_c P _ (by have := HPl.out; omega)).mono ?_
      rintro e w5 ⟨rfl, hb5⟩
      have HE := Lib.hid (HB2.out.trans (Hb.out.trans hb5)); clear hb5
      go_wp2_with fail
      go_ret2
      exact ⟨by rw [HP.out]; rfl, HE.out⟩

end Go.Proofs.Ytmopfhkppjcgbaa
namespace Go.Proofs.Ytmopfhkppjcgbaa
open Go.RowKit

set_option maxRecDepth 100000 in
set_option maxHeartbeats 3200000 in
theorem reffput_c (nx : Int) (ao : Option Addr) (n cap : Nat) (K : List Kd) (w : World) (hx : Kds w ao n cap K) :
    Calls Try.prog 9 #[.agg #[.int .i64 nx, .slice ao n cap]] w fun e w' => e = .returned (.tuple #[.string ⟨(fputS nx K).1.toArray⟩, .int .i64 (fputS nx K).2]) ∧ Ext w w' := by
  have Hx := Lib.hid hx
  have b1 := hx.fits; have b2 := hx.bound
  have HLen := Lib.hid hx.len
  clear hx
  go_enter Try.func9, Try.ntmps9
  go_wp2_with fail
  refine (reffcheck_c nx _ _ _ K _ (Hx.out.ext (ext_a1 _ _))).mono ?_
  rcases check_cases nx K with hc | hc
  case inr =>
    have HP := Lib.hid (fputS_no hc)
    rw [hc]
    rintro e w1 ⟨rfl, hb⟩
    have HB := Lib.hid ((ext_a1 _ _).trans hb); clear hb hc
    go_wp2_with fail
    go_ret2
    exact ⟨by rw [HP.out]; rfl, HB.out⟩
  have HP := Lib.hid (fputS_yes hc)
  have hok := check_ok hc
  have HOk := Lib.hid hok
  have n0 := hok.1; have n1 := hok.2.1
  have n2 : (n : Int) ≤ 256 := by have := hok.2.2.1; have := HLen.out; omega
  rw [hc]
  rintro e w1 ⟨rfl, hb⟩
  obtain ⟨f0, f1⟩ := box2 hb
  have u0 := cell_of f0; have u1 := cell_of f1
  have HB := Lib.hid ((ext_a1 _ _).trans hb)
  have HK := Lib.hid (Hx.out.ext ((ext_a1 _ _).trans hb))
  clear hb hc hok
  go_wp2_with fail
  have hl4 := be_length 4 nx.toNat; have hl2 := be_length 2 n
  have HC1 := Lib.hid (fun wx : World => refput_k nx 4 4 wx rfl (by decide) (by decide) (by omega) (by omega))
  have HC2 := Lib.hid (fun wx : World => refput_n n 2 2 wx rfl (by decide) (by decide) (by omega))
  refine wp_region_ext (by kernel_rfl) (by kernel_rfl) ?_
  repeat (go_big_quiet_step (fail))
  go_big_quiet_step (exact Calls.quiet_ext (HC1.out _))
  repeat (go_big_quiet_step (fail))
  go_big_quiet_step (exact Calls.quiet_ext (HC2.out _))
  repeat (go_big_quiet_step (fail))
  refine wpQuiet_nil ?_
  intro w2 hw2
  have HB2 := Lib.hid (HB.out.trans hw2)
  have HK2 := Lib.hid (HK.out.ext hw2)
  have g1 := cell_ext hw2 f1
  have hst : (({ data := (be 4 nx.toNat).toArray } ++ { data := (be 2 n).toArray }) : ByteArray) = ⟨(stHead nx n ++ ((K.take 0).map kdB).flatten).toArray⟩ := by rw [ByteArray.mk_append_mk]; unfold stHead; simp
  have HST := Lib.hid hst
  clear hw2 hst f0 f1 u0 u1 hl4 hl2
  go_wp2_with fail
  go_loopw [4, 5] (fun s i w' => ∃ k : Nat, k ≤ n ∧ i = .int .i64 k ∧ s = .string ⟨(stHead nx n ++ ((K.take k).map kdB).flatten).toArray⟩ ∧ Ext w2 w') (fun _ i _ => n - (intOf i).toNat)
  case atStart => exact ⟨0, Nat.zero_le _, rfl, by rw [HST.out], Ext.refl _⟩
  case round =>
    obtain ⟨k, hk, rfl, rfl, hb⟩ := hrel
    have Hb := Lib.hid hb
    have s1 := cell_ext hb g1
    clear hb
    have hpl : (stHead nx n ++ ((K.take k).map kdB).flatten).length ≤ 10000 := by
      have h1 := take_le_kd K k
      have h2 := kdBs_le K (fun i hi => (okState_kd HOk.out i hi).2.1)
      have := HLen.out
      rw [List.length_append]; unfold stHead
      simp only [List.length_append, be_length]
      omega
    have HPl := Lib.hid hpl
    by_cases hlt : k < n
    · obtain ⟨b, off, rfl, c0, c1, c2⟩ := (HK2.out.ext Hb.out).at hlt
      obtain ⟨z1, z2, z3, z4, z5, z6⟩ := okState_kd HOk.out k (by rw [HLen.out]; exact hlt)
      have HNx := Lib.hid (map_take_kd K k (by rw [HLen.out]; exact hlt))
      obtain ⟨q, hq⟩ : ∃ q, K.getD k kd0 = q := ⟨_, rfl⟩
      rw [hq] at c0 c1 c2 z1 z2 z3 z4 z5 z6 HNx
      obtain ⟨t, mm, bb⟩ := q
      have z2' : t.length ≤ 16 := z2
      have z3' : 1 ≤ mm := z3
      have z4' : mm ≤ 1073741824 := z4
      have z5' : 0 ≤ bb := z5
      have z6' : bb ≤ 214748364800 := z6
      generalize hP : stHead nx n ++ ((K.take k).map kdB).flatten = P at *
      have HPP : Hid (stHead nx n ++ ((K.take (k + 1)).map kdB).flatten = P ++ kdB ⟨t, mm, bb⟩) := Lib.hid (by rw [HNx.out, ← List.append_assoc, hP])
      have htx : (textS t).length ≤ 18 := by rw [textS_yes (by omega)]; simp [be_length]; omega
      have HSt : Hid ((({ data := P.toArray } ++ { data := (textS t).toArray } ++ { data := (be 4 mm.toNat).toArray } ++ { data := (be 8 bb.toNat).toArray }) : ByteArray) = ⟨(P ++ kdB ⟨t, mm, bb⟩).toArray⟩) := Lib.hid (by
        rw [ByteArray.mk_append_mk, ByteArray.mk_append_mk, ByteArray.mk_append_mk]; unfold kdB; simp)
      have e0 : (wr.alloc (.cells #[.string ⟨t.toArray⟩, .int .i64 mm, .int .i64 bb] 55)).cell? ⟨wr.heap.size, 0, none⟩ = some (.string ⟨t.toArray⟩) := by simp
      have e1 : (wr.alloc (.cells #[.string ⟨t.toArray⟩, .int .i64 mm, .int .i64 bb] 55)).cell? ⟨wr.heap.size, 1, none⟩ = some (.int .i64 mm) := by simp
      have e2 : (wr.alloc (.cells #[.string ⟨t.toArray⟩, .int .i64 mm, .int .i64 bb] 55)).cell? ⟨wr.heap.size, 2, none⟩ = some (.int .i64 bb) := by simp
      have u0 := cell_of e0; have u1 := cell_of e1; have u2' := cell_of e2
      have HC1 := Lib.hid (fun wx : World => reftext_c t wx (by omega))
      have HC2 := Lib.hid (fun wx : World => refput_k mm 4 4 wx rfl (by decide) (by decide) (by omega) (by omega))
      have HC3 := Lib.hid (fun wx : World => refput_k bb 8 8 wx rfl (by decide) (by decide) (by omega) (by omega))
      have hl4 := be_length 4 mm.toNat; have hl8 := be_length 8 bb.toNat
      clear hP hq z1 z2 z3 z4 z5 z6
      go_wp2_with fail
      clear c0 c1 c2 e0 e1 e2
      refine wp_region_ext (by kernel_rfl) (by kernel_rfl) ?_
      repeat (go_big_quiet_step (fail))
      go_big_quiet_step (exact Calls.quiet_ext (HC1.out _))
      repeat (go_big_quiet_step (fail))
      go_big_quiet_step (exact Calls.quiet_ext (HC2.out _))
      repeat (go_big_quiet_step (fail))
      go_big_quiet_step (exact Calls.quiet_ext (HC3.out _))
      repeat (go_big_quiet_step (fail))
      refine wpQuiet_nil ?_
      intro w4 hw4
      have HW4 := Lib.hid (Hb.out.trans ((ext_a1 _ _).trans hw4)); clear hw4 u0 u1 u2'
      go_wp2_with fail
      go_roundw
      case rel => exact ⟨k + 1, by omega, by go_num, by rw [HPP.out, ← HSt.out], HW4.out⟩
      case measure => simp [intOf]; omega
    · have hkn : k = n := by omega
      have ht : K.take k = K := List.take_of_length_le (by rw [HLen.out]; omega)
      have hbd : stHead nx n ++ ((K.take k).map kdB).flatten = stBody nx K := by rw [ht]; unfold stBody; rw [HLen.out]
      rw [hbd] at HPl ⊢
      clear hpl hkn ht hbd
      generalize stBody nx K = P at *
      go_wp2_with fail
      refine (refseal_c P _ (by have := HPl.out; omega)).mono ?_
      rintro e w5 ⟨rfl, hb5⟩
      have HE := Lib.hid (HB2.out.trans (Hb.out.trans hb5)); clear hb5
      go_wp2_with fail
      go_ret2
      exact ⟨by rw [HP.out]; rfl, HE.out⟩

end Go.Proofs.Ytmopfhkppjcgbaa
namespace Go.Proofs.Ytmopfhkppjcgbaa
open Go.RowKit

def fgreatB (K : List Kd) : Bool := (K.any fun k => decide (100 < k.t.length)) || decide (300 < K.length)

theorem fgreatB_hit {K : List Kd} {k : Nat} (hk : k < K.length) (h : 100 < (K.getD k kd0).t.length) : fgreatB K = true := by
  unfold fgreatB
  rw [Bool.or_eq_true]
  left
  rw [List.any_eq_true]
  rw [List.getD_eq_getElem?_getD, List.getElem?_eq_getElem hk] at h
  exact ⟨_, List.getElem_mem hk, by simpa using h⟩

theorem fgreatB_end {K : List Kd} (h : ∀ j, j < K.length → ¬ 100 < (K.getD j kd0).t.length) : fgreatB K = decide (300 < K.length) := by
  unfold fgreatB
  have : (K.any fun k => decide (100 < k.t.length)) = false := by
    rw [List.any_eq_false]
    intro x hx
    obtain ⟨j, hj, rfl⟩ := List.mem_iff_getElem.1 hx
    have := h j hj
    rw [List.getD_eq_getElem?_getD, List.getElem?_eq_getElem hj] at this
    simpa using this
  rw [this, Bool.false_or]

theorem fgreat_no {K : List Kd} (h : fgreatB K = false) : K.length ≤ 300 ∧ ∀ j, j < K.length → (K.getD j kd0).t.length ≤ 100 := by
  refine ⟨?_, fun j hj => ?_⟩
  · by_cases h2 : ∀ j, j < K.length → ¬ 100 < (K.getD j kd0).t.length
    · rw [fgreatB_end h2] at h; have := of_decide_eq_false h; omega
    · unfold fgreatB at h; rw [Bool.or_eq_false_iff] at h; have := of_decide_eq_false h.2; omega
  · rcases Nat.lt_or_ge 100 (K.getD j kd0).t.length with h2 | h2
    · rw [fgreatB_hit hj h2] at h; cases h
    · exact h2

theorem not_more {K : List Kd} {k : Nat} (h : ∀ j, j < k → ¬ 100 < (K.getD j kd0).t.length) (h2 : ¬ 100 < (K.getD k kd0).t.length) : ∀ j, j < k + 1 → ¬ 100 < (K.getD j kd0).t.length := by
  intro j hj
  rcases Nat.lt_or_ge j k with h3 | h3
  · exact h j h3
  · obtain rfl : j = k := by omega
    exact h2

set_option maxRecDepth 100000 in
set_option maxHeartbeats 1600000 in
theorem fgreat_c (nx : Int) (ao : Option Addr) (n cap : Nat) (K : List Kd) (w : World) (hx : Kds w ao n cap K) (htx : ∀ j, j < n → (K.getD j kd0).t.length ≤ 9223372036854775807) :
    Calls Try.prog 4 #[.agg #[.int .i64 nx, .slice ao n cap]] w fun e w' => e = .returned (.bool (fgreatB K)) ∧ Ext w w' := by
  have Hx := Lib.hid hx
  have b1 := hx.fits; have b2 := hx.bound
  have HLen := Lib.hid hx.len
  have HTx := Lib.hid htx
  clear hx htx
  go_enter Try.func4, Try.ntmps4
  go_wp2_with fail
  go_loopw [3] (fun i w' => ∃ k : Nat, k ≤ n ∧ i = .int .i64 k ∧ (∀ j, j < k → ¬ 100 < (K.getD j kd0).t.length) ∧ Ext (w.alloc (.cells #[.int .i64 nx, .slice ao n cap] 24)) w') (fun i _ => n - (intOf i).toNat)
  case atStart => exact ⟨0, Nat.zero_le _, rfl, by omega, Ext.refl _⟩
  case round =>
    obtain ⟨k, hk, rfl, hno, hb⟩ := hrel
    have HNo := Lib.hid hno; have Hb := Lib.hid hb
    have s1 := (box2 hb).2
    clear hno hb
    by_cases hlt : k < n
    · obtain ⟨b, off, rfl, c0, _, _⟩ := (Hx.out.ext ((ext_a1 _ _).trans Hb.out)).at hlt
      have htl := HTx.out k hlt
      obtain ⟨t, hq⟩ : ∃ q, (K.getD k kd0).t = q := ⟨_, rfl⟩
      rw [hq] at c0 htl
      have HQ := Lib.hid hq; clear hq
      by_cases hg : 100 < (t.length : Int)
      · have HN := Lib.hid (fgreatB_hit (K := K) (k := k) (by rw [HLen.out]; exact hlt) (by rw [HQ.out]; omega))
        go_wp2_with fail
        go_ret
        exact ⟨by rw [HN.out]; rfl, (ext_a1 _ _).trans Hb.out⟩
      · have hg' : (t.length : Int) ≤ 100 := by omega
        clear hg
        go_wp2_with fail
        go_roundw
        case rel => exact ⟨k + 1, by omega, by go_num, not_more HNo.out (by rw [HQ.out]; omega), Hb.out⟩
        case measure => simp [intOf]; omega
    · have HN := Lib.hid (fgreatB_end (K := K) (fun j hj => HNo.out j (by rw [HLen.out] at hj; omega)))
      go_wp2_with fail
      go_ret
      exact ⟨rb (by rw [HN.out, HLen.out, decide_eq_decide]; omega), (ext_a1 _ _).trans Hb.out⟩

end Go.Proofs.Ytmopfhkppjcgbaa
