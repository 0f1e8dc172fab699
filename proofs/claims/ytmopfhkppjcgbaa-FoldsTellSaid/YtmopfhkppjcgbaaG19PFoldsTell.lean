/- Walks: whether events are more than is gone through (law33's Great); events that came in, laid open. -/
import Derived.Test.YtmopfhkppjcgbaaG18PFoldsTell
import Derived.Test.YtmopfhkppjcgbaaG2PFoldsTell
import Derived.Lib.SmallJoins
import Derived.Deep.Strs
import Derived.OpenShut
set_option linter.unusedVariables false
set_option linter.unusedSimpArgs false
namespace Go.Proofs.Ytmopfhkppjcgbaa
open Go.RowKit Go.WideShapes Go.ChangeShapes Go.Deep

set_option maxRecDepth 100000
set_option linter.unusedVariables false
set_option maxHeartbeats 12800000

def bigT (x : Td) : Bool := decide (300 < x.s.length) || decide (300 < x.t.length) || decide (300 < x.d.length)
def tgreatB (L : List Td) (most : Nat) : Bool := L.any bigT || decide (most < L.length)
def NoBigT (L : List Td) : Prop := L.any bigT = false
theorem NoBigT.snoc {L : List Td} {x : Td} (h : NoBigT L) (hx : bigT x = false) : NoBigT (L ++ [x]) := by unfold NoBigT at *; rw [List.any_append, h]; simp [hx]
theorem tgreat_no {L : List Td} {most : Nat} (h : tgreatB L most = false) : L.length ≤ most ∧ ∀ x ∈ L, x.t.length ≤ 1000000 ∧ x.d.length ≤ 1000000 := by
  unfold tgreatB at h
  rw [Bool.or_eq_false_iff] at h
  refine ⟨by have := of_decide_eq_false h.2; omega, fun x hx => ?_⟩
  have h1 := List.any_eq_false.1 h.1 x hx
  unfold bigT at h1
  simp only [Bool.or_eq_true, decide_eq_true_eq, not_or] at h1
  omega

theorem tgreat_c {lo : Option Addr} {n cap : Nat} {L : List Td} (w : World) (hl : TDs w lo n cap L) (most : Nat) (hm : most ≤ 1000) (hL : ∀ x ∈ L, x.s.length ≤ 9223372036854775807 ∧ x.t.length ≤ 9223372036854775807 ∧ x.d.length ≤ 9223372036854775807) :
    Calls Try.prog 5 #[.slice lo n cap, .int .i64 (most : Int)] w fun e w' => e = .returned (.bool (tgreatB L most)) ∧ Ext w w' := by
  have HL := Lib.hid hl
  have b1 := hl.fits; have b2 := hl.bound
  have HLen := Lib.hid hl.len
  have HX0 := Lib.hid (Ext.refl w)
  have HTx := Lib.hid hL
  clear hl hL
  go_enter Try.func5, Try.ntmps5
  go_wp2_with fail
  go_loopw [5] (fun i W => ∃ k : Nat, k ≤ n ∧ i = .int .i64 (k : Int) ∧ NoBigT (L.take k) ∧ Ext w W) (fun i _ => n - (intOf i).toNat)
  case atStart => exact ⟨0, Nat.zero_le _, rfl, rfl, HX0.out⟩
  case round =>
    obtain ⟨k, hk, rfl, hno, hb⟩ := hrel
    have HNo := Lib.hid hno; have Hb := Lib.hid hb
    clear hno hb
    by_cases hlt : k < n
    · have hd : decide ((k : Int) < (n : Int)) = true := decide_eq_true (by omega)
      have q1 : IntKind.i64.wrap ((k : Int) + 1) = (k : Int) + 1 := by rw [IntKind.wrap_i64]; omega
      have q5 : (k : Int) < (n : Int) := by omega
      obtain ⟨b, off, rfl, c0, c1, c2, c3, c4⟩ := (HL.out.ext Hb.out).at hlt
      have hkL : k < L.length := by have := HLen.out; omega
      have hg : L.getD k td0 = L[k] := by rw [List.getD_eq_getElem?_getD, List.getElem?_eq_getElem hkL]; rfl
      have htk : L.take (k + 1) = L.take k ++ [L[k]] := List.take_succ_eq_append_getElem hkL
      have hxx := HTx.out _ (List.getElem_mem hkL)
      have hmem := List.getElem_mem hkL
      rw [hg] at c0 c2 c3
      have HTk := Lib.hid htk
      have HHit : Hid (bigT L[k] = true → tgreatB L most = true) := Lib.hid fun h => by unfold tgreatB; rw [List.any_eq_true.2 ⟨_, hmem, h⟩]; rfl
      generalize L[k] = x at *
      obtain ⟨s, v, t, d, fb⟩ := x
      obtain ⟨x1, x2, x3⟩ := hxx
      simp only at x1 x2 x3 c0 c2 c3
      have h4 : (decide ((300 : Int) < (s.length : Int)) = true ∧ bigT ⟨s, v, t, d, fb⟩ = true) ∨ (decide ((300 : Int) < (s.length : Int)) = false ∧ ((decide ((300 : Int) < (t.length : Int)) = true ∧ bigT ⟨s, v, t, d, fb⟩ = true) ∨ (decide ((300 : Int) < (t.length : Int)) = false ∧ ((decide ((300 : Int) < (d.length : Int)) = true ∧ bigT ⟨s, v, t, d, fb⟩ = true) ∨ (decide ((300 : Int) < (d.length : Int)) = false ∧ bigT ⟨s, v, t, d, fb⟩ = false))))) := by
        unfold bigT
        by_cases h1 : 300 < s.length
        · exact .inl ⟨decide_eq_true (by omega), by simp [h1]⟩
        · refine .inr ⟨decide_eq_false (by omega), ?_⟩
          by_cases h2 : 300 < t.length
          · exact .inl ⟨decide_eq_true (by omega), by simp [h2]⟩
          · refine .inr ⟨decide_eq_false (by omega), ?_⟩
            by_cases h3 : 300 < d.length
            · exact .inl ⟨decide_eq_true (by omega), by simp [h3]⟩
            · exact .inr ⟨decide_eq_false (by omega), by simp [h1, h2, h3]⟩
      clear hg htk hmem
      have hend : ∀ h : bigT ⟨s, v, t, d, fb⟩ = true, tgreatB L most = true := HHit.out
      rcases h4 with ⟨g1, hb⟩ | ⟨g1, ⟨g2, hb⟩ | ⟨g2, ⟨g3, hb⟩ | ⟨g3, hb⟩⟩⟩
      · have HEq := Lib.hid (hend hb)
        clear hb hend
        go_wp2_with fail
        go_ret
        exact ⟨by rw [HEq.out]; rfl, Hb.out⟩
      · have HEq := Lib.hid (hend hb)
        clear hb hend
        go_wp2_with fail
        go_ret
        exact ⟨by rw [HEq.out]; rfl, Hb.out⟩
      · have HEq := Lib.hid (hend hb)
        clear hb hend
        go_wp2_with fail
        go_ret
        exact ⟨by rw [HEq.out]; rfl, Hb.out⟩
      · have HB := Lib.hid hb
        clear hb hend
        go_wp2_with fail
        go_roundw
        case rel => exact ⟨k + 1, by omega, by go_num, by rw [HTk.out]; exact HNo.out.snoc HB.out, Hb.out⟩
        case measure => simp [intOf]; omega
    · have hd : decide ((k : Int) < (n : Int)) = false := decide_eq_false (by omega)
      have hT : tgreatB L most = decide (most < n) := by
        have h1 : NoBigT L := by have := HNo.out; rwa [List.take_of_length_le (by rw [HLen.out]; omega)] at this
        unfold NoBigT at h1
        unfold tgreatB
        rw [h1, HLen.out, Bool.false_or]
      have HT := Lib.hid hT
      clear hT
      go_wp2_with fail
      go_ret
      exact ⟨by rw [HT.out]; rfl, Hb.out⟩

theorem trod_floatF {H : Type} {enc : TypeId × Value → H} {P : Program} {w : World} {base : Nat} {spare : Nat → Bool} {held : Bool} {fuel : Nat} {t : TypeId} {k : FloatKind} {c : Value} {y : DataW H × List MemPlace} (ht : P.underlying t = some (.float k))
    (h : DataW.trod enc P w base spare held fuel t [c] = some y) : ∃ b, c = .float k b := by
  cases fuel with
  | zero => simp [DataW.trod] at h
  | succ n =>
    simp only [DataW.trod, ht] at h
    cases c <;> simp at h
    rename_i k' b
    obtain ⟨h1, _⟩ := h
    exact ⟨b, by simp_all⟩

/-- an event that came in -/
theorem open_told {H : Type} {enc : TypeId × Value → H} {w : World} {base : Nat} {held : Bool} {fuel : Nat} {cs : List Value} {y : DataW H × List MemPlace}
    (h : DataW.trod enc Try.prog w base (fun _ => true) held fuel 44 cs = some y) : ∃ x : Td, cs = tdc x ∧ x.s.length ≤ 9223372036854775807 ∧ x.t.length ≤ 9223372036854775807 ∧ x.d.length ≤ 9223372036854775807 := by
  obtain ⟨y0, y1, y2, n, _, hl, h0, h1, h2⟩ := trod_struct3 Try.underlying44 h
  have hc : Try.prog.cellsOf 44 = 5 := by kernel_rfl
  have hce : Try.prog.cellsOf 42 = 3 := by kernel_rfl
  have hcs : Try.prog.cellsOf 9 = 1 := by kernel_rfl
  have hci : Try.prog.cellsOf 3 = 1 := by kernel_rfl
  have hcf : Try.prog.cellsOf 40 = 1 := by kernel_rfl
  rw [hc] at hl
  match cs, hl with
  | [c0, c1, c2, c3, c4], _ =>
    simp only [hcs, hci, hce] at h0 h1 h2
    obtain ⟨s, e0, _, hs⟩ := DataW.trod_string Try.underlying9 h0
    obtain ⟨a1, e1, _, _⟩ := DataW.trod_int Try.underlying3 h1
    obtain ⟨z0, z1, z2, n2, _, hl2, g0, g1, g2⟩ := trod_struct3 Try.underlying42 h2
    simp only [hcs, hcf] at g0 g1 g2
    obtain ⟨t, e2, _, ht⟩ := DataW.trod_string Try.underlying9 g0
    obtain ⟨d, e3, _, hd⟩ := DataW.trod_string Try.underlying9 g1
    simp at e0 e1 e2 e3
    subst e0 e1 e2 e3
    obtain ⟨b, rfl⟩ := trod_floatF Try.underlying40 g2
    refine ⟨⟨s.data.toList, a1, t.data.toList, d.data.toList, b⟩, by unfold tdc; cases s; cases t; cases d; rfl, ?_, ?_, ?_⟩
    all_goals
      unfold maxLen at hs ht hd
      simp only [Array.length_toList]
      assumption

theorem open_tds {H : Type} {enc : TypeId × Value → H} {w : World} {base : Nat} {held : Bool} {v : Value} {d : DataW H} {p : List MemPlace}
    (h : DataW.Trod enc Try.prog w base (fun _ => true) held 25 v d p) (hs : ∃ ao n cap, v = .slice ao n cap) :
    ∃ ao n cap L, v = .slice ao n cap ∧ TDs w ao n cap L ∧ ∀ x ∈ L, x.s.length ≤ 9223372036854775807 ∧ x.t.length ≤ 9223372036854775807 ∧ x.d.length ≤ 9223372036854775807 := by
  obtain ⟨ao, n, cap, rfl⟩ := hs
  obtain ⟨f0, hf0⟩ := h
  have e9 : (Value.slice ao n cap).cells.toList = [.slice ao n cap] := by simp [Value.cells]
  rw [e9] at hf0
  have hc : Try.prog.cellsOf 44 = 5 := by kernel_rfl
  rcases open_slice Try.underlying25 hf0 with ⟨e1, _⟩ | ⟨a, len, cap', m, n', D, Pl, e1, _, hl, hm, hmm, _, hi⟩
  · simp only [List.cons.injEq, and_true] at e1
    cases e1
    exact ⟨none, 0, 0, [], rfl, ⟨rfl, Nat.le_refl _, by omega, fun _ => rfl, Rd.nil _ _⟩, fun x h => by cases h⟩
  · simp only [List.cons.injEq, and_true] at e1
    cases e1
    simp only [if_true] at hmm
    subst hmm
    rw [hc] at hi
    have hk : ∀ i, ∃ k : Td, i < n → (∀ j, j < 5 → w.cell? ((a.add (i * 5)).add j) = (tdc k)[j]?) ∧ k.s.length ≤ 9223372036854775807 ∧ k.t.length ≤ 9223372036854775807 ∧ k.d.length ≤ 9223372036854775807 := fun i => by
      by_cases hil : i < n
      · obtain ⟨cs', hcs, ht⟩ := hi i (by omega)
        obtain ⟨_, hcl, hat⟩ := World.cells?_some hcs
        obtain ⟨k, rfl, hkl⟩ := open_told ht
        exact ⟨k, fun _ => ⟨hat, hkl⟩⟩
      · exact ⟨td0, fun h => absurd h hil⟩
    obtain ⟨f, hf⟩ := Classical.axiomOfChoice hk
    have hlen : ((List.range n).map f).length = n := by simp
    have hget : ∀ i, i < n → ((List.range n).map f).getD i td0 = f i := fun i hi => by
      rw [List.getD_eq_getElem?_getD, List.getElem?_map, List.getElem?_range hi]; rfl
    refine ⟨some a, n, _, (List.range n).map f, rfl, ⟨hlen, hl, by unfold maxLen at hm; omega, (fun h => by cases h), ?_⟩, fun x hx => ?_⟩
    · intro j u hj
      have hjl : j < n * 5 := by
        have := (List.getElem?_eq_some_iff.1 hj).1
        rwa [tdcs_length, hlen] at this
      have hi3 : j / 5 < n := by omega
      have hr3 : j % 5 < 5 := Nat.mod_lt _ (by decide)
      have hjj : j / 5 * 5 + j % 5 = j := by omega
      have hkc := tdcs_at ((List.range n).map f) (j / 5) (j % 5) (by rw [hlen]; exact hi3) hr3
      rw [hjj, hget _ hi3, hj] at hkc
      have h0' := (hf 0 (by omega)).1 0 (by decide)
      rw [Nat.zero_mul, add_add, Nat.add_zero] at h0'
      obtain ⟨b, off, rfl⟩ := spot_none h0'
      have hcell := (hf (j / 5) hi3).1 (j % 5) hr3
      rw [add_add, hjj, ← hkc, add_lit'] at hcell
      exact ⟨b, off, rfl, hcell⟩
    · obtain ⟨i, hi, rfl⟩ := List.mem_map.1 hx
      exact (hf i (List.mem_range.1 hi)).2

end Go.Proofs.Ytmopfhkppjcgbaa
