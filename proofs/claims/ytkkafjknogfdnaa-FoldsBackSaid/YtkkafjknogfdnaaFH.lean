/- Walks: numbers and texts, taken off bytes. -/
import Derived.Test.YtkkafjknogfdnaaChecked
import Derived.Test.YtkkafjknogfdnaaFT
import Derived.Test.YtkkafjknogfdnaaKF
import Derived.Test.YtkkafjknogfdnaaNA
import Derived.Test.YtkkafjknogfdnaaCB
namespace Go.Proofs.Ytkkafjknogfdnaa
open Go.RowKit

/-- a number of so many bytes that stands ahead; what is left; is all well? -/
def nuV (k : Nat) (s : List UInt8) : Int := if s.length < k then 0 else min (unbe (s.take k) : Int) 4611686018427387904
def nuR (k : Nat) (s : List UInt8) : List UInt8 := if s.length < k then s else s.drop k
def nuO (k : Nat) (s : List UInt8) (ok : Bool) : Bool := if s.length < k then false else ok

/-- a text that stands ahead, what is behind it, and whether there is one -/
def rdOk (s : List UInt8) : Bool := decide (2 ≤ s.length) && decide (unbe (s.take 2) + 2 ≤ s.length)
def rdT (s : List UInt8) : List UInt8 := if rdOk s then (s.take (2 + unbe (s.take 2))).drop 2 else []
def rdR (s : List UInt8) : List UInt8 := if rdOk s then s.drop (2 + unbe (s.take 2)) else []

def FRd (w : World) (g : Nat) (s : List UInt8) (ok : Bool) : Prop := Blk w g 111 #[.string ⟨s.toArray⟩, .bool ok]

set_option maxRecDepth 100000 in
set_option maxHeartbeats 1600000 in
theorem read_c (s : List UInt8) (w : World) (hl : s.length ≤ 4611686018427387903) :
    Calls Try.prog 91 #[.string ⟨s.toArray⟩] w fun e w' => e = .returned (.tuple #[.string ⟨(rdT s).toArray⟩, .string ⟨(rdR s).toArray⟩, .bool (rdOk s)]) ∧ Ext w w' := by
  by_cases h2 : (s.length : Int) < 2
  · have ho : rdOk s = false := by unfold rdOk; rw [decide_eq_false (by omega)]; rfl
    have HT : Hid (rdT s = []) := Lib.hid (by unfold rdT; rw [ho]; rfl)
    have HR : Hid (rdR s = []) := Lib.hid (by unfold rdR; rw [ho]; rfl)
    have HO := Lib.hid ho; clear ho
    go_enter Try.func91, Try.ntmps91
    go_wp2_with fail
    go_ret3
    exact ⟨by rw [HT.out, HR.out, HO.out]; rfl, Ext.refl _⟩
  have h2' : 2 ≤ s.length := by omega
  have hu := unbe_lt (s.take 2)
  rw [List.length_take, Nat.min_eq_left h2'] at hu
  have ht8 : (s.take 2).take 8 = s.take 2 := List.take_of_length_le (by simp; omega)
  have HT8 := Lib.hid ht8
  have HO : Hid (rdOk s = decide (unbe (s.take 2) + 2 ≤ s.length)) := Lib.hid (by unfold rdOk; rw [decide_eq_true h2', Bool.true_and])
  have HTl : Hid ((s.take 2).length ≤ 9223372036854775807) := Lib.hid (by simp; omega)
  have HTT : Hid (rdOk s = true → rdT s = (s.take (2 + unbe (s.take 2))).drop 2 ∧ rdR s = s.drop (2 + unbe (s.take 2))) := Lib.hid (fun h => by unfold rdT rdR; rw [h]; exact ⟨rfl, rfl⟩)
  have HFF : Hid (rdOk s = false → rdT s = [] ∧ rdR s = []) := Lib.hid (fun h => by unfold rdT rdR; rw [h]; exact ⟨rfl, rfl⟩)
  obtain ⟨u, hu2⟩ : ∃ u, unbe (s.take 2) = u := ⟨_, rfl⟩
  rw [hu2] at hu HO HTT
  have HU := Lib.hid hu2
  have hu3 : (u : Int) ≤ 65535 := by omega
  clear ht8 hu2 hu h2
  go_enter Try.func91, Try.ntmps91
  go_wp2_with fail
  refine (get_c (s.take 2) _ HTl.out).mono ?_
  rw [HT8.out, HU.out]
  rintro e w1 ⟨rfl, hb⟩
  have HB := Lib.hid hb; clear hb
  by_cases hlt : (s.length : Int) - 2 < (u : Int)
  · have hof : rdOk s = false := by rw [HO.out]; exact decide_eq_false (by omega)
    have HF := Lib.hid (HFF.out hof)
    have HOF := Lib.hid hof; clear hof
    go_wp2_with fail
    go_ret3
    exact ⟨by rw [HF.out.1, HF.out.2, HOF.out]; rfl, HB.out⟩
  · have hof : rdOk s = true := by rw [HO.out]; exact decide_eq_true (by omega)
    have HF := Lib.hid (HTT.out hof)
    have HOF := Lib.hid hof; clear hof
    have hlt' : (u : Int) ≤ (s.length : Int) - 2 := by omega
    have hlt2 : 2 + u ≤ s.length := by omega
    clear hlt
    have hs1 : IntKind.i64.wrap (2 + (u : Int)) = 2 + (u : Int) := IntWalk.i64_in _ (by omega)
    have hs2 : (2 + (u : Int)).toNat = 2 + u := by omega
    have hs3 : 0 ≤ 2 + (u : Int) := by omega
    have hs4 : 2 ≤ 2 + (u : Int) := by omega
    have hs5 : 2 + (u : Int) ≤ (s.length : Int) := by omega
    go_wp2_with fail
    refine wp_region_ext (by kernel_rfl) (by kernel_rfl) ?_
    repeat (go_big_quiet_step (fail))
    refine wpQuiet_nil ?_
    intro w4 hw4
    have HW := Lib.hid (HB.out.trans hw4); clear hw4
    go_wp2_with fail
    go_ret3
    exact ⟨by rw [HF.out.1, HF.out.2, HOF.out]; rfl, HW.out⟩

set_option maxRecDepth 100000 in
set_option maxHeartbeats 1600000 in
theorem number_c (k : Nat) (N : Int) (s : List UInt8) (ok : Bool) (g : Nat) (w : World) (hN : N = (k : Int)) (h : FRd w g s ok) (_hl : s.length ≤ 4611686018427387903) (h8 : k ≤ 8) :
    Calls Try.prog 76 #[.pointer (some ⟨g, 0, none⟩), .int .i64 N] w fun e w' => e = .returned (.int .i64 (nuV k s)) ∧ FRd w' g (nuR k s) (nuO k s ok) ∧ Off g w w' := by
  subst hN
  have c0 : w.cell? ⟨g, 0, none⟩ = some (.string ⟨s.toArray⟩) := h.cell 0
  have c1 : w.cell? ⟨g, 1, none⟩ = some (.bool ok) := h.cell 1
  have z0 := h.free 0
  have z1 := h.free 1
  have H := Lib.hid h; clear h
  by_cases hlt : (s.length : Int) < (k : Int)
  · have HV : Hid (nuV k s = 0 ∧ nuR k s = s ∧ nuO k s ok = false) := Lib.hid (by unfold nuV nuR nuO; rw [if_pos (by omega), if_pos (by omega), if_pos (by omega)]; exact ⟨rfl, rfl, rfl⟩)
    go_enter Try.func76, Try.ntmps76
    go_wp2_with fail
    go_ret
    refine ⟨by rw [HV.out.1]; rfl, ?_, Off.set w 1 (.bool false)⟩
    rw [HV.out.2.1, HV.out.2.2]
    exact H.out.set 1 (.bool false)
  · have HV : Hid (nuV k s = min (unbe (s.take k) : Int) 4611686018427387904 ∧ nuR k s = s.drop k ∧ nuO k s ok = ok) := Lib.hid (by unfold nuV nuR nuO; rw [if_neg (by omega), if_neg (by omega), if_neg (by omega)]; exact ⟨rfl, rfl, rfl⟩)
    have hlt' : (k : Int) ≤ (s.length : Int) := by omega
    have hk2 : k ≤ s.length := by omega
    have ht8 : (s.take k).take 8 = s.take k := List.take_of_length_le (by simp; omega)
    have HT8 := Lib.hid ht8
    have HTl : Hid ((s.take k).length ≤ 9223372036854775807) := Lib.hid (by simp; omega)
    have hu := unbe_lt (s.take k)
    obtain ⟨U, hu2⟩ : ∃ U : Int, (unbe (s.take k) : Int) = U := ⟨_, rfl⟩
    have hu0 : 0 ≤ U := by omega
    have hu64 : U < 18446744073709551616 := by
      rw [List.length_take, Nat.min_eq_left hk2] at hu
      have : 256 ^ k ≤ 256 ^ 8 := Nat.pow_le_pow_right (by decide) h8
      omega
    rw [hu2] at HV
    have HU := Lib.hid hu2
    have HU64 := Lib.hid hu64
    clear hlt ht8 hu2 hu hu64
    go_enter Try.func76, Try.ntmps76
    go_wp2_with fail
    refine (get_c (s.take k) _ HTl.out).mono ?_
    rw [HT8.out, HU.out]
    rintro e w1 ⟨rfl, hb⟩
    have HB := Lib.hid hb
    have d0 := cell_ext hb c0; have y0 := frozen_ext hb c0 z0
    clear hb c0 c1 z0 z1
    have HF1 : Hid (FRd w1 g s ok) := Lib.hid (H.out.ext HB.out)
    have HOff : Hid (Off g w (w1.setCell ⟨g, 0, none⟩ (.string ⟨(s.drop k).toArray⟩))) := Lib.hid ((Off.of_ext HB.out).trans (Off.set w1 0 _))
    by_cases hbig : U ≤ 4611686018427387903
    · go_wp2_with fail
      go_ret
      refine ⟨by rw [HV.out.1, Int.min_eq_left (by omega)]; rfl, ?_, HOff.out⟩
      rw [HV.out.2.1, HV.out.2.2]
      exact HF1.out.set 0 _
    · have hbig' : 4611686018427387904 ≤ U := by omega
      clear hbig
      go_wp2_with fail
      all_goals
        go_ret
        refine ⟨?_, by rw [HV.out.2.1, HV.out.2.2]; exact HF1.out.set 0 _, HOff.out⟩
        rw [HV.out.1, Int.min_eq_right (by omega)]
        first | rfl | (apply rn; first | rfl | omega)

set_option maxRecDepth 100000 in
set_option maxHeartbeats 1600000 in
theorem ftext_c (s : List UInt8) (ok : Bool) (g : Nat) (w : World) (h : FRd w g s ok) (hl : s.length ≤ 4611686018427387903) :
    Calls Try.prog 77 #[.pointer (some ⟨g, 0, none⟩)] w fun e w' => e = .returned (.string ⟨(rdT s).toArray⟩) ∧ FRd w' g (rdR s) (ok && rdOk s) ∧ Off g w w' := by
  have c0 : w.cell? ⟨g, 0, none⟩ = some (.string ⟨s.toArray⟩) := h.cell 0
  have c1 : w.cell? ⟨g, 1, none⟩ = some (.bool ok) := h.cell 1
  have z0 := h.free 0
  have z1 := h.free 1
  have H := Lib.hid h; clear h
  obtain ⟨R, hR⟩ : ∃ R, rdR s = R := ⟨_, rfl⟩
  obtain ⟨o, ho⟩ : ∃ o, rdOk s = o := ⟨_, rfl⟩
  obtain ⟨T, hT⟩ : ∃ T, rdT s = T := ⟨_, rfl⟩
  have HR := Lib.hid hR; have HO := Lib.hid ho; have HT := Lib.hid hT
  clear hR ho hT
  go_enter Try.func77, Try.ntmps77
  go_wp2_with fail
  refine (read_c s _ hl).mono ?_
  rw [HR.out, HO.out, HT.out]
  rintro e w1 ⟨rfl, hb⟩
  have HB := Lib.hid hb
  have d0 := cell_ext hb c0; have y0 := frozen_ext hb c0 z0; have d1 := cell_ext hb c1; have y1 := frozen_ext hb c1 z1
  have HF1 : Hid (FRd w1 g s ok) := Lib.hid (H.out.ext hb)
  clear hb c0 c1 z0 z1
  cases ok
  all_goals
    go_wp2_with fail
    go_ret
    refine ⟨by rw [HT.out]; rfl, ?_, (Off.of_ext HB.out).trans ((Off.set w1 0 _).trans (Off.set _ 1 _))⟩
    rw [HR.out, HO.out]
    exact (HF1.out.set 0 _).set 1 _

theorem number_v {k : Nat} {N : Int} {s R : List UInt8} {ok o : Bool} {g : Nat} {w : World} {V : Int} (hV : nuV k s = V) (hR : nuR k s = R) (ho : nuO k s ok = o) (hN : N = (k : Int)) (h : FRd w g s ok) (hl : s.length ≤ 4611686018427387903) (h8 : k ≤ 8) :
    Calls Try.prog 76 #[.pointer (some ⟨g, 0, none⟩), .int .i64 N] w fun e w' => e = .returned (.int .i64 V) ∧ FRd w' g R o ∧ Off g w w' := by
  subst hV hR ho; exact number_c k N s ok g w hN h hl h8
theorem ftext_v {s R T : List UInt8} {ok o : Bool} {g : Nat} {w : World} (hT : rdT s = T) (hR : rdR s = R) (ho : (ok && rdOk s) = o) (h : FRd w g s ok) (hl : s.length ≤ 4611686018427387903) :
    Calls Try.prog 77 #[.pointer (some ⟨g, 0, none⟩)] w fun e w' => e = .returned (.string ⟨T.toArray⟩) ∧ FRd w' g R o ∧ Off g w w' := by
  subst hT hR ho; exact ftext_c s ok g w h hl

theorem nuV_b {k : Nat} (s : List UInt8) : 0 ≤ nuV k s ∧ nuV k s ≤ 4611686018427387904 := by
  unfold nuV; split
  · omega
  · omega
theorem nuV_2 (s : List UInt8) : nuV 2 s ≤ 65535 := by
  unfold nuV; split
  · omega
  · have := unbe_lt (s.take 2)
    rw [List.length_take, Nat.min_eq_left (by omega)] at this
    omega
theorem nuR_le (k : Nat) (s : List UInt8) : (nuR k s).length ≤ s.length := by unfold nuR; split <;> simp
theorem rdR_le (s : List UInt8) : (rdR s).length ≤ s.length := by unfold rdR; split <;> simp
theorem rdT_le (s : List UInt8) : (rdT s).length ≤ s.length := by unfold rdT; split <;> simp; omega

/-- what is read of the kinds -/
def kdG : Nat → List UInt8 → Bool → List Kd → List Kd × List UInt8 × Bool
  | 0, s, ok, acc => (acc, s, ok)
  | i + 1, s, ok, acc =>
    if ok then kdG i (nuR 8 (nuR 4 (rdR s))) (nuO 8 (nuR 4 (rdR s)) (nuO 4 (rdR s) (ok && rdOk s))) (acc ++ [⟨rdT s, nuV 4 (rdR s), nuV 8 (nuR 4 (rdR s))⟩])
    else (acc, s, ok)
theorem kdG_no {i : Nat} {s : List UInt8} {acc : List Kd} : kdG i s false acc = (acc, s, false) := by
  cases i with
  | zero => rfl
  | succ i => rw [kdG]; simp

structure GotS where
  nx : Int
  K : List Kd
  en : Int
def badS : GotS := ⟨0, [], 10⟩

/-- what is read of the opened bytes -/
def fparse (t : List UInt8) (o : Bool) : Int × List Kd × List UInt8 × Bool :=
  (nuV 4 t, kdG (nuV 2 (nuR 4 t)).toNat (nuR 2 (nuR 4 t)) (nuO 2 (nuR 4 t) (nuO 4 t o)) [])
open Classical in
noncomputable def fgetS (s : List UInt8) : GotS :=
  if (fparse (openT s) (openB s)).2.2.2 = true ∧ (fparse (openT s) (openB s)).2.2.1 = [] ∧ okState (fparse (openT s) (openB s)).1 (fparse (openT s) (openB s)).2.1 then ⟨(fparse (openT s) (openB s)).1, (fparse (openT s) (openB s)).2.1, 0⟩ else badS

end Go.Proofs.Ytkkafjknogfdnaa
