/- Walks: the probes of a hash, one by one. -/
import Derived.Test.YtmgpffknmmoggaaGreatDoorG25PIndexPlay
import Derived.Test.YtmgpffknmmoggaaGreatDoorG23PIndexPlay
set_option linter.unusedVariables false
set_option linter.unusedSimpArgs false
namespace Go.Proofs.YtmgpffknmmoggaaGreatDoor
open Go.RowKit Go.Shelf
attribute [local go_sem] Oper.semAt_some
set_option maxRecDepth 100000
set_option linter.unusedVariables false
set_option maxHeartbeats 1600000
abbrev Bit (b : Nat) := { x : Int // 0 ≤ x ∧ x < (b : Int) }
abbrev encB {b : Nat} (x : Bit b) : Array Value := #[.int .i64 x.1]
def KpB3 (b1 b2 b3 : Nat) (W W' : World) : Prop := KpB b1 W W' ∧ KpB b2 W W' ∧ KpB b3 W W'
theorem each1b_in (n : Nat) (hn : 1 ≤ n) (l bp bh bb : Nat) (h : Int) (p b : Nat) (hp : p ≤ 16) (hb : 1 ≤ b) (hb9 : b ≤ 1000000) (J Jx : List (Bit b) → World → Prop)
    (hY : ∀ pre x W, J pre W → pre.length < p → YieldAt Fence.wide (n - 1) Tryz.prog l (encB x) W fun e W' =>
      (e = .returned (.bool true) ∧ J (pre ++ [x]) W' ∧ KpB3 bp bh bb W W') ∨ (e = .returned (.bool false) ∧ Jx (pre ++ [x]) W'))
    (W : World) (hbp : Boxed W bp 3 (.int .i64 (p : Int))) (hbh : Boxed W bh 35 (.int .u64 h)) (hbb : Boxed W bb 3 (.int .i64 (b : Int))) (h0 : J [] W) :
    CallsIn Fence.wide n Tryz.prog 259 #[.func (.yield l) #[] #[], .pointer (some ⟨bp, 0, none⟩), .pointer (some ⟨bh, 0, none⟩), .pointer (some ⟨bb, 0, none⟩)] W fun e W' => (∃ v, e = .returned v) ∧
      ((∃ ys, True ∧ J ys W') ∨ (∃ pre, True ∧ Jx pre W')) := by
  have hG := fun W (i : Nat) (hi : i ≤ 1000000) => callsIn_wide (n := n - 1).2 (probe_c W h i b hi hb hb9)
  have hp1 : ¬ ((64 : Int) < (p : Int)) := by omega
  refine callsIn_of_wp Tryz.func259 rfl trivial ?_ rfl
  simp only [Tryz.ntmps259, List.size_toArray, List.length_cons, List.length_nil, Nat.reduceAdd, Nat.reduceSub, Array.replicate_succ, Array.replicate_zero, List.push_toArray, List.append_toArray, List.nil_append, List.cons_append]
  gi_wp2
  gi_loopw [5] (fun i wr => ∃ (pre : List (Bit b)), i = .int .i64 (pre.length : Int) ∧ pre.length ≤ p ∧ J pre wr ∧ Boxed wr bp 3 (.int .i64 (p : Int)) ∧ Boxed wr bh 35 (.int .u64 h) ∧ Boxed wr bb 3 (.int .i64 (b : Int)))
    (fun i _ => p - (intOf i).toNat)
  case atStart => exact ⟨[], rfl, Nat.zero_le _, h0, hbp, hbh, hbb⟩
  case round =>
    obtain ⟨pre, rfl, hpl, hJs, hB1, hB2, hB3⟩ := hrel
    have hc1 := hB1.cell; have hc2 := hB2.cell; have hc3 := hB3.cell
    by_cases hlt : pre.length < p
    · have hd : decide ((pre.length : Int) < (p : Int)) = true := by simp; omega
      have HG := hG wr pre.length (by omega)
      have hpr := probeI_lt h pre.length b (by omega)
      obtain ⟨x, hx⟩ : ∃ x : Bit b, x.1 = probeI h pre.length b := ⟨⟨_, hpr⟩, rfl⟩
      rw [← hx] at HG
      have hYW := Lib.hid (hY pre x wr hJs hlt)
      have HJs := Lib.hid hJs
      have HB := Lib.hid (And.intro hB1 (And.intro hB2 hB3))
      clear hx hJs hG hY hbp hbh hbb h0 hpr hB1 hB2 hB3
      gi_wp2
      refine ⟨trivial, HG.mono ?_⟩
      rintro e w1 ⟨rfl, rfl⟩
      clear HG
      obtain ⟨fn, tmps, assign, body, hy, hR⟩ := hYW.out
      dsimp only [encB] at hy
      have HR := Lib.hid hR; clear hR
      gi_wp2
      refine HR.out.mono ?_
      rintro e W3 (⟨rfl, hJ3, hk1, hk2, hk3⟩ | ⟨rfl, hJx3⟩)
      · have hB1 : Boxed W3 bp 3 (.int .i64 (p : Int)) := Eq.trans hk1 HB.out.1
        have hB2 : Boxed W3 bh 35 (.int .u64 h) := Eq.trans hk2 HB.out.2.1
        have hB3 : Boxed W3 bb 3 (.int .i64 (b : Int)) := Eq.trans hk3 HB.out.2.2
        gi_wp2
        go_roundw
        case rel => exact ⟨pre ++ [x], by rw [List.length_append]; go_num, by rw [List.length_append]; exact hlt, hJ3, hB1, hB2, hB3⟩
        case measure => simp [intOf]; omega
      · gi_wp2
        refine bodyPost_ret (results_none rfl _ _ _) rfl ?_
        exact ⟨⟨_, rfl⟩, .inr ⟨pre ++ [x], trivial, hJx3⟩⟩
    · have hd : decide ((pre.length : Int) < (p : Int)) = false := by simp; omega
      have HJs := Lib.hid hJs
      clear hG hY hbp hbh hbb h0 hB1 hB2 hB3 hJs
      gi_wp2
      (try simp only [Exit.inBlock, Exit.then])
      exact bodyPost_end (v := .tuple #[]) (results_none rfl _ _ _) rfl ⟨⟨_, rfl⟩, .inl ⟨pre, trivial, HJs.out⟩⟩
theorem eachb_in (n : Nat) (h : Int) (p b : Nat) (w : World) :
    CallsIn Fence.wide n Tryz.prog 242 #[.int .u64 h, .int .i64 (p : Int), .int .i64 (b : Int)] w fun e w' => e = .returned (.func (.func 259) #[] #[.pointer (some ⟨w.heap.size + 1, 0, none⟩), .pointer (some ⟨w.heap.size, 0, none⟩), .pointer (some ⟨w.heap.size + 2, 0, none⟩)]) ∧
      w' = ((w.alloc (.cells #[.int .u64 h] 35)).alloc (.cells #[.int .i64 (p : Int)] 3)).alloc (.cells #[.int .i64 (b : Int)] 3) := by
  refine callsIn_of_wp Tryz.func242 rfl trivial ?_ rfl
  simp only [Tryz.ntmps242, List.size_toArray, List.length_cons, List.length_nil, Nat.reduceAdd, Nat.reduceSub, Array.replicate_succ, Array.replicate_zero, List.push_toArray, List.append_toArray, List.nil_append, List.cons_append]
  gi_wp2
  go_ret
  exact ⟨rfl, rfl⟩
theorem eachb_stops (n : Nat) (hn : 1 ≤ n) (bp bh bb : Nat) (h : Int) (p b : Nat) (hp : p ≤ 16) (hb : 1 ≤ b) (hb9 : b ≤ 1000000) (w : World) (h1 : Boxed w bp 3 (.int .i64 (p : Int))) (h2 : Boxed w bh 35 (.int .u64 h)) (h3 : Boxed w bb 3 (.int .i64 (b : Int))) :
    SeqStopsK Fence.wide n Tryz.prog 259 #[.pointer (some ⟨bp, 0, none⟩), .pointer (some ⟨bh, 0, none⟩), .pointer (some ⟨bb, 0, none⟩)] (encB (b := b)) (KpB3 bp bh bb) (fun _ => True) (fun _ => True) p w := fun l J Jx W hW hJ _ hY h0 =>
  each1b_in n hn l bp bh bb h p b hp hb hb9 J Jx hY W ((hW.block bp h1.lt).trans h1) ((hW.block bh h2.lt).trans h2) ((hW.block bb h3.lt).trans h3) h0
theorem kpB3_t {b1 b2 b3 : Nat} {A B C : World} (h : KpB3 b1 b2 b3 A B) (k : KpB3 b1 b2 b3 B C) : KpB3 b1 b2 b3 A C := ⟨kpB_t h.1 k.1, kpB_t h.2.1 k.2.1, kpB_t h.2.2 k.2.2⟩
theorem kpB3_b {b1 b2 b3 B : Nat} (h1 : b1 < B) (h2 : b2 < B) (h3 : b3 < B) (W : World) (l : Nat) (o o' : Obj) (h : B ≤ l) (k1 : W.heap[l]? = some o) (k2 : o.isCells = false) (k3 : o.isWalk = false) : KpB3 b1 b2 b3 W (W.putObj l o') :=
  ⟨kpB_b h1 W l o o' h k1 k2 k3, kpB_b h2 W l o o' h k1 k2 k3, kpB_b h3 W l o o' h k1 k2 k3⟩
end Go.Proofs.YtmgpffknmmoggaaGreatDoor
