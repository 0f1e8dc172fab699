/- Walks: an index and the document's index, side by side: what becomes of both. Walks: the law IndexPlay. -/
import Derived.Test.YtmgpffknmmoggaaGreatDoorG50PIndexPlay
import Derived.Test.YtmgpffknmmoggaaGreatDoorG51PIndexPlay
import Derived.Test.YtmgpffknmmoggaaGreatDoorG48PIndexPlay
import Derived.Deep.CutBlock
import Derived.Deep.CutRange
set_option linter.unusedVariables false
set_option linter.unusedSimpArgs false
namespace Go.Proofs.YtmgpffknmmoggaaGreatDoor
open Go.RowKit
set_option maxRecDepth 100000
set_option linter.unusedVariables false
set_option maxHeartbeats 6400000
def flushF (m : Man) (ws : List En) : Int × Man × List En := if ws = [] then (0, m, ws) else if (addS m.L m.nx).2 ≠ 0 then ((addS m.L m.nx).2, m, ws) else (0, m.add (addS m.L m.nx).1 0, [])
def mergeF (m : Man) (lv : Int) : Int × Man := if (replaceS m.L lv m.nx).2 ≠ 0 then ((replaceS m.L lv m.nx).2, m) else (0, m.add (replaceS m.L lv m.nx).1 m.ck)
def addC (e : En) : Int := if okEn e then 0 else 2
def addF (e : En) (L : List En) : List En := if okEn e then addE e L else L
section
variable {wb W W' : World} {g gx gl gb rate : Nat} {m m2 : Man} {ws ws2 : List En} {c : Int} {u cnt : Nat} {B B2 : List En} {K X : Nat → Prop} {vL vW vG vL2 vW2 vG2 : Value} {vs vs2 : List Value}
theorem IXL.mono (h : IXL wb W g gx gl rate m ws c u cnt B K) {u' cnt' : Nat} (hu : u ≤ u') (hc : cnt ≤ cnt') : IXL wb W g gx gl rate m ws c u' cnt' B K := by
  obtain ⟨st, σ, s, φ, gv, sure, h1, h2, h3, h4, h5, h6, h7, h8, h9⟩ := h
  exact ⟨st, σ, s, φ, gv, sure, h1, h2, h3, by omega, h5, h6.mono hu hc, h7, h8, h9⟩
theorem IXL.ends (h : IXL wb W g gx gl rate m ws c u cnt B K) : Calls Tryz.prog 13 #[.pointer (some ⟨gl, 0, none⟩)] W fun e w' => e = .returned (.int .i64 0) ∧ W = w' := by
  obtain ⟨st, σ, s, φ, gv, sure, h1, h2, h3, h4, h5, h6, h7, h8, h9⟩ := h
  exact end_c (C := []) h7 okC.nil
theorem IXL.flushB (h : IXL wb W g gx gl rate m ws c u cnt B K) (hl : B.length ≤ 120) (hcn : cnt < 397) (hr : 6000 ≤ c - (u : Int) - 4000) (hnx : m.nx < 1000000) :
    Calls Tryz.prog 11 #[.pointer (some ⟨gx, 0, none⟩), .pointer (some ⟨gl, 0, none⟩)] W fun e w' =>
      e = .returned (.int .i64 (flushF m ws).1) ∧ IXL wb w' g gx gl rate (flushF m ws).2.1 (flushF m ws).2.2 c (u + 4000) (cnt + 3) B K ∧ Stay K W w' := by
  refine (h.flush hl hcn hr hnx).mono ?_
  unfold flushF
  rintro e w' ⟨⟨h1, h2, h3⟩ | ⟨h1, h2, h3, h4⟩ | ⟨h1, h2, h3, h4⟩, hs⟩
  · rw [if_pos h1]; exact ⟨h2, h3.mono (by omega) (by omega), hs⟩
  · rw [if_neg h1, if_pos h2]; exact ⟨h3, h4.mono (by omega) (by omega), hs⟩
  · rw [if_neg h1, if_neg (by rw [h2]; decide)]; exact ⟨h3, h4, hs⟩
theorem IXL.mergeB (h : IXL wb W g gx gl rate m ws c u cnt B K) (lv : Int) (hl : B.length ≤ 120) (hcn : cnt < 397) (hr : 6000 ≤ c - (u : Int) - 4000) (hnx : m.nx < 1000000) :
    Calls Tryz.prog 14 #[.pointer (some ⟨gx, 0, none⟩), .int .i64 lv] W fun e w' =>
      e = .returned (.int .i64 (mergeF m lv).1) ∧ IXL wb w' g gx gl rate (mergeF m lv).2 ws c (u + 4000) (cnt + 3) B K ∧ Stay K W w' := by
  refine (h.merge lv hl hcn hr hnx).mono ?_
  unfold mergeF
  rintro e w' ⟨⟨h1, h2, h3⟩ | ⟨h1, h2, h3⟩, hs⟩
  · rw [if_pos h1]; exact ⟨h2, h3.mono (by omega) (by omega), hs⟩
  · rw [if_neg (by rw [h1]; decide)]; exact ⟨h2, h3, hs⟩
theorem IXL.addB (h : IXL wb W g gx gl rate m ws c u cnt B K) {e : En} (he : 0 ≤ e.1 ∧ e.1 < 18446744073709551616 ∧ e.2.1 ≤ 9223372036854775807 ∧ e.2.2 ≤ 9223372036854775807) (hl : B.length < 50000) :
    Calls Tryz.prog 17 #[.pointer (some ⟨gx, 0, none⟩), enV e] W fun r w' => r = .returned (.int .i64 (addC e)) ∧ IXL wb w' g gx gl rate m (addF e ws) c u cnt (addF e B) K ∧ Stay K W w' := by
  unfold addF addC
  by_cases hk : okEn e = true
  · simp only [hk, if_true]
    exact h.add hk hl
  · have hb : e.2.1 < 0 ∨ e.2.2 < 0 := by
      rw [okEn_iff] at hk
      omega
    rw [Bool.not_eq_true] at hk
    simp only [hk, Bool.false_eq_true, if_false]
    refine (h.addBad hb).mono ?_
    rintro r w' ⟨rfl, hx⟩
    exact ⟨rfl, h.grow hx, h.kExt hx⟩
theorem docflush_b (h : DocI W gb m ws B vL vW vG vs) (hm : m.ok) (hnx : m.nx < 1000000) (hw : ws.length ≤ 1000) :
    Calls Tryz.prog 12 #[.pointer (some ⟨gb, 0, none⟩), .int .i64 0] W fun e w' => e = .returned (.int .i64 (flushF m ws).1) ∧ OffS (fun i => i = gb) W w' ∧
      ∃ vL2 vW2 vG2 vs2, DocI w' gb (flushF m ws).2.1 (flushF m ws).2.2 B vL2 vW2 vG2 vs2 ∧ ∀ i, InDc gb vL2 vW2 vG2 vs2 i → InDc gb vL vW vG vs i ∨ W.heap.size ≤ i := by
  refine (docflush_c h hm hnx hw 0).mono ?_
  unfold flushF
  rintro e w' (⟨h1, h2, h3⟩ | ⟨h1, h2, h3, h4⟩ | ⟨h1, h2, h3, h4, vG2, vs2, h5, h6⟩)
  · rw [if_pos h1]; exact ⟨h2, OffS.of_ext h3, _, _, _, _, h.ext h3, fun i hi => .inl hi⟩
  · rw [if_neg h1, if_pos h2]; exact ⟨h3, OffS.of_ext h4, _, _, _, _, h.ext h4, fun i hi => .inl hi⟩
  · rw [if_neg h1, if_neg (by rw [h2]; decide)]
    refine ⟨h3, h4, _, _, _, _, h5, fun i hi => ?_⟩
    rcases hi with hi | hi | hi | hi
    · exact .inl (.inl hi)
    · exact .inl (.inr (.inl hi))
    · cases hi
    · exact .inr (h6 i hi)
theorem docmerge_b (h : DocI W gb m ws B vL vW vG vs) (hm : m.ok) (hnx : m.nx < 1000000) (lv : Int) :
    Calls Tryz.prog 15 #[.pointer (some ⟨gb, 0, none⟩), .int .i64 lv] W fun e w' => e = .returned (.int .i64 (mergeF m lv).1) ∧ OffS (fun i => i = gb) W w' ∧
      ∃ vL2 vW2 vG2 vs2, DocI w' gb (mergeF m lv).2 ws B vL2 vW2 vG2 vs2 ∧ ∀ i, InDc gb vL2 vW2 vG2 vs2 i → InDc gb vL vW vG vs i ∨ W.heap.size ≤ i := by
  refine (docmerge_c h hm hnx lv).mono ?_
  unfold mergeF
  rintro e w' (⟨h1, h2, h3⟩ | ⟨h1, h2, h3, vG2, vs2, h4, h5⟩)
  · rw [if_pos h1]; exact ⟨h2, OffS.of_ext h3, _, _, _, _, h.ext h3, fun i hi => .inl hi⟩
  · rw [if_neg (by rw [h1]; decide)]
    refine ⟨h2, h3, _, _, _, _, h4, fun i hi => ?_⟩
    rcases hi with hi | hi | hi | hi
    · exact .inl (.inl hi)
    · exact .inl (.inr (.inl hi))
    · exact .inl (.inr (.inr (.inl hi)))
    · exact .inr (h5 i hi)
theorem docadd_b (h : DocI W gb m ws B vL vW vG vs) {e : En} (he : 0 ≤ e.1 ∧ e.1 < 18446744073709551616 ∧ e.2.1 ≤ 9223372036854775807 ∧ e.2.2 ≤ 9223372036854775807) (hB : okM B) (hW : okM ws) (hl : B.length ≤ 1000) (hlw : ws.length ≤ 1000) :
    Calls Tryz.prog 24 #[.pointer (some ⟨gb, 0, none⟩), enV e] W fun r w' => r = .returned (.int .i64 (addC e)) ∧ OffS (fun i => i = gb) W w' ∧
      ∃ vL2 vW2 vG2 vs2, DocI w' gb m (addF e ws) (addF e B) vL2 vW2 vG2 vs2 ∧ ∀ i, InDc gb vL2 vW2 vG2 vs2 i → InDc gb vL vW vG vs i ∨ W.heap.size ≤ i := by
  unfold addF addC
  by_cases hk : okEn e = true
  · simp only [hk, if_true]
    refine (docadd_c h hk hB hW hl hlw).mono ?_
    rintro r w' ⟨h1, h2, vL2, vW2, h3, h4, h5⟩
    refine ⟨h1, h2, _, _, _, _, h3, fun i hi => ?_⟩
    rcases hi with hi | hi | hi | hi
    · exact .inl (.inl hi)
    · exact (h4 i hi).imp (fun h => .inr (.inl h)) id
    · exact (h5 i hi).imp (fun h => .inr (.inr (.inl h))) id
    · exact .inl (.inr (.inr (.inr hi)))
  · have hb : e.2.1 < 0 ∨ e.2.2 < 0 := by
      rw [okEn_iff] at hk
      omega
    rw [Bool.not_eq_true] at hk
    simp only [hk, Bool.false_eq_true, if_false]
    refine (docadd_no h hb).mono ?_
    rintro r w' ⟨rfl, hx⟩
    exact ⟨rfl, OffS.of_ext hx, _, _, _, _, h.ext hx, fun i hi => .inl hi⟩
theorem IXL.doc (h : IXL wb W g gx gl rate m ws c u cnt B (fun i => InDc gb vL vW vG vs i ∨ X i)) (hoff : OffS (fun i => i = gb) W W') (hgb : wb.heap.size ≤ gb) {P : Man} {Q R : List En} (hd : DocI W' gb P Q R vL2 vW2 vG2 vs2) (hn : ∀ i, InDc gb vL2 vW2 vG2 vs2 i → InDc gb vL vW vG vs i ∨ W.heap.size ≤ i) :
    IXL wb W' g gx gl rate m ws c u cnt B (fun i => InDc gb vL2 vW2 vG2 vs2 i ∨ X i) :=
  h.sideM hoff.size (hoff.ext h.base fun i hi => by rw [hi]; exact hgb) (fun i hi hk => hoff.block i hi fun e => hk (.inl (.inl e))) fun i hi => by
    rcases hi with hi | hi
    · rcases hn i hi with h1 | h1
      · exact .inl (.inl h1)
      · exact .inr ⟨h1, hd.lt i hi⟩
    · exact .inl (.inr hi)
def PlayI (wb W : World) (g gl gb gx rate : Nat) (i : Nat) (X : Nat → Prop) : Prop :=
  ∃ m ws B vL vW vG vs, IXL wb W g gx gl rate m ws 1048576 (4000 * i) (3 * i + 38) B (fun i => InDc gb vL vW vG vs i ∨ X i) ∧ DocI W gb m ws B vL vW vG vs ∧ m.nx ≤ i ∧ B.length ≤ i
theorem PlayI.of (h : IXL wb W g gx gl rate m ws 1048576 u cnt B K) (hK : ∀ i, InDc gb vL vW vG vs i ∨ X i → K i) (hd : DocI W gb m ws B vL vW vG vs) {i : Nat} (hu : u ≤ 4000 * i) (hc : cnt ≤ 3 * i + 38) (hm : m.nx ≤ i) (hB : B.length ≤ i) : PlayI wb W g gl gb gx rate i X :=
  ⟨m, ws, B, _, _, _, _, (h.mono hu hc).beside hK, hd, hm, hB⟩
theorem flushF_nx : (flushF m ws).2.1.nx ≤ m.nx + 1 := by
  unfold flushF
  split
  · simp only; omega
  · split
    · simp only; omega
    · exact Int.le_refl _
theorem mergeF_nx {lv : Int} : (mergeF m lv).2.nx ≤ m.nx + 1 := by
  unfold mergeF
  split
  · simp only; omega
  · exact Int.le_refl _
theorem addF_len {e : En} : (addF e B).length ≤ B.length + 1 := by
  unfold addF
  split
  · exact addE_le
  · omega
end
end Go.Proofs.YtmgpffknmmoggaaGreatDoor
namespace Go.Proofs.YtmgpffknmmoggaaGreatDoor
open Go.RowKit
set_option maxRecDepth 100000
set_option linter.unusedVariables false
set_option maxHeartbeats 12800000
theorem indexplay_c {ao : Option Addr} {n cap : Nat} {A : List ActI} (rate : Nat) (w : World) (hx : ActsI w ao n cap A) :
    Calls Tryz.prog 3 #[.slice ao n cap, .float .f64 rate] w fun e w' => e = .returned (.bool true) ∧ Ext w w' := by
  have HSm := Lib.hid indexed_c
  have b1 := hx.fits; have b2 := hx.bound
  by_cases hbig : 120 < n
  · have hd : decide ((120 : Int) < (n : Int)) = true := decide_eq_true (by omega)
    clear hbig hx
    go_enter Tryz.func3, Tryz.ntmps3
    go_wp2_with fail
    refine (HSm.out _).mono ?_
    rintro e w1 ⟨rfl, hb⟩
    have HB := Lib.hid hb
    clear hb
    go_wp2_with fail
    go_ret
    exact ⟨rfl, HB.out⟩
  have hd : decide ((120 : Int) < (n : Int)) = false := decide_eq_false (by omega)
  have HA := Lib.hid hx
  have HN := Lib.hid (DkK.new24 w 1048576 (by decide) (by decide))
  clear hx
  go_enter Tryz.func3, Tryz.ntmps3
  go_wp2_with fail
  refine HN.out.mono ?_
  rintro e w1 ⟨g, rfl, hd1⟩
  have HO := Lib.hid (open_l hd1)
  clear hd1 HN
  go_wp2_with fail
  refine HO.out.mono ?_
  rintro e w2 ⟨gl, rfl, hgl, hl, hs⟩
  have HS := Lib.hid (ixl_start hl 9 (by decide) (by decide) rate)
  clear hl hs hgl HO
  go_wp2_with fail
  refine HS.out.mono ?_
  rintro e w3 ⟨gx, rfl, hi, hs3⟩
  have hx4 := ext_a1 w3 (.cells #[.slice none 0 0, .slice none 0 0, .int .i64 0, .int .i64 0, .int .u64 9, .slice none 0 0] 42)
  have hD : DocI (w3.alloc (.cells #[.slice none 0 0, .slice none 0 0, .int .i64 0, .int .i64 0, .int .u64 9, .slice none 0 0] 42)) w3.heap.size ⟨0, 0, 9, []⟩ [] [] (.slice none 0 0) (.slice none 0 0) (.slice none 0 0) [] :=
    ⟨Blk.new _ _ _, Own.nil _ _ _ _, Own.nil _ _ _ _, OGr.nil _ _ _ _⟩
  have HGb : Hid (w.heap.size ≤ w3.heap.size) := Lib.hid hi.base.size
  have hp : PlayI w (w3.alloc (.cells #[.slice none 0 0, .slice none 0 0, .int .i64 0, .int .i64 0, .int .u64 9, .slice none 0 0] 42)) g gl w3.heap.size gx rate 0 noI :=
    ⟨_, _, _, _, _, _, _, (hi.mono (Nat.zero_le _) (Nat.zero_le _)).more hx4 (fun i hi => .inr (by
      rcases hi with (rfl | hi | hi | hi | ⟨q, hi⟩) | hi
      · exact ⟨Nat.le_refl _, by rw [World.size_alloc]; omega⟩
      · cases hi
      · cases hi
      · cases hi
      · simp [List.getD] at hi; cases hi
      · exact hi.elim)), hD, Int.le_refl _, Nat.le_refl _⟩
  have HP0 := Lib.hid hp
  clear hi hs3 hx4 hD hp HS
  go_wp2_with fail
  generalize w3.alloc (.cells #[.slice none 0 0, .slice none 0 0, .int .i64 0, .int .i64 0, .int .u64 9, .slice none 0 0] 42) = w4 at *
  generalize w3.heap.size = gb at *
  go_loopw [9, 12] (fun a i W => ∃ (k gx' : Nat), k ≤ n ∧ a = .pointer (some ⟨gx', 0, none⟩) ∧ i = .int .i64 (k : Int) ∧ PlayI w W g gl gb gx' rate k noI) (fun _ i _ => n - (intOf i).toNat)
  case atStart => exact ⟨0, gx, Nat.zero_le _, rfl, rfl, HP0.out⟩
  case round =>
    obtain ⟨k, gx', hk, rfl, rfl, m, ws, B, vL, vW, vG, vs, hI, hD, hm1, hm2⟩ := hrel
    by_cases hlt : k < n
    · have hd2 : decide ((k : Int) < (n : Int)) = true := decide_eq_true (by omega)
      obtain ⟨b, off, ⟨kd, ⟨eh, ev, ep⟩, xa, xb⟩, rfl, okx, c0, c1, c2, c3, c4, c5⟩ := (HA.out.ext hI.base).at hlt
      simp only at c0 c1 c2 c3 c4 c5
      have HXb : Hid (-9223372036854775808 ≤ xb) := Lib.hid okx.b0
      have hen := entry24_c ⟨kd, (eh, ev, ep), xa, xb⟩
      obtain ⟨hh, hhh⟩ : ∃ hh, eh % 5 * 999 = hh := ⟨_, rfl⟩
      have HEn : Hid (∀ W, Calls Tryz.prog 19 #[.agg #[.int .u8 kd, .int .u64 eh, .int .i64 ev, .int .i64 ep, .int .i64 xa, .int .i64 xb]] W fun e w' => e = .returned (.agg #[.int .u64 hh, .int .i64 ev, .int .i64 ep]) ∧ Ext W w') := Lib.hid fun W => by
        have := hen W okx
        unfold ActI.e at this
        simp only at this
        rw [hhh] at this
        exact this
      have HEb : Hid (0 ≤ ((hh, ev, ep) : En).1 ∧ ((hh, ev, ep) : En).1 < 18446744073709551616 ∧ ((hh, ev, ep) : En).2.1 ≤ 9223372036854775807 ∧ ((hh, ev, ep) : En).2.2 ≤ 9223372036854775807) := Lib.hid (by
        have h0 := okx.en.h0; have h1 := okx.en.f1; have h2 := okx.en.t1
        simp only at h0 h1 h2 ⊢
        omega)
      obtain ⟨z, hz⟩ : ∃ z, kd % 10 = z := ⟨_, rfl⟩
      have hk0 : 0 ≤ kd := okx.k0
      have htm : Int.tmod kd 10 = z := by rw [Int.tmod_eq_emod_of_nonneg hk0]; exact hz
      have hzw : IntKind.u8.wrap z = z := by rw [IntKind.wrap_u8]; omega
      have hx5 := ext_a1 wr (.cells #[.int .u8 kd, .int .u64 eh, .int .i64 ev, .int .i64 ep, .int .i64 xa, .int .i64 xb] 46)
      have hb5 := Blk.new wr 46 #[.int .u8 kd, .int .u64 eh, .int .i64 ev, .int .i64 ep, .int .i64 xa, .int .i64 xb]
      have HB5 := Lib.hid hb5
      have HI5 := Lib.hid (hI.more (K' := fun i => InDc gb vL vW vG vs i ∨ i = wr.heap.size) hx5 (fun i hi => hi.imp .inl fun e => by rw [e, World.size_alloc]; omega))
      have HD5 := Lib.hid (hD.ext hx5)
      have HMn := Lib.hid hI.man
      have HQb : Hid (wr.heap.size ≠ gb) := Lib.hid (fun e => by have := hD.blk.lt; omega)
      have HOk := Lib.hid hI.okB
      have hwl := hI.okB.2.2
      have hm0 : 0 ≤ m.nx := (Man.bounds hI.man).2.2.2.2.1
      have x0 : (wr.alloc (.cells #[.int .u8 kd, .int .u64 eh, .int .i64 ev, .int .i64 ep, .int .i64 xa, .int .i64 xb] 46)).cell? ⟨wr.heap.size, 0, none⟩ = some (.int .u8 kd) := hb5.cell 0
      have u0 := cell_of c0; have u1 := cell_of c1; have u2 := cell_of c2; have u3 := cell_of c3; have u4 := cell_of c4; have u5 := cell_of c5
      clear hI hD hen hhh okx hx5 hb5
      go_upto_block 2 with fail
      generalize wr.alloc (.cells #[.int .u8 kd, .int .u64 eh, .int .i64 ev, .int .i64 ep, .int .i64 xa, .int .i64 xb] 46) = w5 at *
      generalize wr.heap.size = q at *
      clear c0 c1 c2 c3 c4 c5 u0 u1 u2 u3 u4 u5
      go_cut [9] from 57 to 213 (fun s wc => ∃ gx2, s = .pointer (some ⟨gx2, 0, none⟩) ∧ PlayI w wc g gl gb gx2 rate (k + 1) noI)
      case first =>
        have hz10 : 0 ≤ z ∧ z < 10 := by omega
        clear hz htm hzw hk0
        rcases (show z = 5 ∨ z = 6 ∨ z = 7 ∨ z = 8 ∨ z = 9 ∨ (z ≠ 5 ∧ z ≠ 6 ∧ z ≠ 7 ∧ z ≠ 8 ∧ z ≠ 9) by omega) with hz | hz | hz | hz | hz | hz
        · as_aux_lemma =>
            subst hz
            have HF := Lib.hid (HI5.out.flushB (by omega) (by omega) (by omega) (by omega))
            go_wp2_with fail
            refine HF.out.mono ?_
            rintro e w6 ⟨rfl, h6, hs6⟩
            have HE6 := Lib.hid h6.ends
            have H6 := Lib.hid h6
            have HD6 := Lib.hid (docflush_b (HD5.out.same fun i hi => hs6 i (.inl hi)) HMn.out (by omega) (by omega))
            have HNx := Lib.hid (flushF_nx (m := m) (ws := ws))
            clear h6 hs6 HF
            generalize flushF m ws = r at *
            obtain ⟨rc, rm, rw'⟩ := r
            have HE6 := Lib.hid HE6.out; have H6 := Lib.hid H6.out; have HD6 := Lib.hid HD6.out; have HNx := Lib.hid HNx.out
            simp only at H6 HD6 HNx
            go_wp2_with fail
            refine HE6.out.mono ?_
            rintro e w6' ⟨rfl, rfl⟩
            go_wp2_with fail
            refine HD6.out.mono ?_
            rintro e w7 ⟨rfl, hoff, vL2, vW2, vG2, vs2, hd7, hn7⟩
            have HP := Lib.hid (PlayI.of (H6.out.doc hoff HGb.out hd7 hn7) (X := noI) (fun i hi => .inl (hi.elim id fun h => h.elim)) hd7 (i := k + 1) (by omega) (by omega) (by have := HNx.out; omega) (by omega))
            clear hoff hd7 hn7
            go_wp2_with fail
            go_meet
            case rel => exact ⟨gx', rfl, HP.out⟩
        · as_aux_lemma =>
            subst hz
            have HIm := Lib.hid ((HI5.out.grow (Ext.refl _).drew).mergeB xa (by omega) (by omega) (by omega) (by omega))
            have HNx := Lib.hid (mergeF_nx (m := m) (lv := xa))
            have HSx : Hid (∀ W, Blk W q 46 #[.int .u8 kd, .int .u64 eh, .int .i64 ev, .int .i64 ep, .int .i64 xa, .int .i64 xb] → (fun W => W.cell? ⟨q, 0, none⟩ = some (.int .u8 kd) ∧ W.cell? ⟨q, 1, none⟩ = some (.int .u64 eh) ∧ W.cell? ⟨q, 2, none⟩ = some (.int .i64 ev) ∧ W.cell? ⟨q, 3, none⟩ = some (.int .i64 ep) ∧ W.cell? ⟨q, 4, none⟩ = some (.int .i64 xa) ∧ W.cell? ⟨q, 5, none⟩ = some (.int .i64 xb)) W) := Lib.hid fun W h => ⟨h.cell 0, h.cell 1, h.cell 2, h.cell 3, h.cell 4, h.cell 5⟩
            have HDm : Hid (∀ W, Stay (fun i => InDc gb vL vW vG vs i ∨ i = q) w5.drew W → _) := Lib.hid fun W (k : Stay (fun i => InDc gb vL vW vG vs i ∨ i = q) w5.drew W) => docmerge_b ((HD5.out.ext (Ext.refl _).drew).same fun i hi => k i (.inl hi)) HMn.out (by omega) xa
            have HB0 := Lib.hid (HB5.out.ext (Ext.refl _).drew)
            go_wp2_with fail
            refine wp_region_T (fun W => W.cell? ⟨q, 0, none⟩ = some (.int .u8 kd) ∧ W.cell? ⟨q, 1, none⟩ = some (.int .u64 eh) ∧ W.cell? ⟨q, 2, none⟩ = some (.int .i64 ev) ∧ W.cell? ⟨q, 3, none⟩ = some (.int .i64 ep) ∧ W.cell? ⟨q, 4, none⟩ = some (.int .i64 xa) ∧ W.cell? ⟨q, 5, none⟩ = some (.int .i64 xb)) 9 (by kernel_rfl) (HSx.out _ HB0.out) (fun hHeld => ?_)
            refine wpAnyT_take (i := 0) (v := ?_) rfl (by kernel_rfl) (fun _ _ _ h => h) (Or.inl ⟨by rfl, ?_⟩) hHeld (fun hHeld => ?_)
            rotate_left
            · (intro w hSw; (try dsimp only at hSw); go_simp; try with_reducible rfl)
            try simp only [Act.put, List.setIfInBounds_toArray, List.set_cons_zero, List.set_cons_succ]
            refine wpAnyT_take (i := 1) (v := ?_) rfl (by kernel_rfl) (fun _ _ _ h => h) (Or.inl ⟨by rfl, ?_⟩) hHeld (fun hHeld => ?_)
            rotate_left
            · (intro w hSw; (try dsimp only at hSw); go_simp; try with_reducible rfl)
            try simp only [Act.put, List.setIfInBounds_toArray, List.set_cons_zero, List.set_cons_succ]
            refine wpAnyT_take (i := 2) (v := ?_) rfl (by kernel_rfl) (fun _ _ _ h => h) (Or.inl ⟨by rfl, ?_⟩) hHeld (fun hHeld => ?_)
            rotate_left
            · (intro w hSw; (try dsimp only at hSw); go_simp; try with_reducible rfl)
            try simp only [Act.put, List.setIfInBounds_toArray, List.set_cons_zero, List.set_cons_succ]
            refine wpAnyT_take (i := 4) (v := ?_) rfl (by kernel_rfl) (fun _ _ _ h => h) (Or.inl ⟨by rfl, ?_⟩) hHeld (fun hHeld => ?_)
            rotate_left
            · (intro w hSw; (try dsimp only at hSw); go_simp; try with_reducible rfl)
            try simp only [Act.put, List.setIfInBounds_toArray, List.set_cons_zero, List.set_cons_succ]
            refine wpAnyT_take (i := 5) (v := ?_) rfl (by kernel_rfl) (fun _ _ _ h => h) (Or.inl ⟨by rfl, ?_⟩) hHeld (fun hHeld => ?_)
            rotate_left
            · (intro w hSw; (try dsimp only at hSw); go_simp; try with_reducible rfl)
            try simp only [Act.put, List.setIfInBounds_toArray, List.set_cons_zero, List.set_cons_succ]
            refine wpAnyT_take (i := 6) (v := ?_) rfl (by kernel_rfl) (fun _ _ _ h => h) (Or.inl ⟨by rfl, ?_⟩) hHeld (fun hHeld => ?_)
            rotate_left
            · (intro w hSw; (try dsimp only at hSw); go_simp; try with_reducible rfl)
            try simp only [Act.put, List.setIfInBounds_toArray, List.set_cons_zero, List.set_cons_succ]
            refine wpAnyT_step (i := 3) (by kernel_rfl) rfl (fun K hK => ?_)
            go_simp
            go_at_call 14
            refine HIm.out.mono ?_
            rintro e w6 ⟨rfl, h6, hs6⟩
            have H6 := Lib.hid h6; have HS6 := Lib.hid hs6
            have HB6 := Lib.hid (HB0.out.same (hs6 q (.inr rfl)))
            clear h6 hs6 hHeld
            refine hK.out _ _ (HSx.out _ HB6.out) (fun hHeld => ?_)
            clear hK K
            try simp only [Act.put, List.setIfInBounds_toArray, List.set_cons_zero, List.set_cons_succ]
            refine wpAnyT_step (i := 7) (by kernel_rfl) rfl (fun K hK => ?_)
            go_simp
            go_at_call 15
            refine (HDm.out _ HS6.out).mono ?_
            rintro e w7 ⟨rfl, hoff, vL2, vW2, vG2, vs2, hd7, hn7⟩
            have HP := Lib.hid (PlayI.of (H6.out.doc hoff HGb.out hd7 hn7) (X := noI) (fun i hi => .inl (hi.elim id fun h => h.elim)) hd7 (i := k + 1) (by omega) (by omega) (by have := HNx.out; omega) (by omega))
            have HB7 := Lib.hid (HB6.out.same (hoff.block q HB6.out.lt HQb.out))
            clear hoff hd7 hn7 hHeld
            refine hK.out _ _ (HSx.out _ HB7.out) (fun hHeld => ?_)
            clear hK K
            try simp only [Act.put, List.setIfInBounds_toArray, List.set_cons_zero, List.set_cons_succ]
            refine wpAnyT_take (i := 8) (v := ?_) rfl (by kernel_rfl) (fun _ _ _ h => h) (Or.inl ⟨by rfl, ?_⟩) hHeld (fun hHeld => ?_)
            rotate_left
            · (intro w hSw; (try dsimp only at hSw); go_simp; try with_reducible rfl)
            try simp only [Act.put, List.setIfInBounds_toArray, List.set_cons_zero, List.set_cons_succ]
            refine wpAnyT_end (by kernel_rfl) ?_
            try simp only [List.drop_succ_cons, List.drop_zero]
            clear hHeld
            go_wp2_with fail
            go_meet
            case rel => exact ⟨gx', rfl, HP.out⟩
        · as_aux_lemma =>
            subst hz
            have HM5 := Lib.hid HI5.out.tells
            go_wp2_with fail
            refine HM5.out.mono ?_
            rintro e w6 ⟨v, vs6, rfl, hog6, hx6⟩
            obtain ⟨a6, k6, rfl, hg6⟩ := hog6.grid
            have hflat : m.L.flatten.length ≤ 3 * k + 38 := by
              have hb := Man.bounds HMn.out
              have h1 := hb.2.1
              rcases Nat.eq_zero_or_pos k with h0 | h0
              · have h2 : m.L.flatten = [] := List.eq_nil_iff_forall_not_mem.2 fun y hy => by
                  have := hb.2.2.2.1 y hy
                  omega
                rw [h2]
                exact Nat.zero_le _
              · omega
            have HRo := Lib.hid ((HI5.out.grow hx6).reopen hg6 hflat)
            clear hflat
            have HD6 := Lib.hid (HD5.out.ext hx6)
            clear hog6 hx6 hg6 HM5
            go_wp2_with fail
            refine HRo.out.mono ?_
            rintro e w7 ⟨gx2, B2, rfl, h7, hmem, hs7⟩
            have hd7 := HD6.out.same fun i hi => hs7 i (.inl hi)
            have HD7 := Lib.hid hd7
            obtain ⟨aw, kw, hvw, hens7⟩ := Ens.of_own hd7.oW
            subst hvw
            have HEn7 := Lib.hid hens7
            have HMm := Lib.hid hmem
            have hB2l : B2.length ≤ B.length := sort_sub_len h7.okB.1.sort HOk.out.1.sort fun x hx => (hmem x).2 (.inr hx)
            have HB2 := Lib.hid h7.okB.1
            have H7 := Lib.hid h7
            obtain ⟨N, hN⟩ : ∃ N, ws.length = N := ⟨_, rfl⟩
            have HN' := Lib.hid hN
            rw [hN] at HEn7
            clear h7 hmem hs7 hd7 hens7 HRo
            go_wp2_with fail
            go_loopw [16] (fun i W => ∃ j : Nat, j ≤ N ∧ i = .int .i64 (j : Int) ∧ IXL w W g gx2 gl rate m (addAll (ws.take j) []) 1048576 (4000 * k) (3 * k + 38) (addAll (ws.take j) B2) (fun i => InDc gb vL (.slice aw ws.length kw) vG vs i ∨ i = q) ∧ Stay (fun i => InDc gb vL (.slice aw ws.length kw) vG vs i ∨ i = q) w7 W) (fun i _ => N - (intOf i).toNat)
            case atStart => exact ⟨0, Nat.zero_le _, rfl, H7.out, fun _ _ => rfl⟩
            case round =>
              obtain ⟨j, hj, rfl, hij, hsj⟩ := hrel
              have HIj := Lib.hid hij; have HSj := Lib.hid hsj
              have hdj := HD7.out.same fun i hi => hsj i (.inl hi)
              have y1 : wr.cell? ⟨gb, 1, none⟩ = some (.slice aw N kw) := by rw [← HN'.out]; exact hdj.blk.cell 1
              have HDj := Lib.hid hdj
              clear hij hsj hdj
              by_cases hjl : j < N
              · have hdj : decide ((j : Int) < (N : Int)) = true := decide_eq_true (by omega)
                obtain ⟨_, _, eW, hensj⟩ := Ens.of_own HDj.out.oW
                cases eW
                rw [HN'.out] at hensj
                obtain ⟨b', off', rfl, d0, d1, d2⟩ := hensj.at hjl
                have hjR : j < ws.length := by rw [HN'.out]; exact hjl
                have hTk : ws.take (j + 1) = ws.take j ++ [ws.getD j en0] := by
                  rw [List.take_succ_eq_append_getElem hjR]
                  simp [List.getD, List.getElem?_eq_getElem hjR]
                have hok : okEn (ws.getD j en0) = true := by
                  rw [List.getD_eq_getElem?_getD, List.getElem?_eq_getElem hjR]
                  exact HOk.out.2.1.ok _ (List.getElem_mem hjR)
                have hlj : (addAll (ws.take j) B2).length < 50000 := by
                  have := addAll_len (ws.take j) B2
                  rw [List.length_take] at this
                  omega
                have ha := HIj.out.add hok hlj
                rw [← addAll_snoc, ← addAll_snoc, ← hTk] at ha
                have HAd := Lib.hid ha
                have q1 : IntKind.i64.wrap ((j : Int) + 1) = (j : Int) + 1 := by rw [IntKind.wrap_i64]; omega
                generalize ws.getD j en0 = y at *
                obtain ⟨f1, f2, f3⟩ := y
                have HAd : Hid (Calls Tryz.prog 17 #[.pointer (some ⟨gx2, 0, none⟩), .agg #[.int .u64 f1, .int .i64 f2, .int .i64 f3]] wr _) := HAd
                simp only at d0 d1 d2
                have p0 := cell_of d0; have p1 := cell_of d1; have p2 := cell_of d2
                clear hensj hjR hTk hok hlj ha
                go_wp2_with fail
                refine HAd.out.mono ?_
                rintro e w8 ⟨rfl, h8, hs8⟩
                have H8 := Lib.hid h8; have HS8 := Lib.hid (HSj.out.trans hs8)
                clear h8 hs8
                go_wp2_with fail
                go_roundw
                case rel => exact ⟨j + 1, by omega, by go_num, H8.out, HS8.out⟩
                case measure => simp [intOf]; omega
              · obtain rfl : j = N := by omega
                have hdj : decide ((j : Int) < (j : Int)) = false := decide_eq_false (by omega)
                have hl := HIj.out
                rw [← HN'.out, List.take_length] at hl
                have hw2 : addAll ws [] = ws := addAll_eq HOk.out.2.1.ok okM.nil HOk.out.2.1 (by simp only [List.length_nil]; omega) fun x => by simp
                have hb2 : addAll ws B2 = B := addAll_eq HOk.out.2.1.ok HB2.out HOk.out.1 (by omega) HMm.out
                rw [hw2, hb2] at hl
                have HP := Lib.hid (PlayI.of hl (X := noI) (fun i hi => .inl (hi.elim id fun h => h.elim)) HDj.out (i := k + 1) (by omega) (by omega) (by omega) (by omega))
                clear hl hw2 hb2
                go_wp2_with fail
                go_meet
                case rel => exact ⟨gx2, rfl, HP.out⟩
        · as_aux_lemma =>
            subst hz
            obtain ⟨R, hR⟩ : ∃ R, rangeE B hh (max xa 0) (min xb 1073741824) = R := ⟨_, rfl⟩
            have HIr := Lib.hid (fun (W : World) (k : Ext w5 W) => (HI5.out.grow k).range hh xa xb (by omega))
            have HDr := Lib.hid (fun (W : World) (k : DocI W gb m ws B vL vW vG vs) => docrange_c k (by omega) hh xa xb)
            have HDl := Lib.hid (fun (W : World) (k : DocI W gb m ws B vL vW vG vs) => doclast_c k (by omega) hh xb)
            rw [hR] at HIr HDr
            clear hR
            have HSx : Hid (∀ W, Blk W q 46 #[.int .u8 kd, .int .u64 eh, .int .i64 ev, .int .i64 ep, .int .i64 xa, .int .i64 xb] → (fun W => W.cell? ⟨q, 0, none⟩ = some (.int .u8 kd) ∧ W.cell? ⟨q, 1, none⟩ = some (.int .u64 eh) ∧ W.cell? ⟨q, 2, none⟩ = some (.int .i64 ev) ∧ W.cell? ⟨q, 3, none⟩ = some (.int .i64 ep) ∧ W.cell? ⟨q, 4, none⟩ = some (.int .i64 xa) ∧ W.cell? ⟨q, 5, none⟩ = some (.int .i64 xb)) W) := Lib.hid fun W h => ⟨h.cell 0, h.cell 1, h.cell 2, h.cell 3, h.cell 4, h.cell 5⟩
            have HB0 := Lib.hid (HB5.out.ext (Ext.refl _).drew)
            have HX0 := Lib.hid (Ext.refl w5).drew
            have hfd : ∀ (W : World) (x y z : Value), (Instr.field 44 (.agg #[x, y, z]) 0).run Tryz.prog W = .ok x W := fun _ _ _ _ => rfl
            go_wp2_with fail
            refine wp_region_T (fun W => W.cell? ⟨q, 0, none⟩ = some (.int .u8 kd) ∧ W.cell? ⟨q, 1, none⟩ = some (.int .u64 eh) ∧ W.cell? ⟨q, 2, none⟩ = some (.int .i64 ev) ∧ W.cell? ⟨q, 3, none⟩ = some (.int .i64 ep) ∧ W.cell? ⟨q, 4, none⟩ = some (.int .i64 xa) ∧ W.cell? ⟨q, 5, none⟩ = some (.int .i64 xb)) 14 (by kernel_rfl) (HSx.out _ HB0.out) (fun hHeld => ?_)
            refine wpAnyT_take (i := 0) (v := ?_) rfl (by kernel_rfl) (fun _ _ _ h => h) (Or.inl ⟨by rfl, ?_⟩) hHeld (fun hHeld => ?_)
            rotate_left
            · (intro w hSw; (try dsimp only at hSw); go_simp; try with_reducible rfl)
            try simp only [Act.put, List.setIfInBounds_toArray, List.set_cons_zero, List.set_cons_succ]
            refine wpAnyT_take (i := 1) (v := ?_) rfl (by kernel_rfl) (fun _ _ _ h => h) (Or.inl ⟨by rfl, ?_⟩) hHeld (fun hHeld => ?_)
            rotate_left
            · (intro w hSw; (try dsimp only at hSw); go_simp; try with_reducible rfl)
            try simp only [Act.put, List.setIfInBounds_toArray, List.set_cons_zero, List.set_cons_succ]
            refine wpAnyT_take (i := 4) (v := ?_) rfl (by kernel_rfl) (fun _ _ _ h => h) (Or.inl ⟨by rfl, ?_⟩) hHeld (fun hHeld => ?_)
            rotate_left
            · (intro w hSw; (try dsimp only at hSw); go_simp; try with_reducible rfl)
            try simp only [Act.put, List.setIfInBounds_toArray, List.set_cons_zero, List.set_cons_succ]
            refine wpAnyT_take (i := 5) (v := ?_) rfl (by kernel_rfl) (fun _ _ _ h => h) (Or.inl ⟨by rfl, ?_⟩) hHeld (fun hHeld => ?_)
            rotate_left
            · (intro w hSw; (try dsimp only at hSw); go_simp; try with_reducible rfl)
            try simp only [Act.put, List.setIfInBounds_toArray, List.set_cons_zero, List.set_cons_succ]
            refine wpAnyT_take (i := 6) (v := ?_) rfl (by kernel_rfl) (fun _ _ _ h => h) (Or.inl ⟨by rfl, ?_⟩) hHeld (fun hHeld => ?_)
            rotate_left
            · (intro w hSw; (try dsimp only at hSw); go_simp; try with_reducible rfl)
            try simp only [Act.put, List.setIfInBounds_toArray, List.set_cons_zero, List.set_cons_succ]
            refine wpAnyT_take (i := 7) (v := ?_) rfl (by kernel_rfl) (fun _ _ _ h => h) (Or.inl ⟨by rfl, ?_⟩) hHeld (fun hHeld => ?_)
            rotate_left
            · (intro w hSw; (try dsimp only at hSw); go_simp; try with_reducible rfl)
            try simp only [Act.put, List.setIfInBounds_toArray, List.set_cons_zero, List.set_cons_succ]
            refine wpAnyT_step (i := 2) (by kernel_rfl) rfl (fun K hK => ?_)
            go_simp
            go_at_call 19
            refine (HEn.out _).mono ?_
            rintro e w6 ⟨rfl, hx6⟩
            have HX6 := Lib.hid (HX0.out.trans hx6)
            have HB6 := Lib.hid (HB0.out.ext hx6)
            clear hx6 hHeld
            refine hK.out _ _ (HSx.out _ HB6.out) (fun hHeld => ?_)
            clear hK K
            try simp only [Act.put, List.setIfInBounds_toArray, List.set_cons_zero, List.set_cons_succ]
            refine wpAnyT_take (i := 3) (v := ?_) rfl (by kernel_rfl) (fun _ _ _ h => h) (Or.inl ⟨by rfl, ?_⟩) hHeld (fun hHeld => ?_)
            rotate_left
            · (intro w hSw; (try dsimp only at hSw); go_simp; try with_reducible rfl)
            try simp only [Act.put, List.setIfInBounds_toArray, List.set_cons_zero, List.set_cons_succ]
            refine wpAnyT_step (i := 8) (by kernel_rfl) rfl (fun K hK => ?_)
            go_simp
            go_at_call 18
            refine (HIr.out _ HX6.out).mono ?_
            rintro e w7 ⟨v, rfl, h7, hs7, hr7⟩
            obtain ⟨va, vc, rfl, hens7⟩ := Ens.of_own (Own.of_row hr7)
            have H7 := Lib.hid h7
            have HB7 := Lib.hid (HB6.out.same (hs7 q (.inr rfl)))
            have HD7 := Lib.hid ((HD5.out.ext HX6.out).same fun i hi => hs7 i (.inl hi))
            have HR7 := Lib.hid hr7
            clear h7 hs7 hr7 hens7 hHeld
            refine hK.out _ _ (HSx.out _ HB7.out) (fun hHeld => ?_)
            clear hK K
            try simp only [Act.put, List.setIfInBounds_toArray, List.set_cons_zero, List.set_cons_succ]
            refine wpAnyT_take (i := 9) (v := ?_) rfl (by kernel_rfl) (fun _ _ _ h => h) (Or.inl ⟨by rfl, ?_⟩) hHeld (fun hHeld => ?_)
            rotate_left
            · (intro w hSw; (try dsimp only at hSw); go_simp; try with_reducible rfl)
            try simp only [Act.put, List.setIfInBounds_toArray, List.set_cons_zero, List.set_cons_succ]
            refine wpAnyT_take (i := 10) (v := ?_) rfl (by kernel_rfl) (fun _ _ _ h => h) (Or.inl ⟨by rfl, ?_⟩) hHeld (fun hHeld => ?_)
            rotate_left
            · (intro w hSw; (try dsimp only at hSw); go_simp; try with_reducible rfl)
            try simp only [Act.put, List.setIfInBounds_toArray, List.set_cons_zero, List.set_cons_succ]
            refine wpAnyT_take (i := 11) (v := ?_) rfl (by kernel_rfl) (fun _ _ _ h => h) (Or.inl ⟨by rfl, ?_⟩) hHeld (fun hHeld => ?_)
            rotate_left
            · (intro w hSw; (try dsimp only at hSw); go_simp; try with_reducible rfl)
            try simp only [Act.put, List.setIfInBounds_toArray, List.set_cons_zero, List.set_cons_succ]
            refine wpAnyT_take (i := 12) (v := ?_) rfl (by kernel_rfl) (fun _ _ _ h => h) (Or.inl ⟨by rfl, ?_⟩) hHeld (fun hHeld => ?_)
            rotate_left
            · (intro w hSw; (try dsimp only at hSw); go_simp; try with_reducible rfl)
            try simp only [Act.put, List.setIfInBounds_toArray, List.set_cons_zero, List.set_cons_succ]
            refine wpAnyT_take (i := 13) (v := ?_) rfl (by kernel_rfl) (fun _ _ _ h => h) (Or.inl ⟨by rfl, ?_⟩) hHeld (fun hHeld => ?_)
            rotate_left
            · (intro w hSw; (try dsimp only at hSw); go_simp; try with_reducible rfl)
            try simp only [Act.put, List.setIfInBounds_toArray, List.set_cons_zero, List.set_cons_succ]
            refine wpAnyT_end (by kernel_rfl) ?_
            try simp only [List.drop_succ_cons, List.drop_zero]
            clear hHeld
            have HB8 := Lib.hid (HB7.out.ext (Ext.refl _).drew)
            go_wp2_with fail
            refine wp_region_T (fun W => W.cell? ⟨q, 0, none⟩ = some (.int .u8 kd) ∧ W.cell? ⟨q, 1, none⟩ = some (.int .u64 eh) ∧ W.cell? ⟨q, 2, none⟩ = some (.int .i64 ev) ∧ W.cell? ⟨q, 3, none⟩ = some (.int .i64 ep) ∧ W.cell? ⟨q, 4, none⟩ = some (.int .i64 xa) ∧ W.cell? ⟨q, 5, none⟩ = some (.int .i64 xb)) 12 (by kernel_rfl) (HSx.out _ HB8.out) (fun hHeld => ?_)
            refine wpAnyT_take (i := 0) (v := ?_) rfl (by kernel_rfl) (fun _ _ _ h => h) (Or.inl ⟨by rfl, ?_⟩) hHeld (fun hHeld => ?_)
            rotate_left
            · (intro w hSw; (try dsimp only at hSw); go_simp; try with_reducible rfl)
            try simp only [Act.put, List.setIfInBounds_toArray, List.set_cons_zero, List.set_cons_succ]
            refine wpAnyT_take (i := 1) (v := ?_) rfl (by kernel_rfl) (fun _ _ _ h => h) (Or.inl ⟨by rfl, ?_⟩) hHeld (fun hHeld => ?_)
            rotate_left
            · (intro w hSw; (try dsimp only at hSw); go_simp; try with_reducible rfl)
            try simp only [Act.put, List.setIfInBounds_toArray, List.set_cons_zero, List.set_cons_succ]
            refine wpAnyT_take (i := 4) (v := ?_) rfl (by kernel_rfl) (fun _ _ _ h => h) (Or.inl ⟨by rfl, ?_⟩) hHeld (fun hHeld => ?_)
            rotate_left
            · (intro w hSw; (try dsimp only at hSw); go_simp; try with_reducible rfl)
            try simp only [Act.put, List.setIfInBounds_toArray, List.set_cons_zero, List.set_cons_succ]
            refine wpAnyT_take (i := 5) (v := ?_) rfl (by kernel_rfl) (fun _ _ _ h => h) (Or.inl ⟨by rfl, ?_⟩) hHeld (fun hHeld => ?_)
            rotate_left
            · (intro w hSw; (try dsimp only at hSw); go_simp; try with_reducible rfl)
            try simp only [Act.put, List.setIfInBounds_toArray, List.set_cons_zero, List.set_cons_succ]
            refine wpAnyT_step (i := 2) (by kernel_rfl) rfl (fun K hK => ?_)
            go_simp
            go_at_call 19
            refine (HEn.out _).mono ?_
            rintro e w8 ⟨rfl, hx8⟩
            have HX8 := Lib.hid ((Ext.refl w7).drew.trans hx8)
            have HB9 := Lib.hid (HB8.out.ext hx8)
            have HIl := Lib.hid ((H7.out.grow HX8.out).last hh xb HXb.out)
            clear hx8 hHeld
            refine hK.out _ _ (HSx.out _ HB9.out) (fun hHeld => ?_)
            clear hK K
            try simp only [Act.put, List.setIfInBounds_toArray, List.set_cons_zero, List.set_cons_succ]
            refine wpAnyT_take (i := 3) (v := ?_) rfl (by kernel_rfl) (fun _ _ _ h => h) (Or.inl ⟨by rfl, ?_⟩) hHeld (fun hHeld => ?_)
            rotate_left
            · (intro w hSw; (try dsimp only at hSw); go_simp; try with_reducible rfl)
            try simp only [Act.put, List.setIfInBounds_toArray, List.set_cons_zero, List.set_cons_succ]
            refine wpAnyT_step (i := 6) (by kernel_rfl) rfl (fun K hK => ?_)
            go_simp
            go_at_call 20
            refine HIl.out.mono ?_
            rintro e w9 ⟨r, rfl, hl9, h9, hs9⟩
            have H9 := Lib.hid h9; have HL9 := Lib.hid hl9
            have HB10 := Lib.hid (HB9.out.same (hs9 q (.inl (.inr rfl))))
            have HD9 := Lib.hid ((HD7.out.ext HX8.out).same fun i hi => hs9 i (.inl (.inl hi)))
            have HR9 := Lib.hid (row_same (row_ext HR7.out HX8.out) fun i hi => hs9 i (.inr hi))
            clear h9 hl9 hs9 hHeld
            refine hK.out _ _ (HSx.out _ HB10.out) (fun hHeld => ?_)
            clear hK K
            try simp only [Act.put, List.setIfInBounds_toArray, List.set_cons_zero, List.set_cons_succ]
            refine wpAnyT_take (i := 7) (v := ?_) rfl (by kernel_rfl) (fun _ _ _ h => h) (Or.inl ⟨by rfl, ?_⟩) hHeld (fun hHeld => ?_)
            rotate_left
            · (intro w hSw; (try dsimp only at hSw); go_simp; try with_reducible rfl)
            try simp only [Act.put, List.setIfInBounds_toArray, List.set_cons_zero, List.set_cons_succ]
            refine wpAnyT_take (i := 8) (v := ?_) rfl (by kernel_rfl) (fun _ _ _ h => h) (Or.inl ⟨by rfl, ?_⟩) hHeld (fun hHeld => ?_)
            rotate_left
            · (intro w hSw; (try dsimp only at hSw); go_simp; try with_reducible rfl)
            try simp only [Act.put, List.setIfInBounds_toArray, List.set_cons_zero, List.set_cons_succ]
            refine wpAnyT_take (i := 9) (v := ?_) rfl (by kernel_rfl) (fun _ _ _ h => h) (Or.inl ⟨by rfl, ?_⟩) hHeld (fun hHeld => ?_)
            rotate_left
            · (intro w hSw; (try dsimp only at hSw); go_simp; try with_reducible rfl)
            try simp only [Act.put, List.setIfInBounds_toArray, List.set_cons_zero, List.set_cons_succ]
            refine wpAnyT_take (i := 10) (v := ?_) rfl (by kernel_rfl) (fun _ _ _ h => h) (Or.inl ⟨by rfl, ?_⟩) hHeld (fun hHeld => ?_)
            rotate_left
            · (intro w hSw; (try dsimp only at hSw); go_simp; try with_reducible rfl)
            try simp only [Act.put, List.setIfInBounds_toArray, List.set_cons_zero, List.set_cons_succ]
            refine wpAnyT_take (i := 11) (v := ?_) rfl (by kernel_rfl) (fun _ _ _ h => h) (Or.inl ⟨by rfl, ?_⟩) hHeld (fun hHeld => ?_)
            rotate_left
            · (intro w hSw; (try dsimp only at hSw); go_simp; try with_reducible rfl)
            try simp only [Act.put, List.setIfInBounds_toArray, List.set_cons_zero, List.set_cons_succ]
            refine wpAnyT_end (by kernel_rfl) ?_
            try simp only [List.drop_succ_cons, List.drop_zero]
            clear hHeld
            have HX10 := Lib.hid (Ext.refl w9).drew
            have HB11 := Lib.hid (HB10.out.ext HX10.out)
            go_wp2_with fail
            refine wp_region_T (fun W => W.cell? ⟨q, 0, none⟩ = some (.int .u8 kd) ∧ W.cell? ⟨q, 1, none⟩ = some (.int .u64 eh) ∧ W.cell? ⟨q, 2, none⟩ = some (.int .i64 ev) ∧ W.cell? ⟨q, 3, none⟩ = some (.int .i64 ep) ∧ W.cell? ⟨q, 4, none⟩ = some (.int .i64 xa) ∧ W.cell? ⟨q, 5, none⟩ = some (.int .i64 xb)) 31 (by kernel_rfl) (HSx.out _ HB11.out) (fun hHeld => ?_)
            refine wpAnyT_take (i := 0) (v := ?_) rfl (by kernel_rfl) (fun _ _ _ h => h) (Or.inl ⟨by rfl, ?_⟩) hHeld (fun hHeld => ?_)
            rotate_left
            · (intro w hSw; (try dsimp only at hSw); go_simp; try with_reducible rfl)
            try simp only [Act.put, List.setIfInBounds_toArray, List.set_cons_zero, List.set_cons_succ]
            refine wpAnyT_take (i := 1) (v := ?_) rfl (by kernel_rfl) (fun _ _ _ h => h) (Or.inl ⟨by rfl, ?_⟩) hHeld (fun hHeld => ?_)
            rotate_left
            · (intro w hSw; (try dsimp only at hSw); go_simp; try with_reducible rfl)
            try simp only [Act.put, List.setIfInBounds_toArray, List.set_cons_zero, List.set_cons_succ]
            refine wpAnyT_take (i := 2) (v := ?_) rfl (by kernel_rfl) (fun _ _ _ h => h) (Or.inl ⟨by rfl, ?_⟩) hHeld (fun hHeld => ?_)
            rotate_left
            · (intro w hSw; (try dsimp only at hSw); go_simp; try with_reducible rfl)
            try simp only [Act.put, List.setIfInBounds_toArray, List.set_cons_zero, List.set_cons_succ]
            refine wpAnyT_take (i := 3) (v := ?_) rfl (by kernel_rfl) (fun _ _ _ h => h) (Or.inl ⟨by rfl, ?_⟩) hHeld (fun hHeld => ?_)
            rotate_left
            · (intro w hSw; (try dsimp only at hSw); go_simp; try with_reducible rfl)
            try simp only [Act.put, List.setIfInBounds_toArray, List.set_cons_zero, List.set_cons_succ]
            refine wpAnyT_take (i := 4) (v := ?_) rfl (by kernel_rfl) (fun _ _ _ h => h) (Or.inl ⟨by rfl, ?_⟩) hHeld (fun hHeld => ?_)
            rotate_left
            · (intro w hSw; (try dsimp only at hSw); go_simp; try with_reducible rfl)
            try simp only [Act.put, List.setIfInBounds_toArray, List.set_cons_zero, List.set_cons_succ]
            refine wpAnyT_take (i := 5) (v := ?_) rfl (by kernel_rfl) (fun _ _ _ h => h) (Or.inl ⟨by rfl, ?_⟩) hHeld (fun hHeld => ?_)
            rotate_left
            · (intro w hSw; (try dsimp only at hSw); go_simp; try with_reducible rfl)
            try simp only [Act.put, List.setIfInBounds_toArray, List.set_cons_zero, List.set_cons_succ]
            refine wpAnyT_take (i := 6) (v := ?_) rfl (by kernel_rfl) (fun _ _ _ h => h) (Or.inl ⟨by rfl, ?_⟩) hHeld (fun hHeld => ?_)
            rotate_left
            · (intro w hSw; (try dsimp only at hSw); go_simp; try with_reducible rfl)
            try simp only [Act.put, List.setIfInBounds_toArray, List.set_cons_zero, List.set_cons_succ]
            refine wpAnyT_take (i := 7) (v := ?_) rfl (by kernel_rfl) (fun _ _ _ h => h) (Or.inl ⟨by rfl, ?_⟩) hHeld (fun hHeld => ?_)
            rotate_left
            · (intro w hSw; (try dsimp only at hSw); go_simp; try with_reducible rfl)
            try simp only [Act.put, List.setIfInBounds_toArray, List.set_cons_zero, List.set_cons_succ]
            refine wpAnyT_take (i := 8) (v := ?_) rfl (by kernel_rfl) (fun _ _ _ h => h) (Or.inl ⟨by rfl, ?_⟩) hHeld (fun hHeld => ?_)
            rotate_left
            · (intro w hSw; (try dsimp only at hSw); go_simp; try with_reducible rfl)
            try simp only [Act.put, List.setIfInBounds_toArray, List.set_cons_zero, List.set_cons_succ]
            refine wpAnyT_take (i := 9) (v := ?_) rfl (by kernel_rfl) (fun _ _ _ h => h) (Or.inl ⟨by rfl, ?_⟩) hHeld (fun hHeld => ?_)
            rotate_left
            · (intro w hSw; (try dsimp only at hSw); go_simp; try with_reducible rfl)
            try simp only [Act.put, List.setIfInBounds_toArray, List.set_cons_zero, List.set_cons_succ]
            refine wpAnyT_take (i := 12) (v := ?_) rfl (by kernel_rfl) (fun _ _ _ h => h) (Or.inl ⟨by rfl, ?_⟩) hHeld (fun hHeld => ?_)
            rotate_left
            · (intro w hSw; (try dsimp only at hSw); go_simp; try with_reducible rfl)
            try simp only [Act.put, List.setIfInBounds_toArray, List.set_cons_zero, List.set_cons_succ]
            refine wpAnyT_take (i := 13) (v := ?_) rfl (by kernel_rfl) (fun _ _ _ h => h) (Or.inl ⟨by rfl, ?_⟩) hHeld (fun hHeld => ?_)
            rotate_left
            · (intro w hSw; (try dsimp only at hSw); go_simp; try with_reducible rfl)
            try simp only [Act.put, List.setIfInBounds_toArray, List.set_cons_zero, List.set_cons_succ]
            refine wpAnyT_take (i := 14) (v := ?_) rfl (by kernel_rfl) (fun _ _ _ h => h) (Or.inl ⟨by rfl, ?_⟩) hHeld (fun hHeld => ?_)
            rotate_left
            · (intro w hSw; (try dsimp only at hSw); go_simp; try with_reducible rfl)
            try simp only [Act.put, List.setIfInBounds_toArray, List.set_cons_zero, List.set_cons_succ]
            refine wpAnyT_take (i := 15) (v := ?_) rfl (by kernel_rfl) (fun _ _ _ h => h) (Or.inl ⟨by rfl, ?_⟩) hHeld (fun hHeld => ?_)
            rotate_left
            · (intro w hSw; (try dsimp only at hSw); go_simp; try with_reducible rfl)
            try simp only [Act.put, List.setIfInBounds_toArray, List.set_cons_zero, List.set_cons_succ]
            refine wpAnyT_step (i := 10) (by kernel_rfl) rfl (fun K hK => ?_)
            go_simp
            go_at_call 19
            refine (HEn.out _).mono ?_
            rintro e w11 ⟨rfl, hx11⟩
            have HX11 := Lib.hid (HX10.out.trans hx11)
            have HB12 := Lib.hid (HB11.out.ext hx11)
            clear hx11 hHeld
            refine hK.out _ _ (HSx.out _ HB12.out) (fun hHeld => ?_)
            clear hK K
            try simp only [Act.put, List.setIfInBounds_toArray, List.set_cons_zero, List.set_cons_succ]
            refine wpAnyT_take (i := 11) (v := ?_) rfl (by kernel_rfl) (fun _ _ _ h => h) (Or.inl ⟨by rfl, ?_⟩) hHeld (fun hHeld => ?_)
            rotate_left
            · (intro w hSw; (try dsimp only at hSw); go_simp; try with_reducible rfl)
            try simp only [Act.put, List.setIfInBounds_toArray, List.set_cons_zero, List.set_cons_succ]
            refine wpAnyT_step (i := 16) (by kernel_rfl) rfl (fun K hK => ?_)
            go_simp
            go_at_call 22
            refine (HDr.out _ (HD9.out.ext HX11.out)).mono ?_
            rintro e w12 ⟨v2, rfl, hr12, hx12⟩
            obtain ⟨va2, vc2, rfl, hens12⟩ := Ens.of_own (Own.of_row hr12)
            have HX12 := Lib.hid (HX11.out.trans hx12)
            have HB13 := Lib.hid (HB12.out.ext hx12)
            obtain ⟨_, _, e9, hens9⟩ := Ens.of_own (Own.of_row HR9.out)
            cases e9
            have hsm := same18_c w12 (hens9.ext HX12.out) hens12
            rw [decide_eq_true rfl] at hsm
            have HSm2 := Lib.hid hsm
            clear hr12 hx12 hens12 hens9 hsm hHeld
            refine hK.out _ _ (HSx.out _ HB13.out) (fun hHeld => ?_)
            clear hK K
            try simp only [Act.put, List.setIfInBounds_toArray, List.set_cons_zero, List.set_cons_succ]
            refine wpAnyT_step (i := 17) (by kernel_rfl) rfl (fun K hK => ?_)
            go_simp
            go_at_call 21
            refine HSm2.out.mono ?_
            rintro e w13 ⟨rfl, hx13⟩
            have HX13 := Lib.hid (HX12.out.trans hx13)
            have HB14 := Lib.hid (HB13.out.ext hx13)
            clear hx13 hHeld
            refine hK.out _ _ (HSx.out _ HB14.out) (fun hHeld => ?_)
            clear hK K
            try simp only [Act.put, List.setIfInBounds_toArray, List.set_cons_zero, List.set_cons_succ]
            refine wpAnyT_take (i := 18) (v := ?_) rfl (by kernel_rfl) (fun _ _ _ h => h) (Or.inl ⟨by rfl, ?_⟩) hHeld (fun hHeld => ?_)
            rotate_left
            · (intro w hSw; (try dsimp only at hSw); go_simp; try with_reducible rfl)
            try simp only [Act.put, List.setIfInBounds_toArray, List.set_cons_zero, List.set_cons_succ]
            refine wpAnyT_take (i := 19) (v := ?_) rfl (by kernel_rfl) (fun _ _ _ h => h) (Or.inl ⟨by rfl, ?_⟩) hHeld (fun hHeld => ?_)
            rotate_left
            · (intro w hSw; (try dsimp only at hSw); go_simp; try with_reducible rfl)
            try simp only [Act.put, List.setIfInBounds_toArray, List.set_cons_zero, List.set_cons_succ]
            refine wpAnyT_take (i := 20) (v := ?_) rfl (by kernel_rfl) (fun _ _ _ h => h) (Or.inl ⟨by rfl, ?_⟩) hHeld (fun hHeld => ?_)
            rotate_left
            · (intro w hSw; (try dsimp only at hSw); go_simp; try with_reducible rfl)
            try simp only [Act.put, List.setIfInBounds_toArray, List.set_cons_zero, List.set_cons_succ]
            refine wpAnyT_take (i := 21) (v := ?_) rfl (by kernel_rfl) (fun _ _ _ h => h) (Or.inl ⟨by rfl, ?_⟩) hHeld (fun hHeld => ?_)
            rotate_left
            · (intro w hSw; (try dsimp only at hSw); go_simp; try with_reducible rfl)
            try simp only [Act.put, List.setIfInBounds_toArray, List.set_cons_zero, List.set_cons_succ]
            refine wpAnyT_take (i := 22) (v := ?_) rfl (by kernel_rfl) (fun _ _ _ h => h) (Or.inl ⟨by rfl, ?_⟩) hHeld (fun hHeld => ?_)
            rotate_left
            · (intro w hSw; (try dsimp only at hSw); go_simp; try with_reducible rfl)
            try simp only [Act.put, List.setIfInBounds_toArray, List.set_cons_zero, List.set_cons_succ]
            refine wpAnyT_take (i := 23) (v := ?_) rfl (by kernel_rfl) (fun _ _ _ h => h) (Or.inl ⟨by rfl, ?_⟩) hHeld (fun hHeld => ?_)
            rotate_left
            · (intro w hSw; (try dsimp only at hSw); go_simp; try with_reducible rfl)
            try simp only [Act.put, List.setIfInBounds_toArray, List.set_cons_zero, List.set_cons_succ]
            refine wpAnyT_take (i := 26) (v := ?_) rfl (by kernel_rfl) (fun _ _ _ h => h) (Or.inl ⟨by rfl, ?_⟩) hHeld (fun hHeld => ?_)
            rotate_left
            · (intro w hSw; (try dsimp only at hSw); go_simp; try with_reducible rfl)
            try simp only [Act.put, List.setIfInBounds_toArray, List.set_cons_zero, List.set_cons_succ]
            refine wpAnyT_take (i := 27) (v := ?_) rfl (by kernel_rfl) (fun _ _ _ h => h) (Or.inl ⟨by rfl, ?_⟩) hHeld (fun hHeld => ?_)
            rotate_left
            · (intro w hSw; (try dsimp only at hSw); go_simp; try with_reducible rfl)
            try simp only [Act.put, List.setIfInBounds_toArray, List.set_cons_zero, List.set_cons_succ]
            refine wpAnyT_step (i := 24) (by kernel_rfl) rfl (fun K hK => ?_)
            go_simp
            go_at_call 19
            refine (HEn.out _).mono ?_
            rintro e w14 ⟨rfl, hx14⟩
            have HX14 := Lib.hid (HX13.out.trans hx14)
            have HB15 := Lib.hid (HB14.out.ext hx14)
            clear hx14 hHeld
            refine hK.out _ _ (HSx.out _ HB15.out) (fun hHeld => ?_)
            clear hK K
            try simp only [Act.put, List.setIfInBounds_toArray, List.set_cons_zero, List.set_cons_succ]
            refine wpAnyT_take (i := 25) (v := ?_) rfl (by kernel_rfl) (fun _ _ _ h => h) (Or.inl ⟨by rfl, ?_⟩) hHeld (fun hHeld => ?_)
            rotate_left
            · (intro w hSw; (try dsimp only at hSw); go_simp; try with_reducible rfl)
            try simp only [Act.put, List.setIfInBounds_toArray, List.set_cons_zero, List.set_cons_succ]
            refine wpAnyT_step (i := 28) (by kernel_rfl) rfl (fun K hK => ?_)
            go_simp
            go_at_call 23
            refine (HDl.out _ (HD9.out.ext HX14.out)).mono ?_
            rintro e w15 ⟨z2, rfl, hl15, hx15⟩
            obtain rfl : r = z2 := HL9.out.uniq (fun y hy => (okEn_iff.1 (HOk.out.1.ok y hy)).2.2.1) hl15
            have HX15 := Lib.hid (HX14.out.trans hx15)
            have HB16 := Lib.hid (HB15.out.ext hx15)
            have HP := Lib.hid (PlayI.of (H9.out.grow HX15.out) (X := noI) (fun i hi => .inl (.inl (hi.elim id fun h => h.elim))) (HD9.out.ext HX15.out) (i := k + 1) (by omega) (by omega) (by omega) (by omega))
            clear hx15 hl15 hHeld
            refine hK.out _ _ (HSx.out _ HB16.out) (fun hHeld => ?_)
            clear hK K
            try simp only [Act.put, List.setIfInBounds_toArray, List.set_cons_zero, List.set_cons_succ]
            refine wpAnyT_take (i := 29) (v := ?_) rfl (by kernel_rfl) (fun _ _ _ h => h) (Or.inl ⟨by rfl, ?_⟩) hHeld (fun hHeld => ?_)
            rotate_left
            · (intro w hSw; (try dsimp only at hSw); go_simp; try with_reducible rfl)
            try simp only [Act.put, List.setIfInBounds_toArray, List.set_cons_zero, List.set_cons_succ]
            refine wpAnyT_take (i := 30) (v := ?_) rfl (by kernel_rfl) (fun _ _ _ h => h) (Or.inl ⟨by rfl, ?_⟩) hHeld (fun hHeld => ?_)
            rotate_left
            · (intro w hSw; (try dsimp only at hSw); go_simp; try with_reducible rfl)
            try simp only [Act.put, List.setIfInBounds_toArray, List.set_cons_zero, List.set_cons_succ]
            refine wpAnyT_end (by kernel_rfl) ?_
            try simp only [List.drop_succ_cons, List.drop_zero]
            clear hHeld
            go_wp2_with fail
            go_meet
            case rel => exact ⟨gx', rfl, HP.out⟩
        · as_aux_lemma =>
            subst hz
            obtain ⟨R, hR⟩ : ∃ R, rangeE B hh (max xa 0) (min xb 1073741824) = R := ⟨_, rfl⟩
            have HIr := Lib.hid (fun (W : World) (k : Ext w5 W) => (HI5.out.grow k).range hh xa xb (by omega))
            have HDr := Lib.hid (fun (W : World) (k : DocI W gb m ws B vL vW vG vs) => docrange_c k (by omega) hh xa xb)
            have HDl := Lib.hid (fun (W : World) (k : DocI W gb m ws B vL vW vG vs) => doclast_c k (by omega) hh xb)
            rw [hR] at HIr HDr
            clear hR
            have HSx : Hid (∀ W, Blk W q 46 #[.int .u8 kd, .int .u64 eh, .int .i64 ev, .int .i64 ep, .int .i64 xa, .int .i64 xb] → (fun W => W.cell? ⟨q, 0, none⟩ = some (.int .u8 kd) ∧ W.cell? ⟨q, 1, none⟩ = some (.int .u64 eh) ∧ W.cell? ⟨q, 2, none⟩ = some (.int .i64 ev) ∧ W.cell? ⟨q, 3, none⟩ = some (.int .i64 ep) ∧ W.cell? ⟨q, 4, none⟩ = some (.int .i64 xa) ∧ W.cell? ⟨q, 5, none⟩ = some (.int .i64 xb)) W) := Lib.hid fun W h => ⟨h.cell 0, h.cell 1, h.cell 2, h.cell 3, h.cell 4, h.cell 5⟩
            have HB0 := Lib.hid (HB5.out.ext (Ext.refl _).drew)
            have HX0 := Lib.hid (Ext.refl w5).drew
            have hfd : ∀ (W : World) (x y z : Value), (Instr.field 44 (.agg #[x, y, z]) 0).run Tryz.prog W = .ok x W := fun _ _ _ _ => rfl
            go_wp2_with fail
            refine wp_region_T (fun W => W.cell? ⟨q, 0, none⟩ = some (.int .u8 kd) ∧ W.cell? ⟨q, 1, none⟩ = some (.int .u64 eh) ∧ W.cell? ⟨q, 2, none⟩ = some (.int .i64 ev) ∧ W.cell? ⟨q, 3, none⟩ = some (.int .i64 ep) ∧ W.cell? ⟨q, 4, none⟩ = some (.int .i64 xa) ∧ W.cell? ⟨q, 5, none⟩ = some (.int .i64 xb)) 14 (by kernel_rfl) (HSx.out _ HB0.out) (fun hHeld => ?_)
            refine wpAnyT_take (i := 0) (v := ?_) rfl (by kernel_rfl) (fun _ _ _ h => h) (Or.inl ⟨by rfl, ?_⟩) hHeld (fun hHeld => ?_)
            rotate_left
            · (intro w hSw; (try dsimp only at hSw); go_simp; try with_reducible rfl)
            try simp only [Act.put, List.setIfInBounds_toArray, List.set_cons_zero, List.set_cons_succ]
            refine wpAnyT_take (i := 1) (v := ?_) rfl (by kernel_rfl) (fun _ _ _ h => h) (Or.inl ⟨by rfl, ?_⟩) hHeld (fun hHeld => ?_)
            rotate_left
            · (intro w hSw; (try dsimp only at hSw); go_simp; try with_reducible rfl)
            try simp only [Act.put, List.setIfInBounds_toArray, List.set_cons_zero, List.set_cons_succ]
            refine wpAnyT_take (i := 4) (v := ?_) rfl (by kernel_rfl) (fun _ _ _ h => h) (Or.inl ⟨by rfl, ?_⟩) hHeld (fun hHeld => ?_)
            rotate_left
            · (intro w hSw; (try dsimp only at hSw); go_simp; try with_reducible rfl)
            try simp only [Act.put, List.setIfInBounds_toArray, List.set_cons_zero, List.set_cons_succ]
            refine wpAnyT_take (i := 5) (v := ?_) rfl (by kernel_rfl) (fun _ _ _ h => h) (Or.inl ⟨by rfl, ?_⟩) hHeld (fun hHeld => ?_)
            rotate_left
            · (intro w hSw; (try dsimp only at hSw); go_simp; try with_reducible rfl)
            try simp only [Act.put, List.setIfInBounds_toArray, List.set_cons_zero, List.set_cons_succ]
            refine wpAnyT_take (i := 6) (v := ?_) rfl (by kernel_rfl) (fun _ _ _ h => h) (Or.inl ⟨by rfl, ?_⟩) hHeld (fun hHeld => ?_)
            rotate_left
            · (intro w hSw; (try dsimp only at hSw); go_simp; try with_reducible rfl)
            try simp only [Act.put, List.setIfInBounds_toArray, List.set_cons_zero, List.set_cons_succ]
            refine wpAnyT_take (i := 7) (v := ?_) rfl (by kernel_rfl) (fun _ _ _ h => h) (Or.inl ⟨by rfl, ?_⟩) hHeld (fun hHeld => ?_)
            rotate_left
            · (intro w hSw; (try dsimp only at hSw); go_simp; try with_reducible rfl)
            try simp only [Act.put, List.setIfInBounds_toArray, List.set_cons_zero, List.set_cons_succ]
            refine wpAnyT_step (i := 2) (by kernel_rfl) rfl (fun K hK => ?_)
            go_simp
            go_at_call 19
            refine (HEn.out _).mono ?_
            rintro e w6 ⟨rfl, hx6⟩
            have HX6 := Lib.hid (HX0.out.trans hx6)
            have HB6 := Lib.hid (HB0.out.ext hx6)
            clear hx6 hHeld
            refine hK.out _ _ (HSx.out _ HB6.out) (fun hHeld => ?_)
            clear hK K
            try simp only [Act.put, List.setIfInBounds_toArray, List.set_cons_zero, List.set_cons_succ]
            refine wpAnyT_take (i := 3) (v := ?_) rfl (by kernel_rfl) (fun _ _ _ h => h) (Or.inl ⟨by rfl, ?_⟩) hHeld (fun hHeld => ?_)
            rotate_left
            · (intro w hSw; (try dsimp only at hSw); go_simp; try with_reducible rfl)
            try simp only [Act.put, List.setIfInBounds_toArray, List.set_cons_zero, List.set_cons_succ]
            refine wpAnyT_step (i := 8) (by kernel_rfl) rfl (fun K hK => ?_)
            go_simp
            go_at_call 18
            refine (HIr.out _ HX6.out).mono ?_
            rintro e w7 ⟨v, rfl, h7, hs7, hr7⟩
            obtain ⟨va, vc, rfl, hens7⟩ := Ens.of_own (Own.of_row hr7)
            have H7 := Lib.hid h7
            have HB7 := Lib.hid (HB6.out.same (hs7 q (.inr rfl)))
            have HD7 := Lib.hid ((HD5.out.ext HX6.out).same fun i hi => hs7 i (.inl hi))
            have HR7 := Lib.hid hr7
            clear h7 hs7 hr7 hens7 hHeld
            refine hK.out _ _ (HSx.out _ HB7.out) (fun hHeld => ?_)
            clear hK K
            try simp only [Act.put, List.setIfInBounds_toArray, List.set_cons_zero, List.set_cons_succ]
            refine wpAnyT_take (i := 9) (v := ?_) rfl (by kernel_rfl) (fun _ _ _ h => h) (Or.inl ⟨by rfl, ?_⟩) hHeld (fun hHeld => ?_)
            rotate_left
            · (intro w hSw; (try dsimp only at hSw); go_simp; try with_reducible rfl)
            try simp only [Act.put, List.setIfInBounds_toArray, List.set_cons_zero, List.set_cons_succ]
            refine wpAnyT_take (i := 10) (v := ?_) rfl (by kernel_rfl) (fun _ _ _ h => h) (Or.inl ⟨by rfl, ?_⟩) hHeld (fun hHeld => ?_)
            rotate_left
            · (intro w hSw; (try dsimp only at hSw); go_simp; try with_reducible rfl)
            try simp only [Act.put, List.setIfInBounds_toArray, List.set_cons_zero, List.set_cons_succ]
            refine wpAnyT_take (i := 11) (v := ?_) rfl (by kernel_rfl) (fun _ _ _ h => h) (Or.inl ⟨by rfl, ?_⟩) hHeld (fun hHeld => ?_)
            rotate_left
            · (intro w hSw; (try dsimp only at hSw); go_simp; try with_reducible rfl)
            try simp only [Act.put, List.setIfInBounds_toArray, List.set_cons_zero, List.set_cons_succ]
            refine wpAnyT_take (i := 12) (v := ?_) rfl (by kernel_rfl) (fun _ _ _ h => h) (Or.inl ⟨by rfl, ?_⟩) hHeld (fun hHeld => ?_)
            rotate_left
            · (intro w hSw; (try dsimp only at hSw); go_simp; try with_reducible rfl)
            try simp only [Act.put, List.setIfInBounds_toArray, List.set_cons_zero, List.set_cons_succ]
            refine wpAnyT_take (i := 13) (v := ?_) rfl (by kernel_rfl) (fun _ _ _ h => h) (Or.inl ⟨by rfl, ?_⟩) hHeld (fun hHeld => ?_)
            rotate_left
            · (intro w hSw; (try dsimp only at hSw); go_simp; try with_reducible rfl)
            try simp only [Act.put, List.setIfInBounds_toArray, List.set_cons_zero, List.set_cons_succ]
            refine wpAnyT_end (by kernel_rfl) ?_
            try simp only [List.drop_succ_cons, List.drop_zero]
            clear hHeld
            have HB8 := Lib.hid (HB7.out.ext (Ext.refl _).drew)
            go_wp2_with fail
            refine wp_region_T (fun W => W.cell? ⟨q, 0, none⟩ = some (.int .u8 kd) ∧ W.cell? ⟨q, 1, none⟩ = some (.int .u64 eh) ∧ W.cell? ⟨q, 2, none⟩ = some (.int .i64 ev) ∧ W.cell? ⟨q, 3, none⟩ = some (.int .i64 ep) ∧ W.cell? ⟨q, 4, none⟩ = some (.int .i64 xa) ∧ W.cell? ⟨q, 5, none⟩ = some (.int .i64 xb)) 12 (by kernel_rfl) (HSx.out _ HB8.out) (fun hHeld => ?_)
            refine wpAnyT_take (i := 0) (v := ?_) rfl (by kernel_rfl) (fun _ _ _ h => h) (Or.inl ⟨by rfl, ?_⟩) hHeld (fun hHeld => ?_)
            rotate_left
            · (intro w hSw; (try dsimp only at hSw); go_simp; try with_reducible rfl)
            try simp only [Act.put, List.setIfInBounds_toArray, List.set_cons_zero, List.set_cons_succ]
            refine wpAnyT_take (i := 1) (v := ?_) rfl (by kernel_rfl) (fun _ _ _ h => h) (Or.inl ⟨by rfl, ?_⟩) hHeld (fun hHeld => ?_)
            rotate_left
            · (intro w hSw; (try dsimp only at hSw); go_simp; try with_reducible rfl)
            try simp only [Act.put, List.setIfInBounds_toArray, List.set_cons_zero, List.set_cons_succ]
            refine wpAnyT_take (i := 4) (v := ?_) rfl (by kernel_rfl) (fun _ _ _ h => h) (Or.inl ⟨by rfl, ?_⟩) hHeld (fun hHeld => ?_)
            rotate_left
            · (intro w hSw; (try dsimp only at hSw); go_simp; try with_reducible rfl)
            try simp only [Act.put, List.setIfInBounds_toArray, List.set_cons_zero, List.set_cons_succ]
            refine wpAnyT_take (i := 5) (v := ?_) rfl (by kernel_rfl) (fun _ _ _ h => h) (Or.inl ⟨by rfl, ?_⟩) hHeld (fun hHeld => ?_)
            rotate_left
            · (intro w hSw; (try dsimp only at hSw); go_simp; try with_reducible rfl)
            try simp only [Act.put, List.setIfInBounds_toArray, List.set_cons_zero, List.set_cons_succ]
            refine wpAnyT_step (i := 2) (by kernel_rfl) rfl (fun K hK => ?_)
            go_simp
            go_at_call 19
            refine (HEn.out _).mono ?_
            rintro e w8 ⟨rfl, hx8⟩
            have HX8 := Lib.hid ((Ext.refl w7).drew.trans hx8)
            have HB9 := Lib.hid (HB8.out.ext hx8)
            have HIl := Lib.hid ((H7.out.grow HX8.out).last hh xb HXb.out)
            clear hx8 hHeld
            refine hK.out _ _ (HSx.out _ HB9.out) (fun hHeld => ?_)
            clear hK K
            try simp only [Act.put, List.setIfInBounds_toArray, List.set_cons_zero, List.set_cons_succ]
            refine wpAnyT_take (i := 3) (v := ?_) rfl (by kernel_rfl) (fun _ _ _ h => h) (Or.inl ⟨by rfl, ?_⟩) hHeld (fun hHeld => ?_)
            rotate_left
            · (intro w hSw; (try dsimp only at hSw); go_simp; try with_reducible rfl)
            try simp only [Act.put, List.setIfInBounds_toArray, List.set_cons_zero, List.set_cons_succ]
            refine wpAnyT_step (i := 6) (by kernel_rfl) rfl (fun K hK => ?_)
            go_simp
            go_at_call 20
            refine HIl.out.mono ?_
            rintro e w9 ⟨r, rfl, hl9, h9, hs9⟩
            have H9 := Lib.hid h9; have HL9 := Lib.hid hl9
            have HB10 := Lib.hid (HB9.out.same (hs9 q (.inl (.inr rfl))))
            have HD9 := Lib.hid ((HD7.out.ext HX8.out).same fun i hi => hs9 i (.inl (.inl hi)))
            have HR9 := Lib.hid (row_same (row_ext HR7.out HX8.out) fun i hi => hs9 i (.inr hi))
            clear h9 hl9 hs9 hHeld
            refine hK.out _ _ (HSx.out _ HB10.out) (fun hHeld => ?_)
            clear hK K
            try simp only [Act.put, List.setIfInBounds_toArray, List.set_cons_zero, List.set_cons_succ]
            refine wpAnyT_take (i := 7) (v := ?_) rfl (by kernel_rfl) (fun _ _ _ h => h) (Or.inl ⟨by rfl, ?_⟩) hHeld (fun hHeld => ?_)
            rotate_left
            · (intro w hSw; (try dsimp only at hSw); go_simp; try with_reducible rfl)
            try simp only [Act.put, List.setIfInBounds_toArray, List.set_cons_zero, List.set_cons_succ]
            refine wpAnyT_take (i := 8) (v := ?_) rfl (by kernel_rfl) (fun _ _ _ h => h) (Or.inl ⟨by rfl, ?_⟩) hHeld (fun hHeld => ?_)
            rotate_left
            · (intro w hSw; (try dsimp only at hSw); go_simp; try with_reducible rfl)
            try simp only [Act.put, List.setIfInBounds_toArray, List.set_cons_zero, List.set_cons_succ]
            refine wpAnyT_take (i := 9) (v := ?_) rfl (by kernel_rfl) (fun _ _ _ h => h) (Or.inl ⟨by rfl, ?_⟩) hHeld (fun hHeld => ?_)
            rotate_left
            · (intro w hSw; (try dsimp only at hSw); go_simp; try with_reducible rfl)
            try simp only [Act.put, List.setIfInBounds_toArray, List.set_cons_zero, List.set_cons_succ]
            refine wpAnyT_take (i := 10) (v := ?_) rfl (by kernel_rfl) (fun _ _ _ h => h) (Or.inl ⟨by rfl, ?_⟩) hHeld (fun hHeld => ?_)
            rotate_left
            · (intro w hSw; (try dsimp only at hSw); go_simp; try with_reducible rfl)
            try simp only [Act.put, List.setIfInBounds_toArray, List.set_cons_zero, List.set_cons_succ]
            refine wpAnyT_take (i := 11) (v := ?_) rfl (by kernel_rfl) (fun _ _ _ h => h) (Or.inl ⟨by rfl, ?_⟩) hHeld (fun hHeld => ?_)
            rotate_left
            · (intro w hSw; (try dsimp only at hSw); go_simp; try with_reducible rfl)
            try simp only [Act.put, List.setIfInBounds_toArray, List.set_cons_zero, List.set_cons_succ]
            refine wpAnyT_end (by kernel_rfl) ?_
            try simp only [List.drop_succ_cons, List.drop_zero]
            clear hHeld
            have HX10 := Lib.hid (Ext.refl w9).drew
            have HB11 := Lib.hid (HB10.out.ext HX10.out)
            go_wp2_with fail
            refine wp_region_T (fun W => W.cell? ⟨q, 0, none⟩ = some (.int .u8 kd) ∧ W.cell? ⟨q, 1, none⟩ = some (.int .u64 eh) ∧ W.cell? ⟨q, 2, none⟩ = some (.int .i64 ev) ∧ W.cell? ⟨q, 3, none⟩ = some (.int .i64 ep) ∧ W.cell? ⟨q, 4, none⟩ = some (.int .i64 xa) ∧ W.cell? ⟨q, 5, none⟩ = some (.int .i64 xb)) 31 (by kernel_rfl) (HSx.out _ HB11.out) (fun hHeld => ?_)
            refine wpAnyT_take (i := 0) (v := ?_) rfl (by kernel_rfl) (fun _ _ _ h => h) (Or.inl ⟨by rfl, ?_⟩) hHeld (fun hHeld => ?_)
            rotate_left
            · (intro w hSw; (try dsimp only at hSw); go_simp; try with_reducible rfl)
            try simp only [Act.put, List.setIfInBounds_toArray, List.set_cons_zero, List.set_cons_succ]
            refine wpAnyT_take (i := 1) (v := ?_) rfl (by kernel_rfl) (fun _ _ _ h => h) (Or.inl ⟨by rfl, ?_⟩) hHeld (fun hHeld => ?_)
            rotate_left
            · (intro w hSw; (try dsimp only at hSw); go_simp; try with_reducible rfl)
            try simp only [Act.put, List.setIfInBounds_toArray, List.set_cons_zero, List.set_cons_succ]
            refine wpAnyT_take (i := 2) (v := ?_) rfl (by kernel_rfl) (fun _ _ _ h => h) (Or.inl ⟨by rfl, ?_⟩) hHeld (fun hHeld => ?_)
            rotate_left
            · (intro w hSw; (try dsimp only at hSw); go_simp; try with_reducible rfl)
            try simp only [Act.put, List.setIfInBounds_toArray, List.set_cons_zero, List.set_cons_succ]
            refine wpAnyT_take (i := 3) (v := ?_) rfl (by kernel_rfl) (fun _ _ _ h => h) (Or.inl ⟨by rfl, ?_⟩) hHeld (fun hHeld => ?_)
            rotate_left
            · (intro w hSw; (try dsimp only at hSw); go_simp; try with_reducible rfl)
            try simp only [Act.put, List.setIfInBounds_toArray, List.set_cons_zero, List.set_cons_succ]
            refine wpAnyT_take (i := 4) (v := ?_) rfl (by kernel_rfl) (fun _ _ _ h => h) (Or.inl ⟨by rfl, ?_⟩) hHeld (fun hHeld => ?_)
            rotate_left
            · (intro w hSw; (try dsimp only at hSw); go_simp; try with_reducible rfl)
            try simp only [Act.put, List.setIfInBounds_toArray, List.set_cons_zero, List.set_cons_succ]
            refine wpAnyT_take (i := 5) (v := ?_) rfl (by kernel_rfl) (fun _ _ _ h => h) (Or.inl ⟨by rfl, ?_⟩) hHeld (fun hHeld => ?_)
            rotate_left
            · (intro w hSw; (try dsimp only at hSw); go_simp; try with_reducible rfl)
            try simp only [Act.put, List.setIfInBounds_toArray, List.set_cons_zero, List.set_cons_succ]
            refine wpAnyT_take (i := 6) (v := ?_) rfl (by kernel_rfl) (fun _ _ _ h => h) (Or.inl ⟨by rfl, ?_⟩) hHeld (fun hHeld => ?_)
            rotate_left
            · (intro w hSw; (try dsimp only at hSw); go_simp; try with_reducible rfl)
            try simp only [Act.put, List.setIfInBounds_toArray, List.set_cons_zero, List.set_cons_succ]
            refine wpAnyT_take (i := 7) (v := ?_) rfl (by kernel_rfl) (fun _ _ _ h => h) (Or.inl ⟨by rfl, ?_⟩) hHeld (fun hHeld => ?_)
            rotate_left
            · (intro w hSw; (try dsimp only at hSw); go_simp; try with_reducible rfl)
            try simp only [Act.put, List.setIfInBounds_toArray, List.set_cons_zero, List.set_cons_succ]
            refine wpAnyT_take (i := 8) (v := ?_) rfl (by kernel_rfl) (fun _ _ _ h => h) (Or.inl ⟨by rfl, ?_⟩) hHeld (fun hHeld => ?_)
            rotate_left
            · (intro w hSw; (try dsimp only at hSw); go_simp; try with_reducible rfl)
            try simp only [Act.put, List.setIfInBounds_toArray, List.set_cons_zero, List.set_cons_succ]
            refine wpAnyT_take (i := 9) (v := ?_) rfl (by kernel_rfl) (fun _ _ _ h => h) (Or.inl ⟨by rfl, ?_⟩) hHeld (fun hHeld => ?_)
            rotate_left
            · (intro w hSw; (try dsimp only at hSw); go_simp; try with_reducible rfl)
            try simp only [Act.put, List.setIfInBounds_toArray, List.set_cons_zero, List.set_cons_succ]
            refine wpAnyT_take (i := 12) (v := ?_) rfl (by kernel_rfl) (fun _ _ _ h => h) (Or.inl ⟨by rfl, ?_⟩) hHeld (fun hHeld => ?_)
            rotate_left
            · (intro w hSw; (try dsimp only at hSw); go_simp; try with_reducible rfl)
            try simp only [Act.put, List.setIfInBounds_toArray, List.set_cons_zero, List.set_cons_succ]
            refine wpAnyT_take (i := 13) (v := ?_) rfl (by kernel_rfl) (fun _ _ _ h => h) (Or.inl ⟨by rfl, ?_⟩) hHeld (fun hHeld => ?_)
            rotate_left
            · (intro w hSw; (try dsimp only at hSw); go_simp; try with_reducible rfl)
            try simp only [Act.put, List.setIfInBounds_toArray, List.set_cons_zero, List.set_cons_succ]
            refine wpAnyT_take (i := 14) (v := ?_) rfl (by kernel_rfl) (fun _ _ _ h => h) (Or.inl ⟨by rfl, ?_⟩) hHeld (fun hHeld => ?_)
            rotate_left
            · (intro w hSw; (try dsimp only at hSw); go_simp; try with_reducible rfl)
            try simp only [Act.put, List.setIfInBounds_toArray, List.set_cons_zero, List.set_cons_succ]
            refine wpAnyT_take (i := 15) (v := ?_) rfl (by kernel_rfl) (fun _ _ _ h => h) (Or.inl ⟨by rfl, ?_⟩) hHeld (fun hHeld => ?_)
            rotate_left
            · (intro w hSw; (try dsimp only at hSw); go_simp; try with_reducible rfl)
            try simp only [Act.put, List.setIfInBounds_toArray, List.set_cons_zero, List.set_cons_succ]
            refine wpAnyT_step (i := 10) (by kernel_rfl) rfl (fun K hK => ?_)
            go_simp
            go_at_call 19
            refine (HEn.out _).mono ?_
            rintro e w11 ⟨rfl, hx11⟩
            have HX11 := Lib.hid (HX10.out.trans hx11)
            have HB12 := Lib.hid (HB11.out.ext hx11)
            clear hx11 hHeld
            refine hK.out _ _ (HSx.out _ HB12.out) (fun hHeld => ?_)
            clear hK K
            try simp only [Act.put, List.setIfInBounds_toArray, List.set_cons_zero, List.set_cons_succ]
            refine wpAnyT_take (i := 11) (v := ?_) rfl (by kernel_rfl) (fun _ _ _ h => h) (Or.inl ⟨by rfl, ?_⟩) hHeld (fun hHeld => ?_)
            rotate_left
            · (intro w hSw; (try dsimp only at hSw); go_simp; try with_reducible rfl)
            try simp only [Act.put, List.setIfInBounds_toArray, List.set_cons_zero, List.set_cons_succ]
            refine wpAnyT_step (i := 16) (by kernel_rfl) rfl (fun K hK => ?_)
            go_simp
            go_at_call 22
            refine (HDr.out _ (HD9.out.ext HX11.out)).mono ?_
            rintro e w12 ⟨v2, rfl, hr12, hx12⟩
            obtain ⟨va2, vc2, rfl, hens12⟩ := Ens.of_own (Own.of_row hr12)
            have HX12 := Lib.hid (HX11.out.trans hx12)
            have HB13 := Lib.hid (HB12.out.ext hx12)
            obtain ⟨_, _, e9, hens9⟩ := Ens.of_own (Own.of_row HR9.out)
            cases e9
            have hsm := same18_c w12 (hens9.ext HX12.out) hens12
            rw [decide_eq_true rfl] at hsm
            have HSm2 := Lib.hid hsm
            clear hr12 hx12 hens12 hens9 hsm hHeld
            refine hK.out _ _ (HSx.out _ HB13.out) (fun hHeld => ?_)
            clear hK K
            try simp only [Act.put, List.setIfInBounds_toArray, List.set_cons_zero, List.set_cons_succ]
            refine wpAnyT_step (i := 17) (by kernel_rfl) rfl (fun K hK => ?_)
            go_simp
            go_at_call 21
            refine HSm2.out.mono ?_
            rintro e w13 ⟨rfl, hx13⟩
            have HX13 := Lib.hid (HX12.out.trans hx13)
            have HB14 := Lib.hid (HB13.out.ext hx13)
            clear hx13 hHeld
            refine hK.out _ _ (HSx.out _ HB14.out) (fun hHeld => ?_)
            clear hK K
            try simp only [Act.put, List.setIfInBounds_toArray, List.set_cons_zero, List.set_cons_succ]
            refine wpAnyT_take (i := 18) (v := ?_) rfl (by kernel_rfl) (fun _ _ _ h => h) (Or.inl ⟨by rfl, ?_⟩) hHeld (fun hHeld => ?_)
            rotate_left
            · (intro w hSw; (try dsimp only at hSw); go_simp; try with_reducible rfl)
            try simp only [Act.put, List.setIfInBounds_toArray, List.set_cons_zero, List.set_cons_succ]
            refine wpAnyT_take (i := 19) (v := ?_) rfl (by kernel_rfl) (fun _ _ _ h => h) (Or.inl ⟨by rfl, ?_⟩) hHeld (fun hHeld => ?_)
            rotate_left
            · (intro w hSw; (try dsimp only at hSw); go_simp; try with_reducible rfl)
            try simp only [Act.put, List.setIfInBounds_toArray, List.set_cons_zero, List.set_cons_succ]
            refine wpAnyT_take (i := 20) (v := ?_) rfl (by kernel_rfl) (fun _ _ _ h => h) (Or.inl ⟨by rfl, ?_⟩) hHeld (fun hHeld => ?_)
            rotate_left
            · (intro w hSw; (try dsimp only at hSw); go_simp; try with_reducible rfl)
            try simp only [Act.put, List.setIfInBounds_toArray, List.set_cons_zero, List.set_cons_succ]
            refine wpAnyT_take (i := 21) (v := ?_) rfl (by kernel_rfl) (fun _ _ _ h => h) (Or.inl ⟨by rfl, ?_⟩) hHeld (fun hHeld => ?_)
            rotate_left
            · (intro w hSw; (try dsimp only at hSw); go_simp; try with_reducible rfl)
            try simp only [Act.put, List.setIfInBounds_toArray, List.set_cons_zero, List.set_cons_succ]
            refine wpAnyT_take (i := 22) (v := ?_) rfl (by kernel_rfl) (fun _ _ _ h => h) (Or.inl ⟨by rfl, ?_⟩) hHeld (fun hHeld => ?_)
            rotate_left
            · (intro w hSw; (try dsimp only at hSw); go_simp; try with_reducible rfl)
            try simp only [Act.put, List.setIfInBounds_toArray, List.set_cons_zero, List.set_cons_succ]
            refine wpAnyT_take (i := 23) (v := ?_) rfl (by kernel_rfl) (fun _ _ _ h => h) (Or.inl ⟨by rfl, ?_⟩) hHeld (fun hHeld => ?_)
            rotate_left
            · (intro w hSw; (try dsimp only at hSw); go_simp; try with_reducible rfl)
            try simp only [Act.put, List.setIfInBounds_toArray, List.set_cons_zero, List.set_cons_succ]
            refine wpAnyT_take (i := 26) (v := ?_) rfl (by kernel_rfl) (fun _ _ _ h => h) (Or.inl ⟨by rfl, ?_⟩) hHeld (fun hHeld => ?_)
            rotate_left
            · (intro w hSw; (try dsimp only at hSw); go_simp; try with_reducible rfl)
            try simp only [Act.put, List.setIfInBounds_toArray, List.set_cons_zero, List.set_cons_succ]
            refine wpAnyT_take (i := 27) (v := ?_) rfl (by kernel_rfl) (fun _ _ _ h => h) (Or.inl ⟨by rfl, ?_⟩) hHeld (fun hHeld => ?_)
            rotate_left
            · (intro w hSw; (try dsimp only at hSw); go_simp; try with_reducible rfl)
            try simp only [Act.put, List.setIfInBounds_toArray, List.set_cons_zero, List.set_cons_succ]
            refine wpAnyT_step (i := 24) (by kernel_rfl) rfl (fun K hK => ?_)
            go_simp
            go_at_call 19
            refine (HEn.out _).mono ?_
            rintro e w14 ⟨rfl, hx14⟩
            have HX14 := Lib.hid (HX13.out.trans hx14)
            have HB15 := Lib.hid (HB14.out.ext hx14)
            clear hx14 hHeld
            refine hK.out _ _ (HSx.out _ HB15.out) (fun hHeld => ?_)
            clear hK K
            try simp only [Act.put, List.setIfInBounds_toArray, List.set_cons_zero, List.set_cons_succ]
            refine wpAnyT_take (i := 25) (v := ?_) rfl (by kernel_rfl) (fun _ _ _ h => h) (Or.inl ⟨by rfl, ?_⟩) hHeld (fun hHeld => ?_)
            rotate_left
            · (intro w hSw; (try dsimp only at hSw); go_simp; try with_reducible rfl)
            try simp only [Act.put, List.setIfInBounds_toArray, List.set_cons_zero, List.set_cons_succ]
            refine wpAnyT_step (i := 28) (by kernel_rfl) rfl (fun K hK => ?_)
            go_simp
            go_at_call 23
            refine (HDl.out _ (HD9.out.ext HX14.out)).mono ?_
            rintro e w15 ⟨z2, rfl, hl15, hx15⟩
            obtain rfl : r = z2 := HL9.out.uniq (fun y hy => (okEn_iff.1 (HOk.out.1.ok y hy)).2.2.1) hl15
            have HX15 := Lib.hid (HX14.out.trans hx15)
            have HB16 := Lib.hid (HB15.out.ext hx15)
            have HP := Lib.hid (PlayI.of (H9.out.grow HX15.out) (X := noI) (fun i hi => .inl (.inl (hi.elim id fun h => h.elim))) (HD9.out.ext HX15.out) (i := k + 1) (by omega) (by omega) (by omega) (by omega))
            clear hx15 hl15 hHeld
            refine hK.out _ _ (HSx.out _ HB16.out) (fun hHeld => ?_)
            clear hK K
            try simp only [Act.put, List.setIfInBounds_toArray, List.set_cons_zero, List.set_cons_succ]
            refine wpAnyT_take (i := 29) (v := ?_) rfl (by kernel_rfl) (fun _ _ _ h => h) (Or.inl ⟨by rfl, ?_⟩) hHeld (fun hHeld => ?_)
            rotate_left
            · (intro w hSw; (try dsimp only at hSw); go_simp; try with_reducible rfl)
            try simp only [Act.put, List.setIfInBounds_toArray, List.set_cons_zero, List.set_cons_succ]
            refine wpAnyT_take (i := 30) (v := ?_) rfl (by kernel_rfl) (fun _ _ _ h => h) (Or.inl ⟨by rfl, ?_⟩) hHeld (fun hHeld => ?_)
            rotate_left
            · (intro w hSw; (try dsimp only at hSw); go_simp; try with_reducible rfl)
            try simp only [Act.put, List.setIfInBounds_toArray, List.set_cons_zero, List.set_cons_succ]
            refine wpAnyT_end (by kernel_rfl) ?_
            try simp only [List.drop_succ_cons, List.drop_zero]
            clear hHeld
            go_wp2_with fail
            go_meet
            case rel => exact ⟨gx', rfl, HP.out⟩
        · as_aux_lemma =>
            have t5 : (z == 5) = false := by simp; omega
            have t6 : (z == 6) = false := by simp; omega
            have t7 : (z == 7) = false := by simp; omega
            have t8 : (z == 8) = false := by simp; omega
            have t9 : (z == 9) = false := by simp; omega
            have HIa := Lib.hid (fun (W : World) (k : Ext w5 W) => (HI5.out.grow k).addB (e := (hh, ev, ep)) HEb.out (by omega))
            have HSx : Hid (∀ W, Blk W q 46 #[.int .u8 kd, .int .u64 eh, .int .i64 ev, .int .i64 ep, .int .i64 xa, .int .i64 xb] → (fun W => W.cell? ⟨q, 0, none⟩ = some (.int .u8 kd) ∧ W.cell? ⟨q, 1, none⟩ = some (.int .u64 eh) ∧ W.cell? ⟨q, 2, none⟩ = some (.int .i64 ev) ∧ W.cell? ⟨q, 3, none⟩ = some (.int .i64 ep) ∧ W.cell? ⟨q, 4, none⟩ = some (.int .i64 xa) ∧ W.cell? ⟨q, 5, none⟩ = some (.int .i64 xb)) W) := Lib.hid fun W h => ⟨h.cell 0, h.cell 1, h.cell 2, h.cell 3, h.cell 4, h.cell 5⟩
            have HB0 := Lib.hid (HB5.out.ext (Ext.refl _).drew)
            have HX0 := Lib.hid (Ext.refl w5).drew
            have HNl := Lib.hid (addF_len (e := (hh, ev, ep)) (B := B))
            go_wp2_with fail
            refine wp_region_T (fun W => W.cell? ⟨q, 0, none⟩ = some (.int .u8 kd) ∧ W.cell? ⟨q, 1, none⟩ = some (.int .u64 eh) ∧ W.cell? ⟨q, 2, none⟩ = some (.int .i64 ev) ∧ W.cell? ⟨q, 3, none⟩ = some (.int .i64 ep) ∧ W.cell? ⟨q, 4, none⟩ = some (.int .i64 xa) ∧ W.cell? ⟨q, 5, none⟩ = some (.int .i64 xb)) 9 (by kernel_rfl) (HSx.out _ HB0.out) (fun hHeld => ?_)
            refine wpAnyT_take (i := 0) (v := ?_) rfl (by kernel_rfl) (fun _ _ _ h => h) (Or.inl ⟨by rfl, ?_⟩) hHeld (fun hHeld => ?_)
            rotate_left
            · (intro w hSw; (try dsimp only at hSw); go_simp; try with_reducible rfl)
            try simp only [Act.put, List.setIfInBounds_toArray, List.set_cons_zero, List.set_cons_succ]
            refine wpAnyT_take (i := 1) (v := ?_) rfl (by kernel_rfl) (fun _ _ _ h => h) (Or.inl ⟨by rfl, ?_⟩) hHeld (fun hHeld => ?_)
            rotate_left
            · (intro w hSw; (try dsimp only at hSw); go_simp; try with_reducible rfl)
            try simp only [Act.put, List.setIfInBounds_toArray, List.set_cons_zero, List.set_cons_succ]
            refine wpAnyT_take (i := 4) (v := ?_) rfl (by kernel_rfl) (fun _ _ _ h => h) (Or.inl ⟨by rfl, ?_⟩) hHeld (fun hHeld => ?_)
            rotate_left
            · (intro w hSw; (try dsimp only at hSw); go_simp; try with_reducible rfl)
            try simp only [Act.put, List.setIfInBounds_toArray, List.set_cons_zero, List.set_cons_succ]
            refine wpAnyT_take (i := 5) (v := ?_) rfl (by kernel_rfl) (fun _ _ _ h => h) (Or.inl ⟨by rfl, ?_⟩) hHeld (fun hHeld => ?_)
            rotate_left
            · (intro w hSw; (try dsimp only at hSw); go_simp; try with_reducible rfl)
            try simp only [Act.put, List.setIfInBounds_toArray, List.set_cons_zero, List.set_cons_succ]
            refine wpAnyT_step (i := 2) (by kernel_rfl) rfl (fun K hK => ?_)
            go_simp
            go_at_call 19
            refine (HEn.out _).mono ?_
            rintro e w6 ⟨rfl, hx6⟩
            have HX6 := Lib.hid (HX0.out.trans hx6)
            have HB6 := Lib.hid (HB0.out.ext hx6)
            clear hx6 hHeld
            refine hK.out _ _ (HSx.out _ HB6.out) (fun hHeld => ?_)
            clear hK K
            try simp only [Act.put, List.setIfInBounds_toArray, List.set_cons_zero, List.set_cons_succ]
            refine wpAnyT_step (i := 3) (by kernel_rfl) rfl (fun K hK => ?_)
            go_simp
            go_at_call 17
            refine (HIa.out _ HX6.out).mono ?_
            rintro e w7 ⟨rfl, h7, hs7⟩
            have H7 := Lib.hid h7
            have HB7 := Lib.hid (HB6.out.same (hs7 q (.inr rfl)))
            have HD7 := Lib.hid ((HD5.out.ext HX6.out).same fun i hi => hs7 i (.inl hi))
            clear h7 hs7 hHeld
            refine hK.out _ _ (HSx.out _ HB7.out) (fun hHeld => ?_)
            clear hK K
            try simp only [Act.put, List.setIfInBounds_toArray, List.set_cons_zero, List.set_cons_succ]
            refine wpAnyT_step (i := 6) (by kernel_rfl) rfl (fun K hK => ?_)
            go_simp
            go_at_call 19
            refine (HEn.out _).mono ?_
            rintro e w8 ⟨rfl, hx8⟩
            have H8 := Lib.hid (H7.out.grow hx8)
            have HB8 := Lib.hid (HB7.out.ext hx8)
            have HDa := Lib.hid (docadd_b (HD7.out.ext hx8) (e := (hh, ev, ep)) HEb.out HOk.out.1 HOk.out.2.1 (by omega) (by omega))
            clear hx8 hHeld
            refine hK.out _ _ (HSx.out _ HB8.out) (fun hHeld => ?_)
            clear hK K
            try simp only [Act.put, List.setIfInBounds_toArray, List.set_cons_zero, List.set_cons_succ]
            refine wpAnyT_step (i := 7) (by kernel_rfl) rfl (fun K hK => ?_)
            go_simp
            go_at_call 24
            refine HDa.out.mono ?_
            rintro e w9 ⟨rfl, hoff, vL2, vW2, vG2, vs2, hd9, hn9⟩
            have HP := Lib.hid (PlayI.of (H8.out.doc hoff HGb.out hd9 hn9) (X := noI) (fun i hi => .inl (hi.elim id fun h => h.elim)) hd9 (i := k + 1) (by omega) (by omega) (by omega) (by have := HNl.out; omega))
            have HB9 := Lib.hid (HB8.out.same (hoff.block q HB8.out.lt HQb.out))
            clear hoff hd9 hn9 hHeld
            refine hK.out _ _ (HSx.out _ HB9.out) (fun hHeld => ?_)
            clear hK K
            try simp only [Act.put, List.setIfInBounds_toArray, List.set_cons_zero, List.set_cons_succ]
            refine wpAnyT_take (i := 8) (v := ?_) rfl (by kernel_rfl) (fun _ _ _ h => h) (Or.inl ⟨by rfl, ?_⟩) hHeld (fun hHeld => ?_)
            rotate_left
            · (intro w hSw; (try dsimp only at hSw); go_simp; try with_reducible rfl)
            try simp only [Act.put, List.setIfInBounds_toArray, List.set_cons_zero, List.set_cons_succ]
            refine wpAnyT_end (by kernel_rfl) ?_
            try simp only [List.drop_succ_cons, List.drop_zero]
            clear hHeld
            go_wp2_with fail
            go_meet
            case rel => exact ⟨gx', rfl, HP.out⟩
      case rest =>
        as_aux_lemma =>
          obtain ⟨gx2, rfl, m, ws, B, vL, vW, vG, vs, hI, hD, hm1, hm2⟩ := hcut
          obtain ⟨aw, kw, rfl, hens⟩ := Ens.of_own hD.oW
          obtain ⟨aG, kG, rfl, hgr⟩ := hD.lev.grid
          have HI := Lib.hid hI; have HD := Lib.hid hD; have HGr := Lib.hid hgr
          have HX0 := Lib.hid (Ext.refl wc).drew
          have HSx : Hid (∀ W, Ext wc W → (fun W => W.cell? ⟨gb, 1, none⟩ = some (.slice aw ws.length kw) ∧ W.cell? ⟨gb, 2, none⟩ = some (.int .i64 m.nx) ∧ W.cell? ⟨gb, 3, none⟩ = some (.int .i64 m.ck) ∧ W.cell? ⟨gb, 4, none⟩ = some (.int .u64 m.sd) ∧ W.cell? ⟨gb, 5, none⟩ = some (.slice aG m.L.length kG)) W) := Lib.hid fun W h => ⟨(hD.blk.ext h).cell 1, (hD.blk.ext h).cell 2, (hD.blk.ext h).cell 3, (hD.blk.ext h).cell 4, (hD.blk.ext h).cell 5⟩
          have q1 : IntKind.i64.wrap ((k : Int) + 1) = (k : Int) + 1 := by rw [IntKind.wrap_i64]; omega
          have HMt := Lib.hid (fun W (h : Ext wc W) => (HI.out.grow h).tells)
          have HWt := Lib.hid (fun W (h : Ext wc W) => (HI.out.grow h).waits)
          clear hI hD hens hgr
          go_wp2_with fail
          refine wp_region_T (fun W => W.cell? ⟨gb, 1, none⟩ = some (.slice aw ws.length kw) ∧ W.cell? ⟨gb, 2, none⟩ = some (.int .i64 m.nx) ∧ W.cell? ⟨gb, 3, none⟩ = some (.int .i64 m.ck) ∧ W.cell? ⟨gb, 4, none⟩ = some (.int .u64 m.sd) ∧ W.cell? ⟨gb, 5, none⟩ = some (.slice aG m.L.length kG)) 26 (by kernel_rfl) (HSx.out _ HX0.out) (fun hHeld => ?_)
          refine wpAnyT_take (i := 0) (v := ?_) rfl (by kernel_rfl) (fun _ _ _ h => h) (Or.inl ⟨by rfl, ?_⟩) hHeld (fun hHeld => ?_)
          rotate_left
          · (intro w hSw; (try dsimp only at hSw); go_simp; try with_reducible rfl)
          try simp only [Act.put, List.setIfInBounds_toArray, List.set_cons_zero, List.set_cons_succ]
          refine wpAnyT_take (i := 2) (v := ?_) rfl (by kernel_rfl) (fun _ _ _ h => h) (Or.inl ⟨by rfl, ?_⟩) hHeld (fun hHeld => ?_)
          rotate_left
          · (intro w hSw; (try dsimp only at hSw); go_simp; try with_reducible rfl)
          try simp only [Act.put, List.setIfInBounds_toArray, List.set_cons_zero, List.set_cons_succ]
          refine wpAnyT_take (i := 3) (v := ?_) rfl (by kernel_rfl) (fun _ _ _ h => h) (Or.inl ⟨by rfl, ?_⟩) hHeld (fun hHeld => ?_)
          rotate_left
          · (intro w hSw; (try dsimp only at hSw); go_simp; try with_reducible rfl)
          try simp only [Act.put, List.setIfInBounds_toArray, List.set_cons_zero, List.set_cons_succ]
          refine wpAnyT_take (i := 4) (v := ?_) rfl (by kernel_rfl) (fun _ _ _ h => h) (Or.inl ⟨by rfl, ?_⟩) hHeld (fun hHeld => ?_)
          rotate_left
          · (intro w hSw; (try dsimp only at hSw); go_simp; try with_reducible rfl)
          try simp only [Act.put, List.setIfInBounds_toArray, List.set_cons_zero, List.set_cons_succ]
          refine wpAnyT_take (i := 5) (v := ?_) rfl (by kernel_rfl) (fun _ _ _ h => h) (Or.inl ⟨by rfl, ?_⟩) hHeld (fun hHeld => ?_)
          rotate_left
          · (intro w hSw; (try dsimp only at hSw); go_simp; try with_reducible rfl)
          try simp only [Act.put, List.setIfInBounds_toArray, List.set_cons_zero, List.set_cons_succ]
          refine wpAnyT_step (i := 1) (by kernel_rfl) rfl (fun K hK => ?_)
          go_simp
          go_at_call 16
          refine (HMt.out _ HX0.out).mono ?_
          rintro e w1 ⟨v1, vs1, rfl, hog1, hx1⟩
          obtain ⟨a1, k1, rfl, hg1⟩ := hog1.grid
          have HX1 := Lib.hid (HX0.out.trans hx1)
          have hsm := refmsame_c m.nx m.ck m.sd a1 m.L.length k1 m.L m.nx m.ck m.sd aG m.L.length kG m.L w1 hg1 (HGr.out.ext HX1.out)
          rw [msame_self] at hsm
          have HSm1 := Lib.hid hsm
          clear hog1 hx1 hg1 hsm hHeld
          refine hK.out _ _ (HSx.out _ HX1.out) (fun hHeld => ?_)
          clear hK K
          try simp only [Act.put, List.setIfInBounds_toArray, List.set_cons_zero, List.set_cons_succ]
          refine wpAnyT_step (i := 6) (by kernel_rfl) rfl (fun K hK => ?_)
          go_simp
          go_at_call 25
          refine HSm1.out.mono ?_
          rintro e w2 ⟨rfl, hx2⟩
          have HX2 := Lib.hid (HX1.out.trans hx2)
          clear hx2 hHeld
          refine hK.out _ _ (HSx.out _ HX2.out) (fun hHeld => ?_)
          clear hK K
          try simp only [Act.put, List.setIfInBounds_toArray, List.set_cons_zero, List.set_cons_succ]
          refine wpAnyT_take (i := 7) (v := ?_) rfl (by kernel_rfl) (fun _ _ _ h => h) (Or.inl ⟨by rfl, ?_⟩) hHeld (fun hHeld => ?_)
          rotate_left
          · (intro w hSw; (try dsimp only at hSw); go_simp; try with_reducible rfl)
          try simp only [Act.put, List.setIfInBounds_toArray, List.set_cons_zero, List.set_cons_succ]
          refine wpAnyT_take (i := 8) (v := ?_) rfl (by kernel_rfl) (fun _ _ _ h => h) (Or.inl ⟨by rfl, ?_⟩) hHeld (fun hHeld => ?_)
          rotate_left
          · (intro w hSw; (try dsimp only at hSw); go_simp; try with_reducible rfl)
          try simp only [Act.put, List.setIfInBounds_toArray, List.set_cons_zero, List.set_cons_succ]
          refine wpAnyT_take (i := 9) (v := ?_) rfl (by kernel_rfl) (fun _ _ _ h => h) (Or.inl ⟨by rfl, ?_⟩) hHeld (fun hHeld => ?_)
          rotate_left
          · (intro w hSw; (try dsimp only at hSw); go_simp; try with_reducible rfl)
          try simp only [Act.put, List.setIfInBounds_toArray, List.set_cons_zero, List.set_cons_succ]
          refine wpAnyT_take (i := 11) (v := ?_) rfl (by kernel_rfl) (fun _ _ _ h => h) (Or.inl ⟨by rfl, ?_⟩) hHeld (fun hHeld => ?_)
          rotate_left
          · (intro w hSw; (try dsimp only at hSw); go_simp; try with_reducible rfl)
          try simp only [Act.put, List.setIfInBounds_toArray, List.set_cons_zero, List.set_cons_succ]
          refine wpAnyT_take (i := 12) (v := ?_) rfl (by kernel_rfl) (fun _ _ _ h => h) (Or.inl ⟨by rfl, ?_⟩) hHeld (fun hHeld => ?_)
          rotate_left
          · (intro w hSw; (try dsimp only at hSw); go_simp; try with_reducible rfl)
          try simp only [Act.put, List.setIfInBounds_toArray, List.set_cons_zero, List.set_cons_succ]
          refine wpAnyT_take (i := 13) (v := ?_) rfl (by kernel_rfl) (fun _ _ _ h => h) (Or.inl ⟨by rfl, ?_⟩) hHeld (fun hHeld => ?_)
          rotate_left
          · (intro w hSw; (try dsimp only at hSw); go_simp; try with_reducible rfl)
          try simp only [Act.put, List.setIfInBounds_toArray, List.set_cons_zero, List.set_cons_succ]
          refine wpAnyT_take (i := 14) (v := ?_) rfl (by kernel_rfl) (fun _ _ _ h => h) (Or.inl ⟨by rfl, ?_⟩) hHeld (fun hHeld => ?_)
          rotate_left
          · (intro w hSw; (try dsimp only at hSw); go_simp; try with_reducible rfl)
          try simp only [Act.put, List.setIfInBounds_toArray, List.set_cons_zero, List.set_cons_succ]
          refine wpAnyT_take (i := 15) (v := ?_) rfl (by kernel_rfl) (fun _ _ _ h => h) (Or.inl ⟨by rfl, ?_⟩) hHeld (fun hHeld => ?_)
          rotate_left
          · (intro w hSw; (try dsimp only at hSw); go_simp; try with_reducible rfl)
          try simp only [Act.put, List.setIfInBounds_toArray, List.set_cons_zero, List.set_cons_succ]
          refine wpAnyT_step (i := 10) (by kernel_rfl) rfl (fun K hK => ?_)
          go_simp
          go_at_call 26
          refine (HWt.out _ HX2.out).mono ?_
          rintro e w2' ⟨rfl, rfl⟩
          clear hHeld
          refine hK.out _ _ (HSx.out _ HX2.out) (fun hHeld => ?_)
          clear hK K
          try simp only [Act.put, List.setIfInBounds_toArray, List.set_cons_zero, List.set_cons_succ]
          refine wpAnyT_take (i := 16) (v := ?_) rfl (by kernel_rfl) (fun _ _ _ h => h) (Or.inl ⟨by rfl, ?_⟩) hHeld (fun hHeld => ?_)
          rotate_left
          · (intro w hSw; (try dsimp only at hSw); go_simp; try with_reducible rfl)
          try simp only [Act.put, List.setIfInBounds_toArray, List.set_cons_zero, List.set_cons_succ]
          refine wpAnyT_take (i := 17) (v := ?_) rfl (by kernel_rfl) (fun _ _ _ h => h) (Or.inl ⟨by rfl, ?_⟩) hHeld (fun hHeld => ?_)
          rotate_left
          · (intro w hSw; (try dsimp only at hSw); go_simp; try with_reducible rfl)
          try simp only [Act.put, List.setIfInBounds_toArray, List.set_cons_zero, List.set_cons_succ]
          refine wpAnyT_take (i := 18) (v := ?_) rfl (by kernel_rfl) (fun _ _ _ h => h) (Or.inl ⟨by rfl, ?_⟩) hHeld (fun hHeld => ?_)
          rotate_left
          · (intro w hSw; (try dsimp only at hSw); go_simp; try with_reducible rfl)
          try simp only [Act.put, List.setIfInBounds_toArray, List.set_cons_zero, List.set_cons_succ]
          refine wpAnyT_take (i := 19) (v := ?_) rfl (by kernel_rfl) (fun _ _ _ h => h) (Or.inl ⟨by rfl, ?_⟩) hHeld (fun hHeld => ?_)
          rotate_left
          · (intro w hSw; (try dsimp only at hSw); go_simp; try with_reducible rfl)
          try simp only [Act.put, List.setIfInBounds_toArray, List.set_cons_zero, List.set_cons_succ]
          refine wpAnyT_take (i := 20) (v := ?_) rfl (by kernel_rfl) (fun _ _ _ h => h) (Or.inl ⟨by rfl, ?_⟩) hHeld (fun hHeld => ?_)
          rotate_left
          · (intro w hSw; (try dsimp only at hSw); go_simp; try with_reducible rfl)
          try simp only [Act.put, List.setIfInBounds_toArray, List.set_cons_zero, List.set_cons_succ]
          refine wpAnyT_step (i := 21) (by kernel_rfl) rfl (fun K hK => ?_)
          go_simp
          go_at_call 16
          refine (HMt.out _ HX2.out).mono ?_
          rintro e w3 ⟨v3, vs3, rfl, hog3, hx3⟩
          obtain ⟨a3, k3, rfl, hg3⟩ := hog3.grid
          have HX3 := Lib.hid (HX2.out.trans hx3)
          have HOr := Lib.hid ((HI.out.grow HX3.out).orphans hg3 m.nx m.ck m.sd)
          clear hog3 hx3 hg3 hHeld
          refine hK.out _ _ (HSx.out _ HX3.out) (fun hHeld => ?_)
          clear hK K
          try simp only [Act.put, List.setIfInBounds_toArray, List.set_cons_zero, List.set_cons_succ]
          refine wpAnyT_step (i := 22) (by kernel_rfl) rfl (fun K hK => ?_)
          go_simp
          go_at_call 27
          refine HOr.out.mono ?_
          rintro e w4 ⟨a4, k4, rfl, hx4⟩
          have HX4 := Lib.hid (HX3.out.trans hx4)
          clear hx4 hHeld
          refine hK.out _ _ (HSx.out _ HX4.out) (fun hHeld => ?_)
          clear hK K
          try simp only [Act.put, List.setIfInBounds_toArray, List.set_cons_zero, List.set_cons_succ]
          refine wpAnyT_take (i := 23) (v := ?_) rfl (by kernel_rfl) (fun _ _ _ h => h) (Or.inl ⟨by rfl, ?_⟩) hHeld (fun hHeld => ?_)
          rotate_left
          · (intro w hSw; (try dsimp only at hSw); go_simp; try with_reducible rfl)
          try simp only [Act.put, List.setIfInBounds_toArray, List.set_cons_zero, List.set_cons_succ]
          refine wpAnyT_take (i := 24) (v := ?_) rfl (by kernel_rfl) (fun _ _ _ h => h) (Or.inl ⟨by rfl, ?_⟩) hHeld (fun hHeld => ?_)
          rotate_left
          · (intro w hSw; (try dsimp only at hSw); go_simp; try with_reducible rfl)
          try simp only [Act.put, List.setIfInBounds_toArray, List.set_cons_zero, List.set_cons_succ]
          refine wpAnyT_take (i := 25) (v := ?_) rfl (by kernel_rfl) (fun _ _ _ h => h) (Or.inl ⟨by rfl, ?_⟩) hHeld (fun hHeld => ?_)
          rotate_left
          · (intro w hSw; (try dsimp only at hSw); go_simp; try with_reducible rfl)
          try simp only [Act.put, List.setIfInBounds_toArray, List.set_cons_zero, List.set_cons_succ]
          refine wpAnyT_end (by kernel_rfl) ?_
          try simp only [List.drop_succ_cons, List.drop_zero]
          clear hHeld
          go_wp2_with fail
          go_roundw
          case rel => exact ⟨k + 1, gx2, by omega, rfl, by go_num, m, ws, B, _, _, _, _, HI.out.grow HX4.out, HD.out.ext HX4.out, hm1, hm2⟩
          case measure => simp [intOf]; omega
    · obtain rfl : k = n := by omega
      have hd2 : decide ((k : Int) < (k : Int)) = false := decide_eq_false (by omega)
      have HP1 := Lib.hid (show PlayI w wr g gl gb gx' rate k noI from ⟨m, ws, B, vL, vW, vG, vs, hI, hD, hm1, hm2⟩)
      clear hI hD hm1 hm2
      as_aux_lemma =>
        go_wp2_with fail
        go_loopw [21] (fun i W => ∃ j : Nat, j ≤ 5 ∧ i = .int .i64 (j : Int) ∧ PlayI w W g gl gb gx' rate k noI) (fun i _ => 5 - (intOf i).toNat)
        case atStart => exact ⟨0, by decide, rfl, HP1.out⟩
        case round =>
          obtain ⟨j, hj, rfl, m, ws, B, vL, vW, vG, vs, hI, hD, hm1, hm2⟩ := hrel
          by_cases hjl : j < 5
          · have hd3 : decide ((j : Int) < 5) = true := decide_eq_true (by omega)
            have q1 : IntKind.i64.wrap ((j : Int) + 1) = (j : Int) + 1 := by rw [IntKind.wrap_i64]; omega
            have q2 : IntKind.u64.wrap (j : Int) = (j : Int) := by rw [IntKind.wrap_u64]; omega
            obtain ⟨hh, hhh⟩ : ∃ hh : Int, (j : Int) * 999 = hh := ⟨_, rfl⟩
            have q3 : IntKind.u64.wrap hh = hh := by rw [IntKind.wrap_u64]; omega
            obtain ⟨R, hR⟩ : ∃ R, rangeE B hh (max 0 0) (min 1073741824 1073741824) = R := ⟨_, rfl⟩
            have hr1 := hI.range hh 0 1073741824 (by omega)
            have HDr := Lib.hid (fun (W : World) (k : DocI W gb m ws B vL vW vG vs) => docrange_c k (by omega) hh 0 1073741824)
            rw [hR] at hr1 HDr
            have HIr := Lib.hid hr1
            have HD := Lib.hid hD
            clear hI hD hR hr1
            go_wp2_with fail
            refine HIr.out.mono ?_
            rintro e w7 ⟨v, rfl, h7, hs7, hr7⟩
            obtain ⟨va, vc, rfl, hens7⟩ := Ens.of_own (Own.of_row hr7)
            have H7 := Lib.hid h7
            have hd7 := HD.out.same fun i hi => hs7 i (.inl hi)
            have HD7 := Lib.hid hd7
            have HDr7 := Lib.hid (HDr.out _ hd7)
            have HR7 := Lib.hid hr7
            clear h7 hs7 hr7 hens7 hd7 HIr
            go_wp2_with fail
            refine HDr7.out.mono ?_
            rintro e w8 ⟨v2, rfl, hr8, hx8⟩
            obtain ⟨va2, vc2, rfl, hens8⟩ := Ens.of_own (Own.of_row hr8)
            obtain ⟨_, _, e9, hens7⟩ := Ens.of_own (Own.of_row (row_ext HR7.out hx8))
            cases e9
            have hsm := same18_c w8 hens7 hens8
            rw [decide_eq_true rfl] at hsm
            have HSm2 := Lib.hid hsm
            have HX8 := Lib.hid hx8
            clear hr8 hx8 hens8 hens7 hsm HDr7
            go_wp2_with fail
            refine HSm2.out.mono ?_
            rintro e w9 ⟨rfl, hx9⟩
            have HX9 := Lib.hid (HX8.out.trans hx9)
            have HP := Lib.hid (PlayI.of (H7.out.grow HX9.out) (X := noI) (fun i hi => .inl (hi.elim .inl fun h => h.elim)) (HD7.out.ext HX9.out) (i := k) (by omega) (by omega) hm1 hm2)
            clear hx9
            go_wp2_with fail
            go_roundw
            case rel => exact ⟨j + 1, by omega, by go_num, HP.out⟩
            case measure => simp [intOf]; omega
          · obtain rfl : j = 5 := by omega
            have HX := Lib.hid hI.base
            clear hI hD
            go_wp2_with fail
            refine (HSm.out _).mono ?_
            rintro e w9 ⟨rfl, hb9⟩
            have HX9 := Lib.hid (HX.out.trans hb9)
            clear hb9
            go_wp2_with fail
            go_ret
            exact ⟨rfl, HX9.out⟩
end Go.Proofs.YtmgpffknmmoggaaGreatDoor
