/- Walks: the document's state of bytes. -/
import Derived.Test.YtkkafjknogfdnaaChecked
import Derived.Test.YtkkafjknogfdnaaFJ
import Derived.Test.YtkkafjknogfdnaaFD
import Derived.Test.YtkkafjknogfdnaaFG
namespace Go.Proofs.Ytkkafjknogfdnaa
open Go.RowKit

theorem refget_v {l : List UInt8} {V : Nat} {w : World} (hV : unbe (l.take 8) = V) (hl : l.length ≤ 9223372036854775807) :
    Calls Try.prog 79 #[.string ⟨l.toArray⟩] w fun e w' => e = .returned (.int .u64 (V : Int)) ∧ Ext w w' := by
  subst hV; exact refget_c l w hl

theorem refget_i {l : List UInt8} {V : Int} {w : World} (hV : ((unbe (l.take 8) : Nat) : Int) = V) (hl : l.length ≤ 9223372036854775807) :
    Calls Try.prog 79 #[.string ⟨l.toArray⟩] w fun e w' => e = .returned (.int .u64 V) ∧ Ext w w' := by
  subst hV; exact refget_c l w hl

/-- the document's way: the kinds that stand there, or none -/
def rkdG : Nat → List UInt8 → List Kd → Option (List Kd)
  | 0, _, acc => some acc
  | i + 1, s, acc =>
    if rdOk s = true ∧ 12 ≤ (rdR s).length then rkdG i ((rdR s).drop 12) (acc ++ [⟨rdT s, unbe ((rdR s).take 4), ((unbe (((rdR s).take 12).drop 4) : Nat) : Int) % 4611686018427387904⟩])
    else none

/-- what is said there: the number of events, and the kinds -/
def rfparse (t : List UInt8) : Option (Int × List Kd) :=
  if 6 ≤ t.length then (rkdG (unbe ((t.take 6).drop 4)) (t.drop 6) []).map fun K => ((unbe (t.take 4) : Nat), K) else some (0, [])
open Classical in
noncomputable def rfgetS (s : List UInt8) : GotS :=
  match rfparse (openT s) with
  | none => badS
  | some (nx, K) => if fputS nx K = (s, 0) then ⟨nx, K, 0⟩ else badS

theorem rfget_none {s : List UInt8} (h : rfparse (openT s) = none) : rfgetS s = badS := by unfold rfgetS; rw [h]
theorem rfget_yes {s : List UInt8} {nx : Int} {K : List Kd} (h : rfparse (openT s) = some (nx, K)) (h2 : fputS nx K = (s, 0)) : rfgetS s = ⟨nx, K, 0⟩ := by unfold rfgetS; rw [h]; simp only; rw [if_pos h2]
theorem rfget_no {s : List UInt8} {nx : Int} {K : List Kd} (h : rfparse (openT s) = some (nx, K)) (h2 : fputS nx K ≠ (s, 0)) : rfgetS s = badS := by unfold rfgetS; rw [h]; simp only; rw [if_neg h2]

theorem unbe_take_b (l : List UInt8) (k : Nat) : unbe (l.take k) < 256 ^ k := by
  have := unbe_lt (l.take k)
  exact Nat.lt_of_lt_of_le this (Nat.pow_le_pow_right (by decide) (List.length_take_le _ _))

set_option maxRecDepth 100000 in
set_option maxHeartbeats 6400000 in
theorem reffget_c (s : List UInt8) (w : World) (hl : s.length ≤ 1000000) :
    Calls Try.prog 50 #[.string ⟨s.toArray⟩] w (RetSE w 104 (rfgetS s)) := by
  have HGn : Hid (rfparse (openT s) = none → rfgetS s = badS) := Lib.hid rfget_none
  have HGy : Hid (∀ nx K, rfparse (openT s) = some (nx, K) → fputS nx K = (s, 0) → rfgetS s = ⟨nx, K, 0⟩) := Lib.hid (fun _ _ => rfget_yes)
  have HGb : Hid (∀ nx K, rfparse (openT s) = some (nx, K) → fputS nx K ≠ (s, 0) → rfgetS s = badS) := Lib.hid (fun _ _ => rfget_no)
  have hot : (openT s).length ≤ s.length := by unfold openT; split <;> simp
  obtain ⟨i, hi, hz, hsize, hby⟩ := info_parts Try.infoKd
  have HI := Lib.hid hi; have HZ := Lib.hid hz; have HSz := Lib.hid hsize; have HBy := Lib.hid hby
  clear hi hz hsize hby
  obtain ⟨t, ht⟩ : ∃ t, openT s = t := ⟨_, rfl⟩
  rw [ht] at HGn HGy HGb hot
  have HT := Lib.hid ht
  clear ht
  go_enter Try.func50, Try.ntmps50
  go_wp2_with fail
  refine (refopen_c s _ (by omega)).mono ?_
  rw [HT.out]
  rintro e w1 ⟨rfl, hb1⟩
  have HB1 := Lib.hid hb1
  have HG0 : Hid (Blk w1 w.heap.size 61 #[.int .i64 0, .slice none 0 0]) := Lib.hid ((Blk.new w _ _).ext hb1)
  have hsz1 : w.heap.size < w1.heap.size := HG0.out.lt
  clear hb1
  by_cases h6 : 6 ≤ (t.length : Int)
  case neg =>
    have HP0 : Hid (rfparse t = some (0, [])) := Lib.hid (by unfold rfparse; rw [if_neg (by omega)])
    have h6' : (t.length : Int) < 6 := by omega
    have hg0 := HG0.out.ext (ext_a1 w1 (.cells #[.int .i64 0, .slice none 0 0] 61))
    have x0 := hg0.cell 0; have x1 := hg0.cell 1; have y0 := hg0.free 0; have y1 := hg0.free 1
    have HG1 := Lib.hid hg0
    have d0 := (Blk.new w1 61 #[.int .i64 0, .slice none 0 0]).cell 0; have d1 := (Blk.new w1 61 #[.int .i64 0, .slice none 0 0]).cell 1
    have HEx : Hid (Ext w (w1.alloc (.cells #[.int .i64 0, .slice none 0 0] 61))) := Lib.hid (((ext_a1 w (.cells #[.int .i64 0, .slice none 0 0] 61)).trans HB1.out).trans (ext_a1 w1 _))
    have hrow0 : (w1.alloc (.cells #[.int .i64 0, .slice none 0 0] 61)).ownsRow w.heap.size 104 3 (.slice none 0 0) 0 (kcs []) := World.ownsRow_nil _ _ _ _
    have HRow0 := Lib.hid hrow0
    clear hg0 h6 hrow0
    simp only [List.getElem?_toArray, List.getElem?_cons_zero, List.getElem?_cons_succ] at x0 x1 d0 d1
    go_wp2_with fail
    refine (reffput_c 0 _ _ _ [] _ (Kds.empty _)).mono ?_
    obtain ⟨P, hP⟩ : ∃ P, fputS 0 [] = P := ⟨_, rfl⟩
    have HPP := Lib.hid hP
    rw [hP]; clear hP
    rintro e w9 ⟨rfl, hb9⟩
    have u0 := cell_ext hb9 x0; have u1 := cell_ext hb9 x1; have z0 := frozen_ext hb9 x0 y0; have z1 := frozen_ext hb9 x1 y1
    have f0 := cell_ext hb9 d0; have f1 := cell_ext hb9 d1
    have HE9 := Lib.hid (HEx.out.trans hb9)
    have HRow9 := Lib.hid (row_ext HRow0.out hb9)
    have HG9 := Lib.hid (HG1.out.ext hb9)
    clear hb9 x0 x1 y0 y1 d0 d1
    obtain ⟨P1, P2⟩ := P
    by_cases hps : P1 = s ∧ P2 = 0
    · obtain ⟨rfl, rfl⟩ := hps
      have HS := Lib.hid (HGy.out _ _ HP0.out HPP.out)
      go_wp2_with fail
      ((try simp only [Exit.inBlock, Exit.then]); refine bodyPost_ret (v := .tuple #[.agg #[_, _], _]) (by rw [results_cell_tmp rfl]; go_simp; exact ⟨⟨rfl, rfl⟩, rfl⟩) rfl ?_)
      rw [HS.out]
      have hne : (Value.slice none 0 0).ownBlock ≠ some w.heap.size := HG9.out.apart HRow9.out (by decide)
      exact ⟨Value.slice none 0 0, rfl, row_setOther (row_setOther (row_base HRow9.out (by omega)) _ hne) _ hne, ext_set2 HE9.out _ (Nat.le_refl _) _ _⟩
    have HS := Lib.hid (HGb.out _ _ HP0.out (by rw [HPP.out]; intro e; cases e; exact hps ⟨rfl, rfl⟩))
    by_cases hp2 : P2 = 0
    · subst hp2
      have hps' : (P1 == s) = false := by simpa using hps
      have hps2 : (P1 != s) = true := by simpa using hps
      clear hps
      go_wp2_with fail
      ((try simp only [Exit.inBlock, Exit.then]); refine bodyPost_ret (v := .tuple #[.agg #[_, _], _]) (by rw [results_cell_tmp rfl]; go_simp; exact ⟨⟨rfl, rfl⟩, rfl⟩) rfl ?_)
      rw [HS.out]
      exact ⟨.slice none 0 0, rfl, World.ownsRow_nil _ _ _ _, ext_set2 HE9.out _ (Nat.le_refl _) _ _⟩
    · have hp2' : (P2 == 0) = false := by simpa using hp2
      have hp3 : (P2 != 0) = true := by simpa using hp2
      clear hps
      go_wp2_with fail
      ((try simp only [Exit.inBlock, Exit.then]); refine bodyPost_ret (v := .tuple #[.agg #[_, _], _]) (by rw [results_cell_tmp rfl]; go_simp; exact ⟨⟨rfl, rfl⟩, rfl⟩) rfl ?_)
      rw [HS.out]
      exact ⟨.slice none 0 0, rfl, World.ownsRow_nil _ _ _ _, ext_set2 HE9.out _ (Nat.le_refl _) _ _⟩
  have h6n : 6 ≤ t.length := by omega
  obtain ⟨nx, hnx⟩ : ∃ v, unbe (t.take 4) = v := ⟨_, rfl⟩
  obtain ⟨c, hc⟩ : ∃ v, unbe ((t.take 6).drop 4) = v := ⟨_, rfl⟩
  obtain ⟨r0, hr0⟩ : ∃ v, t.drop 6 = v := ⟨_, rfl⟩
  have HP : Hid (∀ K, rkdG c r0 [] = some K → rfparse t = some ((nx : Int), K)) := Lib.hid (fun K h => by unfold rfparse; rw [if_pos h6n, hnx, hc, hr0, h]; rfl)
  have HPn : Hid (rkdG c r0 [] = none → rfparse t = none) := Lib.hid (fun h => by unfold rfparse; rw [if_pos h6n, hc, hr0, h]; rfl)
  have hnx4 : (nx : Int) ≤ 4294967295 := by have := unbe_take_b t 4; rw [hnx] at this; omega
  have hc2 : (c : Int) ≤ 65535 := by
    have := unbe_lt ((t.take 6).drop 4)
    rw [List.length_drop, List.length_take, Nat.min_eq_left h6n, hc] at this; omega
  have hr0l : r0.length ≤ s.length := by rw [← hr0, List.length_drop]; omega
  have HR0l := Lib.hid hr0l
  have HV1 : Hid (unbe ((t.take 4).take 8) = nx) := Lib.hid (by rw [List.take_take]; exact hnx)
  have HV2 : Hid (unbe (((t.take 6).drop 4).take 8) = c) := Lib.hid (by rw [List.take_of_length_le (by simp; omega)]; exact hc)
  have HL1 : Hid ((t.take 4).length ≤ 9223372036854775807) := Lib.hid (by simp; omega)
  have HL2 : Hid (((t.take 6).drop 4).length ≤ 9223372036854775807) := Lib.hid (by simp; omega)
  clear hnx hc hr0l
  go_wp2_with fail
  refine (refget_v HV1.out HL1.out).mono ?_
  rintro e w2 ⟨rfl, hb2⟩
  have HX2 : Hid (Ext w1 w2) := Lib.hid ((ext_a1 w1 (.cells #[.int .i64 0, .slice none 0 0] 61)).trans hb2)
  have HS2 : Hid (Blk w2 w1.heap.size 61 #[.int .i64 0, .slice none 0 0]) := Lib.hid ((Blk.new w1 _ _).ext hb2)
  have z2 : w2.cell? ⟨w1.heap.size, 0, none⟩ = some (.int .i64 0) := HS2.out.cell 0
  have z3 := HS2.out.free 0
  have hsz2 : w1.heap.size < w2.heap.size := HS2.out.lt
  clear hb2
  go_wp2_with fail
  refine (refget_v HV2.out HL2.out).mono ?_
  rintro e w3 ⟨rfl, hb3⟩
  have HX3 : Hid (Ext w1 w3) := Lib.hid ((HX2.out.trans (Ext.refl w2)).setCell (p := ⟨w1.heap.size, 0, none⟩) (Nat.le_refl _) (.int .i64 nx) |>.trans (Below.mono hb3 (by simp [World.setCell]; omega)))
  have HS3 : Hid (Blk w3 w1.heap.size 61 #[.int .i64 nx, .slice none 0 0]) := Lib.hid ((HS2.out.set 0 (.int .i64 nx)).ext hb3)
  have hsz3 : w1.heap.size < w3.heap.size := HS3.out.lt
  clear hb3 z2 z3
  go_wp2_with fail
  clear HV1 HV2 HL1 HL2 h6 h6n hr0
  go_loopw [4, 8] (fun tv i w' => ∃ (j : Nat) (rs : List UInt8) (K : List Kd) (v : Value), j ≤ c ∧ K.length = j ∧ i = .int .i64 j ∧ tv = .string ⟨rs.toArray⟩ ∧ rkdG (c - j) rs K = rkdG c r0 [] ∧ rs.length ≤ s.length ∧ Blk w' w1.heap.size 61 #[.int .i64 nx, v] ∧ w'.ownsRow w3.heap.size 104 3 v K.length (kcs K) ∧ w3.heap.size ≤ w'.heap.size ∧ Ext w1 w') (fun _ i _ => c - (intOf i).toNat)
  case atStart => exact ⟨0, r0, [], _, Nat.zero_le _, rfl, rfl, rfl, rfl, HR0l.out, HS3.out, World.ownsRow_nil _ _ _ _, Nat.le_refl _, HX3.out⟩
  case round =>
    obtain ⟨j, rs, K, v, hj, hkj, rfl, rfl, hkd, hrl, hst, hrow, hsz, hb⟩ := hrel
    obtain ⟨av, cv, rfl⟩ := row_slice hrow
    have HKd := Lib.hid hkd; have HRl := Lib.hid hrl; have HSt := Lib.hid hst; have HRow := Lib.hid hrow; have HSz3 := Lib.hid hsz; have Hb := Lib.hid hb; have HKj := Lib.hid hkj
    have hK5 : (K.length : Int) ≤ 65535 := by omega
    have hrl2 : rs.length ≤ 4611686018427387903 := by omega
    clear hkd hrl hst hrow hsz hb hkj
    by_cases hjc : j < c
    · go_wp2_with fail
      refine (refread_c rs _ hrl2).mono ?_
      obtain ⟨T, hT⟩ : ∃ v, rdT rs = v := ⟨_, rfl⟩
      obtain ⟨R, hR⟩ : ∃ v, rdR rs = v := ⟨_, rfl⟩
      obtain ⟨ok, hok⟩ : ∃ v, rdOk rs = v := ⟨_, rfl⟩
      have HNx : Hid (rkdG (c - j) rs K = if ok = true ∧ 12 ≤ R.length then rkdG (c - (j + 1)) (R.drop 12) (K ++ [⟨T, unbe (R.take 4), ((unbe ((R.take 12).drop 4) : Nat) : Int) % 4611686018427387904⟩]) else none) := Lib.hid (by
        have e : c - j = (c - (j + 1)) + 1 := by omega
        rw [e, rkdG, hT, hR, hok])
      have hRl : R.length ≤ s.length := by rw [← hR]; exact Nat.le_trans (rdR_le _) HRl.out
      rw [hT, hR, hok]
      have HRl2 := Lib.hid hRl
      have hRb : (R.length : Int) ≤ 1000000 := by omega
      clear hT hR hok hRl
      rintro e w4 ⟨rfl, hb4⟩
      have hg0 := (HG0.out.ext Hb.out).ext hb4
      have x0 := hg0.cell 0; have x1 := hg0.cell 1; have y0 := hg0.free 0; have y1 := hg0.free 1
      simp only [List.getElem?_toArray, List.getElem?_cons_zero, List.getElem?_cons_succ] at x0 x1
      have HEx : Hid (Ext w w4) := Lib.hid ((ext_a1 w (.cells #[.int .i64 0, .slice none 0 0] 61)).trans (HB1.out.trans (Hb.out.trans hb4)))
      have HSt4 := Lib.hid (HSt.out.ext hb4); have HRow4 := Lib.hid (row_ext HRow.out hb4); have HX4 := Lib.hid (Hb.out.trans hb4); have HZ4 : Hid (w3.heap.size ≤ w4.heap.size) := Lib.hid (Nat.le_trans HSz3.out hb4.size)
      clear hb4 hg0
      by_cases hgo : ok = true ∧ 12 ≤ R.length
      case neg =>
        have HS : Hid (rfgetS s = badS) := Lib.hid (HGn.out (HPn.out (by rw [← HKd.out, HNx.out, if_neg hgo])))
        cases ok with
        | false =>
          clear hgo
          go_wp2_with fail
          ((try simp only [Exit.inBlock, Exit.then]); refine bodyPost_ret (v := .tuple #[.agg #[_, _], _]) (by rw [results_cell_tmp rfl]; go_simp; exact ⟨⟨rfl, rfl⟩, rfl⟩) rfl ?_)
          rw [HS.out]
          exact ⟨.slice none 0 0, rfl, World.ownsRow_nil _ _ _ _, ext_set2 HEx.out _ (Nat.le_refl _) _ _⟩
        | true =>
          have hR12 : (R.length : Int) < 12 := by
            rcases Nat.lt_or_ge R.length 12 with h | h
            · omega
            · exact absurd ⟨rfl, h⟩ hgo
          clear hgo
          go_wp2_with fail
          ((try simp only [Exit.inBlock, Exit.then]); refine bodyPost_ret (v := .tuple #[.agg #[_, _], _]) (by rw [results_cell_tmp rfl]; go_simp; exact ⟨⟨rfl, rfl⟩, rfl⟩) rfl ?_)
          rw [HS.out]
          exact ⟨.slice none 0 0, rfl, World.ownsRow_nil _ _ _ _, ext_set2 HEx.out _ (Nat.le_refl _) _ _⟩
      obtain ⟨rfl, hR12⟩ := hgo
      have hR12' : 12 ≤ (R.length : Int) := by omega
      have hR4 : 4 ≤ (R.length : Int) := by omega
      obtain ⟨L4, hL4⟩ : ∃ v, R.take 4 = v := ⟨_, rfl⟩
      obtain ⟨L8, hL8⟩ : ∃ v, (R.take 12).drop 4 = v := ⟨_, rfl⟩
      obtain ⟨mm, hmm⟩ : ∃ v : Int, ((unbe L4 : Nat) : Int) = v := ⟨_, rfl⟩
      obtain ⟨V8, hV8⟩ : ∃ v : Int, ((unbe L8 : Nat) : Int) = v := ⟨_, rfl⟩
      obtain ⟨bv, hbv⟩ : ∃ v : Int, V8 % 4611686018427387904 = v := ⟨_, rfl⟩
      have HNext : Hid (rkdG (c - (j + 1)) (R.drop 12) (K ++ [⟨T, mm, bv⟩]) = rkdG c r0 []) := Lib.hid (by rw [← HKd.out, HNx.out, if_pos ⟨rfl, hR12⟩, hL4, hL8, hmm, hV8, hbv])
      have l4 : L4.length = 4 := by rw [← hL4, List.length_take]; omega
      have l8 : L8.length = 8 := by rw [← hL8, List.length_drop, List.length_take]; omega
      have HM4 : Hid (((unbe (L4.take 8) : Nat) : Int) = mm) := Lib.hid (by rw [List.take_of_length_le (by omega)]; exact hmm)
      have HM8 : Hid (((unbe (L8.take 8) : Nat) : Int) = V8) := Lib.hid (by rw [List.take_of_length_le (by omega)]; exact hV8)
      have HL4 : Hid (L4.length ≤ 9223372036854775807) := Lib.hid (by omega)
      have HL8 : Hid (L8.length ≤ 9223372036854775807) := Lib.hid (by omega)
      have mm0 : 0 ≤ mm := by omega
      have mm1 : mm ≤ 4294967295 := by have := unbe_lt L4; rw [l4] at this; omega
      have v80 : 0 ≤ V8 := by omega
      have v81 : V8 ≤ 18446744073709551615 := by have := unbe_lt L8; rw [l8] at this; omega
      have HLd : Hid ((R.drop 12).length ≤ s.length) := Lib.hid (by rw [List.length_drop]; have := HRl2.out; omega)
      have hvm0 : 0 ≤ bv := by omega
      have hvm1 : bv ≤ 4611686018427387903 := by omega
      have htm : V8.tmod 4611686018427387904 = bv := by rw [← hbv]; exact Int.tmod_eq_emod_of_nonneg v80
      have hwb : IntKind.i64.wrap bv = bv := IntWalk.i64_in _ (by omega)
      have hwm : IntKind.i64.wrap mm = mm := IntWalk.i64_in _ (by omega)
      clear hbv
      have HSW : Hid (Blk w4.drew w1.heap.size 61 #[.int .i64 nx, .slice av K.length cv]) := Lib.hid HSt4.out.drew
      have HRowW : Hid (w4.drew.ownsRow w3.heap.size 104 3 (.slice av K.length cv) K.length (kcs K)) := Lib.hid (row_drew HRow4.out)
      have HXW : Hid (Ext w1 w4.drew) := Lib.hid HX4.out.drew
      have HZW : Hid (w3.heap.size ≤ w4.drew.heap.size) := HZ4
      have HNeS : Hid ((Value.slice av K.length cv).ownBlock ≠ some w1.heap.size) := Lib.hid (fun e => by have := (row_lt HRow4.out _ e).1; omega)
      have d1 : w4.cell? ⟨w1.heap.size, 1, none⟩ = some (.slice av K.length cv) := HSt4.out.cell 1
      clear hmm hV8 l4 l8 hR12 x0 x1 y0 y1 hrl2 HNx HKd
      go_wp2_with fail
      go_region_law (first | (refine step_append_lies _ rfl (.tmp 54) (.tmp 66) 59 rfl w3.heap.size 104 i _ 3 32 Try.underlying59 HI.out HZ.out HSz.out HBy.out (by decide) (by decide) _ K.length (kcs K) (by simp [Act.eval]) HRW.out ⟨wb.heap.size, 0, none⟩ 1 1 (kc ⟨T, mm, bv⟩) (by simp [Act.eval]) rfl (news_new _ _ _) (kc_one _) (by decide) (by unfold maxLen; omega) (by omega) (by simp; omega) _ rfl ?_; intro g cap1 w5 hown hgrow hat hlt2; have HB5 := Lib.hid (HKW.out.same (hgrow.block _ HKW.out.lt (fun e => HNeS.out e.symm))); have HOw := Lib.hid hown; have HGr := Lib.hid hgrow; have m1 : w5.cell? ⟨w1.heap.size, 1, none⟩ = some (.slice av K.length cv) := HB5.out.cell 1; have m2 := HB5.out.free 1; clear hown hgrow hat) | (go_simp; first | (go_at_call_of 79 L4; refine (refget_i HM4.out HL4.out).mono ?_; rintro e wa ⟨rfl, hba⟩; have HSa := Lib.hid (HSW.out.ext hba); have HRowa := Lib.hid (row_ext HRowW.out hba); have HXa : Hid (Ext w1 wa) := Lib.hid (HXW.out.trans hba); have HZa : Hid (w3.heap.size ≤ wa.heap.size) := Lib.hid (Nat.le_trans HZW.out hba.size); have ea : wa.cell? ⟨w1.heap.size, 1, none⟩ = some (.slice av K.length cv) := HSa.out.cell 1; clear hba) | (go_at_call_of 79 L8; refine (refget_i HM8.out HL8.out).mono ?_; rintro e wb ⟨rfl, hbb⟩; have HSb := Lib.hid (HSa.out.ext hbb); have HRowb := Lib.hid (row_ext HRowa.out hbb); have HXb : Hid (Ext w1 wb) := Lib.hid (HXa.out.trans hbb); have HZb : Hid (w3.heap.size ≤ wb.heap.size) := Lib.hid (Nat.le_trans HZa.out hbb.size); have eb : wb.cell? ⟨w1.heap.size, 1, none⟩ = some (.slice av K.length cv) := HSb.out.cell 1; clear hbb; have HRW : Hid ((wb.alloc (.cells #[.string ⟨T.toArray⟩, .int .i64 mm, .int .i64 bv] 104)).ownsRow w3.heap.size 104 3 (.slice av K.length cv) K.length (kcs K)) := Lib.hid (row_ext HRowb.out (ext_a1 _ _)); have HKW : Hid (Blk (wb.alloc (.cells #[.string ⟨T.toArray⟩, .int .i64 mm, .int .i64 bv] 104)) w1.heap.size 61 #[.int .i64 nx, .slice av K.length cv]) := Lib.hid (HSb.out.ext (ext_a1 _ _)); have hzb := HZb.out; have hlb : w1.heap.size < wb.heap.size := HSb.out.lt; have hnb : w1.heap.size ≠ wb.heap.size := Nat.ne_of_lt hlb)))
      all_goals
        have hbel : Below w1.heap.size w1 w5 := (HXb.out.trans (ext_a1 wb (.cells #[.string ⟨T.toArray⟩, .int .i64 mm, .int .i64 bv] 104)) : Below w1.heap.size w1 _).grown HGr.out (HXb.out.trans (ext_a1 wb (.cells #[.string ⟨T.toArray⟩, .int .i64 mm, .int .i64 bv] 104))).size (fun q hq => Nat.le_trans (by omega) (row_lt HRW.out q hq).1)
        have HBel := Lib.hid hbel
        have hs5 := HGr.out.size
        have HS5 : Hid (w3.heap.size ≤ w5.heap.size) := Lib.hid (by simp at hs5; omega)
        clear hbel hs5 hL4 hL8 htm hwb hwm
        go_wp2_with fail
        go_roundw
        case rel =>
          refine ⟨j + 1, R.drop 12, K ++ [⟨T, mm, bv⟩], .slice (some ⟨g, 0, none⟩) (K.length + 1) cap1, by omega, by simp [HKj.out], by go_num, rfl, HNext.out, HLd.out, HB5.out.set 1 _, ?_, by have := (Off.set (g := w1.heap.size) w5 1 (.slice (some ⟨g, 0, none⟩) (K.length + 1) cap1)).size; have := HS5.out; omega, Below.setCell HBel.out (p := ⟨w1.heap.size, 1, none⟩) (by show _ ≤ w1.heap.size; omega) _⟩
          rw [kcs_snoc, List.length_append]
          exact row_setOther HOw.out _ (HB5.out.apart HOw.out (by decide))
        case measure => simp [intOf]; omega
    · have hjc' : j = c := by omega
      have HPs : Hid (rfparse t = some ((nx : Int), K)) := Lib.hid (HP.out K (by rw [← HKd.out, hjc', Nat.sub_self]; rfl))
      have hg0 := HG0.out.ext Hb.out
      have x0 := hg0.cell 0; have x1 := hg0.cell 1; have y0 := hg0.free 0; have y1 := hg0.free 1
      have d0 := HSt.out.cell 0; have d1 := HSt.out.cell 1
      simp only [List.getElem?_toArray, List.getElem?_cons_zero, List.getElem?_cons_succ] at x0 x1 d0 d1
      have HG1 := Lib.hid hg0
      have HEx : Hid (Ext w wr) := Lib.hid ((ext_a1 w (.cells #[.int .i64 0, .slice none 0 0] 61)).trans (HB1.out.trans Hb.out))
      obtain ⟨av', cv', hk1, hks⟩ := Kds.of_own (Own.of_row HRow.out)
      cases hk1
      have HKs := Lib.hid hks
      clear hg0 hjc' hks hrl2
      go_wp2_with fail
      refine (reffput_c (nx : Int) _ _ _ K _ HKs.out).mono ?_
      obtain ⟨P, hP⟩ : ∃ P, fputS (nx : Int) K = P := ⟨_, rfl⟩
      have HPP := Lib.hid hP
      rw [hP]; clear hP
      rintro e w9 ⟨rfl, hb9⟩
      have u0 := cell_ext hb9 x0; have u1 := cell_ext hb9 x1; have z0 := frozen_ext hb9 x0 y0; have z1 := frozen_ext hb9 x1 y1
      have f0 := cell_ext hb9 d0; have f1 := cell_ext hb9 d1
      have HE9 := Lib.hid (HEx.out.trans hb9)
      have HRow9 := Lib.hid (row_ext HRow.out hb9)
      have HG9 := Lib.hid (HG1.out.ext hb9)
      clear hb9 x0 x1 y0 y1 d0 d1
      obtain ⟨P1, P2⟩ := P
      by_cases hps : P1 = s ∧ P2 = 0
      · obtain ⟨rfl, rfl⟩ := hps
        have HS := Lib.hid (HGy.out _ _ HPs.out HPP.out)
        go_wp2_with fail
        ((try simp only [Exit.inBlock, Exit.then]); refine bodyPost_ret (v := .tuple #[.agg #[_, _], _]) (by rw [results_cell_tmp rfl]; go_simp; exact ⟨⟨rfl, rfl⟩, rfl⟩) rfl ?_)
        rw [HS.out]
        have hne : (Value.slice av K.length cv).ownBlock ≠ some w.heap.size := HG9.out.apart HRow9.out (by decide)
        exact ⟨Value.slice av K.length cv, rfl, row_setOther (row_setOther (row_base HRow9.out (by omega)) _ hne) _ hne, ext_set2 HE9.out _ (Nat.le_refl _) _ _⟩
      have HS := Lib.hid (HGb.out _ _ HPs.out (by rw [HPP.out]; intro e; cases e; exact hps ⟨rfl, rfl⟩))
      by_cases hp2 : P2 = 0
      · subst hp2
        have hps' : (P1 == s) = false := by simpa using hps
        have hps2 : (P1 != s) = true := by simpa using hps
        clear hps
        go_wp2_with fail
        ((try simp only [Exit.inBlock, Exit.then]); refine bodyPost_ret (v := .tuple #[.agg #[_, _], _]) (by rw [results_cell_tmp rfl]; go_simp; exact ⟨⟨rfl, rfl⟩, rfl⟩) rfl ?_)
        rw [HS.out]
        exact ⟨.slice none 0 0, rfl, World.ownsRow_nil _ _ _ _, ext_set2 HE9.out _ (Nat.le_refl _) _ _⟩
      · have hp2' : (P2 == 0) = false := by simpa using hp2
        have hp3 : (P2 != 0) = true := by simpa using hp2
        clear hps
        go_wp2_with fail
        ((try simp only [Exit.inBlock, Exit.then]); refine bodyPost_ret (v := .tuple #[.agg #[_, _], _]) (by rw [results_cell_tmp rfl]; go_simp; exact ⟨⟨rfl, rfl⟩, rfl⟩) rfl ?_)
        rw [HS.out]
        exact ⟨.slice none 0 0, rfl, World.ownsRow_nil _ _ _ _, ext_set2 HE9.out _ (Nat.le_refl _) _ _⟩

end Go.Proofs.Ytkkafjknogfdnaa
