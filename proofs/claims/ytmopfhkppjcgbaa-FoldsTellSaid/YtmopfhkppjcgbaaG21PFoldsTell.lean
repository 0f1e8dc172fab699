/- Walks: the law FoldsTell. -/
import Derived.Test.YtmopfhkppjcgbaaG19PFoldsTell
import Derived.Test.YtmopfhkppjcgbaaG8PFoldsTell
import Derived.Test.YtmopfhkppjcgbaaG20PFoldsTell
import Derived.Test.YtmopfhkppjcgbaaG12PFoldsTell
import Derived.Deep.RegionHeld3
set_option linter.unusedVariables false
set_option linter.unusedSimpArgs false
namespace Go.Proofs.Ytmopfhkppjcgbaa
open Go.RowKit

set_option maxRecDepth 100000
set_option linter.unusedVariables false
set_option maxHeartbeats 12800000

theorem run_store_floatQ (P : Program) (w : World) (a : Addr) (m : Mode) (k : FloatKind) (b : Nat) : (store a (.float k b) m).run P w = stored P w a (.float k b) m := run_store P w a _ m rfl
attribute [local go_sem] run_store_floatQ

theorem step_same (nx : Int) (K : List Kd) (x : Td) : (if checkN nx K = 0 then foldS nx K [x] else (0, [], checkN nx K)) = stepD nx K x := by
  rcases check_cases nx K with hc | hc
  · rw [hc, if_pos rfl, stepD_eq (check_ok hc)]; rfl
  · rw [hc, if_neg (by decide)]
    unfold stepD
    rw [hc, if_pos (by decide)]
theorem addK_length (K : List Kd) (t : List UInt8) (d : Int) : (addK K t d).length ≤ K.length + 1 := by
  unfold addK
  have := lbK_le K t
  split
  · simp
  · simp; omega
theorem foldS_length : ∀ (L : List Td) (nx : Int) (K : List Kd), (foldS nx K L).2.1.length ≤ K.length + L.length
  | [], nx, K => Nat.le_refl _
  | x :: r, nx, K => by
    unfold foldS
    split
    · have h1 := foldS_length r (nx + 1) (addK K x.t x.d.length)
      have h2 := addK_length K x.t x.d.length
      rw [List.length_cons]; omega
    · simp
theorem foldZ_length (nx : Int) (K : List Kd) (L : List Td) : (if checkN nx K = 0 then foldS nx K L else (0, [], checkN nx K)).2.1.length ≤ K.length + L.length := by
  split
  · exact foldS_length L nx K
  · simp

theorem RetS.open {w w' : World} {e : Ending} {t : TypeId} {nx : Int} {K : List Kd} (h : RetS w t nx K e w') : ∃ a c, e = .returned (.agg #[.int .i64 nx, .slice a K.length c]) ∧ Kds w' a K.length c K ∧ Ext w w' ∧ ∀ q o p, a = some ⟨q, o, p⟩ → q < w'.heap.size := by
  obtain ⟨v, rfl, hrow, hb⟩ := h
  obtain ⟨a, c, rfl, hk⟩ := Kds.of_own (Own.of_row hrow)
  exact ⟨a, c, rfl, hk, hb, fun q o p h => (row_lt hrow q (by rw [h]; rfl)).2⟩

theorem tell_c (nx : Int) (ao lo : Option Addr) (n cap m lcap : Nat) (K : List Kd) (L : List Td) (w : World) (hx : Kds w ao n cap K) (htx : ∀ j, j < n → (K.getD j kd0).t.length ≤ 9223372036854775807) (hl : TDs w lo m lcap L)
    (hL : ∀ x ∈ L, x.s.length ≤ 9223372036854775807 ∧ x.t.length ≤ 9223372036854775807 ∧ x.d.length ≤ 9223372036854775807) :
    Calls Try.prog 3 #[.agg #[.int .i64 nx, .slice ao n cap], .slice lo m lcap] w fun e w' => e = .returned (.bool true) ∧ Ext w w' := by
  obtain rfl : K.length = n := hx.len
  obtain rfl : L.length = m := hl.len
  have HFd := Lib.hid folded_c
  have HK := Lib.hid hx; have HL := Lib.hid hl
  have HG1 := Lib.hid (fun W (k : Ext w W) => fgreat_c nx ao K.length cap K W (hx.ext k) htx)
  have HG2 := Lib.hid (fun W (k : Ext w W) => tgreat_c W (hl.ext k) 30 (by decide) hL)
  have hE1 := ext_a1 w (.cells #[.int .i64 nx, .slice ao K.length cap] 24)
  have HE1 := Lib.hid hE1
  have HBs := Lib.hid (Blk.new w 24 #[.int .i64 nx, .slice ao K.length cap])
  have s0 := HBs.out.cell 0
  have s1 := HBs.out.cell 1
  have f1 := hl.fits; have f2 := hl.bound; have f3 := hx.fits; have f4 := hx.bound
  have hgn := fun h => fgreat_no (K := K) h
  have HGn := Lib.hid hgn
  have HTn := Lib.hid (fun h => tgreat_no (L := L) (most := 30) h)
  obtain ⟨g1, hg1⟩ : ∃ g, fgreatB K = g := ⟨_, rfl⟩
  obtain ⟨g2, hg2⟩ : ∃ g, tgreatB L 30 = g := ⟨_, rfl⟩
  rw [hg1] at HG1 HGn
  rw [hg2] at HG2 HTn
  clear hx hl hE1 hg1 hg2 hgn hL htx
  cases g1 with
  | true =>
    clear HG2 HGn HTn
    go_enter Try.func3, Try.ntmps3
    go_wp2_with fail
    refine (HG1.out _ HE1.out).mono ?_
    rintro e w2 ⟨rfl, hw2⟩
    have HX2 := Lib.hid (HE1.out.trans hw2); clear hw2
    go_wp2_with fail
    refine (HFd.out _).mono ?_
    rintro e w3 ⟨rfl, hw3⟩
    have HX3 := Lib.hid (HX2.out.trans hw3); clear hw3
    go_wp2_with fail
    go_ret
    exact ⟨rfl, HX3.out⟩
  | false =>
  cases g2 with
  | true =>
    clear HGn HTn
    go_enter Try.func3, Try.ntmps3
    go_wp2_with fail
    refine (HG1.out _ HE1.out).mono ?_
    rintro e w2 ⟨rfl, hw2⟩
    have HX2 := Lib.hid (HE1.out.trans hw2); clear hw2
    go_wp2_with fail
    refine (HG2.out _ HX2.out).mono ?_
    rintro e w2' ⟨rfl, hw2⟩
    have HX2' := Lib.hid (HX2.out.trans hw2); clear hw2
    go_wp2_with fail
    refine (HFd.out _).mono ?_
    rintro e w3 ⟨rfl, hw3⟩
    have HX3 := Lib.hid (HX2'.out.trans hw3); clear hw3
    go_wp2_with fail
    go_ret
    exact ⟨rfl, HX3.out⟩
  | false =>
  obtain ⟨hk3, _⟩ := HGn.out rfl
  obtain ⟨hl3, hlx⟩ := HTn.out rfl
  clear HGn HTn
  go_enter Try.func3, Try.ntmps3
  go_wp2_with fail
  refine (HG1.out _ HE1.out).mono ?_
  rintro e w2 ⟨rfl, hw2⟩
  have HX2 := Lib.hid (HE1.out.trans hw2)
  have HB2 := Lib.hid (HBs.out.ext hw2); clear hw2 HG1
  go_wp2_with fail
  refine (HG2.out _ HX2.out).mono ?_
  rintro e w3 ⟨rfl, hw3⟩
  have HX3 := Lib.hid (HX2.out.trans hw3)
  have HB3 := Lib.hid (HB2.out.ext hw3); clear hw3 HG2 HX2 HB2 s0 s1
  have s0 : w3.cell? ⟨w.heap.size, 0, none⟩ = some (.int .i64 nx) := HB3.out.cell 0
  have s1 : w3.cell? ⟨w.heap.size, 1, none⟩ = some (.slice ao K.length cap) := HB3.out.cell 1
  have HDoc := Lib.hid (fun W (k : Ext w W) => doc_c nx ao K.length cap K W (HK.out.ext k) (by omega))
  go_wp2_with fail
  refine (HDoc.out _ HX3.out).mono ?_
  intro e w4 hr
  obtain ⟨da, dc, rfl, hkd, hb4, hdl⟩ := hr.open
  have hX5 := hb4.trans (ext_a1 w4 (.cells #[.int .i64 nx, .slice da K.length dc] 31))
  have HD5 := Lib.hid (hkd.ext (ext_a1 w4 (.cells #[.int .i64 nx, .slice da K.length dc] 31)))
  have HX5 := Lib.hid (HX3.out.trans hX5); have HB5 := Lib.hid (HB3.out.ext hX5)
  have HBd := Lib.hid (Blk.new w4 31 #[.int .i64 nx, .slice da K.length dc])
  have hwd : w.heap.size < w4.heap.size := (HB3.out.ext hb4).lt
  have HDl := Lib.hid hdl
  clear hr hkd hb4 hdl hX5 s0 s1 HB3 HX3
  have s0 : (w4.alloc (.cells #[.int .i64 nx, .slice da K.length dc] 31)).cell? ⟨w.heap.size, 0, none⟩ = some (.int .i64 nx) := HB5.out.cell 0
  have s1 : (w4.alloc (.cells #[.int .i64 nx, .slice da K.length dc] 31)).cell? ⟨w.heap.size, 1, none⟩ = some (.slice ao K.length cap) := HB5.out.cell 1
  obtain ⟨P, hP⟩ : ∃ P, fputS nx K = P := ⟨_, rfl⟩
  obtain ⟨p1, p2⟩ := P
  have HPu := Lib.hid (fun W (k : Ext w W) => fput_c nx ao K.length cap K W (HK.out.ext k))
  have HPd := Lib.hid (fun W (k : Ext (w4.alloc (.cells #[.int .i64 nx, .slice da K.length dc] 31)) W) => reffput_c nx da K.length dc K W (HD5.out.ext k))
  rw [hP] at HPu HPd
  clear hP
  have hwd2 : w.heap.size ≠ w4.heap.size := Nat.ne_of_lt hwd
  go_wp2_with fail
  generalize w4.alloc (.cells #[.int .i64 nx, .slice da K.length dc] 31) = wD at *
  generalize w4.heap.size = D at *
  refine (HPu.out _ HX5.out).mono ?_
  rintro e w6 ⟨rfl, hw6⟩
  have HX6 := Lib.hid hw6
  have d0 : w6.cell? ⟨D, 0, none⟩ = some (.int .i64 nx) := (HBd.out.ext hw6).cell 0
  have d1 : w6.cell? ⟨D, 1, none⟩ = some (.slice da K.length dc) := (HBd.out.ext hw6).cell 1
  clear hw6 s0 s1
  go_wp2_with fail
  refine (HPd.out _ HX6.out).mono ?_
  rintro e w7 ⟨rfl, hw7⟩
  have HX7 := Lib.hid (HX6.out.trans hw7)
  clear hw7 d0 d1 HX6 HPu HPd
  have s0 : w7.cell? ⟨w.heap.size, 0, none⟩ = some (.int .i64 nx) := (HB5.out.ext HX7.out).cell 0
  have s1 : w7.cell? ⟨w.heap.size, 1, none⟩ = some (.slice ao K.length cap) := (HB5.out.ext HX7.out).cell 1
  have d0 : w7.cell? ⟨D, 0, none⟩ = some (.int .i64 nx) := (HBd.out.ext HX7.out).cell 0
  have d1 : w7.cell? ⟨D, 1, none⟩ = some (.slice da K.length dc) := (HBd.out.ext HX7.out).cell 1
  have cs0 := cell_of s0; have cs1 := cell_of s1; have cd0 := cell_of d0; have cd1 := cell_of d1
  have HCa := Lib.hid (fun (x : ExtOf w7) => fcheck_c nx ao K.length cap K x.w' (HK.out.ext (HX5.out.trans (HX7.out.trans x.h))))
  have HCb := Lib.hid (fun (x : ExtOf w7) => reffcheck_c nx da K.length dc K x.w' (HD5.out.ext (HX7.out.trans x.h)))
  have HCs := Lib.hid (fun (x : ExtOf w7) => fsame_c nx nx ao ao K.length K.length cap cap K K x.w' (HK.out.ext (HX5.out.trans (HX7.out.trans x.h))) (HK.out.ext (HX5.out.trans (HX7.out.trans x.h))))
  rw [sameS_refl] at HCs
  obtain ⟨cn, hcn⟩ : ∃ cn, checkN nx K = cn := ⟨_, rfl⟩
  rw [hcn] at HCa HCb
  have HCn := Lib.hid hcn
  clear hcn
  go_wp2_with fail
  refine wp_region_ext (by kernel_rfl) (by kernel_rfl) ?_
  repeat (go_big_quiet_step (fail))
  go_big_quiet_step (exact Calls.quiet_ext (HCa.out _))
  repeat (go_big_quiet_step (fail))
  go_big_quiet_step (exact Calls.quiet_ext (HCb.out _))
  repeat (go_big_quiet_step (fail))
  go_big_quiet_step (exact Calls.quiet_ext (HCs.out _))
  repeat (go_big_quiet_step (fail))
  refine wpQuiet_nil ?_
  intro w8 hw8
  have HX8 := Lib.hid (HX7.out.trans hw8)
  clear hw8 cs0 cs1 cd0 cd1 s0 s1 d0 d1 HX7 HCa HCb HCs
  go_upto_if 62 with fail
  go_cut [] from 63 (fun wc => Ext wD wc)
  case first =>
    by_cases hl0 : 0 < L.length
    · have hd : decide ((0 : Int) < (L.length : Int)) = true := decide_eq_true (by omega)
      have q5 : (0 : Int) < (L.length : Int) := by omega
      obtain ⟨b, off, rfl, c0, c1, c2, c3, c4⟩ := (HL.out.ext (HX5.out.trans HX8.out)).at hl0
      have hg : L.getD 0 td0 = L[0] := by rw [List.getD_eq_getElem?_getD, List.getElem?_eq_getElem hl0]; rfl
      have hxm := hlx _ (List.getElem_mem hl0)
      rw [hg] at c0 c1 c2 c3 c4
      generalize L[0] = x at *
      obtain ⟨s, v, t, d, fb⟩ := x
      simp only [Nat.zero_mul, Nat.add_zero] at c0 c1 c2 c3 c4 hxm
      clear hg
      have hbx := Blk.new w8 44 #[.string ⟨s.toArray⟩, .int .i64 v, .string ⟨t.toArray⟩, .string ⟨d.toArray⟩, .float .f64 fb]
      have HBx := Lib.hid hbx
      have hXB : D < w8.heap.size := (HBd.out.ext HX8.out).lt
      have hXB2 : wD.heap.size ≤ w8.heap.size := HX8.out.size
      have HX9 := Lib.hid (HX8.out.trans (ext_a1 w8 (.cells #[.string ⟨s.toArray⟩, .int .i64 v, .string ⟨t.toArray⟩, .string ⟨d.toArray⟩, .float .f64 fb] 44)))
      clear hbx
      go_wp2_with fail
      generalize w8.alloc (.cells #[.string ⟨s.toArray⟩, .int .i64 v, .string ⟨t.toArray⟩, .string ⟨d.toArray⟩, .float .f64 fb] 44) = w9 at *
      generalize w8.heap.size = XB at *
      clear hd q5 hl0
      rename 0 < L.length => hq0
      clear hq0
      go_loopw [11] (fun i W => ∃ (j : Nat) (v' : Int), j ≤ 2 ∧ i = .int .i64 (j : Int) ∧ Off XB w9 W ∧ Blk W XB 44 #[.string ⟨s.toArray⟩, .int .i64 v', .string ⟨t.toArray⟩, .string ⟨d.toArray⟩, .float .f64 fb]) (fun i _ => 2 - (intOf i).toNat)
      case atStart => exact ⟨0, v, Nat.zero_le _, rfl, Off.refl _ _, HBx.out⟩
      case round =>
        obtain ⟨j, v', hj, rfl, hof, hbx⟩ := hrel
        have HOf := Lib.hid hof; have HBx' := Lib.hid hbx
        have HXr : Hid (Ext w wr) := Lib.hid (Off.ext (HX5.out.trans HX9.out) (by omega) hof)
        have HSr : Hid (Blk wr w.heap.size 24 #[.int .i64 nx, .slice ao K.length cap]) := Lib.hid (Off.blk (HB5.out.ext HX9.out) (by omega) hof)
        have HDr : Hid (Blk wr D 31 #[.int .i64 nx, .slice da K.length dc]) := Lib.hid (Off.blk (HBd.out.ext HX9.out) (by omega) hof)
        have HKd : Hid (Kds wr da K.length dc K) := Lib.hid ((HD5.out.ext HX9.out).same fun q o p h => hof.block q (by have h1 := HDl.out q o p h; have h2 := HBd.out.lt; have h3 := HX9.out.size; omega) (by have := HDl.out q o p h; omega))
        have s0 : wr.cell? ⟨w.heap.size, 0, none⟩ = some (.int .i64 nx) := HSr.out.cell 0
        have s1 : wr.cell? ⟨w.heap.size, 1, none⟩ = some (.slice ao K.length cap) := HSr.out.cell 1
        have x0 : wr.cell? ⟨XB, 0, none⟩ = some (.string ⟨s.toArray⟩) := hbx.cell 0
        have x1 : wr.cell? ⟨XB, 1, none⟩ = some (.int .i64 v') := hbx.cell 1
        have x2 : wr.cell? ⟨XB, 2, none⟩ = some (.string ⟨t.toArray⟩) := hbx.cell 2
        have x3 : wr.cell? ⟨XB, 3, none⟩ = some (.string ⟨d.toArray⟩) := hbx.cell 3
        have x4 : wr.cell? ⟨XB, 4, none⟩ = some (.float .f64 fb) := hbx.cell 4
        clear hof hbx c0 c1 c2 c3 c4
        by_cases hlt : j < 2
        · have hd2 : decide ((j : Int) < 2) = true := decide_eq_true (by omega)
          have q1 : IntKind.i64.wrap ((j : Int) + 1) = (j : Int) + 1 := by rw [IntKind.wrap_i64]; omega
          have HSt := Lib.hid (fstepT_c (nx := nx) ⟨s, v', t, d, fb⟩ wr (HK.out.ext HXr.out) hxm)
          have HSd := Lib.hid (fun W (k : Ext wr W) => dstep_c (nx := nx) ⟨s, v', t, d, fb⟩ W (HKd.out.ext k) hxm)
          rw [step_same] at HSt
          have hzl := foldZ_length nx K [⟨s, v', t, d, fb⟩]
          rw [step_same] at hzl
          obtain ⟨z, hz⟩ : ∃ z, stepD nx K ⟨s, v', t, d, fb⟩ = z := ⟨_, rfl⟩
          rw [hz] at HSt HSd hzl
          obtain ⟨zn, zK, ze⟩ := z
          simp only [List.length_singleton] at hzl
          clear hz
          go_wp2_with fail
          refine HSt.out.mono ?_
          rintro e w10 ⟨tv, rfl, hrt, hx10⟩
          obtain ⟨ta, tc, rfl⟩ := row_slice hrt
          have hkt := Kds.of_row hrt rfl
          have hxT := hx10.trans (ext_a1 w10 (.cells #[.int .i64 zn, .slice ta zK.length tc] 24))
          have HKt := Lib.hid (hkt.ext (ext_a1 w10 (.cells #[.int .i64 zn, .slice ta zK.length tc] 24)))
          have HBt := Lib.hid (Blk.new w10 24 #[.int .i64 zn, .slice ta zK.length tc])
          have HXT := Lib.hid hxT
          have hDT : D < w10.heap.size := Nat.lt_of_lt_of_le HDr.out.lt hx10.size
          have hXT : XB < w10.heap.size := Nat.lt_of_lt_of_le HBx'.out.lt hx10.size
          have d0 : (w10.alloc (.cells #[.int .i64 zn, .slice ta zK.length tc] 24)).cell? ⟨D, 0, none⟩ = some (.int .i64 nx) := (HDr.out.ext hxT).cell 0
          have d1 : (w10.alloc (.cells #[.int .i64 zn, .slice ta zK.length tc] 24)).cell? ⟨D, 1, none⟩ = some (.slice da K.length dc) := (HDr.out.ext hxT).cell 1
          have y0 : (w10.alloc (.cells #[.int .i64 zn, .slice ta zK.length tc] 24)).cell? ⟨XB, 0, none⟩ = some (.string ⟨s.toArray⟩) := (HBx'.out.ext hxT).cell 0
          have y1 : (w10.alloc (.cells #[.int .i64 zn, .slice ta zK.length tc] 24)).cell? ⟨XB, 1, none⟩ = some (.int .i64 v') := (HBx'.out.ext hxT).cell 1
          have y2 : (w10.alloc (.cells #[.int .i64 zn, .slice ta zK.length tc] 24)).cell? ⟨XB, 2, none⟩ = some (.string ⟨t.toArray⟩) := (HBx'.out.ext hxT).cell 2
          have y3 : (w10.alloc (.cells #[.int .i64 zn, .slice ta zK.length tc] 24)).cell? ⟨XB, 3, none⟩ = some (.string ⟨d.toArray⟩) := (HBx'.out.ext hxT).cell 3
          have y4 : (w10.alloc (.cells #[.int .i64 zn, .slice ta zK.length tc] 24)).cell? ⟨XB, 4, none⟩ = some (.float .f64 fb) := (HBx'.out.ext hxT).cell 4
          have HSd2 := Lib.hid (HSd.out _ hxT)
          clear hrt hx10 hkt hxT HSt HSd s0 s1 x0 x1 x2 x3 x4
          go_wp2_with fail
          generalize w10.alloc (.cells #[.int .i64 zn, .slice ta zK.length tc] 24) = wT at *
          generalize w10.heap.size = T at *
          refine HSd2.out.mono ?_
          rintro e w12 ⟨uv, rfl, hru, hx12⟩
          obtain ⟨ua, uc, rfl⟩ := row_slice hru
          have hku := Kds.of_row hru rfl
          have hxU := hx12.trans (ext_a1 w12 (.cells #[.int .i64 zn, .slice ua zK.length uc] 31))
          have HKu := Lib.hid (hku.ext (ext_a1 w12 (.cells #[.int .i64 zn, .slice ua zK.length uc] 31)))
          have HBu := Lib.hid (Blk.new w12 31 #[.int .i64 zn, .slice ua zK.length uc])
          have HBt2 := Lib.hid (HBt.out.ext hxU); have HKt2 := Lib.hid (HKt.out.ext hxU)
          have HXU := Lib.hid (HXT.out.trans hxU)
          clear hru hx12 hku hxU d0 d1 y0 y1 y2 y3 y4 HSd2 HBt HKt
          go_wp2_with fail
          generalize w12.alloc (.cells #[.int .i64 zn, .slice ua zK.length uc] 31) = wU at *
          generalize w12.heap.size = U at *
          have HXd := Lib.hid (Ext.refl wU).drew
          have e0 : wU.drew.cell? ⟨T, 0, none⟩ = some (.int .i64 zn) := HBt2.out.cell 0
          have e1 : wU.drew.cell? ⟨T, 1, none⟩ = some (.slice ta zK.length tc) := HBt2.out.cell 1
          have e2 : wU.drew.cell? ⟨U, 0, none⟩ = some (.int .i64 zn) := HBu.out.cell 0
          have e3 : wU.drew.cell? ⟨U, 1, none⟩ = some (.slice ua zK.length uc) := HBu.out.cell 1
          have HDc := Lib.hid (fun W (k : Ext wU W) => doc_c zn ta zK.length tc zK W (HKt2.out.ext k) (by omega))
          have HSm := Lib.hid (fun W xa xc (k : Ext wU W) (hx : Kds W xa zK.length xc zK) => reffsame_c zn zn xa ua zK.length zK.length xc uc zK zK W hx (HKu.out.ext k))
          rw [sameS_refl] at HSm
          have HSa := Lib.hid (fun W (k : Ext wU W) => And.intro ((HBt2.out.ext k).cell 0) (And.intro ((HBt2.out.ext k).cell 1) (And.intro ((HBu.out.ext k).cell 0) ((HBu.out.ext k).cell 1))))
          go_region_held3 (fun W => W.cell? ⟨T, 0, none⟩ = some (.int .i64 zn) ∧ W.cell? ⟨T, 1, none⟩ = some (.slice ta zK.length tc) ∧ W.cell? ⟨U, 0, none⟩ = some (.int .i64 zn) ∧ W.cell? ⟨U, 1, none⟩ = some (.slice ua zK.length uc))
            (first | exact HSa.out _ HXb.out | exact HSa.out _ HXa.out | exact ⟨e0, e1, e2, e3⟩)
            (first
              | (go_at_call 7; refine (HDc.out _ HXd.out).mono ?_; intro e wa hra; obtain ⟨xa, xc, rfl, hka, hxa, _⟩ := hra.open; have HXa := Lib.hid (HXd.out.trans hxa); have HKa := Lib.hid hka; clear hra hka hxa)
              | (go_at_call 15; refine (HSm.out _ _ _ HXa.out HKa.out).mono ?_; rintro e wb ⟨rfl, hxb⟩; have HXb := Lib.hid (HXa.out.trans hxb); clear hxb))
          all_goals
            have hxr := HXU.out.trans HXb.out
            have HXr2 := Lib.hid hxr
            have s0 : wb.cell? ⟨w.heap.size, 0, none⟩ = some (.int .i64 nx) := (HSr.out.ext hxr).cell 0
            have y1 : wb.cell? ⟨XB, 1, none⟩ = some (.int .i64 v') := (HBx'.out.ext hxr).cell 1
            have yf := (HBx'.out.ext hxr).free 1
            clear hxr
            go_wp2_with fail
            go_roundw
            case rel =>
              exact ⟨j + 1, nx, by omega, by go_num, (HOf.out.trans (Off.of_ext HXr2.out)).trans (Off.set _ _ _), (HBx'.out.ext HXr2.out).set 1 (.int .i64 nx)⟩
            case measure => simp [intOf]; omega
        · have hd2 : decide ((j : Int) < 2) = false := decide_eq_false (by omega)
          go_wp2_with fail
          go_meet
          case rel => exact Off.ext HX9.out hXB2 HOf.out
    · have hd : decide ((0 : Int) < (L.length : Int)) = false := decide_eq_false (by omega)
      go_wp2_with fail
      go_meet
      case rel => exact HX8.out
  case rest =>
  have HXc := Lib.hid hcut
  have s0 : wc.cell? ⟨w.heap.size, 0, none⟩ = some (.int .i64 nx) := (HB5.out.ext hcut).cell 0
  have s1 : wc.cell? ⟨w.heap.size, 1, none⟩ = some (.slice ao K.length cap) := (HB5.out.ext hcut).cell 1
  have HFo := Lib.hid (fun W (k : Ext w W) => ffold_c (nx := nx) W (HK.out.ext k) (HL.out.ext k) hlx)
  have HFd2 := Lib.hid (fun W (k : Ext wD W) => dfold_c (nx := nx) W (HD5.out.ext k) (HL.out.ext (HX5.out.trans k)) hlx (fun q o p h => by have h1 := HDl.out q o p h; have h2 := HBd.out.lt; have h3 := k.size; omega))
  have hzl := foldZ_length nx K L
  obtain ⟨z, hz⟩ : ∃ z, (if checkN nx K = 0 then foldS nx K L else (0, [], checkN nx K)) = z := ⟨_, rfl⟩
  rw [hz] at HFo HFd2 hzl
  obtain ⟨zn, zK, ze⟩ := z
  simp only at hzl
  clear hz hcut hlx
  go_wp2_with fail
  refine (HFo.out _ (HX5.out.trans HXc.out)).mono ?_
  rintro e w10 ⟨tv, rfl, hrt, hx10⟩
  obtain ⟨ta, tc, rfl⟩ := row_slice hrt
  have hkt := Kds.of_row hrt rfl
  have hxT := hx10.trans (ext_a1 w10 (.cells #[.int .i64 zn, .slice ta zK.length tc] 24))
  have HKt := Lib.hid (hkt.ext (ext_a1 w10 (.cells #[.int .i64 zn, .slice ta zK.length tc] 24)))
  have HBt := Lib.hid (Blk.new w10 24 #[.int .i64 zn, .slice ta zK.length tc])
  have HXT := Lib.hid (HXc.out.trans hxT)
  have hDT : D < w10.heap.size := Nat.lt_of_lt_of_le (HBd.out.ext HXc.out).lt hx10.size
  have d0 : (w10.alloc (.cells #[.int .i64 zn, .slice ta zK.length tc] 24)).cell? ⟨D, 0, none⟩ = some (.int .i64 nx) := (HBd.out.ext (HXc.out.trans hxT)).cell 0
  have d1 : (w10.alloc (.cells #[.int .i64 zn, .slice ta zK.length tc] 24)).cell? ⟨D, 1, none⟩ = some (.slice da K.length dc) := (HBd.out.ext (HXc.out.trans hxT)).cell 1
  have HFd3 := Lib.hid (HFd2.out _ (HXc.out.trans hxT))
  clear hrt hx10 hkt hxT HFo HFd2 s0 s1
  go_wp2_with fail
  generalize w10.alloc (.cells #[.int .i64 zn, .slice ta zK.length tc] 24) = wT at *
  generalize w10.heap.size = T at *
  refine HFd3.out.mono ?_
  rintro e w12 ⟨ua, uc, rfl, hku, hx12⟩
  have hxU := hx12.trans (ext_a1 w12 (.cells #[.int .i64 zn, .slice ua zK.length uc] 31))
  have HKu := Lib.hid (hku.ext (ext_a1 w12 (.cells #[.int .i64 zn, .slice ua zK.length uc] 31)))
  have HBu := Lib.hid (Blk.new w12 31 #[.int .i64 zn, .slice ua zK.length uc])
  have HBt2 := Lib.hid (HBt.out.ext hxU); have HKt2 := Lib.hid (HKt.out.ext hxU)
  have HXU := Lib.hid (HXT.out.trans hxU)
  clear hx12 hku hxU d0 d1 HFd3 HBt HKt
  go_wp2_with fail
  generalize w12.alloc (.cells #[.int .i64 zn, .slice ua zK.length uc] 31) = wU at *
  generalize w12.heap.size = U at *
  have HXd := Lib.hid (Ext.refl wU).drew
  have HBs2 := Lib.hid (HB5.out.ext HXU.out); have HBd2 := Lib.hid (HBd.out.ext HXU.out)
  have e0 : wU.drew.cell? ⟨T, 0, none⟩ = some (.int .i64 zn) := HBt2.out.cell 0
  have e1 : wU.drew.cell? ⟨T, 1, none⟩ = some (.slice ta zK.length tc) := HBt2.out.cell 1
  have e2 : wU.drew.cell? ⟨U, 0, none⟩ = some (.int .i64 zn) := HBu.out.cell 0
  have e3 : wU.drew.cell? ⟨U, 1, none⟩ = some (.slice ua zK.length uc) := HBu.out.cell 1
  have e4 : wU.drew.cell? ⟨w.heap.size, 0, none⟩ = some (.int .i64 nx) := HBs2.out.cell 0
  have e5 : wU.drew.cell? ⟨w.heap.size, 1, none⟩ = some (.slice ao K.length cap) := HBs2.out.cell 1
  have e6 : wU.drew.cell? ⟨D, 0, none⟩ = some (.int .i64 nx) := HBd2.out.cell 0
  have e7 : wU.drew.cell? ⟨D, 1, none⟩ = some (.slice da K.length dc) := HBd2.out.cell 1
  have HDc := Lib.hid (fun W (k : Ext wU W) => doc_c zn ta zK.length tc zK W (HKt2.out.ext k) (by omega))
  have HDc2 := Lib.hid (fun W (k : Ext wU W) => HDoc.out W (HX5.out.trans (HXU.out.trans k)))
  have HSm := Lib.hid (fun W xa xc (k : Ext wU W) (hx : Kds W xa zK.length xc zK) => reffsame_c zn zn xa ua zK.length zK.length xc uc zK zK W hx (HKu.out.ext k))
  have HSm2 := Lib.hid (fun W xa xc (k : Ext wU W) (hx : Kds W xa K.length xc K) => reffsame_c nx nx xa da K.length K.length xc dc K K W hx (HD5.out.ext (HXU.out.trans k)))
  rw [sameS_refl] at HSm HSm2
  have HSa := Lib.hid (fun W (k : Ext wU W) => And.intro ((HBt2.out.ext k).cell 0) (And.intro ((HBt2.out.ext k).cell 1) (And.intro ((HBu.out.ext k).cell 0) (And.intro ((HBu.out.ext k).cell 1) (And.intro ((HBs2.out.ext k).cell 0) (And.intro ((HBs2.out.ext k).cell 1) (And.intro ((HBd2.out.ext k).cell 0) ((HBd2.out.ext k).cell 1))))))))
  go_region_held3 (fun W => W.cell? ⟨T, 0, none⟩ = some (.int .i64 zn) ∧ W.cell? ⟨T, 1, none⟩ = some (.slice ta zK.length tc) ∧ W.cell? ⟨U, 0, none⟩ = some (.int .i64 zn) ∧ W.cell? ⟨U, 1, none⟩ = some (.slice ua zK.length uc) ∧ W.cell? ⟨w.heap.size, 0, none⟩ = some (.int .i64 nx) ∧ W.cell? ⟨w.heap.size, 1, none⟩ = some (.slice ao K.length cap) ∧ W.cell? ⟨D, 0, none⟩ = some (.int .i64 nx) ∧ W.cell? ⟨D, 1, none⟩ = some (.slice da K.length dc))
    (first | exact HSa.out _ HXe.out | exact HSa.out _ HXdd.out | exact HSa.out _ HXcc.out | exact HSa.out _ HXb.out | exact HSa.out _ HXa.out | exact ⟨e0, e1, e2, e3, e4, e5, e6, e7⟩)
    (first
      | (go_at_call 7; (with_reducible show Calls _ _ _ wU.drew _); refine (HDc.out _ HXd.out).mono ?_; intro e wa hra; obtain ⟨xa, xc, rfl, hka, hxa, _⟩ := hra.open; have HXa := Lib.hid (HXd.out.trans hxa); have HKa := Lib.hid hka; clear hra hka hxa)
      | (go_at_call 15; (with_reducible show Calls _ _ _ wa _); refine (HSm.out _ _ _ HXa.out HKa.out).mono ?_; rintro e wb ⟨rfl, hxb⟩; have HXb := Lib.hid (HXa.out.trans hxb); clear hxb)
      | (go_at_call 7; (with_reducible show Calls _ _ _ wb _); refine (HDc2.out _ HXb.out).mono ?_; intro e wcc hra; obtain ⟨xa2, xc2, rfl, hka, hxa, _⟩ := hra.open; have HXcc := Lib.hid (HXb.out.trans hxa); have HKa2 := Lib.hid hka; clear hra hka hxa)
      | (go_at_call 15; (with_reducible show Calls _ _ _ wcc _); refine (HSm2.out _ _ _ HXcc.out HKa2.out).mono ?_; rintro e wdd ⟨rfl, hxb⟩; have HXdd := Lib.hid (HXcc.out.trans hxb); clear hxb)
      | (go_at_call 6; refine (HFd.out _).mono ?_; rintro e we ⟨rfl, hxb⟩; have HXe := Lib.hid (HXdd.out.trans hxb); clear hxb))
  all_goals
    have HEnd := Lib.hid (HX5.out.trans (HXU.out.trans HXe.out))
    go_wp2_with fail
    go_ret
    exact ⟨rfl, HEnd.out⟩

end Go.Proofs.Ytmopfhkppjcgbaa
