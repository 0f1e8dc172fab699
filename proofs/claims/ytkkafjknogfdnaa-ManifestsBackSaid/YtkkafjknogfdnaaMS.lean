/- Walks: the chapter's manifests; what is told of manifests is the document's. -/
import Derived.Test.YtkkafjknogfdnaaChecked
import Derived.Test.YtkkafjknogfdnaaMH
import Derived.Test.YtkkafjknogfdnaaMQ
import Derived.Test.YtkkafjknogfdnaaLT
namespace Go.Proofs.Ytkkafjknogfdnaa
open Go.RowKit

theorem Mbx.ext {w w' : World} {g : Nat} {a b c : Int} {v : Value} (h : Mbx w g a b c v) (k : Ext w w') : Mbx w' g a b c v := h.same (k.block _ h.lt)
theorem Mbx.mk (w : World) (a b c : Int) (v : Value) : Mbx (w.alloc (.cells #[.int .i64 a, .int .i64 b, .int .u64 c, v] 41)) w.heap.size a b c v := heap_alloc_new _ _

theorem RetM.bad_out {w w' : World} {e : Ending} (h : RetM w badM e w') : ∃ a c, e = .returned (.tuple #[.agg #[.int .i64 0, .int .i64 0, .int .u64 0, .slice a 0 c], .int .i64 90]) ∧ Ext w w' := by
  obtain ⟨v, vs, rfl, hog, hb⟩ := h
  obtain ⟨a, c, rfl⟩ := hog.own.slice
  exact ⟨a, c, rfl, hb⟩

/-- a manifest that is got, laid open -/
theorem RetM.out {w w' : World} {e : Ending} {g : Got} (h : RetM w g e w') : ∃ a c vs, e = .returned (.tuple #[.agg #[.int .i64 g.nx, .int .i64 g.ck, .int .u64 g.sd, .slice a g.L.length c], .int .i64 g.en]) ∧ OGr w' w.heap.size 25 3 (.slice a g.L.length c) vs g.L ∧ Ext w w' := by
  obtain ⟨v, vs, rfl, hog, hb⟩ := h
  obtain ⟨a, c, rfl⟩ := hog.own.slice
  exact ⟨a, c, vs, rfl, hog, hb⟩

theorem put0 : mputS 0 0 0 [] = (sealS (manBody 0 0 0 []), 0) := by unfold mputS; rw [if_pos (by decide)]
theorem put0_length : (sealS (manBody 0 0 0 [])).length = 25 := by rw [sealS_length]; decide
theorem get0 : mgetS [] = badM := by unfold mgetS; rw [openB_short [] (by decide)]; rfl

set_option maxRecDepth 100000 in
set_option maxHeartbeats 1600000 in
theorem sealed_c (w : World) : Calls Try.prog 27 #[] w fun e w' => e = .returned (.bool true) ∧ Ext w w' := by
  obtain ⟨P, hP⟩ : ∃ P, sealS (manBody 0 0 0 []) = P := ⟨_, rfl⟩
  have hPl : P.length = 25 := by rw [← hP]; exact put0_length
  have HP0 : Hid (mputS 0 0 0 [] = (P, 0)) := Lib.hid (by rw [put0, hP])
  clear hP
  go_enter Try.func27, Try.ntmps27
  go_wp2_with fail
  refine (mput_c 0 0 0 none 0 0 [] _ (Grid.empty _) (by simp) (by simp) (by decide) (by decide)).mono ?_
  rw [HP0.out]
  rintro e w1 ⟨rfl, hb1⟩
  have HB1 := Lib.hid hb1; clear hb1
  go_wp2_with fail
  refine (mget_c [] _ (by simp)).mono ?_
  rw [get0]
  intro e w2 hret
  obtain ⟨a2, c2, rfl, hb2⟩ := hret.bad_out
  have HB2 := Lib.hid (HB1.out.trans hb2); clear hb2 hret HB1
  go_wp2_with fail
  have hl3 := Grid.lit1 ((w2.alloc (.cells #[.int .i64 0, .int .i64 0, .int .u64 0, .slice a2 0 c2] 41)).alloc (.cells #[.int .i64 1] 3)) 25 (Ints.lit (w2.alloc (.cells #[.int .i64 0, .int .i64 0, .int .u64 0, .slice a2 0 c2] 41)) [1] 3 1 rfl (by decide))
  simp only [World.size_alloc] at hl3
  refine (mvalid_c 1 0 0 _ _ _ [[1]] _ hl3 (by decide) (by simp; decide)).mono ?_
  rw [show mvalid 1 0 [[1]] = false by decide]
  rintro e w3 ⟨rfl, hb3⟩
  have HB3 := Lib.hid ((HB2.out.trans (ext_a3 _ _ _ _)).trans hb3); clear hb3 HB2 hl3
  go_wp2_with fail
  have hl4 := Grid.lit1 (w3.alloc (.cells #[.int .i64 1] 3)) 25 (Ints.lit w3 [1] 3 1 rfl (by decide))
  simp only [World.size_alloc] at hl4
  refine (mvalid_c 2 0 0 _ _ _ [[1]] _ hl4 (by decide) (by simp; decide)).mono ?_
  rw [show mvalid 2 0 [[1]] = true by decide]
  rintro e w4 ⟨rfl, hb4⟩
  have HB4 := Lib.hid ((HB3.out.trans (ext_a2 _ _ _)).trans hb4); clear hb4 HB3 hl4
  go_wp2_with fail
  go_ret
  exact ⟨rfl, HB4.out⟩

theorem msame_refl (nx ck sd : Int) (L : List (List Int)) : msame nx ck sd L nx ck sd L = true := by rw [msame_yes]; simp

set_option maxRecDepth 100000 in
set_option maxHeartbeats 6400000 in
theorem mtell_c (nx ck sd : Int) (ao : Option Addr) (n cap : Nat) (L : List (List Int)) (nx' ck' sd' : Int) (bo : Option Addr) (m cap2 : Nat) (L' : List (List Int)) (s : List UInt8) (w : World) (hx : Grid w ao n cap L) (hy : Grid w bo m cap2 L')
    (hwf : ∀ x ∈ L.flatten, (Lit.int .i64 x).wf = true) (hs0 : 0 ≤ sd) (hs1 : sd < 18446744073709551616) (hsl : s.length ≤ 9223372036854775807) :
    Calls Try.prog 7 #[.agg #[.int .i64 nx, .int .i64 ck, .int .u64 sd, .slice ao n cap], .agg #[.int .i64 nx', .int .i64 ck', .int .u64 sd', .slice bo m cap2], .string ⟨s.toArray⟩] w fun e w' => e = .returned (.bool true) ∧ Ext w w' := by
  have Hx := Lib.hid hx; have Hy := Lib.hid hy
  have HWF := Lib.hid hwf
  have S1 := Lib.hid hs1
  obtain ⟨f0, f1, f2, f3, _⟩ := ((Mbx.mk w nx ck sd (.slice ao n cap)).ext (ext_a1 _ (.cells #[.int .i64 nx', .int .i64 ck', .int .u64 sd', .slice bo m cap2] 41))).cs
  obtain ⟨f4, f5, f6, f7, _⟩ := (Mbx.mk (w.alloc (.cells #[.int .i64 nx, .int .i64 ck, .int .u64 sd, .slice ao n cap] 41)) nx' ck' sd' (.slice bo m cap2)).cs
  simp only [World.size_alloc] at f4 f5 f6 f7
  have e0 := ext_a2 w (.cells #[.int .i64 nx, .int .i64 ck, .int .u64 sd, .slice ao n cap] 41) (.cells #[.int .i64 nx', .int .i64 ck', .int .u64 sd', .slice bo m cap2] 41)
  have E0 := Lib.hid e0
  clear hx hy hwf hs1 e0
  go_enter Try.func7, Try.ntmps7
  go_wp2_with fail
  refine (great_c _ _ _ L _ (Hx.out.ext E0.out)).mono ?_
  rintro e w1 ⟨rfl, hb1⟩
  have HB1 := Lib.hid hb1; clear hb1
  by_cases hgr : greatB L = true
  · go_wp2_with fail
    refine (sealed_c _).mono ?_
    rintro e w2 ⟨rfl, hb2⟩
    have HB2 := Lib.hid ((E0.out.trans HB1.out).trans hb2)
    clear hb2
    go_wp2_with fail
    go_ret
    exact ⟨rfl, HB2.out⟩
  have hgr' : greatB L = false := by simpa using hgr
  obtain ⟨l1, l2, l3⟩ := great_len L hgr'
  have L3 := Lib.hid l3
  clear l1 l2 l3 hgr
  have g7 := cell_ext HB1.out f7
  go_wp2_with fail
  refine (great_c _ _ _ L' _ ((Hy.out.ext E0.out).ext HB1.out)).mono ?_
  rintro e w2 ⟨rfl, hb2⟩
  have HB2 := Lib.hid (HB1.out.trans hb2); clear hb2 HB1 g7
  by_cases hgr : greatB L' = true
  · go_wp2_with fail
    refine (sealed_c _).mono ?_
    rintro e w3 ⟨rfl, hb3⟩
    have HB3 := Lib.hid ((E0.out.trans HB2.out).trans hb3)
    clear hb3
    go_wp2_with fail
    go_ret
    exact ⟨rfl, HB3.out⟩
  have hgr2 : greatB L' = false := by simpa using hgr
  clear hgr
  by_cases hls : 1000 < (s.length : Int)
  · go_wp2_with fail
    refine (sealed_c _).mono ?_
    rintro e w3 ⟨rfl, hb3⟩
    have HB3 := Lib.hid ((E0.out.trans HB2.out).trans hb3)
    clear hb3
    go_wp2_with fail
    go_ret
    exact ⟨rfl, HB3.out⟩
  have hls' : (s.length : Int) ≤ 1000 := by omega
  clear hls hsl
  have HSL := Lib.hid hls'
  obtain ⟨P, hP⟩ : ∃ P, mputS nx ck sd L = P := ⟨_, rfl⟩
  obtain ⟨P1, P2⟩ := P
  have HP := Lib.hid hP; clear hP
  obtain ⟨G, hG⟩ : ∃ G, mgetS s = G := ⟨_, rfl⟩
  have HG1 := Lib.hid hG
  have HG2 : Hid (rgetS s = G) := Lib.hid (by rw [← mget_rget]; exact hG)
  clear hG
  obtain ⟨gx, gk, gs, GL, ge⟩ := G
  have r0 := cell_ext HB2.out f0; have r1 := cell_ext HB2.out f1; have r2 := cell_ext HB2.out f2; have r3 := cell_ext HB2.out f3
  go_wp2_with fail
  refine (mput_c nx ck sd _ _ _ L _ ((Hx.out.ext E0.out).ext HB2.out) (by have := L3.out; omega) HWF.out (by omega) S1.out).mono ?_
  rw [HP.out]
  rintro e w3 ⟨rfl, hb3⟩
  have HB3 := Lib.hid (HB2.out.trans hb3)
  clear hb3 r0 r1 r2 r3
  have r0 := cell_ext HB3.out f0; have r1 := cell_ext HB3.out f1; have r2 := cell_ext HB3.out f2; have r3 := cell_ext HB3.out f3
  go_wp2_with fail
  refine (refmput_c nx ck sd _ _ _ L _ ((Hx.out.ext E0.out).ext HB3.out) (by have := L3.out; omega) (by omega) S1.out).mono ?_
  rw [HP.out]
  rintro e w4 ⟨rfl, hb4⟩
  have HB4 := Lib.hid (HB3.out.trans hb4)
  clear hb4 r0 r1 r2 r3
  go_wp2_with fail
  refine (mget_c s _ (by have := HSL.out; omega)).mono ?_
  rw [HG1.out]
  intro e w5 hret
  obtain ⟨a5, c5, vs5, rfl, hog5, hb5⟩ := hret.out
  have HO5 := Lib.hid (hog5.ext (ext_a1 w5 (.cells #[.int .i64 gx, .int .i64 gk, .int .u64 gs, .slice a5 GL.length c5] 41)))
  have HB5 := Lib.hid ((HB4.out.trans hb5).trans (ext_a1 w5 (.cells #[.int .i64 gx, .int .i64 gk, .int .u64 gs, .slice a5 GL.length c5] 41)))
  have HM5 := Lib.hid (Mbx.mk w5 gx gk gs (.slice a5 GL.length c5))
  clear hret hog5 hb5
  go_wp2_with fail
  refine (refmget_c s _ (by have := HSL.out; omega)).mono ?_
  rw [HG2.out]
  intro e w6 hret
  obtain ⟨a6, c6, vs6, rfl, hog6, hb6⟩ := hret.out
  have hx6 := hb6.trans (ext_a1 w6 (.cells #[.int .i64 gx, .int .i64 gk, .int .u64 gs, .slice a6 GL.length c6] 41))
  have HO5' := Lib.hid (HO5.out.ext hx6)
  have HO6 := Lib.hid (hog6.ext (ext_a1 w6 (.cells #[.int .i64 gx, .int .i64 gk, .int .u64 gs, .slice a6 GL.length c6] 41)))
  have HB6 := Lib.hid (HB5.out.trans hx6)
  obtain ⟨p0, p1, p2, p3, _⟩ := (HM5.out.ext hx6).cs
  obtain ⟨q0, q1, q2, q3, _⟩ := (Mbx.mk w6 gx gk gs (.slice a6 GL.length c6)).cs
  obtain ⟨_, _, hx5, hg5⟩ := HO5'.out.grid
  cases hx5
  obtain ⟨_, _, hx6', hg6⟩ := HO6.out.grid
  cases hx6'
  have HG5 := Lib.hid hg5; have HG6 := Lib.hid hg6
  have r0 := cell_ext HB6.out f0; have r1 := cell_ext HB6.out f1; have r2 := cell_ext HB6.out f2; have r3 := cell_ext HB6.out f3
  have r4 := cell_ext HB6.out f4; have r5 := cell_ext HB6.out f5; have r6 := cell_ext HB6.out f6; have r7 := cell_ext HB6.out f7
  have HGx := Lib.hid ((Hx.out.ext E0.out).ext HB6.out)
  have HGy := Lib.hid ((Hy.out.ext E0.out).ext HB6.out)
  have BB := Lib.hid (E0.out.trans HB6.out)
  clear hret hog6 hb6 hx6 hg5 hg6 HO5 HO6 HO5' HM5 HB5 HB4 HB3 HB2 f0 f1 f2 f3 f4 f5 f6 f7
  go_wp2_with fail
  have u0 := cell_of r0; have u1 := cell_of r1; have u2 := cell_of r2; have u3 := cell_of r3; have u4 := cell_of r4; have u5 := cell_of r5; have u6 := cell_of r6; have u7 := cell_of r7
  have v0 := cell_of p0; have v1 := cell_of p1; have v2 := cell_of p2; have v3 := cell_of p3; have y0 := cell_of q0; have y1 := cell_of q1; have y2 := cell_of q2; have y3 := cell_of q3
  clear r0 r1 r2 r3 r4 r5 r6 r7 p0 p1 p2 p3 q0 q1 q2 q3
  obtain ⟨b, hb⟩ : ∃ b, mvalid nx ck L = b := ⟨_, rfl⟩
  obtain ⟨c, hc⟩ : ∃ c, msame nx ck sd L nx' ck' sd' L' = c := ⟨_, rfl⟩
  have HV := Lib.hid hb; have HS := Lib.hid hc; clear hb hc
  have HRf := Lib.hid (msame_refl nx ck sd L); have HRg := Lib.hid (msame_refl gx gk gs GL)
  have LL3 : Hid (L.flatten.length ≤ 17592186044416) := Lib.hid (by have := L3.out; omega)
  refine wp_region_ext (by kernel_rfl) (by kernel_rfl) ?_
  repeat (go_big_quiet_step (fail))
  go_big_quiet_step (with_reducible exact Calls.quiet_ext (Calls.to (congrArg Value.bool HRg.out) (refmsame_c _ _ _ _ _ _ GL _ _ _ _ _ _ GL _ (HG5.out.ext (ExtOf.h _)) (HG6.out.ext (ExtOf.h _)))))
  repeat (go_big_quiet_step (fail))
  go_big_quiet_step (exact Calls.quiet_ext (Calls.to (congrArg Value.bool HV.out) (mvalid_c _ _ _ _ _ _ L _ (HGx.out.ext (ExtOf.h _)) LL3.out HWF.out)))
  repeat (go_big_quiet_step (fail))
  go_big_quiet_step (exact Calls.quiet_ext (Calls.to (congrArg Value.bool HV.out) (refmvalid_c _ _ _ _ _ _ L _ (HGx.out.ext (ExtOf.h _)) LL3.out)))
  repeat (go_big_quiet_step (fail))
  go_big_quiet_step (exact Calls.quiet_ext (Calls.to (congrArg Value.bool HS.out) (msame_c _ _ _ _ _ _ L _ _ _ _ _ _ L' _ (HGx.out.ext (ExtOf.h _)) (HGy.out.ext (ExtOf.h _)))))
  repeat (go_big_quiet_step (fail))
  go_big_quiet_step (exact Calls.quiet_ext (Calls.to (congrArg Value.bool HS.out) (refmsame_c _ _ _ _ _ _ L _ _ _ _ _ _ L' _ (HGx.out.ext (ExtOf.h _)) (HGy.out.ext (ExtOf.h _)))))
  repeat (go_big_quiet_step (fail))
  go_big_quiet_step (exact Calls.quiet_ext (Calls.to (congrArg Value.bool HRf.out) (msame_c _ _ _ _ _ _ L _ _ _ _ _ _ L _ (HGx.out.ext (ExtOf.h _)) (HGx.out.ext (ExtOf.h _)))))
  repeat (go_big_quiet_step (fail))
  go_big_quiet_step (exact Calls.quiet_ext (sealed_c _))
  repeat (go_big_quiet_step (fail))
  refine wpQuiet_nil ?_
  intro w7 hw7
  have HW := Lib.hid hw7; clear hw7
  go_wp2_with fail
  go_ret
  exact ⟨rfl, BB.out.trans HW.out⟩

end Go.Proofs.Ytkkafjknogfdnaa
