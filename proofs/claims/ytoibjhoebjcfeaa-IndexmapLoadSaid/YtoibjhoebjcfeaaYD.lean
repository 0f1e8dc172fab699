/- Walks: the chapter's manifest on a disk; the law IndexmapLoad. -/
import Derived.Test.YtoibjhoebjcfeaaYC
import Derived.Test.YtoibjhoebjcfeaaMD
namespace Go.Proofs.Ytoibjhoebjcfeaa
open Go.RowKit

theorem msame_self (nx ck sd : Int) (L : List (List Int)) : msame nx ck sd L nx ck sd L = true := by rw [msame_yes]; simp

theorem lit_grid {w : World} {b1 b2 : Nat} (h1 : Blk w b1 3 #[.int .i64 1, .int .i64 2]) (h2 : Blk w b2 30 #[.slice (some ⟨b1, 0, none⟩) 2 2]) : Grid w (some ⟨b2, 0, none⟩) 1 1 [[1, 2]] := by
  refine ⟨rfl, Nat.le_refl _, by omega, (fun h => by cases h), fun i hi => ?_⟩
  have : i = 0 := by simp at hi; omega
  subst this
  refine ⟨b2, 0, some ⟨b1, 0, none⟩, 2, rfl, h2.cell 0, ⟨rfl, Nat.le_refl _, by omega, (fun h => by cases h), fun j u hj => ⟨b1, 0, rfl, ?_⟩⟩⟩
  rw [Nat.zero_add, h1.cell j, ← hj]
  match j with
  | 0 => rfl
  | 1 => rfl
  | (k + 2) => simp

def RetK (w0 : World) (g : Nat) (σ' : DM) (r : Got) (e : Ending) (w' : World) : Prop :=
  ∃ a c, e = .returned (.tuple #[.agg #[.int .i64 r.nx, .int .i64 r.ck, .int .u64 r.sd, .slice a r.L.length c], .int .i64 r.en]) ∧ Grid w' a r.L.length c r.L ∧ KD w0 w' g σ'
theorem KD.loadNone {w0 w : World} {g : Nat} {σ : DM} (h : KD w0 w g σ) (hm : sizeM σ mapN = (0, 4)) : Calls Try.prog 37 #[.pointer (some ⟨g, 0, none⟩)] w (RetK w0 g σ ⟨0, 0, 0, [], 4⟩) := by
  obtain ⟨F, h1, h2, h3⟩ := h
  refine (load_none h1 hm).mono ?_
  rintro e w' ⟨a, c, rfl, hg, hd⟩
  exact ⟨a, c, rfl, hg, KD.dkS h2 h3 hd⟩
theorem KD.loadSome {w0 w : World} {g : Nat} {σ : DM} (h : KD w0 w g σ) {f : FM} (hf : findN FM.nm mapN σ.L = some f) (hup : σ.down = false) : Calls Try.prog 37 #[.pointer (some ⟨g, 0, none⟩)] w (RetK w0 g (tellM σ) (mgetS f.da)) := by
  obtain ⟨F, h1, h2, h3⟩ := h
  refine (load_some h1 hf hup).mono ?_
  rintro e w' ⟨a, c, rfl, hg, hd⟩
  exact ⟨a, c, rfl, hg, KD.dkS h2 h3 hd⟩

set_option maxRecDepth 100000
set_option linter.unusedVariables false
set_option maxHeartbeats 3200000

theorem over_ok {w : World} {g : Nat} {F : Nat → Prop} {σ : DM} (h : Dk w g F σ) (hm : sizeM σ [] = (0, 4)) : Calls Try.prog 78 #[.pointer (some ⟨g, 0, none⟩)] w fun e w' => e = .returned (.int .i64 0) ∧ w = w' := by
  have HS := Lib.hid (size_c h [] (by decide))
  rw [hm] at HS
  clear h hm
  go_enter Try.func78, Try.ntmps78
  go_wp2_with fail
  refine HS.out.mono ?_
  rintro e w' ⟨rfl, rfl⟩
  go_wp2_with fail
  go_ret
  exact ⟨rfl, rfl⟩

theorem gone_none {w : World} {g : Nat} {F : Nat → Prop} {σ : DM} (h : Dk w g F σ) (nm : List UInt8) (hl : nm.length ≤ 9223372036854775807) (hm : deleteM σ nm = (4, σ)) : Calls Try.prog 79 #[.pointer (some ⟨g, 0, none⟩), .string ⟨nm.toArray⟩] w fun e w' => e = .returned (.int .i64 0) ∧ DkS w g F σ w' := by
  have HS := Lib.hid (delete_c h nm hl)
  rw [hm] at HS
  clear h hm
  go_enter Try.func79, Try.ntmps79
  go_wp2_with fail
  refine HS.out.mono ?_
  rintro e w' ⟨rfl, hd⟩
  have HD := Lib.hid hd
  clear hd
  go_wp2_with fail
  go_ret
  exact ⟨rfl, HD.out⟩

theorem swap0_c {w : World} {g : Nat} {F : Nat → Prop} (h : Dk w g F (newM 20000)) {ao : Option Addr} {n cap : Nat} (hG : Grid w ao n cap [[1, 2]]) {S : List UInt8} (hS : mputS 3 9 0 [[1, 2]] = (S, 0)) (hSl : (S.length : Int) ≤ 100) :
    Calls Try.prog 63 #[.pointer (some ⟨g, 0, none⟩), .agg #[.int .i64 3, .int .i64 9, .int .u64 0, .slice ao n cap]] w fun e w' => e = .returned (.int .i64 0) ∧ DkS w g F (one ⟨mapN, S, S.length⟩ 20000 0 0 false) w' := by
  have hx := ext_a1 w (.cells #[.int .i64 3, .int .i64 9, .int .u64 0, .slice ao n cap] 66)
  have HH := Lib.hid ((DkS.refl h).ext hx)
  have HP := Lib.hid (mput_c 3 9 0 ao n cap [[1, 2]] _ (hG.ext hx) (by decide) (by decide) (by decide) (by decide))
  rw [hS] at HP
  have hb := Blk.new w 66 #[.int .i64 3, .int .i64 9, .int .u64 0, .slice ao n cap]
  have d0 := hb.cell 0; have d1 := hb.cell 1; have d2 := hb.cell 2; have d3 := hb.cell 3
  clear h hG hS hx hb
  go_enter Try.func63, Try.ntmps63
  go_wp2_with fail
  refine HP.out.mono ?_
  rintro e w1 ⟨rfl, hx⟩
  have HH := Lib.hid (HH.out.ext hx)
  clear hx d0 d1 d2 d3
  go_wp2_with fail
  refine (over_ok HH.out.dk (by kernel_rfl)).mono ?_
  rintro e w' ⟨rfl, rfl⟩
  go_wp2_with fail
  refine (gone_none HH.out.dk newN (by decide) (by kernel_rfl)).mono ?_
  rintro e w2 ⟨rfl, hd⟩
  have HH := Lib.hid (HH.out.trans hd)
  clear hd
  go_wp2_with fail
  refine (free_c HH.out.dk).mono ?_
  rw [show freeM (newM 20000) = 20000 by kernel_rfl]
  rintro e w3 ⟨rfl, hx⟩
  have HH := Lib.hid (HH.out.ext hx)
  clear hx
  go_wp2_with fail
  refine (create_c HH.out.dk newN (by decide)).mono ?_
  rw [show createM (newM 20000) newN = (0, one ⟨newN, [], 0⟩ 20000 0 0 false) by kernel_rfl]
  rintro e w4 ⟨rfl, hd⟩
  have HH := Lib.hid (HH.out.trans hd)
  clear hd
  go_wp2_with fail
  refine (append_c HH.out.dk newN S (by decide) (by omega)).mono ?_
  rw [one_append (f := ⟨newN, [], 0⟩) rfl (by show ((0 : Nat) : Int) + _ ≤ _; omega)]
  rintro e w5 ⟨rfl, hd⟩
  have HH := Lib.hid (HH.out.trans hd)
  clear hd
  go_wp2_with fail
  refine (sync_c HH.out.dk newN (by decide)).mono ?_
  rw [one_sync rfl]
  rintro e w6 ⟨rfl, hd⟩
  have HH : Hid (DkS w g F (one ⟨newN, S, S.length⟩ 20000 0 0 false) w6) := Lib.hid (HH.out.trans hd)
  clear hd
  go_wp2_with fail
  refine (rename_c HH.out.dk newN mapN (by decide) (by decide)).mono ?_
  rw [show renameM (one ⟨newN, S, S.length⟩ 20000 0 0 false) newN mapN = (0, one ⟨mapN, S, S.length⟩ 20000 0 0 false) from rfl]
  rintro e w7 ⟨rfl, hd⟩
  have HH := Lib.hid (HH.out.trans hd)
  clear hd
  go_wp2_with fail
  go_ret
  exact ⟨rfl, HH.out⟩

theorem mapped_c (w : World) : Calls Try.prog 36 #[] w fun e w' => e = .returned (.bool true) ∧ Ext w w' := by
  have hv : mvalid 3 9 [[1, 2]] = true := by kernel_rfl
  obtain ⟨S, hS⟩ : ∃ S, sealS (manBody 3 9 0 [[1, 2]]) = S := ⟨_, rfl⟩
  have HP : Hid (mputS 3 9 0 [[1, 2]] = (S, 0)) := Lib.hid (by unfold mputS; rw [if_pos hv, hS])
  have HG : Hid (mgetS S = ⟨3, 9, 0, [[1, 2]], 0⟩) := Lib.hid (by
    rw [← hS, mget_put hv (by decide) (by decide), show trimL [[1, 2]] = [[1, 2]] by kernel_rfl])
  have HSl : Hid ((S.length : Int) ≤ 100) := Lib.hid (by
    rw [← hS, sealS_length, show (manBody 3 9 0 [[1, 2]]).length = 30 by kernel_rfl]; decide)
  clear hS hv
  go_enter Try.func36, Try.ntmps36
  go_wp2_with fail
  refine (new_c w 20000 (by decide) (by decide)).mono ?_
  rintro e w1 ⟨g, F, rfl, hd, hF, hx⟩
  have HD := Lib.hid hd; have HF := Lib.hid hF; have HX := Lib.hid hx
  clear hd hF hx
  go_wp2_with fail
  refine (load_none HD.out (by kernel_rfl)).mono ?_
  rintro e w2 ⟨a0, c0, rfl, _, hd⟩
  have HX2 := Lib.hid (hd.off.ext HX.out HF.out)
  have HF2 : Hid (∀ i, Gr F w1 w2 i → w.heap.size ≤ i) := Lib.hid fun i hi => Gr.ge HF.out HX.out.size hi
  have HD2 := Lib.hid hd.dk
  have HN2 := Lib.hid (show ∀ i, Gr F w1 w2 i → i < w2.heap.size by obtain ⟨_, _, _, _, _, _, h⟩ := hd.dk; exact h)
  obtain ⟨W3, hW3⟩ : ∃ W, W = (((w2.alloc (.cells #[.int .i64 0, .int .i64 0, .int .u64 0, .slice a0 0 c0] 66)).alloc (.cells #[.int .i64 1, .int .i64 2] 3)).alloc (.cells #[.slice (some ⟨w2.heap.size + 1, 0, none⟩) 2 2] 30)).alloc (.cells #[.int .i64 3, .int .i64 9, .int .u64 0, .slice (some ⟨w2.heap.size + 1 + 1, 0, none⟩) 1 1] 66) := ⟨_, rfl⟩
  have hb1 : Blk W3 (w2.heap.size + 1) 3 #[.int .i64 1, .int .i64 2] := by
    rw [hW3]; refine Blk.ext ?_ (ext_a2 _ _ _); have h := Blk.new (w2.alloc (.cells #[.int .i64 0, .int .i64 0, .int .u64 0, .slice a0 0 c0] 66)) 3 #[.int .i64 1, .int .i64 2]
    rw [World.size_alloc] at h; exact h
  have hb2 : Blk W3 (w2.heap.size + 1 + 1) 30 #[.slice (some ⟨w2.heap.size + 1, 0, none⟩) 2 2] := by
    rw [hW3]; refine Blk.ext ?_ (ext_a1 _ _); have h := Blk.new ((w2.alloc (.cells #[.int .i64 0, .int .i64 0, .int .u64 0, .slice a0 0 c0] 66)).alloc (.cells #[.int .i64 1, .int .i64 2] 3)) 30 #[.slice (some ⟨w2.heap.size + 1, 0, none⟩) 2 2]
    rw [World.size_alloc, World.size_alloc] at h; exact h
  have hb3 : Blk W3 (w2.heap.size + 1 + 1 + 1) 66 #[.int .i64 3, .int .i64 9, .int .u64 0, .slice (some ⟨w2.heap.size + 1 + 1, 0, none⟩) 1 1] := by
    rw [hW3]; have h := Blk.new (((w2.alloc (.cells #[.int .i64 0, .int .i64 0, .int .u64 0, .slice a0 0 c0] 66)).alloc (.cells #[.int .i64 1, .int .i64 2] 3)).alloc (.cells #[.slice (some ⟨w2.heap.size + 1, 0, none⟩) 2 2] 30)) 66 #[.int .i64 3, .int .i64 9, .int .u64 0, .slice (some ⟨w2.heap.size + 1 + 1, 0, none⟩) 1 1]
    rw [World.size_alloc, World.size_alloc, World.size_alloc] at h; exact h
  have HX3 : Hid (Ext w2 W3) := Lib.hid (by rw [hW3]; exact ((ext_a2 _ _ _).trans (ext_a2 _ _ _)))
  have HB1 := Lib.hid hb1; have HB2 := Lib.hid hb2; have HB3 := Lib.hid hb3
  clear hd hb1 hb2 hb3
  go_wp2_with fail
  rw [← hW3]
  have HW3 := Lib.hid hW3
  clear hW3
  refine (swap0_c (HD2.out.ext HX3.out) (lit_grid HB1.out HB2.out) HP.out HSl.out).mono ?_
  rintro e w4 ⟨rfl, hd⟩
  have hn : ∀ k, ¬ Gr F w1 w2 (w2.heap.size + k) := fun k hf => by have := HN2.out _ hf; omega
  have HB1 := Lib.hid (hd.off.blk HB1.out (hn 1))
  have HB2 := Lib.hid (hd.off.blk HB2.out (hn 2))
  have hb3 := hd.off.blk HB3.out (hn 3)
  have HB3' := Lib.hid hb3
  have HX4 := Lib.hid (hd.off.ext (HX2.out.trans HX3.out) HF2.out)
  have HF4 : Hid (∀ i, Gr (Gr F w1 w2) W3 w4 i → w.heap.size ≤ i) := Lib.hid fun i hi => Gr.ge HF2.out (HX2.out.trans HX3.out).size hi
  have HN4 : Hid (∀ k, w2.heap.size + 1 + k < W3.heap.size → ¬ Gr (Gr F w1 w2) W3 w4 (w2.heap.size + 1 + k)) := Lib.hid fun k hk => Gr.not (by rw [Nat.add_assoc]; exact hn _) hk
  have HD4 := Lib.hid hd.dk
  have L1 := HB3.out.lt
  clear hd hn
  go_wp2_with fail
  refine (load_some HD4.out (f := ⟨mapN, S, S.length⟩) rfl rfl).mono ?_
  show ∀ e w', RetL _ _ _ _ (mgetS S) e w' → _
  rw [HG.out]
  rintro e w5 ⟨a5, c5, rfl, hg5, hd⟩
  have HB1 := Lib.hid (hd.off.blk HB1.out (HN4.out 0 (by omega)))
  have HB2 := Lib.hid (hd.off.blk HB2.out (HN4.out 1 (by omega)))
  have hb5 := hd.off.blk hb3 (HN4.out 2 (by omega))
  have HG5 := Lib.hid hg5
  have HK := Lib.hid (KD.dkS HF4.out HX4.out hd)
  have hb6 := hb5.ext (ext_a1 w5 (.cells #[.int .i64 3, .int .i64 9, .int .u64 0, .slice a5 1 c5] 66))
  have d0 := hb6.cell 0; have d1 := hb6.cell 1; have d2 := hb6.cell 2; have d3 := hb6.cell 3
  clear hd hg5 hb3 hb5 hb6 L1
  go_wp2_with fail
  refine (refmsame_c 3 9 0 _ _ _ [[1, 2]] 3 9 0 _ _ _ [[1, 2]] _ ((lit_grid HB1.out HB2.out).ext (ext_a1 _ _)) (HG5.out.ext (ext_a1 _ _))).mono ?_
  rw [msame_self]
  rintro e w6 ⟨rfl, hx6⟩
  have HK := Lib.hid ((HK.out.ext (ext_a1 _ _)).ext hx6)
  clear hx6 d0 d1 d2 d3
  go_wp2_with fail
  refine (KD.names HK.out).mono ?_
  rintro e w7 hret
  obtain ⟨ao, cap, rfl, _, hx7⟩ := hret.out
  have HE := Lib.hid (HK.out.base.trans hx7)
  clear hret hx7
  go_wp2_with fail
  go_ret
  exact ⟨rfl, HE.out⟩

theorem loadlaw_c (s : List UInt8) (w : World) (hl : s.length ≤ 9223372036854775807) :
    Calls Try.prog 8 #[.string ⟨s.toArray⟩] w fun e w' => e = .returned (.bool true) ∧ Ext w w' := by
  by_cases hb : 1000 < (s.length : Int)
  · go_enter Try.func8, Try.ntmps8
    go_wp2_with fail
    refine (mapped_c _).mono ?_
    rintro e w' ⟨rfl, hx⟩
    have HX := Lib.hid hx
    clear hx
    go_wp2_with fail
    go_ret
    exact ⟨rfl, HX.out⟩
  have hb1 : (s.length : Int) ≤ 1000 := by omega
  clear hb hl
  have HG1 := Lib.hid (mget_rget s)
  go_enter Try.func8, Try.ntmps8
  go_wp2_with fail
  refine (KD.new w 20000 (by decide) (by decide) (Ext.refl _)).mono ?_
  rintro e w1 ⟨g, rfl, hk⟩
  have HK := Lib.hid hk
  clear hk
  go_wp2_with fail
  refine (KD.loadNone HK.out (by kernel_rfl)).mono ?_
  rintro e w2 ⟨a0, c0, rfl, _, hk⟩
  have HK := Lib.hid (hk.ext (ext_a1 w2 (.cells #[.int .i64 0, .int .i64 0, .int .u64 0, .slice a0 0 c0] 66)))
  clear hk
  go_wp2_with fail
  refine (KD.create HK.out mapN (by decide) (c := 0) (σ' := one ⟨mapN, [], 0⟩ 20000 0 0 false) (by kernel_rfl)).mono ?_
  rintro e w3 ⟨rfl, hk⟩
  have HK := Lib.hid hk
  clear hk
  go_wp2_with fail
  refine (KD.append HK.out mapN s (by decide) (by omega) (one_append rfl (by show ((0 : Nat) : Int) + _ ≤ _; omega))).mono ?_
  rintro e w4 ⟨rfl, hk⟩
  have HK : Hid (KD w w4 g (one ⟨mapN, s, 0⟩ 20000 0 0 false)) := Lib.hid hk
  clear hk
  go_wp2_with fail
  refine (KD.loadSome HK.out (f := ⟨mapN, s, 0⟩) rfl rfl).mono ?_
  show ∀ e w', RetK _ _ _ (mgetS s) e w' → _
  rw [HG1.out]
  obtain ⟨G, hG⟩ : ∃ G, rgetS s = G := ⟨_, rfl⟩
  have HG := Lib.hid hG
  rw [hG]
  clear hG
  rintro e w5 ⟨a5, c5, rfl, hg5, hk⟩
  have HG5 := Lib.hid hg5
  have HK := Lib.hid (hk.ext (ext_a1 w5 (.cells #[.int .i64 G.nx, .int .i64 G.ck, .int .u64 G.sd, .slice a5 G.L.length c5] 66)))
  have hb5 := Blk.new w5 66 #[.int .i64 G.nx, .int .i64 G.ck, .int .u64 G.sd, .slice a5 G.L.length c5]
  have HB5 := Lib.hid hb5
  clear hk hg5 hb5
  go_wp2_with fail
  refine (refmget_c s _ (by omega)).mono ?_
  rw [HG.out]
  rintro e w6 hret
  obtain ⟨v6, vs6, rfl, hg6, hx6⟩ := hret
  obtain ⟨a6, c6, rfl, hgr6⟩ := hg6.grid
  have HG5 := Lib.hid ((HG5.out.ext (ext_a1 _ _)).ext hx6)
  have HG6 := Lib.hid hgr6
  have HK := Lib.hid (HK.out.ext hx6)
  have HB5 := Lib.hid (HB5.out.ext hx6)
  have hb5 := HB5.out.ext (ext_a1 w6 (.cells #[.int .i64 G.nx, .int .i64 G.ck, .int .u64 G.sd, .slice a6 G.L.length c6] 66))
  have d0 := hb5.cell 0; have d1 := hb5.cell 1; have d2 := hb5.cell 2; have d3 := hb5.cell 3
  clear hg6 hx6 hgr6 hb5
  go_wp2_with fail
  refine (refmsame_c _ _ _ _ _ _ G.L _ _ _ _ _ _ G.L _ (HG5.out.ext (ext_a1 _ _)) (HG6.out.ext (ext_a1 _ _))).mono ?_
  rw [msame_self]
  rintro e w7 ⟨rfl, hx7⟩
  have HK := Lib.hid ((HK.out.ext (ext_a1 _ _)).ext hx7)
  clear hx7 d0 d1 d2 d3
  go_wp2_with fail
  refine (mapped_c _).mono ?_
  rintro e w' ⟨rfl, hx⟩
  have HE := Lib.hid (HK.out.base.trans hx)
  clear hx
  go_wp2_with fail
  go_ret
  exact ⟨rfl, HE.out⟩

end Go.Proofs.Ytoibjhoebjcfeaa
