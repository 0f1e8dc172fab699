/- Walks: an index flushed, with a log that holds nothing; plain laws of its last versions and of an index that is opened anew. Walks: an index with its disk and an empty log, at ease: its manifest, what waits, all its entries. Walks: the chapter's index (law24 fresh, indexed). Walks: an index is opened again, of its own manifest. Walks: an index on a disk that is well has no orphans. -/
import Derived.Test.YtmgpffknmmoggaaGreatDoorG44PIndexPlay
import Derived.Test.YtmgpffknmmoggaaGreatDoorG46PIndexPlay
import Derived.Test.YtmgpffknmmoggaaGreatDoorG38PIndexPlay
import Derived.Test.YtmgpffknmmoggaaGreatDoorG8PIndexPlay
import Derived.Test.YtmgpffknmmoggaaGreatDoorG47PIndexPlay
set_option linter.unusedVariables false
set_option linter.unusedSimpArgs false
namespace Go.Proofs.YtmgpffknmmoggaaGreatDoor
open Go.RowKit
set_option maxRecDepth 100000
set_option linter.unusedVariables false
set_option maxHeartbeats 6400000
section
variable {wb w w1 w2 : World} {g gx gl gm gt : Nat} {st : IxSt} {F Y K : Nat → Prop} {σ σ' : DM} {c s sure : Int} {φ : Fls} {u cnt : Nat} {B : List En} {v : Value}
theorem note0_c (h : LogM w gl g s v [] sure) : Calls Tryz.prog 113 #[.pointer (some ⟨gl, 0, none⟩), .int .i64 0] w fun e w' => e = .returned (.int .i64 0) ∧ LogM w' gl g s v [] sure ∧ OffS (fun i => i = gl) w w' := by
  have c2 := h.c2
  have z2 := h.blk.free 2
  have HN : Hid (LogM (w.setCell ⟨gl, 2, none⟩ (.bool false)) gl g s v [] sure ∧ OffS (fun i => i = gl) w (w.setCell ⟨gl, 2, none⟩ (.bool false))) := Lib.hid ⟨⟨h.blk.set 2 (.bool false), row_setOther h.row _ h.apart⟩, OffS.set (F := fun i => i = gl) _ rfl _ _⟩
  clear h
  go_enter Tryz.func113, Tryz.ntmps113
  go_wp2_with fail
  go_ret
  exact ⟨rfl, HN.out⟩
theorem sync0_c (h : LogM w gl g s v [] sure) : Calls Tryz.prog 114 #[.pointer (some ⟨gl, 0, none⟩)] w fun e w' => e = .returned (.int .i64 0) ∧ w = w' := by
  have c3 := h.c3
  obtain ⟨a, k, rfl, hx⟩ := h.slice
  clear h hx
  go_enter Tryz.func114, Tryz.ntmps114
  go_wp2_with fail
  go_ret
  exact ⟨rfl, rfl⟩
theorem lflush0_c (hd : Dk w g F σ) (hl : LogM w gl g s v [] sure) (hap : ∀ i, F i → ¬ InLg gl v i) (hup : σ.down = false) (hst : σ.starts = s) :
    Calls Tryz.prog 49 #[.pointer (some ⟨gl, 0, none⟩)] w fun e w' => e = .returned (.int .i64 0) ∧ LogM w' gl g s v [] sure ∧ OffS (fun i => i = gl) w w' := by
  obtain ⟨w0, hw0⟩ : ∃ w0 : World, w0 = { w with heap := #[] } := ⟨_, rfl⟩
  have hx0 : Ext w0 w := by
    subst hw0
    exact ⟨rfl, rfl, rfl, Nat.zero_le _, fun i hi => absurd hi (Nat.not_lt_zero _)⟩
  have hz0 : w0.heap.size = 0 := by rw [hw0]; rfl
  have HRd := Lib.hid (ready_c (K := fun _ => False) (w0 := w0) ⟨hd, hl, hap, fun i hi => by omega, fun i hi => by omega, hx0, fun i hi => hi.elim⟩ hup hst)
  have HL := Lib.hid hl
  clear hd hl hap hw0
  go_enter Tryz.func49, Tryz.ntmps49
  go_wp2_with fail
  refine HRd.out.mono ?_
  rintro e w1 ⟨rfl, hb⟩
  have HX1 := Lib.hid hb
  have HS := Lib.hid (sync0_c (HL.out.ext hb))
  have HNt := Lib.hid (note0_c (HL.out.ext hb))
  clear hb
  go_wp2_with fail
  refine HS.out.mono ?_
  rintro e w2 ⟨rfl, rfl⟩
  go_wp2_with fail
  refine HNt.out.mono ?_
  rintro e w3 ⟨rfl, h3, h4⟩
  have H3 := Lib.hid h3; have H4 := Lib.hid h4
  clear h3 h4
  go_wp2_with fail
  go_ret
  exact ⟨rfl, H3.out, (OffS.of_ext HX1.out).trans H4.out⟩
theorem iflush0_c (h : IxK wb w g gx st σ K) (hl : LogM w gl g s v [] sure) (hK : ∀ i, InLg gl v i → K i) (hwb : wb.heap.size ≤ gl) (hup : σ.down = false) (hst : σ.starts = s) (hw : st.w.length ≤ 1000) (hc : st.c < 1000000) :
    Calls Tryz.prog 11 #[.pointer (some ⟨gx, 0, none⟩), .pointer (some ⟨gl, 0, none⟩)] w fun e w' => ∃ w1, (LogM w1 gl g s v [] sure ∧ OffS (fun i => i = gl) w w1) ∧ FlushR wb w1 g gx st σ 0 K e w' := by
  obtain ⟨F, gm, gt, Y, h1⟩ := h
  refine iflush_c h1.i.x (P := fun w1 => LogM w1 gl g s v [] sure ∧ OffS (fun i => i = gl) w w1) ((lflush0_c h1.i.d hl (fun i hf hg => (h1.k i (hK i hg)).2.1 hf) hup hst).mono ?_) ?_ hw hc
  · rintro e w1 ⟨rfl, h2, h3⟩
    exact ⟨rfl, ⟨F, gm, gt, Y, h1.side h3.size (h3.ext h1.ext fun i hi => by rw [hi]; exact hwb) fun i hi hn => h3.block i hi fun e => hn (hK i (.inl e))⟩, h2, h3⟩
  · rintro w1 W ⟨h2, h3⟩ hx
    exact end_c (C := []) (h2.ext hx) okC.nil
theorem IxK.thru (h : IxK wb w g gx st σ K) {n : Int} {e : TE} (he : st.t n = some e) : ∀ x ∈ e.L, e.may x.1 = true := by
  obtain ⟨F, gm, gt, Y, h1⟩ := h
  exact (h1.tb he).t.thru
theorem lasts_ok (h : PInv st σ c s φ u cnt B) (x a : Int) : ∀ (ns : List Int) (out : Int) (k0 : Nat), -1 ≤ out → (∀ n ∈ ns, n ∈ st.m.L.flatten) →
    ∃ k r, lastsM st x (min a 1073741824) (tellN k0 σ) ns out = (r, 0, tellN k σ) ∧ out ≤ r ∧ (∀ n ∈ ns, outE (TL st n) x (min a 1073741824) ≤ r) ∧ (r = out ∨ ∃ n ∈ ns, r = outE (TL st n) x (min a 1073741824))
  | [], out, k0, _, _ => ⟨k0, out, by rw [lastsM], Int.le_refl _, (fun n hn => by cases hn), .inl rfl⟩
  | n :: ns, out, k0, ho, hn => by
    obtain ⟨e, he⟩ := h.full n (hn n (by simp))
    have ht := h.tb n e he
    obtain ⟨k, _, _, hr⟩ := lastM_ok ((h.wl he).tellN k0) ht.2.2.2.1.sort ht.2.2.2.1.ok ht.2.2.2.2 x (min a 1073741824)
    rw [show min (min a 1073741824) 1073741824 = min a 1073741824 by omega] at hr
    have hout : ∃ z, outE (TL st n) x (min a 1073741824) = z ∧ (∃ y ok, lastM (tellN k0 σ) n e.L e.may x (min a 1073741824) = (y, ok, 0, tellN (k0 + k) σ) ∧ (if ok then max out y.2.1 else out) = max out z) := by
      rw [TL_some he]
      by_cases hu : min a 1073741824 < 0
      · rw [if_pos hu] at hr
        have hz : outE e.L x (min a 1073741824) = -1 := by
          have h1 := lastE_is ht.2.2.2.1.sort x (min a 1073741824)
          rcases h1.2 with h2 | ⟨y, hy, _, h3, h4⟩
          · exact h2
          · have := ht.2.2.2.1.ok y hy
            unfold okEn at this
            simp at this
            omega
        refine ⟨-1, hz, en0, false, by rw [hr]; simp only; rw [tellN_add], ?_⟩
        rw [if_neg (by decide)]; omega
      · rw [if_neg hu] at hr
        unfold outE
        cases hl : lastE e.L x (min a 1073741824) with
        | none =>
          rw [hl] at hr
          refine ⟨-1, rfl, en0, false, by rw [hr]; simp only; rw [tellN_add], ?_⟩
          rw [if_neg (by decide)]; omega
        | some y =>
          rw [hl] at hr
          exact ⟨y.2.1, rfl, y, true, by rw [hr]; simp only; rw [tellN_add], by rw [if_pos rfl]⟩
    obtain ⟨z, hz, y, ok, hlm, hmx⟩ := hout
    obtain ⟨k2, r, h2, h3, h4, h5⟩ := lasts_ok h x a ns (max out z) (k0 + k) (by omega) (fun m hm => hn m (by simp [hm]))
    refine ⟨k2, r, ?_, by omega, fun m hm => ?_, ?_⟩
    · rw [lastsM, he]
      simp only
      rw [hlm]
      simp only
      rw [if_neg (fun h => h rfl), hmx, h2]
    · rcases List.mem_cons.1 hm with e1 | hm
      · rw [e1, hz]; omega
      · exact h4 m hm
    · rcases h5 with h5 | ⟨m, hm, h5⟩
      · rcases Int.le_total out z with h6 | h6
        · exact .inr ⟨n, by simp, by rw [h5, hz]; omega⟩
        · exact .inl (by rw [h5]; omega)
      · exact .inr ⟨m, by simp [hm], h5⟩
theorem PInv.lastIs (h : PInv st σ c s φ u cnt B) (x a : Int) : ∃ k r, lastsM st x (min a 1073741824) σ st.m.L.flatten (outE st.w x (min a 1073741824)) = (r, 0, tellN k σ) ∧ LastIs B x (min a 1073741824) r := by
  have h0 := lastE_is h.okw.sort x (min a 1073741824)
  have hm1 : -1 ≤ outE st.w x (min a 1073741824) := by
    rcases h0.2 with e | ⟨y, hy, _, _, h4⟩
    · omega
    · have := h.okw.ok y hy
      unfold okEn at this
      simp at this
      omega
  obtain ⟨k, r, h1, h2, h3, h4⟩ := lasts_ok h x a st.m.L.flatten _ 0 hm1 (fun n hn => hn)
  refine ⟨k, r, h1, fun y hy q1 q2 => ?_, ?_⟩
  · rcases (h.mem y).1 hy with h5 | ⟨n, e, he, h5⟩
    · have := h0.1 y h5 q1 q2; omega
    · have q3 := (lastE_is (h.tb n e he).2.2.2.1.sort x (min a 1073741824)).1 y h5 q1 q2
      have q4 := h3 n (h.tb n e he).1
      rw [TL_some he] at q4
      omega
  · rcases h4 with e | ⟨n, hn, e⟩
    · rcases h0.2 with e2 | ⟨y, hy, q1, q2, q3⟩
      · exact .inl (by omega)
      · exact .inr ⟨y, (h.mem y).2 (.inl hy), q1, q2, by omega⟩
    · obtain ⟨e3, he⟩ := h.full n hn
      rw [TL_some he] at e
      rcases (lastE_is (h.tb n e3 he).2.2.2.1.sort x (min a 1073741824)).2 with e2 | ⟨y, hy, q1, q2, q3⟩
      · exact .inl (by omega)
      · exact .inr ⟨y, (h.mem y).2 (.inr ⟨n, e3, he, hy⟩), q1, q2, by omega⟩
end
end Go.Proofs.YtmgpffknmmoggaaGreatDoor
namespace Go.Proofs.YtmgpffknmmoggaaGreatDoor
open Go.RowKit
set_option maxRecDepth 100000
set_option linter.unusedVariables false
set_option maxHeartbeats 6400000
def IXL (wb W : World) (g gx gl : Nat) (rate : Nat) (m : Man) (ws : List En) (c : Int) (u cnt : Nat) (B : List En) (K : Nat → Prop) : Prop :=
  ∃ st σ s φ gv sure, st.m = m ∧ st.w = ws ∧ st.rate = rate ∧ st.c ≤ cnt ∧ IxK wb W g gx st σ (fun i => K i ∨ InLg gl gv i) ∧ PInv st σ c s φ u cnt B ∧ LogM W gl g s gv [] sure ∧ (∀ i, InLg gl gv i → ¬ K i) ∧ wb.heap.size ≤ gl
section
variable {wb W W' : World} {g gx gl rate : Nat} {m : Man} {ws : List En} {c : Int} {u cnt : Nat} {B : List En} {K K' : Nat → Prop}
theorem IXL.base (h : IXL wb W g gx gl rate m ws c u cnt B K) : Ext wb W := by obtain ⟨st, σ, s, φ, gv, sure, h1, h2, h3, h4, h5, h6, h7, h8, h9⟩ := h; exact h5.base
theorem IXL.grow (h : IXL wb W g gx gl rate m ws c u cnt B K) (k : Ext W W') : IXL wb W' g gx gl rate m ws c u cnt B K := by
  obtain ⟨st, σ, s, φ, gv, sure, h1, h2, h3, h4, h5, h6, h7, h8, h9⟩ := h
  exact ⟨st, σ, s, φ, gv, sure, h1, h2, h3, h4, h5.grow k, h6, h7.ext k, h8, h9⟩
theorem IXL.kExt (h : IXL wb W g gx gl rate m ws c u cnt B K) (k : Ext W W') : Stay K W W' := by
  obtain ⟨st, σ, s, φ, gv, sure, h1, h2, h3, h4, h5, h6, h7, h8, h9⟩ := h
  exact fun i hi => h5.kExt k i (.inl hi)
theorem IXL.more (h : IXL wb W g gx gl rate m ws c u cnt B K) (k : Ext W W') (hK : ∀ i, K' i → K i ∨ (W.heap.size ≤ i ∧ i < W'.heap.size)) : IXL wb W' g gx gl rate m ws c u cnt B K' := by
  obtain ⟨st, σ, s, φ, gv, sure, h1, h2, h3, h4, h5, h6, h7, h8, h9⟩ := h
  refine ⟨st, σ, s, φ, gv, sure, h1, h2, h3, h4, h5.more k (fun i hi => ?_), h6, h7.ext k, fun i hi hk => ?_, h9⟩
  · rcases hi with hi | hi
    · exact (hK i hi).imp .inl id
    · exact .inl (.inr hi)
  · rcases hK i hk with h10 | ⟨h10, _⟩
    · exact h8 i hi h10
    · have := h7.lt hi; omega
theorem IXL.beside (h : IXL wb W g gx gl rate m ws c u cnt B K) (k : ∀ i, K' i → K i) : IXL wb W g gx gl rate m ws c u cnt B K' := by
  obtain ⟨st, σ, s, φ, gv, sure, h1, h2, h3, h4, h5, h6, h7, h8, h9⟩ := h
  exact ⟨st, σ, s, φ, gv, sure, h1, h2, h3, h4, h5.beside (fun i hi => hi.imp (k i) id), h6, h7, fun i hi hk => h8 i hi (k i hk), h9⟩
theorem IXL.man (h : IXL wb W g gx gl rate m ws c u cnt B K) : m.ok := by obtain ⟨st, σ, s, φ, gv, sure, rfl, h2, h3, h4, h5, h6, h7, h8, h9⟩ := h; exact h6.man
theorem IXL.okB (h : IXL wb W g gx gl rate m ws c u cnt B K) : okM B ∧ okM ws ∧ ws.length ≤ B.length := by obtain ⟨st, σ, s, φ, gv, sure, rfl, rfl, h3, h4, h5, h6, h7, h8, h9⟩ := h; exact ⟨h6.okB, h6.okw, h6.wlen⟩
theorem IXL.add (h : IXL wb W g gx gl rate m ws c u cnt B K) {e : En} (he : okEn e = true) (hl : B.length < 50000) :
    Calls Tryz.prog 17 #[.pointer (some ⟨gx, 0, none⟩), enV e] W fun r w' => r = .returned (.int .i64 0) ∧ IXL wb w' g gx gl rate m (addE e ws) c u cnt (addE e B) K ∧ Stay K W w' := by
  obtain ⟨st, σ, s, φ, gv, sure, h1, h2, h3, h4, h5, h6, h7, h8, h9⟩ := h
  refine (iadd_c h5 he (by have := h6.wlen; omega)).mono ?_
  rintro r w' ⟨rfl, h10, h11⟩
  exact ⟨rfl, ⟨{ st with w := addE e st.w }, σ, s, φ, gv, sure, h1, by rw [← h2], h3, h4, h10, h6.add he hl, h7.same fun i hi => h11 i (.inr hi), h8, h9⟩, fun i hi => h11 i (.inl hi)⟩
theorem IXL.addBad (h : IXL wb W g gx gl rate m ws c u cnt B K) {e : En} (he : e.2.1 < 0 ∨ e.2.2 < 0) :
    Calls Tryz.prog 17 #[.pointer (some ⟨gx, 0, none⟩), enV e] W fun r w' => r = .returned (.int .i64 2) ∧ Ext W w' := by
  obtain ⟨st, σ, s, φ, gv, sure, h1, h2, h3, h4, ⟨F, gm, gt, Y, q⟩, h6, h7, h8, h9⟩ := h
  exact iadd_bad q.i.x he
theorem IXL.waits (h : IXL wb W g gx gl rate m ws c u cnt B K) : Calls Tryz.prog 26 #[.pointer (some ⟨gx, 0, none⟩)] W fun e w' => e = .returned (.int .i64 (ws.length : Int)) ∧ W = w' := by
  obtain ⟨st, σ, s, φ, gv, sure, h1, rfl, h3, h4, ⟨F, gm, gt, Y, q⟩, h6, h7, h8, h9⟩ := h
  exact iwaiting_c q.i.x
theorem IXL.tells (h : IXL wb W g gx gl rate m ws c u cnt B K) : Calls Tryz.prog 16 #[.pointer (some ⟨gx, 0, none⟩)] W fun e w' =>
    ∃ v vs, e = .returned (.agg #[.int .i64 m.nx, .int .i64 m.ck, .int .u64 m.sd, v]) ∧ OGr w' W.heap.size 88 3 v vs m.L ∧ Ext W w' := by
  obtain ⟨st, σ, s, φ, gv, sure, rfl, h2, h3, h4, ⟨F, gm, gt, Y, q⟩, h6, h7, h8, h9⟩ := h
  exact imanifest_c q.i.x
theorem IXL.range (h : IXL wb W g gx gl rate m ws c u cnt B K) (x a b : Int) (hl : B.length ≤ 10000) :
    Calls Tryz.prog 18 #[.pointer (some ⟨gx, 0, none⟩), .int .u64 x, .int .i64 a, .int .i64 b] W fun e w' =>
      ∃ v, e = .returned (.tuple #[v, .int .i64 0]) ∧ IXL wb w' g gx gl rate m ws c u cnt B (fun i => K i ∨ v.ownBlock = some i) ∧ Stay K W w' ∧
        w'.ownsRow W.heap.size 44 3 v (rangeE B x (max a 0) (min b 1073741824)).length (ecs (rangeE B x (max a 0) (min b 1073741824))) := by
  obtain ⟨st, σ, s, φ, gv, sure, h1, h2, h3, h4, h5, h6, h7, h8, h9⟩ := h
  obtain ⟨k, R, hR, r1, r2, r3⟩ := h6.rangeIs x a b
  refine (irange_c h5 h6.full x a b hR (fun _ => ⟨r1, by show R.flatten.length ≤ 1000000; omega⟩)).mono ?_
  rintro e w' ⟨v, rfl, h10, h11, h12⟩
  have hrow := h12 rfl
  simp only at hrow
  rw [r3] at hrow
  refine ⟨v, rfl, ⟨st, tellN k σ, s, φ, gv, sure, h1, h2, h3, h4, h10.beside (fun i hi => ?_), h6.tell k, h7.same fun i hi => h11 i (.inr hi), fun i hi hk => ?_, h9⟩, fun i hi => h11 i (.inl hi), hrow⟩
  · rcases hi with (hi | hi) | hi
    · exact .inl (.inl hi)
    · exact .inr hi
    · exact .inl (.inr hi)
  · rcases hk with hk | hk
    · exact h8 i hi hk
    · have := (row_lt hrow i hk).1; have := h7.lt hi; omega
theorem IXL.last (h : IXL wb W g gx gl rate m ws c u cnt B K) (x a : Int) (ha : -9223372036854775808 ≤ a) :
    Calls Tryz.prog 20 #[.pointer (some ⟨gx, 0, none⟩), .int .u64 x, .int .i64 a] W fun e w' =>
      ∃ r, e = .returned (.tuple #[.int .i64 r, .int .i64 0]) ∧ LastIs B x (min a 1073741824) r ∧ IXL wb w' g gx gl rate m ws c u cnt B K ∧ Stay K W w' := by
  obtain ⟨st, σ, s, φ, gv, sure, h1, h2, h3, h4, h5, h6, h7, h8, h9⟩ := h
  obtain ⟨k, r, hR, r1⟩ := h6.lastIs x a
  refine (ilast_c h5 h6.full x a ha hR).mono ?_
  rintro e w' ⟨rfl, h10, h11⟩
  exact ⟨r, rfl, r1, ⟨st, tellN k σ, s, φ, gv, sure, h1, h2, h3, h4, h10, h6.tell k, h7.same fun i hi => h11 i (.inr hi), h8, h9⟩, fun i hi => h11 i (.inl hi)⟩
theorem IXL.flush (h : IXL wb W g gx gl rate m ws c u cnt B K) (hl : B.length ≤ 120) (hcn : cnt < 397) (hr : 6000 ≤ c - (u : Int) - 4000) (hnx : m.nx < 1000000) :
    Calls Tryz.prog 11 #[.pointer (some ⟨gx, 0, none⟩), .pointer (some ⟨gl, 0, none⟩)] W fun e w' =>
      ((ws = [] ∧ e = .returned (.int .i64 0) ∧ IXL wb w' g gx gl rate m ws c u cnt B K) ∨
       (ws ≠ [] ∧ (addS m.L m.nx).2 ≠ 0 ∧ e = .returned (.int .i64 (addS m.L m.nx).2) ∧ IXL wb w' g gx gl rate m ws c u cnt B K) ∨
       (ws ≠ [] ∧ (addS m.L m.nx).2 = 0 ∧ e = .returned (.int .i64 0) ∧ IXL wb w' g gx gl rate (m.add (addS m.L m.nx).1 0) [] c (u + 4000) (cnt + 3) B K)) ∧ Stay K W w' := by
  obtain ⟨st, σ, s, φ, gv, sure, rfl, rfl, h3, h4, h5, h6, h7, h8, h9⟩ := h
  have hwl := h6.wlen
  refine (iflush0_c h5 h7 (fun i hi => .inr hi) h9 h6.fl.up h6.fl.starts (by omega) (by omega)).mono ?_
  rintro e w' ⟨w1, ⟨hlg, hoff⟩, hf⟩
  have hst : ∀ w'', Stay (fun i => K i ∨ InLg gl gv i) w1 w'' → Stay K W w'' ∧ LogM w'' gl g s gv [] sure := fun w'' hk => ⟨fun i hi => by
    rw [hk i (.inl hi)]
    refine hoff.block i ?_ fun e => h8 i (.inl e) hi
    obtain ⟨F, gm, gt, Y, q⟩ := h5
    exact (q.k i (.inl hi)).1, hlg.same fun i hi => hk i (.inr hi)⟩
  rcases hf with ⟨f1, f2, f3, f4⟩ | ⟨f1, f2, f3, f4, f5⟩ | ⟨f1, f2, f, f3, f4, f5, f6⟩
  · obtain ⟨s1, s2⟩ := hst _ f4
    exact ⟨.inl ⟨f1, f2, ⟨st, σ, s, φ, gv, sure, rfl, rfl, h3, h4, f3, h6, s2, h8, h9⟩⟩, s1⟩
  · obtain ⟨s1, s2⟩ := hst _ f5
    exact ⟨.inr (.inl ⟨f1, f2, f3, ⟨st, σ, s, φ, gv, sure, rfl, rfl, h3, h4, f4, h6, s2, h8, h9⟩⟩), s1⟩
  · obtain ⟨L2, hL2⟩ : ∃ L2, (addS st.m.L st.m.nx).1 = L2 := ⟨_, rfl⟩
    have hadd : addS st.m.L st.m.nx = (L2, 0) := by rw [← hL2, ← f2]
    have htab := tabB_length st.w
    have hfl : f.length ≤ 512 := by omega
    obtain ⟨σ', e1, hp⟩ := h6.flush (f := f) hadd (en := 0) (by omega) hnx hcn (by omega)
    rw [hL2, e1] at f5 f6
    simp only at f5 f6
    obtain ⟨b, may, g1, g2⟩ := f6
    obtain ⟨s1, s2⟩ := hst _ g2
    refine ⟨.inr (.inr ⟨f1, f2, f5, ?_⟩), s1⟩
    rw [hL2]
    have hth : ∀ x ∈ st.w, may x.1 = true := g1.thru (n := st.m.nx) (e := ⟨b, st.w, may⟩) (by unfold IxSt.put; simp)
    exact ⟨{ st.put (st.m.add L2 0) st.m.nx ⟨b, st.w, may⟩ with w := [] }, σ', s, _, gv, sure, rfl, rfl, h3, by show st.c + 1 ≤ cnt + 3; omega, g1, (hp b may hth).mono (by omega) (Nat.le_refl _), s2, h8, h9⟩
theorem IXL.merge (h : IXL wb W g gx gl rate m ws c u cnt B K) (lv : Int) (hl : B.length ≤ 120) (hcn : cnt < 397) (hr : 6000 ≤ c - (u : Int) - 4000) (hnx : m.nx < 1000000) :
    Calls Tryz.prog 14 #[.pointer (some ⟨gx, 0, none⟩), .int .i64 lv] W fun e w' =>
      (((replaceS m.L lv m.nx).2 ≠ 0 ∧ e = .returned (.int .i64 (replaceS m.L lv m.nx).2) ∧ IXL wb w' g gx gl rate m ws c u cnt B K) ∨
       ((replaceS m.L lv m.nx).2 = 0 ∧ e = .returned (.int .i64 0) ∧ IXL wb w' g gx gl rate (m.add (replaceS m.L lv m.nx).1 m.ck) ws c (u + 4000) (cnt + 3) B K)) ∧ Stay K W w' := by
  obtain ⟨st, σ, s, φ, gv, sure, rfl, rfl, h3, h4, h5, h6, h7, h8, h9⟩ := h
  have hst : ∀ w'', Stay (fun i => K i ∨ InLg gl gv i) W w'' → Stay K W w'' ∧ LogM w'' gl g s gv [] sure := fun w'' hk => ⟨fun i hi => hk i (.inl hi), h7.same fun i hi => hk i (.inr hi)⟩
  have hold : ∀ n ∈ (pickS st.m.L lv).1, n ∈ st.m.L.flatten := fun n hn => by
    unfold pickS at hn
    split at hn
    · cases hn
    · split at hn
      · cases hn
      · simp only at hn
        rcases Nat.lt_or_ge lv.toNat st.m.L.length with hl | hl
        · rw [List.getD_eq_getElem?_getD, List.getElem?_eq_getElem hl] at hn
          exact List.mem_flatten.2 ⟨_, List.getElem_mem hl, hn⟩
        · rw [List.getD_eq_getElem?_getD, List.getElem?_eq_none hl] at hn
          cases hn
  obtain ⟨k, hal⟩ := alls_ok h6 (pickS st.m.L lv).1 [] 0 hold
  rw [List.nil_append] at hal
  obtain ⟨u1, u2, u3⟩ := h6.unionLe (pickS st.m.L lv).1
  have hfl := flat_len (L := (pickS st.m.L lv).1.map (TL st)) (k := B.length) (fun l hl => by
    obtain ⟨n, hn, rfl⟩ := List.mem_map.1 hl
    exact (sort_TL h6 n).2.2)
  have hpl : (pickS st.m.L lv).1.length ≤ 40 := by
    have hb := Man.bounds h6.man
    unfold pickS
    split
    · simp
    · split
      · simp
      · exact hb.2.2.1 _
  rw [List.length_map] at hfl
  have hfl2 : (pickS st.m.L lv).1.length * B.length ≤ 40 * 120 := Nat.mul_le_mul hpl hl
  refine (imerge_c h5 h6.full lv (by omega) (fun A hA _ => by
    rw [show allsM σ (pickS st.m.L lv).1 [] = _ from hal] at hA
    subst hA
    refine ⟨fun L hL => ?_, by simp only; omega, by simp only; omega⟩
    obtain ⟨n, hn, rfl⟩ := List.mem_map.1 hL
    exact ⟨(sort_TL h6 n).1, (sort_TL h6 n).2.1⟩)).mono ?_
  rintro e w' (⟨p1, p2, p3, p4⟩ | ⟨p1, A, hA, hh⟩)
  · obtain ⟨s1, s2⟩ := hst _ p4
    have hrr : (replaceS st.m.L lv st.m.nx).2 = (pickS st.m.L lv).2 := by unfold replaceS; rw [if_pos p1]
    exact ⟨.inl ⟨by rw [hrr]; exact p1, by rw [hrr]; exact p2, ⟨st, σ, s, φ, gv, sure, rfl, rfl, h3, h4, p3, h6, s2, h8, h9⟩⟩, s1⟩
  · rw [show allsM σ (pickS st.m.L lv).1 [] = _ from hal] at hA
    subst hA
    simp only at hh
    obtain ⟨old, hod⟩ : ∃ old, (pickS st.m.L lv).1 = old := ⟨_, rfl⟩
    have hpk : pickS st.m.L lv = (old, 0) := by rw [← hod, ← p1]
    obtain ⟨pp1, pp2, pp3, pp4, pp5⟩ := pickS_parts (L := st.m.L) (lv := lv) p1
    rcases hh with ⟨q1, _⟩ | ⟨_, q1, q2, q3, q4⟩ | ⟨_, q1, f, f1, f2, c', o, τ, ht, hh⟩
    · exact absurd rfl q1
    · obtain ⟨s1, s2⟩ := hst _ q4
      exact ⟨.inl ⟨q1, q2, ⟨st, tellN k σ, s, φ, gv, sure, rfl, rfl, h3, h4, q3, h6.tell k, s2, h8, h9⟩⟩, s1⟩
    · obtain ⟨L2, hL2⟩ : ∃ L2, (replaceS st.m.L lv st.m.nx).1 = L2 := ⟨_, rfl⟩
      have hrp : replaceS st.m.L lv st.m.nx = (L2, 0) := by rw [← hL2, ← q1]
      rw [hod] at u2
      have htab := tabB_length (unionE (old.map (TL st)))
      rw [hod] at f2
      have hf5 : f.length ≤ 512 := by omega
      obtain ⟨σ1, σ2, e1, e2, hp⟩ := (h6.tell k).merge (f := f) hpk hrp rfl hnx hcn (by omega)
      rw [hod, hL2, e1] at ht
      injection ht with ht1 ht
      injection ht with ht2 ht3
      subst ht1 ht2 ht3
      rcases hh with ⟨hh, _⟩ | ⟨L, b, may, j, hL, j1, j2, j3, j4, j5⟩
      · cases hh
      · injection hL with hL
        subst hL
        rw [hod, e2] at j2 j3 j4
        rw [hod] at j1
        have hj : j = old.length := j2 rfl
        subst hj
        rw [List.take_length, hL2] at j4
        simp only at j3 j4
        obtain ⟨s1, s2⟩ := hst _ j5
        refine ⟨.inr ⟨q1, j3, ?_⟩, s1⟩
        rw [hL2]
        have hnn : st.m.nx ∉ old := fun hx => by
          have h1 := hold st.m.nx (by rw [hod]; exact hx)
          have := h6.range h1
          omega
        have hth : ∀ x ∈ unionE (old.map (TL st)), may x.1 = true := j4.thru (n := st.m.nx) (e := ⟨b, unionE (old.map (TL st)), may⟩) (by unfold IxSt.del IxSt.put; simp [hnn])
        exact ⟨(st.put (st.m.add L2 st.m.ck) st.m.nx ⟨b, unionE (old.map (TL st)), may⟩).del old, σ2, s, _, gv, sure, rfl, rfl, h3, by show st.c + 1 ≤ cnt + 3; omega, j4, (hp b may hth).mono (by omega) (Nat.le_refl _), s2, h8, h9⟩
end
end Go.Proofs.YtmgpffknmmoggaaGreatDoor
namespace Go.Proofs.YtmgpffknmmoggaaGreatDoor
open Go.RowKit
set_option maxRecDepth 100000
set_option linter.unusedVariables false
set_option maxHeartbeats 12800000
def noI : Nat → Prop := fun _ => False
theorem DkK.new24 (w : World) (c : Int) (h0 : 0 ≤ c) (h1 : c ≤ 1048576) : Calls Tryz.prog 8 #[.int .i64 c] w fun e w' => ∃ g, e = .returned (.tuple #[.pointer (some ⟨g, 0, none⟩), .int .i64 0]) ∧ DkK w w' g c 0 [] noI := by
  refine (new_c w c h0 h1).mono ?_
  rintro e w' ⟨g, F, rfl, h1, h2, h3⟩
  exact ⟨g, rfl, F, newM c, ⟨h1, h2, h3, fun i hi => hi.elim⟩, lgd_new c⟩
section
variable {wb w W W' : World} {g gx gl : Nat} {m : Man} {ws : List En} {c s sure : Int} {u cnt : Nat} {B : List En} {K K' : Nat → Prop}
theorem ixl_start (h : LgK wb w g gl c s [] sure K) (sd : Int) (hs0 : 0 ≤ sd) (hs1 : sd < 18446744073709551616) (rate : Nat) :
    Calls Tryz.prog 10 #[.pointer (some ⟨g, 0, none⟩), .agg #[.int .i64 0, .int .i64 0, .int .u64 sd, .slice none 0 0], .float .f64 rate] w fun e w' =>
      ∃ gx, e = .returned (.tuple #[.pointer (some ⟨gx, 0, none⟩), .int .i64 0]) ∧ IXL wb w' g gx gl rate ⟨0, 0, sd, []⟩ [] c 0 0 [] K ∧ Stay K w w' := by
  obtain ⟨F, v, σ, h1, h2⟩ := h
  have hpl : Pl σ c s [] := h2.pl
  have hd : DkF wb w g F σ (fun i => K i ∨ InLg gl v i) := ⟨h1.d, h1.bF, h1.ext, fun i hi => by
    rcases hi with hi | hi
    · exact ⟨(h1.k i hi).1, (h1.k i hi).2.1⟩
    · exact ⟨h1.l.lt hi, fun hf => h1.ap i hf hi⟩⟩
  refine (iopen_c (m := ⟨0, 0, sd, []⟩) hd (ao := none) (cap := 0) (Grid.empty w) (Nat.zero_le _) (fun x hx => by cases hx) hs0 hs1 rate).mono ?_
  have hv : mvalid 0 0 [] = true := by decide
  rintro e w' (⟨q1, _⟩ | ⟨_, q1, _⟩ | ⟨_, _, q1, _⟩ | ⟨_, _, _, gx, t, rfl, q1, q2, q3⟩)
  · rw [show mvalid (⟨0, 0, sd, []⟩ : Man).nx (⟨0, 0, sd, []⟩ : Man).ck (⟨0, 0, sd, []⟩ : Man).L = true from hv] at q1; cases q1
  · rw [hpl.up] at q1; cases q1
  · exact absurd rfl q1
  · have ht : ∀ n, t n = none := fun n => by
      have := q3 n
      cases hn : t n with
      | none => rfl
      | some e => rw [hn] at this; cases this
    refine ⟨gx, rfl, ⟨⟨⟨0, 0, sd, []⟩, rate, [], t, 0⟩, σ, s, fun _ => none, v, sure, rfl, rfl, rfl, Nat.le_refl _, q1, ⟨⟨[], hpl, List.Pairwise.nil, fun _ => rfl, Nat.le_refl _, Nat.le_refl _⟩, ⟨hv, hs0, hs1⟩, (fun n hn => by cases hn), fun n e he => ?_, fun nm hn => absurd rfl hn, okM.nil, okM.nil, fun x => ?_⟩, ?_, fun i hi hk => (h1.k i hk).2.2 hi, h1.bG gl (.inl rfl)⟩, fun i hi => q2 i (.inl hi)⟩
    · simp only at he; rw [ht n] at he; cases he
    · constructor
      · intro hx; cases hx
      · rintro (hx | ⟨n, e, he, _⟩)
        · cases hx
        · simp only at he; rw [ht n] at he; cases he
    · exact h1.l.same fun i hi => q2 i (.inr hi)
theorem fresh24_c (w : World) (c : Int) (h0 : 0 ≤ c) (h1 : c ≤ 1048576) :
    Calls Tryz.prog 36 #[.int .i64 c] w fun e w' => ∃ g gl gx, e = .returned (.tuple #[.pointer (some ⟨g, 0, none⟩), .pointer (some ⟨gl, 0, none⟩), .pointer (some ⟨gx, 0, none⟩)]) ∧ IXL w w' g gx gl 4591870180066957722 ⟨0, 0, 0, []⟩ [] c 0 0 [] noI := by
  have HN := Lib.hid (DkK.new24 w c h0 h1)
  go_enter Tryz.func36, Tryz.ntmps36
  go_wp2_with fail
  refine HN.out.mono ?_
  rintro e w1 ⟨g, rfl, hd⟩
  have HO := Lib.hid (open_l hd)
  clear hd HN
  go_wp2_with fail
  refine HO.out.mono ?_
  rintro e w2 ⟨gl, rfl, hgl, hl, hs⟩
  have HS := Lib.hid (ixl_start hl 0 (by decide) (by decide) 4591870180066957722)
  clear hl hs HO
  go_wp2_with fail
  refine HS.out.mono ?_
  rintro e w3 ⟨gx, rfl, hi, hs⟩
  have HI := Lib.hid hi
  clear hi hs HS
  go_wp2_with fail
  ((try simp only [Exit.inBlock, Exit.then]); refine bodyPost_ret (results_tmp3 rfl _ _ _) rfl ?_)
  exact ⟨g, gl, gx, rfl, HI.out⟩
theorem Ens.lit1 (w : World) (e : En) : Ens (w.alloc (.cells #[.int .u64 e.1, .int .i64 e.2.1, .int .i64 e.2.2] 44)) (some ⟨w.heap.size, 0, none⟩) 1 1 [e] :=
  ⟨rfl, Nat.le_refl _, by omega, (fun h => by cases h), Rd.lit w #[.int .u64 e.1, .int .i64 e.2.1, .int .i64 e.2.2] 44⟩
theorem indexed_c (w : World) : Calls Tryz.prog 7 #[] w fun e w' => e = .returned (.bool true) ∧ Ext w w' := by
  have HN := Lib.hid (fresh24_c w 30000 (by decide) (by decide))
  go_enter Tryz.func7, Tryz.ntmps7
  go_wp2_with fail
  refine HN.out.mono ?_
  rintro e w1 ⟨g, gl, gx, rfl, h1⟩
  have HX2 := Lib.hid (ext_a1 w1 (.cells #[.int .u64 5, .int .i64 0, .int .i64 0] 44))
  have hbk := Blk.new w1 44 #[.int .u64 5, .int .i64 0, .int .i64 0]
  have H2 := Lib.hid (h1.more (K' := fun i => i = w1.heap.size) HX2.out fun i hi => .inr ⟨by omega, by rw [World.size_alloc]; omega⟩)
  have HB2 := Lib.hid hbk
  have HA := Lib.hid (H2.out.add (e := (5, 0, 0)) (by decide) (by decide))
  have x0 : (w1.alloc (.cells #[.int .u64 5, .int .i64 0, .int .i64 0] 44)).cell? ⟨w1.heap.size, 0, none⟩ = some (.int .u64 5) := hbk.cell 0
  have x1 : (w1.alloc (.cells #[.int .u64 5, .int .i64 0, .int .i64 0] 44)).cell? ⟨w1.heap.size, 1, none⟩ = some (.int .i64 0) := hbk.cell 1
  have x2 : (w1.alloc (.cells #[.int .u64 5, .int .i64 0, .int .i64 0] 44)).cell? ⟨w1.heap.size, 2, none⟩ = some (.int .i64 0) := hbk.cell 2
  have HA : Hid (Calls Tryz.prog 17 #[.pointer (some ⟨gx, 0, none⟩), .agg #[.int .u64 5, .int .i64 0, .int .i64 0]] (w1.alloc (.cells #[.int .u64 5, .int .i64 0, .int .i64 0] 44)) fun r w' => r = .returned (.int .i64 0) ∧ IXL w w' g gx gl 4591870180066957722 ⟨0, 0, 0, []⟩ [(5, 0, 0)] 30000 0 0 [(5, 0, 0)] (fun i => i = w1.heap.size) ∧ Stay (fun i => i = w1.heap.size) (w1.alloc (.cells #[.int .u64 5, .int .i64 0, .int .i64 0] 44)) w') := HA
  clear h1 hbk HN
  go_wp2_with fail
  generalize w1.alloc (.cells #[.int .u64 5, .int .i64 0, .int .i64 0] 44) = w2 at *
  generalize w1.heap.size = q at *
  refine HA.out.mono ?_
  rintro e w3 ⟨rfl, h3, hs3⟩
  have H3 := Lib.hid h3
  have HB3 := Lib.hid (HB2.out.same (hs3 q rfl))
  have HW3 := Lib.hid h3.waits
  clear h3 hs3 HA
  go_wp2_with fail
  refine HW3.out.mono ?_
  rintro e w3' ⟨rfl, rfl⟩
  have HR3 := Lib.hid (H3.out.range 5 0 9 (by decide))
  have hrg : rangeE [((5 : Int), (0 : Int), (0 : Int))] 5 (max 0 0) (min 9 1073741824) = [((5 : Int), (0 : Int), (0 : Int))] := by decide
  rw [hrg] at HR3
  clear hrg HW3
  go_wp2_with fail
  refine HR3.out.mono ?_
  rintro e w4 ⟨va, rfl, h4, hs4, hrow4⟩
  obtain ⟨aa, ka, rfl, hens4⟩ := Ens.of_own (Own.of_row hrow4)
  have H4 := Lib.hid h4
  have HRa4 := Lib.hid hrow4
  have hb4 := HB3.out.same (hs4 q rfl)
  have x0 : w4.cell? ⟨q, 0, none⟩ = some (.int .u64 5) := hb4.cell 0
  have x1 : w4.cell? ⟨q, 1, none⟩ = some (.int .i64 0) := hb4.cell 1
  have x2 : w4.cell? ⟨q, 2, none⟩ = some (.int .i64 0) := hb4.cell 2
  have HX5 := Lib.hid (ext_a1 w4 (.cells #[.int .u64 5, .int .i64 0, .int .i64 0] 44))
  have HSm := Lib.hid (same18_c _ (hens4.ext HX5.out) (Ens.lit1 w4 (5, 0, 0)))
  clear h4 hs4 hrow4 hb4 hens4 HR3
  go_wp2_with fail
  refine HSm.out.mono ?_
  rintro e w5 ⟨rfl, hb5⟩
  have HX6 := Lib.hid (HX5.out.trans hb5)
  have H5 := Lib.hid (H4.out.grow HX6.out)
  have HF5 := Lib.hid (H5.out.flush (by decide) (by decide) (by decide) (by decide))
  have HRa5 := Lib.hid (row_ext HRa4.out HX6.out)
  clear hb5 HSm
  go_wp2_with fail
  refine HF5.out.mono ?_
  rintro e w6 ⟨h6 | h6 | h6, hs6⟩
  · exact absurd h6.1 (by decide)
  · exact absurd (show (addS [] 0).2 = 0 by decide) h6.2.1
  obtain ⟨_, _, rfl, h6⟩ := h6
  rw [show (addS (⟨0, 0, 0, []⟩ : Man).L (⟨0, 0, 0, []⟩ : Man).nx).1 = [[0]] by decide] at h6
  have h6 : IXL w w6 g gx gl 4591870180066957722 ⟨1, 0, 0, [[0]]⟩ [] 30000 (0 + 4000) (0 + 3) [(5, 0, 0)] (fun i => i = q ∨ (Value.slice aa 1 ka).ownBlock = some i) := h6
  have H6 := Lib.hid h6
  have HRa6 := Lib.hid (row_same HRa5.out fun i hi => hs6 i (.inr hi))
  have HW6 := Lib.hid h6.waits
  have HM6 := Lib.hid h6.tells
  clear h6 hs6 HF5
  go_wp2_with fail
  refine HW6.out.mono ?_
  rintro e w6' ⟨rfl, rfl⟩
  go_wp2_with fail
  refine HM6.out.mono ?_
  rintro e w7 ⟨vm, vsm, rfl, hog7, hb7⟩
  obtain ⟨am, km, rfl, hgr7⟩ := hog7.grid
  have HX7 := Lib.hid hb7
  have HX8 := Lib.hid ((ext_a1 w7 (.cells #[.int .i64 0] 3)).alloc (.cells #[.slice (some ⟨w7.heap.size, 0, none⟩) 1 1] 88))
  have hl7 := Grid.lit1 (w7.alloc (.cells #[.int .i64 0] 3)) 88 (Ints.lit w7 [0] 3 1 rfl (by decide))
  rw [World.size_alloc] at hl7
  have HS7 := Lib.hid (refmsame_c 1 0 0 am 1 km [[0]] 1 0 0 _ _ _ [[0]] _ (hgr7.ext HX8.out) hl7)
  rw [show msame 1 0 0 [[0]] 1 0 0 [[0]] = true by decide] at HS7
  clear hog7 hb7 hgr7 hl7 HM6
  go_wp2_with fail
  refine HS7.out.mono ?_
  rintro e w8 ⟨rfl, hb8⟩
  have HX9 := Lib.hid ((HX7.out.trans HX8.out).trans hb8)
  have H8 := Lib.hid (H6.out.grow HX9.out)
  have HRa8 := Lib.hid (row_ext HRa6.out HX9.out)
  have HR8 := Lib.hid (H8.out.range 5 0 9 (by decide))
  have hrg : rangeE [((5 : Int), (0 : Int), (0 : Int))] 5 (max 0 0) (min 9 1073741824) = [((5 : Int), (0 : Int), (0 : Int))] := by decide
  rw [hrg] at HR8
  clear hb8 HS7 hrg
  go_wp2_with fail
  refine HR8.out.mono ?_
  rintro e w9 ⟨vb, rfl, h9, hs9, hrow9⟩
  obtain ⟨ab, kb, rfl, hens9⟩ := Ens.of_own (Own.of_row hrow9)
  obtain ⟨_, _, e9, hensa⟩ := Ens.of_own (Own.of_row (row_same HRa8.out fun i hi => hs9 i (.inr hi)))
  cases e9
  have H9 := Lib.hid h9
  have HSm := Lib.hid (same18_c _ hens9 hensa)
  clear h9 hs9 hrow9 hens9 hensa HR8
  go_wp2_with fail
  refine HSm.out.mono ?_
  rintro e w10 ⟨rfl, hb10⟩
  have H10 := Lib.hid (H9.out.grow hb10)
  have HM10 := Lib.hid (H10.out.merge 0 (by decide) (by decide) (by decide) (by decide))
  clear hb10 HSm
  go_wp2_with fail
  refine HM10.out.mono ?_
  rintro e w11 ⟨h11 | h11, hs11⟩
  · exact absurd (show (replaceS [[0]] 0 1).2 = 0 by decide) h11.1
  obtain ⟨_, rfl, h11⟩ := h11
  rw [show (replaceS (⟨1, 0, 0, [[0]]⟩ : Man).L 0 (⟨1, 0, 0, [[0]]⟩ : Man).nx).1 = [[], [1]] by decide] at h11
  have h11 : IXL w w11 g gx gl 4591870180066957722 ⟨2, 0, 0, [[], [1]]⟩ [] 30000 (0 + 4000 + 4000) (0 + 3 + 3) [(5, 0, 0)] (fun i => (i = q ∨ (Value.slice aa 1 ka).ownBlock = some i) ∨ (Value.slice ab 1 kb).ownBlock = some i) := h11
  have H11 := Lib.hid h11
  have HT11 := Lib.hid h11.tells
  clear h11 hs11 HM10
  go_wp2_with fail
  refine HT11.out.mono ?_
  rintro e w12 ⟨vm2, vsm2, rfl, hog12, hb12⟩
  obtain ⟨am2, km2, rfl, hgr12⟩ := hog12.grid
  have HX12 := Lib.hid hb12
  have HX13 := Lib.hid ((ext_a1 w12 (.cells #[.int .i64 1] 3)).alloc (.cells #[.slice none 0 0, .slice (some ⟨w12.heap.size, 0, none⟩) 1 1] 88))
  have hl12 := Grid.lit2 (w12.alloc (.cells #[.int .i64 1] 3)) 88 (Ints.empty _) (Ints.lit w12 [1] 3 1 rfl (by decide))
  rw [World.size_alloc] at hl12
  have HS12 := Lib.hid (refmsame_c 2 0 0 am2 2 km2 [[], [1]] 2 0 0 _ _ _ [[], [1]] _ (hgr12.ext HX13.out) hl12)
  rw [show msame 2 0 0 [[], [1]] 2 0 0 [[], [1]] = true by decide] at HS12
  clear hog12 hb12 hgr12 hl12 HT11
  go_wp2_with fail
  refine HS12.out.mono ?_
  rintro e w13 ⟨rfl, hb13⟩
  have HX14 := Lib.hid ((HX12.out.trans HX13.out).trans hb13)
  have H13 := Lib.hid (H11.out.grow HX14.out)
  have HM13 := Lib.hid (H13.out.merge 0 (by decide) (by decide) (by decide) (by decide))
  clear hb13 HS12
  go_wp2_with fail
  refine HM13.out.mono ?_
  rintro e w14 ⟨h14 | h14, hs14⟩
  · obtain ⟨_, rfl, h14⟩ := h14
    have HB := Lib.hid h14.base
    clear h14 hs14
    go_wp2_with fail
    go_ret
    exact ⟨rfl, HB.out⟩
  · exact absurd h14.1 (by decide)
end
end Go.Proofs.YtmgpffknmmoggaaGreatDoor
namespace Go.Proofs.YtmgpffknmmoggaaGreatDoor
open Go.RowKit
set_option maxRecDepth 100000
set_option linter.unusedVariables false
set_option maxHeartbeats 6400000
section
variable {wb w W W' : World} {g gx gl rate : Nat} {m : Man} {ws : List En} {c s : Int} {st : IxSt} {σ : DM} {φ : Fls} {u cnt : Nat} {B : List En} {K : Nat → Prop}
theorem opens_ok (h : PInv st σ c s φ u cnt B) : ∀ (ns : List Int) (acc : Int → Option (List En)) (k0 : Nat), (∀ n ∈ ns, n ∈ st.m.L.flatten) →
    ∃ k, opensM (tellN k0 σ) ns acc = ((fun x => if x ∈ ns then some (TL st x) else acc x), 0, tellN k σ)
  | [], acc, k0, _ => ⟨k0, by rw [opensM]; simp⟩
  | n :: ns, acc, k0, hn => by
    obtain ⟨e, he⟩ := h.full n (hn n (by simp))
    have ht := h.tb n e he
    obtain ⟨k, _, hr⟩ := openM_ok ((h.wl he).tellN k0) ht.2.2.2.1.sort ht.2.2.2.1.ok (by have := ht.2.2.2.1.len; omega)
    rw [tellN_add] at hr
    obtain ⟨k2, h2⟩ := opens_ok h ns (fun x => if x = n then some e.L else acc x) (k0 + k) (fun y hy => hn y (by simp [hy]))
    refine ⟨k2, ?_⟩
    rw [opensM, hr]
    simp only
    rw [h2]
    congr 1
    funext x
    by_cases h1 : x ∈ ns
    · rw [if_pos h1, if_pos (List.mem_cons_of_mem _ h1)]
    · rw [if_neg h1]
      by_cases h3 : x = n
      · rw [if_pos h3, if_pos (by rw [h3]; exact List.mem_cons_self), h3, TL_some he]
      · rw [if_neg h3, if_neg (by rw [List.mem_cons]; exact fun h => h.elim h3 h1)]
theorem PInv.reopen (h : PInv st σ c s φ u cnt B) {t2 : Int → Option TE} (k r2 c2 : Nat) (ht : ∀ n, (t2 n).map TE.L = if n ∈ st.m.L.flatten then some (TL st n) else none) (hth : ∀ n e, t2 n = some e → ∀ x ∈ e.L, e.may x.1 = true) :
    PInv ⟨st.m, r2, [], t2, c2⟩ (tellN k σ) c s φ u cnt (unionE (st.m.L.flatten.map (TL st))) := by
  have key : ∀ n e, t2 n = some e → n ∈ st.m.L.flatten ∧ e.L = TL st n := fun n e he => by
    have := ht n
    rw [he] at this
    by_cases hn : n ∈ st.m.L.flatten
    · rw [if_pos hn] at this
      injection this with this
      exact ⟨hn, this⟩
    · rw [if_neg hn] at this
      cases this
  have back : ∀ n, n ∈ st.m.L.flatten → ∃ e, t2 n = some e ∧ e.L = TL st n := fun n hn => by
    have := ht n
    rw [if_pos hn] at this
    cases he : t2 n with
    | none => rw [he] at this; cases this
    | some e => exact ⟨e, rfl, (key n e he).2⟩
  refine ⟨Fl.tells k h.fl, h.man, (fun n hn => by obtain ⟨e, he, _⟩ := back n hn; exact ⟨e, he⟩), fun n e he => ?_, h.only, okM.nil, (h.unionLe _).1, fun x => ?_⟩
  · obtain ⟨h1, h2⟩ := key n e he
    obtain ⟨e0, he0⟩ := h.full n h1
    have h3 := h.tb n e0 he0
    rw [TL_some he0] at h2
    exact ⟨h1, by rw [h2]; exact h3.2.1, h3.2.2.1, by rw [h2]; exact h3.2.2.2.1, hth n e he⟩
  · rw [mem_union]
    constructor
    · rintro ⟨L, hL, hx⟩
      obtain ⟨n, hn, rfl⟩ := List.mem_map.1 hL
      obtain ⟨e, he, hl⟩ := back n hn
      exact .inr ⟨n, e, he, by rw [hl]; exact hx⟩
    · rintro (hx | ⟨n, e, he, hx⟩)
      · cases hx
      · obtain ⟨h1, h2⟩ := key n e he
        exact ⟨_, List.mem_map.2 ⟨n, h1, rfl⟩, by rw [← h2]; exact hx⟩
theorem PInv.parts (h : PInv st σ c s φ u cnt B) (x : En) : x ∈ B ↔ x ∈ st.w ∨ x ∈ unionE (st.m.L.flatten.map (TL st)) := by
  rw [h.mem x, mem_union]
  constructor
  · rintro (hx | ⟨n, e, he, hx⟩)
    · exact .inl hx
    · exact .inr ⟨_, List.mem_map.2 ⟨n, (h.tb n e he).1, rfl⟩, by rw [TL_some he]; exact hx⟩
  · rintro (hx | ⟨L, hL, hx⟩)
    · exact .inl hx
    · obtain ⟨n, hn, rfl⟩ := List.mem_map.1 hL
      obtain ⟨e, he⟩ := h.full n hn
      exact .inr ⟨n, e, he, by rw [TL_some he] at hx; exact hx⟩
theorem IXL.reopen (h : IXL wb W g gx gl rate m ws c u cnt B K) {ao : Option Addr} {cap : Nat} (hG : Grid W ao m.L.length cap m.L) (hcn : m.L.flatten.length ≤ cnt) :
    Calls Tryz.prog 10 #[.pointer (some ⟨g, 0, none⟩), .agg #[.int .i64 m.nx, .int .i64 m.ck, .int .u64 m.sd, .slice ao m.L.length cap], .float .f64 rate] W fun e w' =>
      ∃ gx2 B2, e = .returned (.tuple #[.pointer (some ⟨gx2, 0, none⟩), .int .i64 0]) ∧ IXL wb w' g gx2 gl rate m [] c u cnt B2 K ∧ (∀ x, x ∈ B ↔ x ∈ ws ∨ x ∈ B2) ∧ Stay K W w' := by
  obtain ⟨st, σ, s, φ, gv, sure, rfl, rfl, h3, h4, h5, h6, h7, h8, h9⟩ := h
  obtain ⟨F, hF⟩ := h5.dkf
  have hb := Man.bounds h6.man
  refine (iopen_c (m := st.m) hF hG (by have := hb.2.1; omega) (fun x hx => (hb.2.2.2.1 x hx).1) h6.man.2.1 h6.man.2.2 rate).mono ?_
  obtain ⟨k, ho⟩ := opens_ok h6 st.m.L.flatten (fun _ => none) 0 fun n hn => hn
  have ho : opensM σ st.m.L.flatten (fun _ => none) = _ := ho
  rintro e w' (⟨q1, _⟩ | ⟨_, q1, _⟩ | ⟨_, _, q1, _⟩ | ⟨_, _, _, gx2, t2, rfl, q1, q2, q3⟩)
  · rw [h6.man.1] at q1; cases q1
  · rw [h6.fl.up] at q1; cases q1
  · rw [ho] at q1; exact absurd rfl q1
  · rw [ho] at q1 q3
    simp only at q1 q3
    exact ⟨gx2, _, rfl, ⟨⟨st.m, rate, [], t2, st.m.L.flatten.length⟩, tellN k σ, s, φ, gv, sure, rfl, rfl, rfl, hcn, q1, h6.reopen k rate _ q3 (fun n e he => q1.thru (n := n) (e := e) he), h7.same fun i hi => q2 i (.inr hi), h8, h9⟩, h6.parts, fun i hi => q2 i (.inl hi)⟩
end
end Go.Proofs.YtmgpffknmmoggaaGreatDoor
namespace Go.Proofs.YtmgpffknmmoggaaGreatDoor
open Go.RowKit
set_option maxRecDepth 100000
set_option linter.unusedVariables false
set_option maxHeartbeats 6400000
section
variable {wb w W W' : World} {g gx gl rate : Nat} {m : Man} {ws : List En} {c s : Int} {st : IxSt} {σ : DM} {φ : Fls} {u cnt : Nat} {B : List En} {K : Nat → Prop}
theorem orph_map (T : List Int) : orphB T mapN = false := by
  unfold orphB
  rw [show (mapN == newN) = false by decide, show (parseS mapN).2.2 = false by decide]
  rfl
theorem orph_name {T : List Int} {l : UInt8} (hl : letterB l = true) {n : Int} (hr : 0 ≤ n ∧ n ≤ 999999) (hn : n ∈ T) : orphB T (nameS l n) = false := by
  have hp := parse_name hl hr
  have hne : (nameS l n == newN) = false := by
    rw [beq_eq_false_iff_ne]
    intro e
    rw [e] at hp
    have h1 : (parseS newN).2.2 = false := by decide
    rw [hp] at h1
    cases h1
  unfold orphB
  rw [hne, hp]
  simp only
  rw [show ((n.toNat : Nat) : Int) = n by omega, decide_eq_true hn]
  simp
theorem PInv.names (h : PInv st σ c s φ u cnt B) : ∀ x ∈ namesM σ, x = mapN ∨ ∃ n ∈ st.m.L.flatten, x = nameS 116 n ∨ x = nameS 98 n := fun x hx => by
  obtain ⟨l, h1, _, h2, _⟩ := h.fl
  rw [h1.names] at hx
  refine h.only x ?_
  rw [← h2 x]
  obtain ⟨y, hy, rfl⟩ := List.mem_map.1 hx
  intro hn
  cases hf : findN Prod.fst y.1 l with
  | some z => rw [hf] at hn; cases hn
  | none => exact findN_none hf y hy rfl
theorem PInv.noOrph (h : PInv st σ c s φ u cnt B) : (namesM σ).filter (orphB st.m.L.flatten) = [] := by
  refine List.filter_eq_nil_iff.2 fun x hx => ?_
  rw [Bool.not_eq_true]
  rcases h.names x hx with rfl | ⟨n, hn, rfl | rfl⟩
  · exact orph_map _
  · have := h.range hn
    exact orph_name lt116 ⟨this.1, this.2.1⟩ hn
  · have := h.range hn
    exact orph_name (by decide) ⟨this.1, this.2.1⟩ hn
theorem PInv.shortN (h : PInv st σ c s φ u cnt B) : ∀ x ∈ namesM σ, x.length ≤ 9223372036854775807 := fun x hx => by
  rcases h.names x hx with rfl | ⟨n, hn, rfl | rfl⟩
  · decide
  · have := h.range hn
    rw [nameS_yes ⟨this.1, this.2.1⟩, List.length_cons, digs_length]; decide
  · have := h.range hn
    rw [nameS_yes ⟨this.1, this.2.1⟩, List.length_cons, digs_length]; decide
theorem IXL.orphans (h : IXL wb W g gx gl rate m ws c u cnt B K) {ao : Option Addr} {cap : Nat} (hG : Grid W ao m.L.length cap m.L) (nx ck sd : Int) :
    Calls Tryz.prog 27 #[.pointer (some ⟨g, 0, none⟩), .agg #[.int .i64 nx, .int .i64 ck, .int .u64 sd, .slice ao m.L.length cap]] W fun e w' => ∃ a k, e = .returned (.slice a 0 k) ∧ Ext W w' := by
  obtain ⟨st, σ, s, φ, gv, sure, rfl, rfl, h3, h4, h5, h6, h7, h8, h9⟩ := h
  have hb := Man.bounds h6.man
  refine (orphans_c (N := namesM σ) (fun W2 hW => ?_) h6.shortN (by have := h5.ok.2.many; unfold namesM; rw [List.length_map]; omega) hG (by have := hb.2.1; omega)).mono ?_
  · obtain ⟨F, gm, gt, Y, h1⟩ := h5.grow hW
    exact h1.i.d.names.mono fun e w' hr => hr.s
  · rw [h6.noOrph]
    rintro e w' hr
    obtain ⟨a, k, rfl, _, hx⟩ := hr.strs
    exact ⟨a, k, rfl, hx⟩
end
end Go.Proofs.YtmgpffknmmoggaaGreatDoor
