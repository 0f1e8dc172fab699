/- Walks: the disk and the document's disk, side by side. Walks: an act with both disks: the answers are alike. Walks: an act with both disks: the answers are alike. Walks: an act with both disks: the answers are alike. Walks: an act with both disks: the answers are alike. Walks: an act with both disks: the answers are alike. Walks: an act with both disks: the answers are alike. Walks: an act with both disks: the answers are alike. -/
import Derived.Test.YtmpiepkkikmpmaaG15PDiskPlays
import Derived.Test.YtmpiepkkikmpmaaG13PDiskPlays
import Derived.Test.YtmpiepkkikmpmaaG17PDiskPlays
import Derived.Deep.RegionLaw
import Derived.Deep.RegionHeld3
set_option linter.unusedVariables false
set_option linter.unusedSimpArgs false
namespace Go.Proofs.Ytmpiepkkikmpmaa
open Go.RowKit

/-- the disk at g, and the document's disk at r that plays it, lie apart, each made since w0; K lies beside both -/
structure PDF (w0 w : World) (g r : Nat) (F G : Nat → Prop) (σ : DM) (fl : Int) (K : Nat → Prop) : Prop where
  d : Dk w g F σ
  r : Rk w r G (rm σ fl)
  ap : ∀ i, F i → ¬ G i
  bF : ∀ i, F i → w0.heap.size ≤ i
  bG : ∀ i, G i → w0.heap.size ≤ i
  ext : Ext w0 w
  k : ∀ i, K i → i < w.heap.size ∧ ¬ F i ∧ ¬ G i
def PD (w0 w : World) (g r : Nat) (σ : DM) (fl : Int) (K : Nat → Prop) : Prop := ∃ F G, PDF w0 w g r F G σ fl K

section
variable {w0 w w1 wa wb : World} {g r : Nat} {F G K : Nat → Prop} {σ σ1 : DM} {fl fl1 : Int}
theorem Dk.lt (h : Dk w g F σ) : ∀ i, F i → i < w.heap.size := by obtain ⟨_, _, _, _, _, _, h⟩ := h; exact h
theorem Dk.stay (h : Dk w g F σ) (hs : w.heap.size ≤ w1.heap.size) (k : ∀ i, F i → w1.heap[i]? = w.heap[i]?) : Dk w1 g F σ := by
  obtain ⟨ho, m, kv, L, hi, h1, h2⟩ := h
  exact ⟨ho, m, kv, L, ⟨hi.head.same (k g (h1 g (.inl rfl))), hi.fs.same fun i hx => k i (h1 i (.inr (.inl hx))), hi.files, hi.keep.same fun i hx => k i (h1 i (.inr (.inr hx)))⟩, h1, fun i hf => Nat.lt_of_lt_of_le (h2 i hf) hs⟩
theorem PDF.grow (h : PDF w0 w g r F G σ fl K) (hx : Ext w w1) : PDF w0 w1 g r F G σ fl K :=
  ⟨h.d.ext hx, h.r.ext hx, h.ap, h.bF, h.bG, h.ext.trans hx, fun i hi => ⟨Nat.lt_of_lt_of_le (h.k i hi).1 hx.size, (h.k i hi).2⟩⟩
/-- behind a call with the disk the document's one is as it was -/
theorem PDF.rk (h : PDF w0 w g r F G σ fl K) (h1 : DkS w g F σ1 wa) : Rk wa r G (rm σ fl) :=
  h.r.same h1.off.size fun i hi => h1.off.block i (h.r.lt i hi) fun hf => h.ap i hf hi
theorem PDF.step (h : PDF w0 w g r F G σ fl K) (h1 : DkS w g F σ1 wa) (h2 : RkS wa r G (rm σ1 fl1) wb) : PD w0 wb g r σ1 fl1 K ∧ ∀ i, K i → wb.heap[i]? = w.heap[i]? := by
  have s1 := h1.off.size; have s2 := h2.off.size
  refine ⟨⟨Gr F w wa, Gr G wa wb, ⟨h1.dk.stay s2 fun i hi => h2.off.block i (h1.dk.lt i hi) ?_, h2.rk, ?_, ?_, ?_, ?_, ?_⟩⟩, ?_⟩
  · intro hg
    rcases ‹Gr F w wa i› with hf | hf
    · exact h.ap i hf hg
    · have := h.r.lt i hg; omega
  · intro i hi hg
    rcases hg with hg | hg
    · rcases hi with hf | hf
      · exact h.ap i hf hg
      · have := h.r.lt i hg; omega
    · have := h1.dk.lt i hi; omega
  · exact fun i hi => Gr.ge h.bF h.ext.size hi
  · exact fun i hi => Gr.ge h.bG (Nat.le_trans h.ext.size s1) hi
  · exact h2.off.ext (h1.off.ext h.ext h.bF) h.bG
  · intro i hi
    obtain ⟨a, b, c⟩ := h.k i hi
    refine ⟨by omega, Gr.not b a, ?_⟩
    rintro (hg | hg)
    · exact c hg
    · omega
  · intro i hi
    obtain ⟨a, b, c⟩ := h.k i hi
    rw [h2.off.block i (by omega) c, h1.off.block i a b]
end
end Go.Proofs.Ytmpiepkkikmpmaa
namespace Go.Proofs.Ytmpiepkkikmpmaa
open Go.RowKit

set_option maxRecDepth 100000
set_option linter.unusedVariables false
set_option maxHeartbeats 12800000

theorem do0_c {w0 w : World} {g r B : Nat} {K : Nat → Prop} {σ : DM} {fl : Int} (h : PD w0 w g r σ fl K) (hf : FlOk (B + 1) σ fl) (hB : (B : Int) ≤ 1000000) (x : ActM) (hx : okAct w x) (hn : x.nm.length ≤ 100) (ht : (x.tx.length : Int) ≤ 3000) (hkn : x.kn ≤ 100) (hkK : ∀ a, x.ka = some a → K a.block) (hrr : Int.tmod x.kd 15 = 0) :
    Calls Try.prog 8 #[.agg x.cells.toArray, .pointer (some ⟨g, 0, none⟩), .pointer (some ⟨r, 0, none⟩)] w fun e w' => e = .returned (.bool true) ∧ ∃ σ' fl', PD w0 w' g r σ' fl' K ∧ FlOk B σ' fl' ∧ ∀ i, K i → w'.heap[i]? = w.heap[i]? := by
  obtain ⟨kd, nm, tt, tx, at_, n, ka, kn, kc, ks⟩ := x
  have HOk := Lib.hid hx
  have k0 := hx.kd0; have k1 := hx.kd1; have l1 := hx.nm; have l2 := hx.tt; have l3 := hx.tx; have m0 := hx.at0; have m1 := hx.at1; have m2 := hx.n0; have m3 := hx.n1
  have kf := hx.ks.fits; have kb := hx.ks.bound
  simp only at hrr k0 k1 l1 l2 l3 m0 m1 m2 m3 hn ht hkn hkK kf kb
  obtain ⟨F, G, hp⟩ := h
  obtain ⟨W, hW⟩ : ∃ W, w.alloc (.cells #[.int .u8 kd, .string ⟨nm.toArray⟩, .string ⟨tt.toArray⟩, .string ⟨tx.toArray⟩, .int .i64 at_, .int .i64 n, .slice ka kn kc] 34) = W := ⟨_, rfl⟩
  have hWx : Ext w W := by rw [← hW]; exact ext_a1 w _
  have hbx : Blk W w.heap.size 34 #[.int .u8 kd, .string ⟨nm.toArray⟩, .string ⟨tt.toArray⟩, .string ⟨tx.toArray⟩, .int .i64 at_, .int .i64 n, .slice ka kn kc] := by rw [← hW]; exact Blk.new w _ _
  have HWx := Lib.hid hWx
  have HP := Lib.hid (hp.grow (hWx.trans (Ext.refl W).drew))
  have HP0 := Lib.hid (hp.grow hWx)
  have HF := Lib.hid hf
  have HNF : Hid (∀ i, F i → i < w.heap.size) := Lib.hid hp.d.lt
  have HKs : Hid (∀ W', Ext w W' → Ints W' ka kn kc ks) := Lib.hid fun W' hW' => hx.ks.ext hW'
  have HKF : Hid (∀ a, ka = some a → ¬ F a.block ∧ ¬ G a.block) := Lib.hid fun a ha => (hp.k _ (hkK a ha)).2
  have HKp : Hid (∀ wb : World, (∀ i, K i → wb.heap[i]? = W.drew.heap[i]?) → ∀ i, K i → wb.heap[i]? = w.heap[i]?) := Lib.hid fun wb hk i hi => (hk i hi).trans ((hWx.trans (Ext.refl W).drew).block i (hp.k i hi).1)
  have HKq : Hid (∀ i, K i → W.heap[i]? = w.heap[i]?) := Lib.hid fun i hi => hWx.block i (hp.k i hi).1
  have HB1 := Lib.hid (hbx.ext (Ext.refl W).drew)
  have HB0 := Lib.hid hbx
  have c0 := hbx.cell 0
  have d0 := HB1.out.cell 0; have d1 := HB1.out.cell 1; have d2 := HB1.out.cell 2; have d3 := HB1.out.cell 3; have d4 := HB1.out.cell 4; have d5 := HB1.out.cell 5; have d6 := HB1.out.cell 6
  clear hp hf hx hWx hbx
  rw [show (ActM.cells ⟨kd, nm, tt, tx, at_, n, ka, kn, kc, ks⟩).toArray = #[.int .u8 kd, .string ⟨nm.toArray⟩, .string ⟨tt.toArray⟩, .string ⟨tx.toArray⟩, .int .i64 at_, .int .i64 n, .slice ka kn kc] from rfl]
  obtain ⟨p, hp⟩ : ∃ p, createM σ nm = p := ⟨_, rfl⟩
  obtain ⟨c, τ⟩ := p
  have HC1 : Hid (Calls Try.prog 14 #[.pointer (some ⟨g, 0, none⟩), .string ⟨nm.toArray⟩] W.drew fun e w' => e = .returned (.int .i64 c) ∧ DkS W.drew g F τ w') := Lib.hid (by have h := create_c HP.out.d nm l1; rwa [hp] at h)
  have HC2 : Hid (∀ wa, DkS W.drew g F τ wa → Calls Try.prog 26 #[.pointer (some ⟨r, 0, none⟩), .string ⟨nm.toArray⟩] wa fun e w' => e = .returned (.int .i64 c) ∧ RR wa r G B τ w') := Lib.hid fun wa h1 => by have h := rcreate_c (HP.out.rk h1) HP.out.d.1 HF.out nm l1; rwa [hp] at h
  clear hp
  go_enter Try.func8, Try.ntmps8
  go_wp2_with fail
  go_region_law (go_simp; first | (go_at_call 14; refine HC1.out.mono ?_; rintro e wa ⟨rfl, h1⟩; have H1 := Lib.hid h1; have hba := h1.off.blk HB1.out (fun hf => Nat.lt_irrefl _ (HNF.out _ hf)); have a1 := hba.cell 1; have a2 := hba.cell 2; have a3 := hba.cell 3; have a4 := hba.cell 4; have a5 := hba.cell 5; have a6 := hba.cell 6; clear h1 hba) | (go_at_call 26; refine (HC2.out _ H1.out).mono ?_; rintro e wb ⟨rfl, fl1, h2, hf2⟩; have H2 := Lib.hid h2; have HF2 := Lib.hid hf2; clear h2 hf2))
  all_goals
    go_wp2_with fail
    go_ret
    exact ⟨rfl, τ, fl1, (HP.out.step H1.out H2.out).1, HF2.out, HKp.out _ (HP.out.step H1.out H2.out).2⟩

theorem do7_c {w0 w : World} {g r B : Nat} {K : Nat → Prop} {σ : DM} {fl : Int} (h : PD w0 w g r σ fl K) (hf : FlOk (B + 1) σ fl) (hB : (B : Int) ≤ 1000000) (x : ActM) (hx : okAct w x) (hn : x.nm.length ≤ 100) (ht : (x.tx.length : Int) ≤ 3000) (hkn : x.kn ≤ 100) (hkK : ∀ a, x.ka = some a → K a.block) (hrr : Int.tmod x.kd 15 = 7) :
    Calls Try.prog 8 #[.agg x.cells.toArray, .pointer (some ⟨g, 0, none⟩), .pointer (some ⟨r, 0, none⟩)] w fun e w' => e = .returned (.bool true) ∧ ∃ σ' fl', PD w0 w' g r σ' fl' K ∧ FlOk B σ' fl' ∧ ∀ i, K i → w'.heap[i]? = w.heap[i]? := by
  obtain ⟨kd, nm, tt, tx, at_, n, ka, kn, kc, ks⟩ := x
  have HOk := Lib.hid hx
  have k0 := hx.kd0; have k1 := hx.kd1; have l1 := hx.nm; have l2 := hx.tt; have l3 := hx.tx; have m0 := hx.at0; have m1 := hx.at1; have m2 := hx.n0; have m3 := hx.n1
  have kf := hx.ks.fits; have kb := hx.ks.bound
  simp only at hrr k0 k1 l1 l2 l3 m0 m1 m2 m3 hn ht hkn hkK kf kb
  obtain ⟨F, G, hp⟩ := h
  obtain ⟨W, hW⟩ : ∃ W, w.alloc (.cells #[.int .u8 kd, .string ⟨nm.toArray⟩, .string ⟨tt.toArray⟩, .string ⟨tx.toArray⟩, .int .i64 at_, .int .i64 n, .slice ka kn kc] 34) = W := ⟨_, rfl⟩
  have hWx : Ext w W := by rw [← hW]; exact ext_a1 w _
  have hbx : Blk W w.heap.size 34 #[.int .u8 kd, .string ⟨nm.toArray⟩, .string ⟨tt.toArray⟩, .string ⟨tx.toArray⟩, .int .i64 at_, .int .i64 n, .slice ka kn kc] := by rw [← hW]; exact Blk.new w _ _
  have HWx := Lib.hid hWx
  have HP := Lib.hid (hp.grow (hWx.trans (Ext.refl W).drew))
  have HP0 := Lib.hid (hp.grow hWx)
  have HF := Lib.hid hf
  have HNF : Hid (∀ i, F i → i < w.heap.size) := Lib.hid hp.d.lt
  have HKs : Hid (∀ W', Ext w W' → Ints W' ka kn kc ks) := Lib.hid fun W' hW' => hx.ks.ext hW'
  have HKF : Hid (∀ a, ka = some a → ¬ F a.block ∧ ¬ G a.block) := Lib.hid fun a ha => (hp.k _ (hkK a ha)).2
  have HKp : Hid (∀ wb : World, (∀ i, K i → wb.heap[i]? = W.drew.heap[i]?) → ∀ i, K i → wb.heap[i]? = w.heap[i]?) := Lib.hid fun wb hk i hi => (hk i hi).trans ((hWx.trans (Ext.refl W).drew).block i (hp.k i hi).1)
  have HKq : Hid (∀ i, K i → W.heap[i]? = w.heap[i]?) := Lib.hid fun i hi => hWx.block i (hp.k i hi).1
  have HB1 := Lib.hid (hbx.ext (Ext.refl W).drew)
  have HB0 := Lib.hid hbx
  have c0 := hbx.cell 0
  have d0 := HB1.out.cell 0; have d1 := HB1.out.cell 1; have d2 := HB1.out.cell 2; have d3 := HB1.out.cell 3; have d4 := HB1.out.cell 4; have d5 := HB1.out.cell 5; have d6 := HB1.out.cell 6
  clear hp hf hx hWx hbx
  rw [show (ActM.cells ⟨kd, nm, tt, tx, at_, n, ka, kn, kc, ks⟩).toArray = #[.int .u8 kd, .string ⟨nm.toArray⟩, .string ⟨tt.toArray⟩, .string ⟨tx.toArray⟩, .int .i64 at_, .int .i64 n, .slice ka kn kc] from rfl]
  obtain ⟨p, hp⟩ : ∃ p, renameM σ nm tt = p := ⟨_, rfl⟩
  obtain ⟨c, τ⟩ := p
  have HC1 : Hid (Calls Try.prog 29 #[.pointer (some ⟨g, 0, none⟩), .string ⟨nm.toArray⟩, .string ⟨tt.toArray⟩] W.drew fun e w' => e = .returned (.int .i64 c) ∧ DkS W.drew g F τ w') := Lib.hid (by have h := rename_c HP.out.d nm tt l1 l2; rwa [hp] at h)
  have HC2 : Hid (∀ wa, DkS W.drew g F τ wa → Calls Try.prog 30 #[.pointer (some ⟨r, 0, none⟩), .string ⟨nm.toArray⟩, .string ⟨tt.toArray⟩] wa fun e w' => e = .returned (.int .i64 c) ∧ RR wa r G B τ w') := Lib.hid fun wa h1 => by have h := rrename_c (HP.out.rk h1) HP.out.d.1 HF.out nm tt l2; rwa [hp] at h
  clear hp
  go_enter Try.func8, Try.ntmps8
  go_wp2_with fail
  go_region_law (go_simp; first | (go_at_call 29; refine HC1.out.mono ?_; rintro e wa ⟨rfl, h1⟩; have H1 := Lib.hid h1; have hba := h1.off.blk HB1.out (fun hf => Nat.lt_irrefl _ (HNF.out _ hf)); have a1 := hba.cell 1; have a2 := hba.cell 2; have a3 := hba.cell 3; have a4 := hba.cell 4; have a5 := hba.cell 5; have a6 := hba.cell 6; clear h1 hba) | (go_at_call 30; refine (HC2.out _ H1.out).mono ?_; rintro e wb ⟨rfl, fl1, h2, hf2⟩; have H2 := Lib.hid h2; have HF2 := Lib.hid hf2; clear h2 hf2))
  all_goals
    go_wp2_with fail
    go_ret
    exact ⟨rfl, τ, fl1, (HP.out.step H1.out H2.out).1, HF2.out, HKp.out _ (HP.out.step H1.out H2.out).2⟩

end Go.Proofs.Ytmpiepkkikmpmaa
namespace Go.Proofs.Ytmpiepkkikmpmaa
open Go.RowKit

set_option maxRecDepth 100000
set_option linter.unusedVariables false
set_option maxHeartbeats 12800000

theorem dod_c {w0 w : World} {g r B : Nat} {K : Nat → Prop} {σ : DM} {fl : Int} (h : PD w0 w g r σ fl K) (hf : FlOk (B + 1) σ fl) (hB : (B : Int) ≤ 1000000) (x : ActM) (hx : okAct w x) (hn : x.nm.length ≤ 100) (ht : (x.tx.length : Int) ≤ 3000) (hkn : x.kn ≤ 100) (hkK : ∀ a, x.ka = some a → K a.block) (hrr : Int.tmod x.kd 15 = 1 ∨ Int.tmod x.kd 15 = 2 ∨ Int.tmod x.kd 15 = 3) :
    Calls Try.prog 8 #[.agg x.cells.toArray, .pointer (some ⟨g, 0, none⟩), .pointer (some ⟨r, 0, none⟩)] w fun e w' => e = .returned (.bool true) ∧ ∃ σ' fl', PD w0 w' g r σ' fl' K ∧ FlOk B σ' fl' ∧ ∀ i, K i → w'.heap[i]? = w.heap[i]? := by
  obtain ⟨kd, nm, tt, tx, at_, n, ka, kn, kc, ks⟩ := x
  have HOk := Lib.hid hx
  have k0 := hx.kd0; have k1 := hx.kd1; have l1 := hx.nm; have l2 := hx.tt; have l3 := hx.tx; have m0 := hx.at0; have m1 := hx.at1; have m2 := hx.n0; have m3 := hx.n1
  have kf := hx.ks.fits; have kb := hx.ks.bound
  simp only at hrr k0 k1 l1 l2 l3 m0 m1 m2 m3 hn ht hkn hkK kf kb
  obtain ⟨F, G, hp⟩ := h
  obtain ⟨W, hW⟩ : ∃ W, w.alloc (.cells #[.int .u8 kd, .string ⟨nm.toArray⟩, .string ⟨tt.toArray⟩, .string ⟨tx.toArray⟩, .int .i64 at_, .int .i64 n, .slice ka kn kc] 34) = W := ⟨_, rfl⟩
  have hWx : Ext w W := by rw [← hW]; exact ext_a1 w _
  have hbx : Blk W w.heap.size 34 #[.int .u8 kd, .string ⟨nm.toArray⟩, .string ⟨tt.toArray⟩, .string ⟨tx.toArray⟩, .int .i64 at_, .int .i64 n, .slice ka kn kc] := by rw [← hW]; exact Blk.new w _ _
  have HWx := Lib.hid hWx
  have HP := Lib.hid (hp.grow (hWx.trans (Ext.refl W).drew))
  have HP0 := Lib.hid (hp.grow hWx)
  have HF := Lib.hid hf
  have HNF : Hid (∀ i, F i → i < w.heap.size) := Lib.hid hp.d.lt
  have HKs : Hid (∀ W', Ext w W' → Ints W' ka kn kc ks) := Lib.hid fun W' hW' => hx.ks.ext hW'
  have HKF : Hid (∀ a, ka = some a → ¬ F a.block ∧ ¬ G a.block) := Lib.hid fun a ha => (hp.k _ (hkK a ha)).2
  have HKp : Hid (∀ wb : World, (∀ i, K i → wb.heap[i]? = W.drew.heap[i]?) → ∀ i, K i → wb.heap[i]? = w.heap[i]?) := Lib.hid fun wb hk i hi => (hk i hi).trans ((hWx.trans (Ext.refl W).drew).block i (hp.k i hi).1)
  have HKq : Hid (∀ i, K i → W.heap[i]? = w.heap[i]?) := Lib.hid fun i hi => hWx.block i (hp.k i hi).1
  have HB1 := Lib.hid (hbx.ext (Ext.refl W).drew)
  have HB0 := Lib.hid hbx
  have c0 := hbx.cell 0
  have d0 := HB1.out.cell 0; have d1 := HB1.out.cell 1; have d2 := HB1.out.cell 2; have d3 := HB1.out.cell 3; have d4 := HB1.out.cell 4; have d5 := HB1.out.cell 5; have d6 := HB1.out.cell 6
  clear hp hf hx hWx hbx
  rw [show (ActM.cells ⟨kd, nm, tt, tx, at_, n, ka, kn, kc, ks⟩).toArray = #[.int .u8 kd, .string ⟨nm.toArray⟩, .string ⟨tt.toArray⟩, .string ⟨tx.toArray⟩, .int .i64 at_, .int .i64 n, .slice ka kn kc] from rfl]
  obtain ⟨rr, hr2⟩ : ∃ rr, Int.tmod kd 15 = rr := ⟨_, rfl⟩
  rw [hr2] at hrr
  have f0 : (rr == 0) = false := by simp; omega
  have f4 : (rr == 4) = false := by simp; omega
  have f5 : (rr == 5) = false := by simp; omega
  have f6 : (rr == 6) = false := by simp; omega
  have f7 : (rr == 7) = false := by simp; omega
  have f8 : (rr == 8) = false := by simp; omega
  have f9 : (rr == 9) = false := by simp; omega
  have f10 : (rr == 10) = false := by simp; omega
  have f11 : (rr == 11) = false := by simp; omega
  have f12 : (rr == 12) = false := by simp; omega
  have f13 : (rr == 13) = false := by simp; omega
  have f14 : (rr == 14) = false := by simp; omega
  clear hrr
  obtain ⟨p, hp⟩ : ∃ p, appendM σ nm tx = p := ⟨_, rfl⟩
  obtain ⟨c, τ⟩ := p
  have HC1 : Hid (Calls Try.prog 15 #[.pointer (some ⟨g, 0, none⟩), .string ⟨nm.toArray⟩, .string ⟨tx.toArray⟩] W.drew fun e w' => e = .returned (.int .i64 c) ∧ DkS W.drew g F τ w') := Lib.hid (by have h := append_c HP.out.d nm tx l1 l3; rwa [hp] at h)
  have HC2 : Hid (∀ wa, DkS W.drew g F τ wa → Calls Try.prog 38 #[.pointer (some ⟨r, 0, none⟩), .string ⟨nm.toArray⟩, .string ⟨tx.toArray⟩] wa fun e w' => e = .returned (.int .i64 c) ∧ RR wa r G B τ w') := Lib.hid fun wa h1 => by have h := rappend_c (HP.out.rk h1) HP.out.d.1 HF.out nm tx (by omega); rwa [hp] at h
  clear hp
  go_enter Try.func8, Try.ntmps8
  go_wp2_with fail
  go_region_law (go_simp; first | (go_at_call 15; refine HC1.out.mono ?_; rintro e wa ⟨rfl, h1⟩; have H1 := Lib.hid h1; have hba := h1.off.blk HB1.out (fun hf => Nat.lt_irrefl _ (HNF.out _ hf)); have a1 := hba.cell 1; have a2 := hba.cell 2; have a3 := hba.cell 3; have a4 := hba.cell 4; have a5 := hba.cell 5; have a6 := hba.cell 6; clear h1 hba) | (go_at_call 38; refine (HC2.out _ H1.out).mono ?_; rintro e wb ⟨rfl, fl1, h2, hf2⟩; have H2 := Lib.hid h2; have HF2 := Lib.hid hf2; clear h2 hf2))
  all_goals
    go_wp2_with fail
    go_ret
    exact ⟨rfl, τ, fl1, (HP.out.step H1.out H2.out).1, HF2.out, HKp.out _ (HP.out.step H1.out H2.out).2⟩

theorem do5_c {w0 w : World} {g r B : Nat} {K : Nat → Prop} {σ : DM} {fl : Int} (h : PD w0 w g r σ fl K) (hf : FlOk (B + 1) σ fl) (hB : (B : Int) ≤ 1000000) (x : ActM) (hx : okAct w x) (hn : x.nm.length ≤ 100) (ht : (x.tx.length : Int) ≤ 3000) (hkn : x.kn ≤ 100) (hkK : ∀ a, x.ka = some a → K a.block) (hrr : Int.tmod x.kd 15 = 5) :
    Calls Try.prog 8 #[.agg x.cells.toArray, .pointer (some ⟨g, 0, none⟩), .pointer (some ⟨r, 0, none⟩)] w fun e w' => e = .returned (.bool true) ∧ ∃ σ' fl', PD w0 w' g r σ' fl' K ∧ FlOk B σ' fl' ∧ ∀ i, K i → w'.heap[i]? = w.heap[i]? := by
  obtain ⟨kd, nm, tt, tx, at_, n, ka, kn, kc, ks⟩ := x
  have HOk := Lib.hid hx
  have k0 := hx.kd0; have k1 := hx.kd1; have l1 := hx.nm; have l2 := hx.tt; have l3 := hx.tx; have m0 := hx.at0; have m1 := hx.at1; have m2 := hx.n0; have m3 := hx.n1
  have kf := hx.ks.fits; have kb := hx.ks.bound
  simp only at hrr k0 k1 l1 l2 l3 m0 m1 m2 m3 hn ht hkn hkK kf kb
  obtain ⟨F, G, hp⟩ := h
  obtain ⟨W, hW⟩ : ∃ W, w.alloc (.cells #[.int .u8 kd, .string ⟨nm.toArray⟩, .string ⟨tt.toArray⟩, .string ⟨tx.toArray⟩, .int .i64 at_, .int .i64 n, .slice ka kn kc] 34) = W := ⟨_, rfl⟩
  have hWx : Ext w W := by rw [← hW]; exact ext_a1 w _
  have hbx : Blk W w.heap.size 34 #[.int .u8 kd, .string ⟨nm.toArray⟩, .string ⟨tt.toArray⟩, .string ⟨tx.toArray⟩, .int .i64 at_, .int .i64 n, .slice ka kn kc] := by rw [← hW]; exact Blk.new w _ _
  have HWx := Lib.hid hWx
  have HP := Lib.hid (hp.grow (hWx.trans (Ext.refl W).drew))
  have HP0 := Lib.hid (hp.grow hWx)
  have HF := Lib.hid hf
  have HNF : Hid (∀ i, F i → i < w.heap.size) := Lib.hid hp.d.lt
  have HKs : Hid (∀ W', Ext w W' → Ints W' ka kn kc ks) := Lib.hid fun W' hW' => hx.ks.ext hW'
  have HKF : Hid (∀ a, ka = some a → ¬ F a.block ∧ ¬ G a.block) := Lib.hid fun a ha => (hp.k _ (hkK a ha)).2
  have HKp : Hid (∀ wb : World, (∀ i, K i → wb.heap[i]? = W.drew.heap[i]?) → ∀ i, K i → wb.heap[i]? = w.heap[i]?) := Lib.hid fun wb hk i hi => (hk i hi).trans ((hWx.trans (Ext.refl W).drew).block i (hp.k i hi).1)
  have HKq : Hid (∀ i, K i → W.heap[i]? = w.heap[i]?) := Lib.hid fun i hi => hWx.block i (hp.k i hi).1
  have HB1 := Lib.hid (hbx.ext (Ext.refl W).drew)
  have HB0 := Lib.hid hbx
  have c0 := hbx.cell 0
  have d0 := HB1.out.cell 0; have d1 := HB1.out.cell 1; have d2 := HB1.out.cell 2; have d3 := HB1.out.cell 3; have d4 := HB1.out.cell 4; have d5 := HB1.out.cell 5; have d6 := HB1.out.cell 6
  clear hp hf hx hWx hbx
  rw [show (ActM.cells ⟨kd, nm, tt, tx, at_, n, ka, kn, kc, ks⟩).toArray = #[.int .u8 kd, .string ⟨nm.toArray⟩, .string ⟨tt.toArray⟩, .string ⟨tx.toArray⟩, .int .i64 at_, .int .i64 n, .slice ka kn kc] from rfl]
  obtain ⟨p, hp⟩ : ∃ p, syncM σ nm = p := ⟨_, rfl⟩
  obtain ⟨c, τ⟩ := p
  have HC1 : Hid (Calls Try.prog 19 #[.pointer (some ⟨g, 0, none⟩), .string ⟨nm.toArray⟩] W.drew fun e w' => e = .returned (.int .i64 c) ∧ DkS W.drew g F τ w') := Lib.hid (by have h := sync_c HP.out.d nm l1; rwa [hp] at h)
  have HC2 : Hid (∀ wa, DkS W.drew g F τ wa → Calls Try.prog 28 #[.pointer (some ⟨r, 0, none⟩), .string ⟨nm.toArray⟩] wa fun e w' => e = .returned (.int .i64 c) ∧ RR wa r G B τ w') := Lib.hid fun wa h1 => by have h := rsync_c (HP.out.rk h1) HP.out.d.1 HF.out nm; rwa [hp] at h
  clear hp
  go_enter Try.func8, Try.ntmps8
  go_wp2_with fail
  go_region_law (go_simp; first | (go_at_call 19; refine HC1.out.mono ?_; rintro e wa ⟨rfl, h1⟩; have H1 := Lib.hid h1; have hba := h1.off.blk HB1.out (fun hf => Nat.lt_irrefl _ (HNF.out _ hf)); have a1 := hba.cell 1; have a2 := hba.cell 2; have a3 := hba.cell 3; have a4 := hba.cell 4; have a5 := hba.cell 5; have a6 := hba.cell 6; clear h1 hba) | (go_at_call 28; refine (HC2.out _ H1.out).mono ?_; rintro e wb ⟨rfl, fl1, h2, hf2⟩; have H2 := Lib.hid h2; have HF2 := Lib.hid hf2; clear h2 hf2))
  all_goals
    go_wp2_with fail
    go_ret
    exact ⟨rfl, τ, fl1, (HP.out.step H1.out H2.out).1, HF2.out, HKp.out _ (HP.out.step H1.out H2.out).2⟩

end Go.Proofs.Ytmpiepkkikmpmaa
namespace Go.Proofs.Ytmpiepkkikmpmaa
open Go.RowKit

set_option maxRecDepth 100000
set_option linter.unusedVariables false
set_option maxHeartbeats 12800000

theorem do6_c {w0 w : World} {g r B : Nat} {K : Nat → Prop} {σ : DM} {fl : Int} (h : PD w0 w g r σ fl K) (hf : FlOk (B + 1) σ fl) (hB : (B : Int) ≤ 1000000) (x : ActM) (hx : okAct w x) (hn : x.nm.length ≤ 100) (ht : (x.tx.length : Int) ≤ 3000) (hkn : x.kn ≤ 100) (hkK : ∀ a, x.ka = some a → K a.block) (hrr : Int.tmod x.kd 15 = 6) :
    Calls Try.prog 8 #[.agg x.cells.toArray, .pointer (some ⟨g, 0, none⟩), .pointer (some ⟨r, 0, none⟩)] w fun e w' => e = .returned (.bool true) ∧ ∃ σ' fl', PD w0 w' g r σ' fl' K ∧ FlOk B σ' fl' ∧ ∀ i, K i → w'.heap[i]? = w.heap[i]? := by
  obtain ⟨kd, nm, tt, tx, at_, n, ka, kn, kc, ks⟩ := x
  have HOk := Lib.hid hx
  have k0 := hx.kd0; have k1 := hx.kd1; have l1 := hx.nm; have l2 := hx.tt; have l3 := hx.tx; have m0 := hx.at0; have m1 := hx.at1; have m2 := hx.n0; have m3 := hx.n1
  have kf := hx.ks.fits; have kb := hx.ks.bound
  simp only at hrr k0 k1 l1 l2 l3 m0 m1 m2 m3 hn ht hkn hkK kf kb
  obtain ⟨F, G, hp⟩ := h
  obtain ⟨W, hW⟩ : ∃ W, w.alloc (.cells #[.int .u8 kd, .string ⟨nm.toArray⟩, .string ⟨tt.toArray⟩, .string ⟨tx.toArray⟩, .int .i64 at_, .int .i64 n, .slice ka kn kc] 34) = W := ⟨_, rfl⟩
  have hWx : Ext w W := by rw [← hW]; exact ext_a1 w _
  have hbx : Blk W w.heap.size 34 #[.int .u8 kd, .string ⟨nm.toArray⟩, .string ⟨tt.toArray⟩, .string ⟨tx.toArray⟩, .int .i64 at_, .int .i64 n, .slice ka kn kc] := by rw [← hW]; exact Blk.new w _ _
  have HWx := Lib.hid hWx
  have HP := Lib.hid (hp.grow (hWx.trans (Ext.refl W).drew))
  have HP0 := Lib.hid (hp.grow hWx)
  have HF := Lib.hid hf
  have HNF : Hid (∀ i, F i → i < w.heap.size) := Lib.hid hp.d.lt
  have HKs : Hid (∀ W', Ext w W' → Ints W' ka kn kc ks) := Lib.hid fun W' hW' => hx.ks.ext hW'
  have HKF : Hid (∀ a, ka = some a → ¬ F a.block ∧ ¬ G a.block) := Lib.hid fun a ha => (hp.k _ (hkK a ha)).2
  have HKp : Hid (∀ wb : World, (∀ i, K i → wb.heap[i]? = W.drew.heap[i]?) → ∀ i, K i → wb.heap[i]? = w.heap[i]?) := Lib.hid fun wb hk i hi => (hk i hi).trans ((hWx.trans (Ext.refl W).drew).block i (hp.k i hi).1)
  have HKq : Hid (∀ i, K i → W.heap[i]? = w.heap[i]?) := Lib.hid fun i hi => hWx.block i (hp.k i hi).1
  have HB1 := Lib.hid (hbx.ext (Ext.refl W).drew)
  have HB0 := Lib.hid hbx
  have c0 := hbx.cell 0
  have d0 := HB1.out.cell 0; have d1 := HB1.out.cell 1; have d2 := HB1.out.cell 2; have d3 := HB1.out.cell 3; have d4 := HB1.out.cell 4; have d5 := HB1.out.cell 5; have d6 := HB1.out.cell 6
  clear hp hf hx hWx hbx
  rw [show (ActM.cells ⟨kd, nm, tt, tx, at_, n, ka, kn, kc, ks⟩).toArray = #[.int .u8 kd, .string ⟨nm.toArray⟩, .string ⟨tt.toArray⟩, .string ⟨tx.toArray⟩, .int .i64 at_, .int .i64 n, .slice ka kn kc] from rfl]
  obtain ⟨p, hp⟩ : ∃ p, syncM σ nm = p := ⟨_, rfl⟩
  obtain ⟨c, τ⟩ := p
  have HC1 : Hid (Calls Try.prog 19 #[.pointer (some ⟨g, 0, none⟩), .string ⟨nm.toArray⟩] W.drew fun e w' => e = .returned (.int .i64 c) ∧ DkS W.drew g F τ w') := Lib.hid (by have h := sync_c HP.out.d nm l1; rwa [hp] at h)
  have HC2 : Hid (∀ wa, DkS W.drew g F τ wa → Calls Try.prog 28 #[.pointer (some ⟨r, 0, none⟩), .string ⟨nm.toArray⟩] wa fun e w' => e = .returned (.int .i64 c) ∧ RR wa r G B τ w') := Lib.hid fun wa h1 => by have h := rsync_c (HP.out.rk h1) HP.out.d.1 HF.out nm; rwa [hp] at h
  clear hp
  go_enter Try.func8, Try.ntmps8
  go_wp2_with fail
  go_region_law (go_simp; first | (go_at_call 19; refine HC1.out.mono ?_; rintro e wa ⟨rfl, h1⟩; have H1 := Lib.hid h1; have hba := h1.off.blk HB1.out (fun hf => Nat.lt_irrefl _ (HNF.out _ hf)); have a1 := hba.cell 1; have a2 := hba.cell 2; have a3 := hba.cell 3; have a4 := hba.cell 4; have a5 := hba.cell 5; have a6 := hba.cell 6; clear h1 hba) | (go_at_call 28; refine (HC2.out _ H1.out).mono ?_; rintro e wb ⟨rfl, fl1, h2, hf2⟩; have H2 := Lib.hid h2; have HF2 := Lib.hid hf2; clear h2 hf2))
  all_goals
    go_wp2_with fail
    go_ret
    exact ⟨rfl, τ, fl1, (HP.out.step H1.out H2.out).1, HF2.out, HKp.out _ (HP.out.step H1.out H2.out).2⟩

theorem do8_c {w0 w : World} {g r B : Nat} {K : Nat → Prop} {σ : DM} {fl : Int} (h : PD w0 w g r σ fl K) (hf : FlOk (B + 1) σ fl) (hB : (B : Int) ≤ 1000000) (x : ActM) (hx : okAct w x) (hn : x.nm.length ≤ 100) (ht : (x.tx.length : Int) ≤ 3000) (hkn : x.kn ≤ 100) (hkK : ∀ a, x.ka = some a → K a.block) (hrr : Int.tmod x.kd 15 = 8) :
    Calls Try.prog 8 #[.agg x.cells.toArray, .pointer (some ⟨g, 0, none⟩), .pointer (some ⟨r, 0, none⟩)] w fun e w' => e = .returned (.bool true) ∧ ∃ σ' fl', PD w0 w' g r σ' fl' K ∧ FlOk B σ' fl' ∧ ∀ i, K i → w'.heap[i]? = w.heap[i]? := by
  obtain ⟨kd, nm, tt, tx, at_, n, ka, kn, kc, ks⟩ := x
  have HOk := Lib.hid hx
  have k0 := hx.kd0; have k1 := hx.kd1; have l1 := hx.nm; have l2 := hx.tt; have l3 := hx.tx; have m0 := hx.at0; have m1 := hx.at1; have m2 := hx.n0; have m3 := hx.n1
  have kf := hx.ks.fits; have kb := hx.ks.bound
  simp only at hrr k0 k1 l1 l2 l3 m0 m1 m2 m3 hn ht hkn hkK kf kb
  obtain ⟨F, G, hp⟩ := h
  obtain ⟨W, hW⟩ : ∃ W, w.alloc (.cells #[.int .u8 kd, .string ⟨nm.toArray⟩, .string ⟨tt.toArray⟩, .string ⟨tx.toArray⟩, .int .i64 at_, .int .i64 n, .slice ka kn kc] 34) = W := ⟨_, rfl⟩
  have hWx : Ext w W := by rw [← hW]; exact ext_a1 w _
  have hbx : Blk W w.heap.size 34 #[.int .u8 kd, .string ⟨nm.toArray⟩, .string ⟨tt.toArray⟩, .string ⟨tx.toArray⟩, .int .i64 at_, .int .i64 n, .slice ka kn kc] := by rw [← hW]; exact Blk.new w _ _
  have HWx := Lib.hid hWx
  have HP := Lib.hid (hp.grow (hWx.trans (Ext.refl W).drew))
  have HP0 := Lib.hid (hp.grow hWx)
  have HF := Lib.hid hf
  have HNF : Hid (∀ i, F i → i < w.heap.size) := Lib.hid hp.d.lt
  have HKs : Hid (∀ W', Ext w W' → Ints W' ka kn kc ks) := Lib.hid fun W' hW' => hx.ks.ext hW'
  have HKF : Hid (∀ a, ka = some a → ¬ F a.block ∧ ¬ G a.block) := Lib.hid fun a ha => (hp.k _ (hkK a ha)).2
  have HKp : Hid (∀ wb : World, (∀ i, K i → wb.heap[i]? = W.drew.heap[i]?) → ∀ i, K i → wb.heap[i]? = w.heap[i]?) := Lib.hid fun wb hk i hi => (hk i hi).trans ((hWx.trans (Ext.refl W).drew).block i (hp.k i hi).1)
  have HKq : Hid (∀ i, K i → W.heap[i]? = w.heap[i]?) := Lib.hid fun i hi => hWx.block i (hp.k i hi).1
  have HB1 := Lib.hid (hbx.ext (Ext.refl W).drew)
  have HB0 := Lib.hid hbx
  have c0 := hbx.cell 0
  have d0 := HB1.out.cell 0; have d1 := HB1.out.cell 1; have d2 := HB1.out.cell 2; have d3 := HB1.out.cell 3; have d4 := HB1.out.cell 4; have d5 := HB1.out.cell 5; have d6 := HB1.out.cell 6
  clear hp hf hx hWx hbx
  rw [show (ActM.cells ⟨kd, nm, tt, tx, at_, n, ka, kn, kc, ks⟩).toArray = #[.int .u8 kd, .string ⟨nm.toArray⟩, .string ⟨tt.toArray⟩, .string ⟨tx.toArray⟩, .int .i64 at_, .int .i64 n, .slice ka kn kc] from rfl]
  obtain ⟨p, hp⟩ : ∃ p, deleteM σ nm = p := ⟨_, rfl⟩
  obtain ⟨c, τ⟩ := p
  have HC1 : Hid (Calls Try.prog 31 #[.pointer (some ⟨g, 0, none⟩), .string ⟨nm.toArray⟩] W.drew fun e w' => e = .returned (.int .i64 c) ∧ DkS W.drew g F τ w') := Lib.hid (by have h := delete_c HP.out.d nm l1; rwa [hp] at h)
  have HC2 : Hid (∀ wa, DkS W.drew g F τ wa → Calls Try.prog 32 #[.pointer (some ⟨r, 0, none⟩), .string ⟨nm.toArray⟩] wa fun e w' => e = .returned (.int .i64 c) ∧ RR wa r G B τ w') := Lib.hid fun wa h1 => by have h := rdelete_c (HP.out.rk h1) HP.out.d.1 HF.out nm; rwa [hp] at h
  clear hp
  go_enter Try.func8, Try.ntmps8
  go_wp2_with fail
  go_region_law (go_simp; first | (go_at_call 31; refine HC1.out.mono ?_; rintro e wa ⟨rfl, h1⟩; have H1 := Lib.hid h1; have hba := h1.off.blk HB1.out (fun hf => Nat.lt_irrefl _ (HNF.out _ hf)); have a1 := hba.cell 1; have a2 := hba.cell 2; have a3 := hba.cell 3; have a4 := hba.cell 4; have a5 := hba.cell 5; have a6 := hba.cell 6; clear h1 hba) | (go_at_call 32; refine (HC2.out _ H1.out).mono ?_; rintro e wb ⟨rfl, fl1, h2, hf2⟩; have H2 := Lib.hid h2; have HF2 := Lib.hid hf2; clear h2 hf2))
  all_goals
    go_wp2_with fail
    go_ret
    exact ⟨rfl, τ, fl1, (HP.out.step H1.out H2.out).1, HF2.out, HKp.out _ (HP.out.step H1.out H2.out).2⟩

theorem do10_c {w0 w : World} {g r B : Nat} {K : Nat → Prop} {σ : DM} {fl : Int} (h : PD w0 w g r σ fl K) (hf : FlOk (B + 1) σ fl) (hB : (B : Int) ≤ 1000000) (x : ActM) (hx : okAct w x) (hn : x.nm.length ≤ 100) (ht : (x.tx.length : Int) ≤ 3000) (hkn : x.kn ≤ 100) (hkK : ∀ a, x.ka = some a → K a.block) (hrr : Int.tmod x.kd 15 = 10) :
    Calls Try.prog 8 #[.agg x.cells.toArray, .pointer (some ⟨g, 0, none⟩), .pointer (some ⟨r, 0, none⟩)] w fun e w' => e = .returned (.bool true) ∧ ∃ σ' fl', PD w0 w' g r σ' fl' K ∧ FlOk B σ' fl' ∧ ∀ i, K i → w'.heap[i]? = w.heap[i]? := by
  obtain ⟨kd, nm, tt, tx, at_, n, ka, kn, kc, ks⟩ := x
  have HOk := Lib.hid hx
  have k0 := hx.kd0; have k1 := hx.kd1; have l1 := hx.nm; have l2 := hx.tt; have l3 := hx.tx; have m0 := hx.at0; have m1 := hx.at1; have m2 := hx.n0; have m3 := hx.n1
  have kf := hx.ks.fits; have kb := hx.ks.bound
  simp only at hrr k0 k1 l1 l2 l3 m0 m1 m2 m3 hn ht hkn hkK kf kb
  obtain ⟨F, G, hp⟩ := h
  obtain ⟨W, hW⟩ : ∃ W, w.alloc (.cells #[.int .u8 kd, .string ⟨nm.toArray⟩, .string ⟨tt.toArray⟩, .string ⟨tx.toArray⟩, .int .i64 at_, .int .i64 n, .slice ka kn kc] 34) = W := ⟨_, rfl⟩
  have hWx : Ext w W := by rw [← hW]; exact ext_a1 w _
  have hbx : Blk W w.heap.size 34 #[.int .u8 kd, .string ⟨nm.toArray⟩, .string ⟨tt.toArray⟩, .string ⟨tx.toArray⟩, .int .i64 at_, .int .i64 n, .slice ka kn kc] := by rw [← hW]; exact Blk.new w _ _
  have HWx := Lib.hid hWx
  have HP := Lib.hid (hp.grow (hWx.trans (Ext.refl W).drew))
  have HP0 := Lib.hid (hp.grow hWx)
  have HF := Lib.hid hf
  have HNF : Hid (∀ i, F i → i < w.heap.size) := Lib.hid hp.d.lt
  have HKs : Hid (∀ W', Ext w W' → Ints W' ka kn kc ks) := Lib.hid fun W' hW' => hx.ks.ext hW'
  have HKF : Hid (∀ a, ka = some a → ¬ F a.block ∧ ¬ G a.block) := Lib.hid fun a ha => (hp.k _ (hkK a ha)).2
  have HKp : Hid (∀ wb : World, (∀ i, K i → wb.heap[i]? = W.drew.heap[i]?) → ∀ i, K i → wb.heap[i]? = w.heap[i]?) := Lib.hid fun wb hk i hi => (hk i hi).trans ((hWx.trans (Ext.refl W).drew).block i (hp.k i hi).1)
  have HKq : Hid (∀ i, K i → W.heap[i]? = w.heap[i]?) := Lib.hid fun i hi => hWx.block i (hp.k i hi).1
  have HB1 := Lib.hid (hbx.ext (Ext.refl W).drew)
  have HB0 := Lib.hid hbx
  have c0 := hbx.cell 0
  have d0 := HB1.out.cell 0; have d1 := HB1.out.cell 1; have d2 := HB1.out.cell 2; have d3 := HB1.out.cell 3; have d4 := HB1.out.cell 4; have d5 := HB1.out.cell 5; have d6 := HB1.out.cell 6
  clear hp hf hx hWx hbx
  rw [show (ActM.cells ⟨kd, nm, tt, tx, at_, n, ka, kn, kc, ks⟩).toArray = #[.int .u8 kd, .string ⟨nm.toArray⟩, .string ⟨tt.toArray⟩, .string ⟨tx.toArray⟩, .int .i64 at_, .int .i64 n, .slice ka kn kc] from rfl]
  obtain ⟨p, hp⟩ : ∃ p, crashD σ ks = p := ⟨_, rfl⟩
  obtain ⟨c, τ⟩ := p
  have HC1 : Hid (Calls Try.prog 20 #[.pointer (some ⟨g, 0, none⟩), .slice ka kn kc] W.drew fun e w' => e = .returned (.int .i64 c) ∧ DkS W.drew g F τ w') := Lib.hid (by have h := crashD_c HP.out.d ka kn kc ks ((HKs.out _ (HWx.out.trans (Ext.refl W).drew)).off fun a ha => (HKF.out a ha).1); rwa [hp] at h)
  have HC2 : Hid (∀ wa, DkS W.drew g F τ wa → Calls Try.prog 34 #[.pointer (some ⟨r, 0, none⟩), .slice ka kn kc] wa fun e w' => e = .returned (.int .i64 c) ∧ RR wa r G B τ w') := Lib.hid fun wa h1 => by have h := rcrashD_c (HP.out.rk h1) HF.out (((HKs.out _ (HWx.out.trans (Ext.refl W).drew)).off (fun a ha => (HKF.out a ha).1) wa h1.off).off fun a ha => (HKF.out a ha).2); rwa [hp] at h
  clear hp
  go_enter Try.func8, Try.ntmps8
  go_wp2_with fail
  go_region_law (go_simp; first | (go_at_call 20; refine HC1.out.mono ?_; rintro e wa ⟨rfl, h1⟩; have H1 := Lib.hid h1; have hba := h1.off.blk HB1.out (fun hf => Nat.lt_irrefl _ (HNF.out _ hf)); have a1 := hba.cell 1; have a2 := hba.cell 2; have a3 := hba.cell 3; have a4 := hba.cell 4; have a5 := hba.cell 5; have a6 := hba.cell 6; clear h1 hba) | (go_at_call 34; refine (HC2.out _ H1.out).mono ?_; rintro e wb ⟨rfl, fl1, h2, hf2⟩; have H2 := Lib.hid h2; have HF2 := Lib.hid hf2; clear h2 hf2))
  all_goals
    go_wp2_with fail
    go_ret
    exact ⟨rfl, τ, fl1, (HP.out.step H1.out H2.out).1, HF2.out, HKp.out _ (HP.out.step H1.out H2.out).2⟩

end Go.Proofs.Ytmpiepkkikmpmaa
namespace Go.Proofs.Ytmpiepkkikmpmaa
open Go.RowKit

set_option maxRecDepth 100000
set_option linter.unusedVariables false
set_option maxHeartbeats 12800000

theorem do12_c {w0 w : World} {g r B : Nat} {K : Nat → Prop} {σ : DM} {fl : Int} (h : PD w0 w g r σ fl K) (hf : FlOk (B + 1) σ fl) (hB : (B : Int) ≤ 1000000) (x : ActM) (hx : okAct w x) (hn : x.nm.length ≤ 100) (ht : (x.tx.length : Int) ≤ 3000) (hkn : x.kn ≤ 100) (hkK : ∀ a, x.ka = some a → K a.block) (hrr : Int.tmod x.kd 15 = 12) :
    Calls Try.prog 8 #[.agg x.cells.toArray, .pointer (some ⟨g, 0, none⟩), .pointer (some ⟨r, 0, none⟩)] w fun e w' => e = .returned (.bool true) ∧ ∃ σ' fl', PD w0 w' g r σ' fl' K ∧ FlOk B σ' fl' ∧ ∀ i, K i → w'.heap[i]? = w.heap[i]? := by
  obtain ⟨kd, nm, tt, tx, at_, n, ka, kn, kc, ks⟩ := x
  have HOk := Lib.hid hx
  have k0 := hx.kd0; have k1 := hx.kd1; have l1 := hx.nm; have l2 := hx.tt; have l3 := hx.tx; have m0 := hx.at0; have m1 := hx.at1; have m2 := hx.n0; have m3 := hx.n1
  have kf := hx.ks.fits; have kb := hx.ks.bound
  simp only at hrr k0 k1 l1 l2 l3 m0 m1 m2 m3 hn ht hkn hkK kf kb
  obtain ⟨F, G, hp⟩ := h
  obtain ⟨W, hW⟩ : ∃ W, w.alloc (.cells #[.int .u8 kd, .string ⟨nm.toArray⟩, .string ⟨tt.toArray⟩, .string ⟨tx.toArray⟩, .int .i64 at_, .int .i64 n, .slice ka kn kc] 34) = W := ⟨_, rfl⟩
  have hWx : Ext w W := by rw [← hW]; exact ext_a1 w _
  have hbx : Blk W w.heap.size 34 #[.int .u8 kd, .string ⟨nm.toArray⟩, .string ⟨tt.toArray⟩, .string ⟨tx.toArray⟩, .int .i64 at_, .int .i64 n, .slice ka kn kc] := by rw [← hW]; exact Blk.new w _ _
  have HWx := Lib.hid hWx
  have HP := Lib.hid (hp.grow (hWx.trans (Ext.refl W).drew))
  have HP0 := Lib.hid (hp.grow hWx)
  have HF := Lib.hid hf
  have HNF : Hid (∀ i, F i → i < w.heap.size) := Lib.hid hp.d.lt
  have HKs : Hid (∀ W', Ext w W' → Ints W' ka kn kc ks) := Lib.hid fun W' hW' => hx.ks.ext hW'
  have HKF : Hid (∀ a, ka = some a → ¬ F a.block ∧ ¬ G a.block) := Lib.hid fun a ha => (hp.k _ (hkK a ha)).2
  have HKp : Hid (∀ wb : World, (∀ i, K i → wb.heap[i]? = W.drew.heap[i]?) → ∀ i, K i → wb.heap[i]? = w.heap[i]?) := Lib.hid fun wb hk i hi => (hk i hi).trans ((hWx.trans (Ext.refl W).drew).block i (hp.k i hi).1)
  have HKq : Hid (∀ i, K i → W.heap[i]? = w.heap[i]?) := Lib.hid fun i hi => hWx.block i (hp.k i hi).1
  have HB1 := Lib.hid (hbx.ext (Ext.refl W).drew)
  have HB0 := Lib.hid hbx
  have c0 := hbx.cell 0
  have d0 := HB1.out.cell 0; have d1 := HB1.out.cell 1; have d2 := HB1.out.cell 2; have d3 := HB1.out.cell 3; have d4 := HB1.out.cell 4; have d5 := HB1.out.cell 5; have d6 := HB1.out.cell 6
  clear hp hf hx hWx hbx
  rw [show (ActM.cells ⟨kd, nm, tt, tx, at_, n, ka, kn, kc, ks⟩).toArray = #[.int .u8 kd, .string ⟨nm.toArray⟩, .string ⟨tt.toArray⟩, .string ⟨tx.toArray⟩, .int .i64 at_, .int .i64 n, .slice ka kn kc] from rfl]
  obtain ⟨p, hp⟩ : ∃ p, failD σ n ks = p := ⟨_, rfl⟩
  obtain ⟨c, τ⟩ := p
  have HC1 : Hid (Calls Try.prog 22 #[.pointer (some ⟨g, 0, none⟩), .int .i64 n, .slice ka kn kc] W.drew fun e w' => e = .returned (.int .i64 c) ∧ DkS W.drew g F τ w') := Lib.hid (by have h := fail_c HP.out.d n m3 (HKs.out _ (HWx.out.trans (Ext.refl W).drew)) (by omega); rwa [hp] at h)
  have HC2 : Hid (∀ wa, DkS W.drew g F τ wa → Calls Try.prog 35 #[.pointer (some ⟨r, 0, none⟩), .int .i64 n, .slice ka kn kc] wa fun e w' => e = .returned (.int .i64 c) ∧ RR wa r G B τ w') := Lib.hid fun wa h1 => by have h := rfail_c (HP.out.rk h1) HP.out.d.1 HF.out hB n m3 ((HKs.out _ (HWx.out.trans (Ext.refl W).drew)).off (fun a ha => (HKF.out a ha).1) wa h1.off) (by omega) fun a ha => (HKF.out a ha).2; rwa [hp] at h
  clear hp
  go_enter Try.func8, Try.ntmps8
  go_wp2_with fail
  go_region_law (go_simp; first | (go_at_call 22; refine HC1.out.mono ?_; rintro e wa ⟨rfl, h1⟩; have H1 := Lib.hid h1; have hba := h1.off.blk HB1.out (fun hf => Nat.lt_irrefl _ (HNF.out _ hf)); have a1 := hba.cell 1; have a2 := hba.cell 2; have a3 := hba.cell 3; have a4 := hba.cell 4; have a5 := hba.cell 5; have a6 := hba.cell 6; clear h1 hba) | (go_at_call 35; refine (HC2.out _ H1.out).mono ?_; rintro e wb ⟨rfl, fl1, h2, hf2⟩; have H2 := Lib.hid h2; have HF2 := Lib.hid hf2; clear h2 hf2))
  all_goals
    go_wp2_with fail
    go_ret
    exact ⟨rfl, τ, fl1, (HP.out.step H1.out H2.out).1, HF2.out, HKp.out _ (HP.out.step H1.out H2.out).2⟩

end Go.Proofs.Ytmpiepkkikmpmaa
namespace Go.Proofs.Ytmpiepkkikmpmaa
open Go.RowKit

set_option maxRecDepth 100000
set_option linter.unusedVariables false
set_option maxHeartbeats 12800000

theorem do4_c {w0 w : World} {g r B : Nat} {K : Nat → Prop} {σ : DM} {fl : Int} (h : PD w0 w g r σ fl K) (hf : FlOk (B + 1) σ fl) (hB : (B : Int) ≤ 1000000) (x : ActM) (hx : okAct w x) (hn : x.nm.length ≤ 100) (ht : (x.tx.length : Int) ≤ 3000) (hkn : x.kn ≤ 100) (hkK : ∀ a, x.ka = some a → K a.block) (hrr : Int.tmod x.kd 15 = 4) :
    Calls Try.prog 8 #[.agg x.cells.toArray, .pointer (some ⟨g, 0, none⟩), .pointer (some ⟨r, 0, none⟩)] w fun e w' => e = .returned (.bool true) ∧ ∃ σ' fl', PD w0 w' g r σ' fl' K ∧ FlOk B σ' fl' ∧ ∀ i, K i → w'.heap[i]? = w.heap[i]? := by
  obtain ⟨kd, nm, tt, tx, at_, n, ka, kn, kc, ks⟩ := x
  have HOk := Lib.hid hx
  have k0 := hx.kd0; have k1 := hx.kd1; have l1 := hx.nm; have l2 := hx.tt; have l3 := hx.tx; have m0 := hx.at0; have m1 := hx.at1; have m2 := hx.n0; have m3 := hx.n1
  have kf := hx.ks.fits; have kb := hx.ks.bound
  simp only at hrr k0 k1 l1 l2 l3 m0 m1 m2 m3 hn ht hkn hkK kf kb
  obtain ⟨F, G, hp⟩ := h
  obtain ⟨W, hW⟩ : ∃ W, w.alloc (.cells #[.int .u8 kd, .string ⟨nm.toArray⟩, .string ⟨tt.toArray⟩, .string ⟨tx.toArray⟩, .int .i64 at_, .int .i64 n, .slice ka kn kc] 34) = W := ⟨_, rfl⟩
  have hWx : Ext w W := by rw [← hW]; exact ext_a1 w _
  have hbx : Blk W w.heap.size 34 #[.int .u8 kd, .string ⟨nm.toArray⟩, .string ⟨tt.toArray⟩, .string ⟨tx.toArray⟩, .int .i64 at_, .int .i64 n, .slice ka kn kc] := by rw [← hW]; exact Blk.new w _ _
  have HWx := Lib.hid hWx
  have HP := Lib.hid (hp.grow (hWx.trans (Ext.refl W).drew))
  have HP0 := Lib.hid (hp.grow hWx)
  have HF := Lib.hid hf
  have HNF : Hid (∀ i, F i → i < w.heap.size) := Lib.hid hp.d.lt
  have HKs : Hid (∀ W', Ext w W' → Ints W' ka kn kc ks) := Lib.hid fun W' hW' => hx.ks.ext hW'
  have HKF : Hid (∀ a, ka = some a → ¬ F a.block ∧ ¬ G a.block) := Lib.hid fun a ha => (hp.k _ (hkK a ha)).2
  have HKp : Hid (∀ wb : World, (∀ i, K i → wb.heap[i]? = W.drew.heap[i]?) → ∀ i, K i → wb.heap[i]? = w.heap[i]?) := Lib.hid fun wb hk i hi => (hk i hi).trans ((hWx.trans (Ext.refl W).drew).block i (hp.k i hi).1)
  have HKq : Hid (∀ i, K i → W.heap[i]? = w.heap[i]?) := Lib.hid fun i hi => hWx.block i (hp.k i hi).1
  have HB1 := Lib.hid (hbx.ext (Ext.refl W).drew)
  have HB0 := Lib.hid hbx
  have c0 := hbx.cell 0
  have d0 := HB1.out.cell 0; have d1 := HB1.out.cell 1; have d2 := HB1.out.cell 2; have d3 := HB1.out.cell 3; have d4 := HB1.out.cell 4; have d5 := HB1.out.cell 5; have d6 := HB1.out.cell 6
  clear hp hf hx hWx hbx
  rw [show (ActM.cells ⟨kd, nm, tt, tx, at_, n, ka, kn, kc, ks⟩).toArray = #[.int .u8 kd, .string ⟨nm.toArray⟩, .string ⟨tt.toArray⟩, .string ⟨tx.toArray⟩, .int .i64 at_, .int .i64 n, .slice ka kn kc] from rfl]
  obtain ⟨p, hp⟩ : ∃ p, readM σ nm at_ n = p := ⟨_, rfl⟩
  obtain ⟨s, c, τ⟩ := p
  have HC1 : Hid (Calls Try.prog 17 #[.pointer (some ⟨g, 0, none⟩), .string ⟨nm.toArray⟩, .int .i64 at_, .int .i64 n] W fun e w' => e = .returned (.tuple #[.string ⟨s.toArray⟩, .int .i64 c]) ∧ DkS W g F τ w') := Lib.hid (by have h := read_c HP0.out.d nm at_ n l1 m0 m1 m2 m3; rwa [hp] at h)
  have HC2 : Hid (∀ wa, DkS W g F τ wa → Calls Try.prog 27 #[.pointer (some ⟨r, 0, none⟩), .string ⟨nm.toArray⟩, .int .i64 at_, .int .i64 n] wa fun e w' => e = .returned (.tuple #[.string ⟨s.toArray⟩, .int .i64 c]) ∧ RR wa r G B τ w') := Lib.hid fun wa h1 => by have h := rread_c (HP0.out.rk h1) HP0.out.d.1 HF.out nm at_ n m0 m1 m2 m3; rwa [hp] at h
  clear hp
  have e1 := HB0.out.cell 1; have e4 := HB0.out.cell 4; have e5 := HB0.out.cell 5
  clear d0 d1 d2 d3 d4 d5 d6
  go_enter Try.func8, Try.ntmps8
  go_wp2_with fail
  refine HC1.out.mono ?_
  rintro e wa ⟨rfl, h1⟩
  have H1 := Lib.hid h1
  have hba := h1.off.blk HB0.out (fun hf => Nat.lt_irrefl _ (HNF.out _ hf))
  have a1 := hba.cell 1; have a4 := hba.cell 4; have a5 := hba.cell 5
  clear h1 hba
  go_wp2_with fail
  refine (HC2.out _ H1.out).mono ?_
  rintro e wb ⟨rfl, fl1, h2, hf2⟩
  have H2 := Lib.hid h2; have HF2 := Lib.hid hf2
  clear h2 hf2
  go_wp2_with fail
  go_ret
  exact ⟨rfl, τ, fl1, (HP0.out.step H1.out H2.out).1, HF2.out, fun i hi => ((HP0.out.step H1.out H2.out).2 i hi).trans (HKq.out i hi)⟩

theorem do9_c {w0 w : World} {g r B : Nat} {K : Nat → Prop} {σ : DM} {fl : Int} (h : PD w0 w g r σ fl K) (hf : FlOk (B + 1) σ fl) (hB : (B : Int) ≤ 1000000) (x : ActM) (hx : okAct w x) (hn : x.nm.length ≤ 100) (ht : (x.tx.length : Int) ≤ 3000) (hkn : x.kn ≤ 100) (hkK : ∀ a, x.ka = some a → K a.block) (hrr : Int.tmod x.kd 15 = 9) :
    Calls Try.prog 8 #[.agg x.cells.toArray, .pointer (some ⟨g, 0, none⟩), .pointer (some ⟨r, 0, none⟩)] w fun e w' => e = .returned (.bool true) ∧ ∃ σ' fl', PD w0 w' g r σ' fl' K ∧ FlOk B σ' fl' ∧ ∀ i, K i → w'.heap[i]? = w.heap[i]? := by
  obtain ⟨kd, nm, tt, tx, at_, n, ka, kn, kc, ks⟩ := x
  have HOk := Lib.hid hx
  have k0 := hx.kd0; have k1 := hx.kd1; have l1 := hx.nm; have l2 := hx.tt; have l3 := hx.tx; have m0 := hx.at0; have m1 := hx.at1; have m2 := hx.n0; have m3 := hx.n1
  have kf := hx.ks.fits; have kb := hx.ks.bound
  simp only at hrr k0 k1 l1 l2 l3 m0 m1 m2 m3 hn ht hkn hkK kf kb
  obtain ⟨F, G, hp⟩ := h
  obtain ⟨W, hW⟩ : ∃ W, w.alloc (.cells #[.int .u8 kd, .string ⟨nm.toArray⟩, .string ⟨tt.toArray⟩, .string ⟨tx.toArray⟩, .int .i64 at_, .int .i64 n, .slice ka kn kc] 34) = W := ⟨_, rfl⟩
  have hWx : Ext w W := by rw [← hW]; exact ext_a1 w _
  have hbx : Blk W w.heap.size 34 #[.int .u8 kd, .string ⟨nm.toArray⟩, .string ⟨tt.toArray⟩, .string ⟨tx.toArray⟩, .int .i64 at_, .int .i64 n, .slice ka kn kc] := by rw [← hW]; exact Blk.new w _ _
  have HWx := Lib.hid hWx
  have HP := Lib.hid (hp.grow (hWx.trans (Ext.refl W).drew))
  have HP0 := Lib.hid (hp.grow hWx)
  have HF := Lib.hid hf
  have HNF : Hid (∀ i, F i → i < w.heap.size) := Lib.hid hp.d.lt
  have HKs : Hid (∀ W', Ext w W' → Ints W' ka kn kc ks) := Lib.hid fun W' hW' => hx.ks.ext hW'
  have HKF : Hid (∀ a, ka = some a → ¬ F a.block ∧ ¬ G a.block) := Lib.hid fun a ha => (hp.k _ (hkK a ha)).2
  have HKp : Hid (∀ wb : World, (∀ i, K i → wb.heap[i]? = W.drew.heap[i]?) → ∀ i, K i → wb.heap[i]? = w.heap[i]?) := Lib.hid fun wb hk i hi => (hk i hi).trans ((hWx.trans (Ext.refl W).drew).block i (hp.k i hi).1)
  have HKq : Hid (∀ i, K i → W.heap[i]? = w.heap[i]?) := Lib.hid fun i hi => hWx.block i (hp.k i hi).1
  have HB1 := Lib.hid (hbx.ext (Ext.refl W).drew)
  have HB0 := Lib.hid hbx
  have c0 := hbx.cell 0
  have d0 := HB1.out.cell 0; have d1 := HB1.out.cell 1; have d2 := HB1.out.cell 2; have d3 := HB1.out.cell 3; have d4 := HB1.out.cell 4; have d5 := HB1.out.cell 5; have d6 := HB1.out.cell 6
  clear hp hf hx hWx hbx
  rw [show (ActM.cells ⟨kd, nm, tt, tx, at_, n, ka, kn, kc, ks⟩).toArray = #[.int .u8 kd, .string ⟨nm.toArray⟩, .string ⟨tt.toArray⟩, .string ⟨tx.toArray⟩, .int .i64 at_, .int .i64 n, .slice ka kn kc] from rfl]
  obtain ⟨p, hp⟩ : ∃ p, sizeM σ nm = p := ⟨_, rfl⟩
  obtain ⟨z, c⟩ := p
  have HC1 : Hid (Calls Try.prog 21 #[.pointer (some ⟨g, 0, none⟩), .string ⟨nm.toArray⟩] W fun e w' => e = .returned (.tuple #[.int .i64 z, .int .i64 c]) ∧ W = w') := Lib.hid (by have h := size_c HP0.out.d nm l1; rwa [hp] at h)
  have HC2 : Hid (Calls Try.prog 33 #[.pointer (some ⟨r, 0, none⟩), .string ⟨nm.toArray⟩] W fun e w' => e = .returned (.tuple #[.int .i64 z, .int .i64 c]) ∧ W = w') := Lib.hid (by have h := rsize_c HP0.out.r nm; rwa [hp] at h)
  clear hp
  have e1 := HB0.out.cell 1
  clear d0 d1 d2 d3 d4 d5 d6
  go_enter Try.func8, Try.ntmps8
  go_wp2_with fail
  refine HC1.out.mono ?_
  rintro e wa ⟨rfl, rfl⟩
  go_wp2_with fail
  refine HC2.out.mono ?_
  rintro e wb ⟨rfl, rfl⟩
  go_wp2_with fail
  go_ret
  exact ⟨rfl, σ, fl, ⟨F, G, HP0.out⟩, HF.out.less (Nat.le_succ B), HKq.out⟩

theorem do11_c {w0 w : World} {g r B : Nat} {K : Nat → Prop} {σ : DM} {fl : Int} (h : PD w0 w g r σ fl K) (hf : FlOk (B + 1) σ fl) (hB : (B : Int) ≤ 1000000) (x : ActM) (hx : okAct w x) (hn : x.nm.length ≤ 100) (ht : (x.tx.length : Int) ≤ 3000) (hkn : x.kn ≤ 100) (hkK : ∀ a, x.ka = some a → K a.block) (hrr : Int.tmod x.kd 15 = 11) :
    Calls Try.prog 8 #[.agg x.cells.toArray, .pointer (some ⟨g, 0, none⟩), .pointer (some ⟨r, 0, none⟩)] w fun e w' => e = .returned (.bool true) ∧ ∃ σ' fl', PD w0 w' g r σ' fl' K ∧ FlOk B σ' fl' ∧ ∀ i, K i → w'.heap[i]? = w.heap[i]? := by
  obtain ⟨kd, nm, tt, tx, at_, n, ka, kn, kc, ks⟩ := x
  have HOk := Lib.hid hx
  have k0 := hx.kd0; have k1 := hx.kd1; have l1 := hx.nm; have l2 := hx.tt; have l3 := hx.tx; have m0 := hx.at0; have m1 := hx.at1; have m2 := hx.n0; have m3 := hx.n1
  have kf := hx.ks.fits; have kb := hx.ks.bound
  simp only at hrr k0 k1 l1 l2 l3 m0 m1 m2 m3 hn ht hkn hkK kf kb
  obtain ⟨F, G, hp⟩ := h
  obtain ⟨W, hW⟩ : ∃ W, w.alloc (.cells #[.int .u8 kd, .string ⟨nm.toArray⟩, .string ⟨tt.toArray⟩, .string ⟨tx.toArray⟩, .int .i64 at_, .int .i64 n, .slice ka kn kc] 34) = W := ⟨_, rfl⟩
  have hWx : Ext w W := by rw [← hW]; exact ext_a1 w _
  have hbx : Blk W w.heap.size 34 #[.int .u8 kd, .string ⟨nm.toArray⟩, .string ⟨tt.toArray⟩, .string ⟨tx.toArray⟩, .int .i64 at_, .int .i64 n, .slice ka kn kc] := by rw [← hW]; exact Blk.new w _ _
  have HWx := Lib.hid hWx
  have HP := Lib.hid (hp.grow (hWx.trans (Ext.refl W).drew))
  have HP0 := Lib.hid (hp.grow hWx)
  have HF := Lib.hid hf
  have HNF : Hid (∀ i, F i → i < w.heap.size) := Lib.hid hp.d.lt
  have HKs : Hid (∀ W', Ext w W' → Ints W' ka kn kc ks) := Lib.hid fun W' hW' => hx.ks.ext hW'
  have HKF : Hid (∀ a, ka = some a → ¬ F a.block ∧ ¬ G a.block) := Lib.hid fun a ha => (hp.k _ (hkK a ha)).2
  have HKp : Hid (∀ wb : World, (∀ i, K i → wb.heap[i]? = W.drew.heap[i]?) → ∀ i, K i → wb.heap[i]? = w.heap[i]?) := Lib.hid fun wb hk i hi => (hk i hi).trans ((hWx.trans (Ext.refl W).drew).block i (hp.k i hi).1)
  have HKq : Hid (∀ i, K i → W.heap[i]? = w.heap[i]?) := Lib.hid fun i hi => hWx.block i (hp.k i hi).1
  have HB1 := Lib.hid (hbx.ext (Ext.refl W).drew)
  have HB0 := Lib.hid hbx
  have c0 := hbx.cell 0
  have d0 := HB1.out.cell 0; have d1 := HB1.out.cell 1; have d2 := HB1.out.cell 2; have d3 := HB1.out.cell 3; have d4 := HB1.out.cell 4; have d5 := HB1.out.cell 5; have d6 := HB1.out.cell 6
  clear hp hf hx hWx hbx
  rw [show (ActM.cells ⟨kd, nm, tt, tx, at_, n, ka, kn, kc, ks⟩).toArray = #[.int .u8 kd, .string ⟨nm.toArray⟩, .string ⟨tt.toArray⟩, .string ⟨tx.toArray⟩, .int .i64 at_, .int .i64 n, .slice ka kn kc] from rfl]
  obtain ⟨p, hp⟩ : ∃ p, startM σ = p := ⟨_, rfl⟩
  obtain ⟨c, τ⟩ := p
  have HC1 : Hid (Calls Try.prog 12 #[.pointer (some ⟨g, 0, none⟩)] W fun e w' => e = .returned (.int .i64 c) ∧ DkS W g F τ w') := Lib.hid (by have h := start_c HP0.out.d; rwa [hp] at h)
  have HC2 : Hid (∀ wa, DkS W g F τ wa → Calls Try.prog 13 #[.pointer (some ⟨r, 0, none⟩)] wa fun e w' => e = .returned (.int .i64 c) ∧ RR wa r G B τ w') := Lib.hid fun wa h1 => by have h := rstart_c (HP0.out.rk h1) HP0.out.d.1 HF.out; rwa [hp] at h
  clear hp d0 d1 d2 d3 d4 d5 d6
  go_enter Try.func8, Try.ntmps8
  go_wp2_with fail
  refine HC1.out.mono ?_
  rintro e wa ⟨rfl, h1⟩
  have H1 := Lib.hid h1
  clear h1
  go_wp2_with fail
  refine (HC2.out _ H1.out).mono ?_
  rintro e wb ⟨rfl, fl1, h2, hf2⟩
  have H2 := Lib.hid h2; have HF2 := Lib.hid hf2
  clear h2 hf2
  go_wp2_with fail
  go_ret
  exact ⟨rfl, τ, fl1, (HP0.out.step H1.out H2.out).1, HF2.out, fun i hi => ((HP0.out.step H1.out H2.out).2 i hi).trans (HKq.out i hi)⟩

theorem do14_c {w0 w : World} {g r B : Nat} {K : Nat → Prop} {σ : DM} {fl : Int} (h : PD w0 w g r σ fl K) (hf : FlOk (B + 1) σ fl) (hB : (B : Int) ≤ 1000000) (x : ActM) (hx : okAct w x) (hn : x.nm.length ≤ 100) (ht : (x.tx.length : Int) ≤ 3000) (hkn : x.kn ≤ 100) (hkK : ∀ a, x.ka = some a → K a.block) (hrr : Int.tmod x.kd 15 = 14) :
    Calls Try.prog 8 #[.agg x.cells.toArray, .pointer (some ⟨g, 0, none⟩), .pointer (some ⟨r, 0, none⟩)] w fun e w' => e = .returned (.bool true) ∧ ∃ σ' fl', PD w0 w' g r σ' fl' K ∧ FlOk B σ' fl' ∧ ∀ i, K i → w'.heap[i]? = w.heap[i]? := by
  obtain ⟨kd, nm, tt, tx, at_, n, ka, kn, kc, ks⟩ := x
  have HOk := Lib.hid hx
  have k0 := hx.kd0; have k1 := hx.kd1; have l1 := hx.nm; have l2 := hx.tt; have l3 := hx.tx; have m0 := hx.at0; have m1 := hx.at1; have m2 := hx.n0; have m3 := hx.n1
  have kf := hx.ks.fits; have kb := hx.ks.bound
  simp only at hrr k0 k1 l1 l2 l3 m0 m1 m2 m3 hn ht hkn hkK kf kb
  obtain ⟨F, G, hp⟩ := h
  obtain ⟨W, hW⟩ : ∃ W, w.alloc (.cells #[.int .u8 kd, .string ⟨nm.toArray⟩, .string ⟨tt.toArray⟩, .string ⟨tx.toArray⟩, .int .i64 at_, .int .i64 n, .slice ka kn kc] 34) = W := ⟨_, rfl⟩
  have hWx : Ext w W := by rw [← hW]; exact ext_a1 w _
  have hbx : Blk W w.heap.size 34 #[.int .u8 kd, .string ⟨nm.toArray⟩, .string ⟨tt.toArray⟩, .string ⟨tx.toArray⟩, .int .i64 at_, .int .i64 n, .slice ka kn kc] := by rw [← hW]; exact Blk.new w _ _
  have HWx := Lib.hid hWx
  have HP := Lib.hid (hp.grow (hWx.trans (Ext.refl W).drew))
  have HP0 := Lib.hid (hp.grow hWx)
  have HF := Lib.hid hf
  have HNF : Hid (∀ i, F i → i < w.heap.size) := Lib.hid hp.d.lt
  have HKs : Hid (∀ W', Ext w W' → Ints W' ka kn kc ks) := Lib.hid fun W' hW' => hx.ks.ext hW'
  have HKF : Hid (∀ a, ka = some a → ¬ F a.block ∧ ¬ G a.block) := Lib.hid fun a ha => (hp.k _ (hkK a ha)).2
  have HKp : Hid (∀ wb : World, (∀ i, K i → wb.heap[i]? = W.drew.heap[i]?) → ∀ i, K i → wb.heap[i]? = w.heap[i]?) := Lib.hid fun wb hk i hi => (hk i hi).trans ((hWx.trans (Ext.refl W).drew).block i (hp.k i hi).1)
  have HKq : Hid (∀ i, K i → W.heap[i]? = w.heap[i]?) := Lib.hid fun i hi => hWx.block i (hp.k i hi).1
  have HB1 := Lib.hid (hbx.ext (Ext.refl W).drew)
  have HB0 := Lib.hid hbx
  have c0 := hbx.cell 0
  have d0 := HB1.out.cell 0; have d1 := HB1.out.cell 1; have d2 := HB1.out.cell 2; have d3 := HB1.out.cell 3; have d4 := HB1.out.cell 4; have d5 := HB1.out.cell 5; have d6 := HB1.out.cell 6
  clear hp hf hx hWx hbx
  rw [show (ActM.cells ⟨kd, nm, tt, tx, at_, n, ka, kn, kc, ks⟩).toArray = #[.int .u8 kd, .string ⟨nm.toArray⟩, .string ⟨tt.toArray⟩, .string ⟨tx.toArray⟩, .int .i64 at_, .int .i64 n, .slice ka kn kc] from rfl]
  obtain ⟨p, hp⟩ : ∃ p, cutM σ nm n = p := ⟨_, rfl⟩
  obtain ⟨c, τ⟩ := p
  have HC1 : Hid (Calls Try.prog 25 #[.pointer (some ⟨g, 0, none⟩), .string ⟨nm.toArray⟩, .int .i64 n] W.drew fun e w' => e = .returned (.int .i64 c) ∧ DkS W.drew g F τ w') := Lib.hid (by have h := cutD_c HP.out.d nm l1 n m3; rwa [hp] at h)
  have HC2 : Hid (∀ wa, DkS W.drew g F τ wa → Calls Try.prog 37 #[.pointer (some ⟨r, 0, none⟩), .string ⟨nm.toArray⟩, .int .i64 n] wa fun e w' => e = .returned (.int .i64 c) ∧ RR wa r G B τ w') := Lib.hid fun wa h1 => by have h := rcut_c (HP.out.rk h1) HP.out.d.1 HF.out nm n m3; rwa [hp] at h
  clear hp
  go_enter Try.func8, Try.ntmps8
  go_wp2_with fail
  go_region_law (go_simp; first | (go_at_call 25; refine HC1.out.mono ?_; rintro e wa ⟨rfl, h1⟩; have H1 := Lib.hid h1; have hba := h1.off.blk HB1.out (fun hf => Nat.lt_irrefl _ (HNF.out _ hf)); have a1 := hba.cell 1; have a2 := hba.cell 2; have a3 := hba.cell 3; have a4 := hba.cell 4; have a5 := hba.cell 5; have a6 := hba.cell 6; clear h1 hba) | (go_at_call 37; refine (HC2.out _ H1.out).mono ?_; rintro e wb ⟨rfl, fl1, h2, hf2⟩; have H2 := Lib.hid h2; have HF2 := Lib.hid hf2; clear h2 hf2))
  all_goals
    go_wp2_with fail
    go_ret
    exact ⟨rfl, τ, fl1, (HP.out.step H1.out H2.out).1, HF2.out, HKp.out _ (HP.out.step H1.out H2.out).2⟩

end Go.Proofs.Ytmpiepkkikmpmaa
namespace Go.Proofs.Ytmpiepkkikmpmaa
open Go.RowKit

set_option maxRecDepth 100000
set_option linter.unusedVariables false
set_option maxHeartbeats 12800000

theorem do13_c {w0 w : World} {g r B : Nat} {K : Nat → Prop} {σ : DM} {fl : Int} (h : PD w0 w g r σ fl K) (hf : FlOk (B + 1) σ fl) (hB : (B : Int) ≤ 1000000) (x : ActM) (hx : okAct w x) (hn : x.nm.length ≤ 100) (ht : (x.tx.length : Int) ≤ 3000) (hkn : x.kn ≤ 100) (hkK : ∀ a, x.ka = some a → K a.block) (hrr : Int.tmod x.kd 15 = 13) :
    Calls Try.prog 8 #[.agg x.cells.toArray, .pointer (some ⟨g, 0, none⟩), .pointer (some ⟨r, 0, none⟩)] w fun e w' => e = .returned (.bool true) ∧ ∃ σ' fl', PD w0 w' g r σ' fl' K ∧ FlOk B σ' fl' ∧ ∀ i, K i → w'.heap[i]? = w.heap[i]? := by
  obtain ⟨kd, nm, tt, tx, at_, n, ka, kn, kc, ks⟩ := x
  have HOk := Lib.hid hx
  have k0 := hx.kd0; have k1 := hx.kd1; have l1 := hx.nm; have l2 := hx.tt; have l3 := hx.tx; have m0 := hx.at0; have m1 := hx.at1; have m2 := hx.n0; have m3 := hx.n1
  have kf := hx.ks.fits; have kb := hx.ks.bound
  simp only at hrr k0 k1 l1 l2 l3 m0 m1 m2 m3 hn ht hkn hkK kf kb
  obtain ⟨F, G, hp⟩ := h
  obtain ⟨W, hW⟩ : ∃ W, w.alloc (.cells #[.int .u8 kd, .string ⟨nm.toArray⟩, .string ⟨tt.toArray⟩, .string ⟨tx.toArray⟩, .int .i64 at_, .int .i64 n, .slice ka kn kc] 34) = W := ⟨_, rfl⟩
  have hWx : Ext w W := by rw [← hW]; exact ext_a1 w _
  have hbx : Blk W w.heap.size 34 #[.int .u8 kd, .string ⟨nm.toArray⟩, .string ⟨tt.toArray⟩, .string ⟨tx.toArray⟩, .int .i64 at_, .int .i64 n, .slice ka kn kc] := by rw [← hW]; exact Blk.new w _ _
  have HWx := Lib.hid hWx
  have HP := Lib.hid (hp.grow (hWx.trans (Ext.refl W).drew))
  have HP0 := Lib.hid (hp.grow hWx)
  have HF := Lib.hid hf
  have HNF : Hid (∀ i, F i → i < w.heap.size) := Lib.hid hp.d.lt
  have HNG : Hid (∀ i, G i → i < w.heap.size) := Lib.hid hp.r.lt
  have HKs : Hid (∀ W', Ext w W' → Ints W' ka kn kc ks) := Lib.hid fun W' hW' => hx.ks.ext hW'
  have HKF : Hid (∀ a, ka = some a → ¬ F a.block ∧ ¬ G a.block) := Lib.hid fun a ha => (hp.k _ (hkK a ha)).2
  have HKp : Hid (∀ wb : World, (∀ i, K i → wb.heap[i]? = W.drew.heap[i]?) → ∀ i, K i → wb.heap[i]? = w.heap[i]?) := Lib.hid fun wb hk i hi => (hk i hi).trans ((hWx.trans (Ext.refl W).drew).block i (hp.k i hi).1)
  have HKq : Hid (∀ i, K i → W.heap[i]? = w.heap[i]?) := Lib.hid fun i hi => hWx.block i (hp.k i hi).1
  have HB1 := Lib.hid (hbx.ext (Ext.refl W).drew)
  have HB0 := Lib.hid hbx
  have c0 := hbx.cell 0
  have d0 := HB1.out.cell 0; have d1 := HB1.out.cell 1; have d2 := HB1.out.cell 2; have d3 := HB1.out.cell 3; have d4 := HB1.out.cell 4; have d5 := HB1.out.cell 5; have d6 := HB1.out.cell 6
  clear hp hf hx hWx hbx
  rw [show (ActM.cells ⟨kd, nm, tt, tx, at_, n, ka, kn, kc, ks⟩).toArray = #[.int .u8 kd, .string ⟨nm.toArray⟩, .string ⟨tt.toArray⟩, .string ⟨tx.toArray⟩, .int .i64 at_, .int .i64 n, .slice ka kn kc] from rfl]
  obtain ⟨p, hp⟩ : ∃ p, spoilM σ nm at_ tx = p := ⟨_, rfl⟩
  obtain ⟨c, τ⟩ := p
  have HC1 : Hid (Calls Try.prog 24 #[.pointer (some ⟨g, 0, none⟩), .string ⟨nm.toArray⟩, .int .i64 at_, .string ⟨tx.toArray⟩] W.drew fun e w' => e = .returned (.int .i64 c) ∧ DkS W.drew g F τ w') := Lib.hid (by have h := spoil_c HP.out.d nm tx l1 l3 at_ m1; rwa [hp] at h)
  have HC2 : Hid (∀ wa, DkS W.drew g F τ wa → Calls Try.prog 36 #[.pointer (some ⟨r, 0, none⟩), .string ⟨nm.toArray⟩, .int .i64 at_, .string ⟨tx.toArray⟩] wa fun e w' => e = .returned (.int .i64 c) ∧ RR wa r G B τ w') := Lib.hid fun wa h1 => by have h := rspoil_c (HP.out.rk h1) HP.out.d.1 HF.out nm tx (by omega) at_ m1; rwa [hp] at h
  clear hp
  clear d0 d2 d5 d6 k0 k1
  go_enter Try.func8, Try.ntmps8
  go_wp2_with fail
  go_region_held3 (fun W' => W'.cell? ⟨w.heap.size, 1, none⟩ = some (.string ⟨nm.toArray⟩) ∧ W'.cell? ⟨w.heap.size, 3, none⟩ = some (.string ⟨tx.toArray⟩) ∧ W'.cell? ⟨w.heap.size, 4, none⟩ = some (.int .i64 at_))
    (first | exact HS2.out | exact HS1.out | exact ⟨d1, d3, d4⟩)
    (first
      | (go_at_call 24; refine HC1.out.mono ?_; rintro e wa ⟨rfl, h1⟩; have H1 := Lib.hid h1; have HBA := Lib.hid (h1.off.blk HB1.out (fun hf => Nat.lt_irrefl _ (HNF.out _ hf))); have HS1 := Lib.hid (And.intro (HBA.out.cell 1) (And.intro (HBA.out.cell 3) (HBA.out.cell 4))); clear h1)
      | (go_at_call 36; refine (HC2.out _ H1.out).mono ?_; rintro e wb ⟨rfl, fl1, h2, hf2⟩; have H2 := Lib.hid h2; have HF2 := Lib.hid hf2; have hbb := h2.off.blk HBA.out (fun hf => Nat.lt_irrefl _ (HNG.out _ hf)); have HS2 := Lib.hid (And.intro (hbb.cell 1) (And.intro (hbb.cell 3) (hbb.cell 4))); clear h2 hf2 hbb))
  all_goals
    go_wp2_with fail
    go_ret
    exact ⟨rfl, τ, fl1, (HP.out.step H1.out H2.out).1, HF2.out, HKp.out _ (HP.out.step H1.out H2.out).2⟩

end Go.Proofs.Ytmpiepkkikmpmaa
namespace Go.Proofs.Ytmpiepkkikmpmaa
open Go.RowKit

set_option maxRecDepth 100000
set_option linter.unusedVariables false
set_option maxHeartbeats 12800000

theorem do_c {w0 w : World} {g r B : Nat} {K : Nat → Prop} {σ : DM} {fl : Int} (h : PD w0 w g r σ fl K) (hf : FlOk (B + 1) σ fl) (hB : (B : Int) ≤ 1000000) (x : ActM) (hx : okAct w x) (hn : x.nm.length ≤ 100) (ht : (x.tx.length : Int) ≤ 3000) (hkn : x.kn ≤ 100) (hkK : ∀ a, x.ka = some a → K a.block) :
    Calls Try.prog 8 #[.agg x.cells.toArray, .pointer (some ⟨g, 0, none⟩), .pointer (some ⟨r, 0, none⟩)] w fun e w' => e = .returned (.bool true) ∧ ∃ σ' fl', PD w0 w' g r σ' fl' K ∧ FlOk B σ' fl' ∧ ∀ i, K i → w'.heap[i]? = w.heap[i]? := by
  have k0 := hx.kd0
  obtain ⟨rr, hrr⟩ : ∃ rr, Int.tmod x.kd 15 = rr := ⟨_, rfl⟩
  have hr15 : rr = 0 ∨ rr = 1 ∨ rr = 2 ∨ rr = 3 ∨ rr = 4 ∨ rr = 5 ∨ rr = 6 ∨ rr = 7 ∨ rr = 8 ∨ rr = 9 ∨ rr = 10 ∨ rr = 11 ∨ rr = 12 ∨ rr = 13 ∨ rr = 14 := by
    rw [← hrr, Int.tmod_eq_emod_of_nonneg k0]; omega
  rcases hr15 with e | e | e | e | e | e | e | e | e | e | e | e | e | e | e <;> rw [e] at hrr
  · exact do0_c h hf hB x hx hn ht hkn hkK hrr
  · exact dod_c h hf hB x hx hn ht hkn hkK (.inl hrr)
  · exact dod_c h hf hB x hx hn ht hkn hkK (.inr (.inl hrr))
  · exact dod_c h hf hB x hx hn ht hkn hkK (.inr (.inr hrr))
  · exact do4_c h hf hB x hx hn ht hkn hkK hrr
  · exact do5_c h hf hB x hx hn ht hkn hkK hrr
  · exact do6_c h hf hB x hx hn ht hkn hkK hrr
  · exact do7_c h hf hB x hx hn ht hkn hkK hrr
  · exact do8_c h hf hB x hx hn ht hkn hkK hrr
  · exact do9_c h hf hB x hx hn ht hkn hkK hrr
  · exact do10_c h hf hB x hx hn ht hkn hkK hrr
  · exact do11_c h hf hB x hx hn ht hkn hkK hrr
  · exact do12_c h hf hB x hx hn ht hkn hkK hrr
  · exact do13_c h hf hB x hx hn ht hkn hkK hrr
  · exact do14_c h hf hB x hx hn ht hkn hkK hrr

end Go.Proofs.Ytmpiepkkikmpmaa
