/- Walks: a disk of the law's own; whether two lists of numbers are the same. Walks: the document's disk: its form in memory; where a file is. Plain laws: the document's disk beside the disk. Walks: the document's disk: a change, how much is used. Walks: the document's disk: a crash. Walks: the chapter's disk. -/
import Derived.Test.YtmpiepkkikmpmaaG11PDiskPlays
import Derived.Test.YtmpiepkkikmpmaaG12PDiskPlays
import Derived.IntWalk
import Derived.Deep.RegionHeld3
import Derived.StillTailTactics
import Derived.Test.YtmpiepkkikmpmaaG5PDiskPlays
set_option linter.unusedVariables false
set_option linter.unusedSimpArgs false
namespace Go.Proofs.Ytmpiepkkikmpmaa
open Go.RowKit

theorem Ints.off {F : Nat → Prop} {w : World} {ka : Option Addr} {kn kc : Nat} {xs : List Int} (h : Ints w ka kn kc xs) (hn : ∀ a, ka = some a → ¬ F a.block) : ∀ W, OffS F w W → Ints W ka kn kc xs := fun W hW => by
  refine ⟨h.len, h.fits, h.bound, h.nil, fun j u hj => ?_⟩
  obtain ⟨b, off, e, hc⟩ := h.rd j u hj
  refine ⟨b, off, e, ?_⟩
  have hb := hW.block b (World.block_lt_of_cell? (h := hc)) (hn _ e)
  simp only [World.cell?, hb] at hc ⊢
  exact hc

theorem crashD_c {w : World} {g : Nat} {F : Nat → Prop} {σ : DM} (h : Dk w g F σ) (ka : Option Addr) (kn kc : Nat) (xs : List Int) (hkeep : ∀ W, OffS F w W → Ints W ka kn kc xs) :
    Calls Try.prog 20 #[.pointer (some ⟨g, 0, none⟩), .slice ka kn kc] w fun e w' => e = .returned (.int .i64 (crashD σ xs).1) ∧ DkS w g F (crashD σ xs).2 w' := by
  obtain ⟨ho, m, kv, L, hi, hin, hlt⟩ := h
  have fin : ∀ σ' w', Fin w g m kv L σ' w' → DkS w g F σ' w' := fun σ' w' ⟨ho', m', kv', L', hi', hin', hoff⟩ => DkS.mk' hin hlt ho' hi' hoff hin'
  cases hd : σ.down with
  | true =>
    have c6 := hi.c6
    rw [hd] at c6
    have hM : crashD σ xs = (61, σ) := by unfold crashD; rw [if_pos hd]
    refine (crash_down w g hi.c0 c6 _).mono ?_
    rintro e w' ⟨rfl, rfl⟩
    rw [hM]
    exact ⟨rfl, fin _ _ (Fin.same ho hi)⟩
  | false =>
    have hM : crashD σ xs = (0, crashM σ xs) := by unfold crashD; rw [if_neg (by rw [hd]; decide)]
    refine (crash_c hi ho hd ka kn kc xs fun W hW => hkeep W (hW.mono fun i _ hm => hin i hm.inD)).mono ?_
    rintro e w' ⟨rfl, L', h1, h2, h3⟩
    rw [hM]
    refine ⟨rfl, fin _ _ ⟨crash_ok ho xs, m, _, L', h1, fun i hx => ?_, h3.inD⟩⟩
    rcases hx with h4 | h4 | h4
    · exact .inl (.inl h4)
    · exact .inl (.inr (.inl (h2 i h4)))
    · cases h4

/-- a disk that was made since w0 -/
def KD (w0 w : World) (g : Nat) (σ : DM) : Prop := ∃ F, Dk w g F σ ∧ (∀ i, F i → w0.heap.size ≤ i) ∧ Ext w0 w

section
variable {w0 w w' : World} {g : Nat} {σ σ' : DM}
theorem KD.ext (h : KD w0 w g σ) (k : Ext w w') : KD w0 w' g σ := by
  obtain ⟨F, h1, h2, h3⟩ := h
  exact ⟨F, h1.ext k, h2, h3.trans k⟩
theorem KD.base (h : KD w0 w g σ) : Ext w0 w := by obtain ⟨F, h1, h2, h3⟩ := h; exact h3
theorem KD.dkS {F : Nat → Prop} (h2 : ∀ i, F i → w0.heap.size ≤ i) (h3 : Ext w0 w) (h : DkS w g F σ' w') : KD w0 w' g σ' :=
  ⟨Gr F w w', h.dk, fun i hi => Gr.ge h2 h3.size hi, h.off.ext h3 h2⟩
theorem KD.new (w0 : World) (c : Int) (h0 : 0 ≤ c) (h1 : c ≤ 1048576) {w : World} (hx : Ext w0 w) : Calls Try.prog 6 #[.int .i64 c] w fun e w' => ∃ g, e = .returned (.tuple #[.pointer (some ⟨g, 0, none⟩), .int .i64 0]) ∧ KD w0 w' g (newM c) := by
  refine (new_c w c h0 h1).mono ?_
  rintro e w' ⟨g, F, rfl, h1, h2, h3⟩
  exact ⟨g, rfl, F, h1, fun i hi => Nat.le_trans hx.size (h2 i hi), hx.trans h3⟩
theorem KD.create (h : KD w0 w g σ) (nm : List UInt8) (hl : nm.length ≤ 9223372036854775807) {c : Int} (hm : createM σ nm = (c, σ')) :
    Calls Try.prog 14 #[.pointer (some ⟨g, 0, none⟩), .string ⟨nm.toArray⟩] w fun e w' => e = .returned (.int .i64 c) ∧ KD w0 w' g σ' := by
  obtain ⟨F, h1, h2, h3⟩ := h
  refine (create_c h1 nm hl).mono ?_
  rw [hm]
  rintro e w' ⟨rfl, h⟩
  exact ⟨rfl, KD.dkS h2 h3 h⟩
theorem KD.append (h : KD w0 w g σ) (nm s : List UInt8) (hl : nm.length ≤ 9223372036854775807) (hs : s.length ≤ 9223372036854775807) {c : Int} (hm : appendM σ nm s = (c, σ')) :
    Calls Try.prog 15 #[.pointer (some ⟨g, 0, none⟩), .string ⟨nm.toArray⟩, .string ⟨s.toArray⟩] w fun e w' => e = .returned (.int .i64 c) ∧ KD w0 w' g σ' := by
  obtain ⟨F, h1, h2, h3⟩ := h
  refine (append_c h1 nm s hl hs).mono ?_
  rw [hm]
  rintro e w' ⟨rfl, h⟩
  exact ⟨rfl, KD.dkS h2 h3 h⟩
theorem KD.read (h : KD w0 w g σ) (nm : List UInt8) (a n : Int) (hl : nm.length ≤ 9223372036854775807) (ha0 : -9223372036854775808 ≤ a) (ha1 : a ≤ 9223372036854775807) (hn0 : -9223372036854775808 ≤ n) (hn1 : n ≤ 9223372036854775807) {s : List UInt8} {c : Int} (hm : readM σ nm a n = (s, c, σ')) :
    Calls Try.prog 17 #[.pointer (some ⟨g, 0, none⟩), .string ⟨nm.toArray⟩, .int .i64 a, .int .i64 n] w fun e w' => e = .returned (.tuple #[.string ⟨s.toArray⟩, .int .i64 c]) ∧ KD w0 w' g σ' := by
  obtain ⟨F, h1, h2, h3⟩ := h
  refine (read_c h1 nm a n hl ha0 ha1 hn0 hn1).mono ?_
  rw [hm]
  rintro e w' ⟨rfl, h⟩
  exact ⟨rfl, KD.dkS h2 h3 h⟩
theorem KD.sync (h : KD w0 w g σ) (nm : List UInt8) (hl : nm.length ≤ 9223372036854775807) {c : Int} (hm : syncM σ nm = (c, σ')) :
    Calls Try.prog 19 #[.pointer (some ⟨g, 0, none⟩), .string ⟨nm.toArray⟩] w fun e w' => e = .returned (.int .i64 c) ∧ KD w0 w' g σ' := by
  obtain ⟨F, h1, h2, h3⟩ := h
  refine (sync_c h1 nm hl).mono ?_
  rw [hm]
  rintro e w' ⟨rfl, h⟩
  exact ⟨rfl, KD.dkS h2 h3 h⟩
theorem KD.delete (h : KD w0 w g σ) (nm : List UInt8) (hl : nm.length ≤ 9223372036854775807) {c : Int} (hm : deleteM σ nm = (c, σ')) :
    Calls Try.prog 31 #[.pointer (some ⟨g, 0, none⟩), .string ⟨nm.toArray⟩] w fun e w' => e = .returned (.int .i64 c) ∧ KD w0 w' g σ' := by
  obtain ⟨F, h1, h2, h3⟩ := h
  refine (delete_c h1 nm hl).mono ?_
  rw [hm]
  rintro e w' ⟨rfl, h⟩
  exact ⟨rfl, KD.dkS h2 h3 h⟩
theorem KD.rename (h : KD w0 w g σ) (a b : List UInt8) (hla : a.length ≤ 9223372036854775807) (hlb : b.length ≤ 9223372036854775807) {c : Int} (hm : renameM σ a b = (c, σ')) :
    Calls Try.prog 29 #[.pointer (some ⟨g, 0, none⟩), .string ⟨a.toArray⟩, .string ⟨b.toArray⟩] w fun e w' => e = .returned (.int .i64 c) ∧ KD w0 w' g σ' := by
  obtain ⟨F, h1, h2, h3⟩ := h
  refine (rename_c h1 a b hla hlb).mono ?_
  rw [hm]
  rintro e w' ⟨rfl, h⟩
  exact ⟨rfl, KD.dkS h2 h3 h⟩
theorem KD.start (h : KD w0 w g σ) {c : Int} (hm : startM σ = (c, σ')) :
    Calls Try.prog 12 #[.pointer (some ⟨g, 0, none⟩)] w fun e w' => e = .returned (.int .i64 c) ∧ KD w0 w' g σ' := by
  obtain ⟨F, h1, h2, h3⟩ := h
  refine (start_c h1).mono ?_
  rw [hm]
  rintro e w' ⟨rfl, h⟩
  exact ⟨rfl, KD.dkS h2 h3 h⟩
theorem KD.spoil (h : KD w0 w g σ) (nm s : List UInt8) (hl : nm.length ≤ 9223372036854775807) (hs : s.length ≤ 9223372036854775807) (n : Int) (hn1 : n ≤ 9223372036854775807) {c : Int} (hm : spoilM σ nm n s = (c, σ')) :
    Calls Try.prog 24 #[.pointer (some ⟨g, 0, none⟩), .string ⟨nm.toArray⟩, .int .i64 n, .string ⟨s.toArray⟩] w fun e w' => e = .returned (.int .i64 c) ∧ KD w0 w' g σ' := by
  obtain ⟨F, h1, h2, h3⟩ := h
  refine (spoil_c h1 nm s hl hs n hn1).mono ?_
  rw [hm]
  rintro e w' ⟨rfl, h⟩
  exact ⟨rfl, KD.dkS h2 h3 h⟩
theorem KD.cut (h : KD w0 w g σ) (nm : List UInt8) (hl : nm.length ≤ 9223372036854775807) (n : Int) (hn1 : n ≤ 9223372036854775807) {c : Int} (hm : cutM σ nm n = (c, σ')) :
    Calls Try.prog 25 #[.pointer (some ⟨g, 0, none⟩), .string ⟨nm.toArray⟩, .int .i64 n] w fun e w' => e = .returned (.int .i64 c) ∧ KD w0 w' g σ' := by
  obtain ⟨F, h1, h2, h3⟩ := h
  refine (cutD_c h1 nm hl n hn1).mono ?_
  rw [hm]
  rintro e w' ⟨rfl, h⟩
  exact ⟨rfl, KD.dkS h2 h3 h⟩
theorem KD.size (h : KD w0 w g σ) (nm : List UInt8) (hl : nm.length ≤ 9223372036854775807) {n c : Int} (hm : sizeM σ nm = (n, c)) :
    Calls Try.prog 21 #[.pointer (some ⟨g, 0, none⟩), .string ⟨nm.toArray⟩] w fun e w' => e = .returned (.tuple #[.int .i64 n, .int .i64 c]) ∧ w = w' := by
  obtain ⟨F, h1, h2, h3⟩ := h
  have := size_c h1 nm hl
  rwa [hm] at this
theorem KD.up (h : KD w0 w g σ) {b : Bool} (hm : σ.down = !b) : Calls Try.prog 23 #[.pointer (some ⟨g, 0, none⟩)] w fun e w' => e = .returned (.bool b) ∧ w = w' := by
  obtain ⟨F, h1, h2, h3⟩ := h
  have := up_c h1
  rw [hm, Bool.not_not] at this
  exact this
theorem KD.free (h : KD w0 w g σ) {n : Int} (hm : freeM σ = n) : Calls Try.prog 16 #[.pointer (some ⟨g, 0, none⟩)] w fun e w' => e = .returned (.int .i64 n) ∧ Ext w w' := by
  obtain ⟨F, h1, h2, h3⟩ := h
  have := free_c h1
  rwa [hm] at this
theorem KD.reads (h : KD w0 w g σ) {n : Int} (hm : σ.reads = n) : Calls Try.prog 18 #[.pointer (some ⟨g, 0, none⟩)] w fun e w' => e = .returned (.int .i64 n) ∧ w = w' := by
  obtain ⟨F, h1, h2, h3⟩ := h
  have := reads_c h1
  rwa [hm] at this
/-- a crash, nothing kept -/
theorem KD.crash0 (h : KD w0 w g σ) {c : Int} (hm : crashD σ [] = (c, σ')) :
    Calls Try.prog 20 #[.pointer (some ⟨g, 0, none⟩), .slice none 0 0] w fun e w' => e = .returned (.int .i64 c) ∧ KD w0 w' g σ' := by
  obtain ⟨F, h1, h2, h3⟩ := h
  refine (crashD_c h1 none 0 0 [] fun W _ => Ints.empty W).mono ?_
  rw [hm]
  rintro e w' ⟨rfl, h⟩
  exact ⟨rfl, KD.dkS h2 h3 h⟩
/-- .. a list that was just laid -/
theorem KD.crash1 (h : KD w0 w g σ) (k : Int) {c : Int} (hm : crashD σ [k] = (c, σ')) :
    Calls Try.prog 20 #[.pointer (some ⟨g, 0, none⟩), .slice (some ⟨w.heap.size, 0, none⟩) 1 1] (w.alloc (.cells #[.int .i64 k] 3)) fun e w' => e = .returned (.int .i64 c) ∧ KD w0 w' g σ' := by
  obtain ⟨F, h1, h2, h3⟩ := h
  have hlt : ∀ i, F i → i < w.heap.size := by obtain ⟨_, _, _, _, _, _, h⟩ := h1; exact h
  have hi : Ints (w.alloc (.cells #[.int .i64 k] 3)) (some ⟨w.heap.size, 0, none⟩) 1 1 [k] := ⟨rfl, Nat.le_refl _, by omega, (fun h => by cases h), Rd.lit w #[.int .i64 k] 3⟩
  refine (crashD_c (h1.ext (ext_a1 _ _)) _ 1 1 [k] (hi.off fun a e hf => by cases e; have := hlt _ hf; simp at this)).mono ?_
  rw [hm]
  rintro e w' ⟨rfl, h⟩
  exact ⟨rfl, KD.dkS h2 (h3.trans (ext_a1 _ _)) h⟩
theorem KD.fail0 (h : KD w0 w g σ) (n : Int) (hn1 : n ≤ 9223372036854775807) {c : Int} (hm : failD σ n [] = (c, σ')) :
    Calls Try.prog 22 #[.pointer (some ⟨g, 0, none⟩), .int .i64 n, .slice none 0 0] w fun e w' => e = .returned (.int .i64 c) ∧ KD w0 w' g σ' := by
  obtain ⟨F, h1, h2, h3⟩ := h
  refine (fail_c h1 n hn1 (Ints.empty w) (by omega)).mono ?_
  rw [hm]
  rintro e w' ⟨rfl, h⟩
  exact ⟨rfl, KD.dkS h2 h3 h⟩
theorem KD.fail1 (h : KD w0 w g σ) (n k : Int) (hn1 : n ≤ 9223372036854775807) {c : Int} (hm : failD σ n [k] = (c, σ')) :
    Calls Try.prog 22 #[.pointer (some ⟨g, 0, none⟩), .int .i64 n, .slice (some ⟨w.heap.size, 0, none⟩) 1 1] (w.alloc (.cells #[.int .i64 k] 3)) fun e w' => e = .returned (.int .i64 c) ∧ KD w0 w' g σ' := by
  obtain ⟨F, h1, h2, h3⟩ := h
  have hi : Ints (w.alloc (.cells #[.int .i64 k] 3)) (some ⟨w.heap.size, 0, none⟩) 1 1 [k] := ⟨rfl, Nat.le_refl _, by omega, (fun h => by cases h), Rd.lit w #[.int .i64 k] 3⟩
  refine (fail_c (h1.ext (ext_a1 _ _)) n hn1 hi (by omega)).mono ?_
  rw [hm]
  rintro e w' ⟨rfl, h⟩
  exact ⟨rfl, KD.dkS h2 (h3.trans (ext_a1 _ _)) h⟩
theorem KD.loose (h : KD w0 w g σ) : Calls Try.prog 40 #[.pointer (some ⟨g, 0, none⟩)] w (RetI 3 w (looseM σ)) := by
  obtain ⟨F, h1, h2, h3⟩ := h
  exact unsynced_c h1
theorem KD.names (h : KD w0 w g σ) : Calls Try.prog 39 #[.pointer (some ⟨g, 0, none⟩)] w (RetN w (namesM σ)) := by
  obtain ⟨F, ⟨ho, m, kv, L, hi, _⟩, h2, h3⟩ := h
  have := ho.many
  have hl : L.length = σ.L.length := by rw [← hi.files, List.length_map]
  have hn := names_c w g m L hi.c0 hi.c3 hi.fs (by omega)
  have e : L.map FE.nm = namesM σ := by unfold namesM; rw [← hi.files, List.map_map]; rfl
  rwa [e] at hn
end

theorem RetI.out {t : TypeId} {w w' : World} {xs : List Int} {e : Ending} (h : RetI t w xs e w') : ∃ a c, e = .returned (.slice a xs.length c) ∧ Ints w' a xs.length c xs ∧ Ext w w' := by
  obtain ⟨v, rfl, ho, hb⟩ := h
  obtain ⟨a, c, rfl, hi⟩ := own_ints ho
  exact ⟨a, c, rfl, hi, hb⟩

set_option maxRecDepth 100000
set_option linter.unusedVariables false
set_option maxHeartbeats 1600000

/-- 'Ints' -/
theorem eqInts_c {w : World} {a b : Option Addr} {n m ca cb : Nat} {xs ys : List Int} (hx : Ints w a n ca xs) (hy : Ints w b m cb ys) :
    Calls Try.prog 11 #[.slice a n ca, .slice b m cb] w fun e w' => e = .returned (.bool (decide (xs = ys))) ∧ Ext w w' := by
  by_cases hl : n = m
  case neg =>
    have HM : Hid (decide (xs = ys) = false) := Lib.hid (by rw [decide_eq_false_iff_not]; intro e; apply hl; rw [← hx.len, ← hy.len, e])
    have hn1 : n ≤ 9223372036854775807 := Nat.le_trans hx.fits hx.bound
    have hm1 : m ≤ 9223372036854775807 := Nat.le_trans hy.fits hy.bound
    have hnz : ¬ (n : Int) = (m : Int) := by omega
    have hne : ((n : Int) == (m : Int)) = false := by simp [hnz]
    have hne' : ((n : Int) != (m : Int)) = true := by simp [hnz]
    clear hnz
    clear hx hy hl
    go_enter Try.func11, Try.ntmps11
    go_wp2_with fail
    go_ret
    rw [HM.out]
    exact ⟨rfl, Ext.refl _⟩
  case pos =>
    subst hl
    have HX := Lib.hid hx; have HY := Lib.hid hy
    have hn1 : n ≤ 9223372036854775807 := Nat.le_trans hx.fits hx.bound
    have HLx := Lib.hid hx.len; have HLy := Lib.hid hy.len
    clear hx hy
    go_enter Try.func11, Try.ntmps11
    go_wp2_with fail
    go_loopw [5] (fun i wr => ∃ k : Nat, k ≤ n ∧ i = .int .i64 k ∧ xs.take k = ys.take k ∧ Ext w wr) (fun i _ => n - (intOf i).toNat)
    case atStart => exact ⟨0, Nat.zero_le _, rfl, by simp, Ext.refl _⟩
    case round =>
      obtain ⟨k, hk, rfl, he, hb⟩ := hrel
      have HE := Lib.hid he; have HB := Lib.hid hb
      by_cases hlt : k < n
      · obtain ⟨b1, o1, rfl, hc1⟩ := (HX.out.ext hb).at hlt
        obtain ⟨b2, o2, rfl, hc2⟩ := (HY.out.ext hb).at hlt
        have HT1 := Lib.hid (take_succ_getD xs 0 k (by rw [HLx.out]; exact hlt))
        have HT2 := Lib.hid (take_succ_getD ys 0 k (by rw [HLy.out]; exact hlt))
        obtain ⟨x, hx⟩ : ∃ x, xs.getD k 0 = x := ⟨_, rfl⟩
        obtain ⟨y, hy⟩ : ∃ y, ys.getD k 0 = y := ⟨_, rfl⟩
        rw [hx] at hc1 HT1
        rw [hy] at hc2 HT2
        have Hx := Lib.hid hx; have Hy := Lib.hid hy
        clear hx hy he hb
        by_cases hxy : x = y
        · subst hxy
          go_wp2_with fail
          go_quiet (fail)
          go_wp2_with fail
          go_roundw
          case rel => exact ⟨k + 1, by omega, by go_num, by rw [HT1.out, HT2.out, HE.out], HB.out.drewN _⟩
          case measure => simp [intOf]; omega
        · have HM : Hid (decide (xs = ys) = false) := Lib.hid (by rw [decide_eq_false_iff_not]; intro e; apply hxy; rw [← Hx.out, ← Hy.out, e])
          have hne : (x == y) = false := by simpa using hxy
          have hne' : (x != y) = true := by simpa using hxy
          go_wp2_with fail
          go_quiet (fail)
          go_wp2_with fail
          go_ret
          rw [HM.out]
          exact ⟨rfl, HB.out.drewN _⟩
      · have HM : Hid (decide (xs = ys) = true) := Lib.hid (by
          rw [decide_eq_true_eq]
          have e1 := he
          rw [List.take_of_length_le (by rw [HLx.out]; omega), List.take_of_length_le (by rw [HLy.out]; omega)] at e1
          exact e1)
        clear he hb
        go_wp2_with fail
        go_ret
        rw [HM.out]
        exact ⟨rfl, HB.out⟩

end Go.Proofs.Ytmpiepkkikmpmaa
namespace Go.Proofs.Ytmpiepkkikmpmaa
open Go.RowKit

/-- the document's disk -/
structure RM where
  cap : Int
  L : List FM
  cnt : Int
  starts : Int
  down : Bool
  fl : Int
  keep : List Int

def c3 (f : FM) : List Value := [.string ⟨f.nm.toArray⟩, .string ⟨f.da.toArray⟩, .int .i64 (f.sy : Int)]
def cs3 (L : List FM) : List Value := L.flatMap c3
theorem c3_len (f : FM) : (c3 f).length = 3 := rfl
theorem cs3_nil : cs3 [] = [] := rfl
theorem cs3_cons (f : FM) (L : List FM) : cs3 (f :: L) = c3 f ++ cs3 L := rfl
theorem cs3_append (a b : List FM) : cs3 (a ++ b) = cs3 a ++ cs3 b := by unfold cs3; rw [List.flatMap_append]
theorem cs3_len : ∀ L : List FM, (cs3 L).length = L.length * 3
  | [] => rfl
  | f :: r => by rw [cs3_cons, List.length_append, cs3_len r, c3_len, List.length_cons]; omega
theorem cs3_at : ∀ (L : List FM) (i : Nat) (h : i < L.length) (j : Nat), j < 3 → (cs3 L)[i * 3 + j]? = (c3 L[i])[j]?
  | f :: r, 0, _, j, hj => by rw [cs3_cons, List.getElem?_append_left (by rw [c3_len]; omega)]; simp
  | f :: r, i + 1, h, j, hj => by
    rw [cs3_cons, List.getElem?_append_right (by rw [c3_len]; omega), c3_len, show (i + 1) * 3 + j - 3 = i * 3 + j by omega, cs3_at r i (by simpa using h) j hj]
    rfl
theorem cs3_set : ∀ (L : List FM) (i : Nat) (h : i < L.length) (j : Nat) (u : Value) (f : FM), j < 3 → (c3 L[i]).set j u = c3 f → (cs3 L).set (i * 3 + j) u = cs3 (L.set i f)
  | a :: r, 0, _, j, u, f, hj, e => by
    rw [cs3_cons, List.set_append_left _ _ (by rw [c3_len]; omega), show 0 * 3 + j = j by omega]
    rw [show (c3 a).set j u = c3 f from e]; rfl
  | a :: r, i + 1, h, j, u, f, hj, e => by
    rw [cs3_cons, List.set_append_right _ _ (by rw [c3_len]; omega), c3_len, show (i + 1) * 3 + j - 3 = i * 3 + j by omega, cs3_set r i (by simpa using h) j u f hj e]
    rfl
theorem cs3_take (L : List FM) (k : Nat) : (cs3 L).take (k * 3) = cs3 (L.take k) := by
  by_cases h : k ≤ L.length
  · conv => lhs; rw [← List.take_append_drop k L, cs3_append]
    rw [List.take_append_of_le_length (by rw [cs3_len, List.length_take]; omega), List.take_of_length_le (by rw [cs3_len, List.length_take]; omega)]
  · rw [List.take_of_length_le (by rw [cs3_len]; omega), List.take_of_length_le (by omega)]
theorem cs3_drop (L : List FM) (k : Nat) : (cs3 L).drop (k * 3) = cs3 (L.drop k) := by
  by_cases h : k ≤ L.length
  · conv => lhs; rw [← List.take_append_drop k L, cs3_append]
    rw [List.drop_append_of_le_length (by rw [cs3_len, List.length_take]; omega), List.drop_of_length_le (by rw [cs3_len, List.length_take]; omega), List.nil_append]
  · rw [List.drop_of_length_le (by rw [cs3_len]; omega), List.drop_of_length_le (by omega)]; rfl

theorem Own.storedN {w : World} {B : Nat} {e : TypeId} {size : Nat} {v : Value} {n : Nat} {cs : List Value} (h : Own w B e size v n cs) {g cap : Nat} (hv : v = .slice (some ⟨g, 0, none⟩) n cap) (j : Nat) (u : Value) : Own (w.setCell ⟨g, j, none⟩ u) B e size v n (cs.set j u) := by
  have hl := h.1
  refine ⟨by simpa using hl, ?_⟩
  rcases h.2 with ⟨rfl, _⟩ | ⟨g', cap', cur, rfl, hb, hg, h1, h2, h3, h4⟩
  · cases hv
  · cases hv
    refine .inr ⟨g, cap, cur.setIfInBounds j u, rfl, hb, ?_, h1, h2, by simpa using h3, ?_⟩
    · simp only [World.setCell, Array.getElem?_modify, if_true, hg, Option.map_some]
      rfl
    · rw [Array.toList_setIfInBounds, ← h4, List.take_set]

structure okR (ρ : RM) : Prop where
  cap0 : 0 ≤ ρ.cap
  cap1 : ρ.cap ≤ 1048576
  used : (usedM ρ.L : Int) ≤ ρ.cap
  ord : OrdN FM.nm ρ.L
  sy : ∀ f ∈ ρ.L, f.sy ≤ f.da.length
  many : ρ.L.length ≤ 400
  fl0 : 0 ≤ ρ.fl
  fl1 : ρ.fl ≤ 1099511627777
  keep : ρ.keep.length ≤ 1000000

structure RkI (w : World) (r : Nat) (v kv : Value) (ρ : RM) : Prop where
  head : Blk w r 38 #[.int .i64 ρ.cap, v, .int .i64 ρ.cnt, .bool ρ.down, .int .i64 ρ.starts, .int .i64 ρ.fl, kv]
  row : Own w 0 60 3 v ρ.L.length (cs3 ρ.L)
  keep : Own w 0 3 1 kv ρ.keep.length (ρ.keep.map (Value.int .i64))

def InR (r : Nat) (v kv : Value) (i : Nat) : Prop := i = r ∨ v.ownBlock = some i ∨ kv.ownBlock = some i

/-- the document's disk lies at r, its blocks among F -/
def Rk (w : World) (r : Nat) (F : Nat → Prop) (ρ : RM) : Prop :=
  okR ρ ∧ ∃ v kv, RkI w r v kv ρ ∧ (∀ i, InR r v kv i → F i) ∧ ∀ i, F i → i < w.heap.size

structure RkS (w : World) (r : Nat) (F : Nat → Prop) (ρ : RM) (w' : World) : Prop where
  rk : Rk w' r (Gr F w w') ρ
  off : OffS F w w'

section
variable {w w' w1 w2 : World} {r : Nat} {F G : Nat → Prop} {ρ ρ' σ1 σ2 : RM} {v kv : Value}
theorem RkI.same (h : RkI w r v kv ρ) (k : ∀ i, InR r v kv i → w'.heap[i]? = w.heap[i]?) : RkI w' r v kv ρ :=
  ⟨h.head.same (k r (.inl rfl)), h.row.same fun i hi => k i (.inr (.inl hi)), h.keep.same fun i hi => k i (.inr (.inr hi))⟩
theorem Rk.lt (h : Rk w r F ρ) : ∀ i, F i → i < w.heap.size := by obtain ⟨_, _, _, _, _, h⟩ := h; exact h
theorem Rk.same (h : Rk w r F ρ) (hs : w.heap.size ≤ w'.heap.size) (k : ∀ i, F i → w'.heap[i]? = w.heap[i]?) : Rk w' r F ρ := by
  obtain ⟨ho, v, kv, hi, hin, hF⟩ := h
  exact ⟨ho, v, kv, hi.same fun i hi => k i (hin i hi), hin, fun i hi => Nat.lt_of_lt_of_le (hF i hi) hs⟩
theorem Rk.ext (h : Rk w r F ρ) (k : Ext w w') : Rk w' r F ρ := h.same k.size fun i hi => k.block i (h.lt i hi)
theorem Rk.mono (h : Rk w r F ρ) (k : ∀ i, F i → G i) (hG : ∀ i, G i → i < w.heap.size) : Rk w r G ρ := by
  obtain ⟨ho, v, kv, hi, hin, hF⟩ := h
  exact ⟨ho, v, kv, hi, fun i hi => k i (hin i hi), hG⟩
theorem RkS.mk' {v' kv' : Value} (ho : okR ρ') (hi : RkI w' r v' kv' ρ') (hin : ∀ i, InR r v' kv' i → Gr F w w' i) (hF : ∀ i, F i → i < w.heap.size) (off : OffS F w w') : RkS w r F ρ' w' :=
  ⟨⟨ho, v', kv', hi, hin, fun i hi => by
    rcases hi with h | h
    · have := hF i h; have := off.size; omega
    · omega⟩, off⟩
theorem RkS.refl (h : Rk w r F ρ) : RkS w r F ρ w := by
  refine ⟨h.mono (fun i hi => .inl hi) fun i hi => ?_, OffS.refl _ _⟩
  rcases hi with h1 | h1
  · exact h.lt i h1
  · omega
theorem RkS.trans (h : RkS w r F σ1 w1) (k : RkS w1 r (Gr F w w1) σ2 w2) : RkS w r F σ2 w2 := by
  have hs1 := h.off.size; have hs2 := k.off.size
  refine ⟨k.rk.mono (fun i hi => ?_) (fun i hi => ?_), h.off.gr k.off⟩
  · rcases hi with (h1 | h1) | h1
    · exact .inl h1
    · exact .inr ⟨h1.1, by omega⟩
    · exact .inr ⟨by omega, h1.2⟩
  · rcases hi with h1 | h1
    · have := h.rk.lt i (.inl h1); omega
    · exact h1.2
theorem RkS.ext (h : RkS w r F σ1 w1) (k : Ext w1 w2) : RkS w r F σ1 w2 := by
  have hs1 := h.off.size; have hs2 := k.size
  refine ⟨(h.rk.ext k).mono (fun i hi => ?_) (fun i hi => ?_), ⟨k.os.trans h.off.os, k.tape.trans h.off.tape, k.output.trans h.off.output, by omega, fun i hi hn => (k.block i (by omega)).trans (h.off.block i hi hn)⟩⟩
  · rcases hi with h1 | h1
    · exact .inl h1
    · exact .inr ⟨h1.1, by omega⟩
  · rcases hi with h1 | h1
    · have := h.rk.lt i (.inl h1); omega
    · exact h1.2

theorem RkI.at (h : RkI w r v kv ρ) {k : Nat} (hk : k < ρ.L.length) :
    ∃ g cap, v = .slice (some ⟨g, 0, none⟩) ρ.L.length cap ∧ w.cell? ⟨g, k * 3, none⟩ = some (.string ⟨ρ.L[k].nm.toArray⟩) ∧ w.cell? ⟨g, k * 3 + 1, none⟩ = some (.string ⟨ρ.L[k].da.toArray⟩) ∧ w.cell? ⟨g, k * 3 + 2, none⟩ = some (.int .i64 (ρ.L[k].sy : Int)) ∧
    (∀ j, w.frozen? ⟨g, j, none⟩ = false) ∧ ρ.L.length ≤ cap ∧ cap ≤ 9223372036854775807 := by
  rcases h.row.2 with ⟨_, h0⟩ | ⟨g, cap, cur, rfl, hb, hg, hn, hm, hcs, htk⟩
  · omega
  · have hc : ∀ j, j < 3 → w.cell? ⟨g, k * 3 + j, none⟩ = (c3 ρ.L[k])[j]? := fun j hj => by
      rw [← cs3_at ρ.L k hk j hj, ← htk, List.getElem?_take, if_pos (by omega)]
      simp [World.cell?, hg]
    exact ⟨g, cap, rfl, hc 0 (by omega), hc 1 (by omega), hc 2 (by omega), fun j => by simp [World.frozen?, hg], hn, hm⟩
end

/-- where a file of a name is -/
def PosR (nm : List UInt8) (L : List FM) (i : Int) : Prop := (i = -1 ∧ ∀ f ∈ L, f.nm ≠ nm) ∨ ∃ (k : Nat) (h : k < L.length), i = (k : Int) ∧ L[k].nm = nm
def NoPos (nm : List UInt8) (L : List FM) : Prop := ∀ f ∈ L, f.nm ≠ nm
theorem NoPos.snoc {nm : List UInt8} {L : List FM} {f : FM} (h : NoPos nm L) (hf : f.nm ≠ nm) : NoPos nm (L ++ [f]) := fun x hx => by
  rcases List.mem_append.1 hx with h1 | h1
  · exact h x h1
  · rw [List.mem_singleton.1 h1]; exact hf

set_option maxRecDepth 100000
set_option linter.unusedVariables false
set_option maxHeartbeats 1600000

theorem rmay_c (nm : List UInt8) (hl : nm.length ≤ 9223372036854775807) (w : World) :
    Calls Try.prog 52 #[.string ⟨nm.toArray⟩] w fun e w' => e = .returned (.bool (okName nm)) ∧ w = w' := by
  have hcase : nm.length = 0 ∨ (0 < (nm.length : Int) ∧ (nm.length : Int) ≤ 12) ∨ (0 < (nm.length : Int) ∧ 12 < (nm.length : Int)) := by omega
  rcases hcase with h | ⟨h1, h2⟩ | ⟨h1, h2⟩
  · obtain rfl : nm = [] := List.eq_nil_of_length_eq_zero h
    go_enter Try.func52, Try.ntmps52
    go_wp2_with fail
    go_ret
    exact ⟨rfl, rfl⟩
  · have HN : Hid (okName nm = true) := Lib.hid (by unfold okName; cases nm with
      | nil => simp at h1
      | cons a t => simp at h2 ⊢; omega)
    go_enter Try.func52, Try.ntmps52
    go_wp2_with fail
    go_ret
    rw [HN.out]
    exact ⟨rfl, rfl⟩
  · have HN : Hid (okName nm = false) := Lib.hid (by unfold okName; cases nm with
      | nil => simp at h1
      | cons a t => simp at h2 ⊢; omega)
    go_enter Try.func52, Try.ntmps52
    go_wp2_with fail
    go_ret
    rw [HN.out]
    refine ⟨?_, rfl⟩
    show Ending.returned (.bool (decide ((nm.length : Int) ≤ 12))) = _
    rw [decide_eq_false (by omega)]

theorem rfind_c {w : World} {r : Nat} {F : Nat → Prop} {ρ : RM} (h : Rk w r F ρ) (nm : List UInt8) :
    Calls Try.prog 53 #[.pointer (some ⟨r, 0, none⟩), .string ⟨nm.toArray⟩] w fun e w' => (∃ i, e = .returned (.int .i64 i) ∧ PosR nm ρ.L i) ∧ w = w' := by
  obtain ⟨ho, v, kv, hi, -, -⟩ := h
  obtain ⟨ao, cap, rfl⟩ := hi.row.slice
  have d1 : w.cell? ⟨r, 1, none⟩ = some (.slice ao ρ.L.length cap) := hi.head.cell 1
  have hm := ho.many
  have HI := Lib.hid hi
  obtain ⟨n, hn⟩ : ∃ n, ρ.L.length = n := ⟨_, rfl⟩
  rw [hn] at d1 hm
  have HN := Lib.hid hn
  clear ho hi hn
  go_enter Try.func53, Try.ntmps53
  go_wp2_with fail
  go_loop [5] (fun i => ∃ k : Nat, k ≤ n ∧ i = .int .i64 k ∧ NoPos nm (ρ.L.take k)) (fun i => n - (intOf i).toNat)
  case atStart => exact ⟨0, Nat.zero_le _, rfl, fun f hf => by simp at hf⟩
  case round =>
    obtain ⟨k, hk, rfl, hno⟩ := hrel
    have HNo := Lib.hid hno
    clear hno
    by_cases hlt : k < n
    · have hkL : k < ρ.L.length := by rw [HN.out]; exact hlt
      obtain ⟨g, cap', hv, q0, -, -, -, hc1, hc2⟩ := HI.out.at hkL
      cases hv
      have HTk : Hid (ρ.L.take (k + 1) = ρ.L.take k ++ [ρ.L[k]]) := Lib.hid (List.take_succ_eq_append_getElem hkL)
      have HPos : Hid (ρ.L[k].nm = nm → PosR nm ρ.L (k : Int)) := Lib.hid fun e => .inr ⟨k, hkL, rfl, e⟩
      obtain ⟨x, hx⟩ : ∃ x, ρ.L[k].nm = x := ⟨_, rfl⟩
      rw [hx] at q0
      have HX := Lib.hid hx
      clear hx
      by_cases hxy : x = nm
      · subst hxy
        go_wp2_with fail
        go_ret
        exact ⟨⟨k, rfl, HPos.out HX.out⟩, rfl⟩
      · have hne : (x == nm) = false := by simpa using hxy
        have HXn := Lib.hid hxy
        clear hxy
        go_wp2_with fail
        go_round
        case rel => exact ⟨k + 1, by omega, by go_num, by rw [HTk.out]; exact HNo.out.snoc (by rw [HX.out]; exact HXn.out)⟩
        case measure => simp [intOf]; omega
    · have HAll : Hid (PosR nm ρ.L (-1)) := Lib.hid (by have h := HNo.out; rw [List.take_of_length_le (by rw [HN.out]; omega)] at h; exact .inl ⟨rfl, h⟩)
      go_wp2_with fail
      go_ret
      exact ⟨⟨-1, rfl, HAll.out⟩, rfl⟩

end Go.Proofs.Ytmpiepkkikmpmaa
namespace Go.Proofs.Ytmpiepkkikmpmaa
open Go.RowKit

theorem pos_find {nm : List UInt8} {L : List FM} (ho : OrdN FM.nm L) {k : Nat} (h : k < L.length) (e : L[k].nm = nm) : findN FM.nm nm L = some L[k] := findN_of ho (List.getElem_mem h) e
theorem pos_upd {nm : List UInt8} {L : List FM} (ho : OrdN FM.nm L) {k : Nat} (h : k < L.length) (e : L[k].nm = nm) (f : FM → FM) : updN FM.nm nm f L = L.set k (f L[k]) := by
  have e1 : L = L.take k ++ L[k] :: L.drop (k + 1) := by rw [← List.drop_eq_getElem_cons h, List.take_append_drop]
  rw [List.set_eq_take_append_cons_drop, if_pos h]
  have ho2 := ho
  rw [e1] at ho2
  conv => lhs; rw [e1]
  exact updN_append e ho2
theorem pos_del {nm : List UInt8} {L : List FM} (ho : OrdN FM.nm L) {k : Nat} (h : k < L.length) (e : L[k].nm = nm) : delN FM.nm nm L = L.take k ++ L.drop (k + 1) := by
  have e1 : L = L.take k ++ L[k] :: L.drop (k + 1) := by rw [← List.drop_eq_getElem_cons h, List.take_append_drop]
  have hne := ord_ne ho
  rw [e1, List.pairwise_append] at hne
  obtain ⟨_, h2, h3⟩ := hne
  conv => lhs; rw [e1]
  unfold delN
  rw [List.filter_append, List.filter_cons_of_neg (by simp [e])]
  congr 1
  · exact List.filter_eq_self.2 fun y hy => by
      have := h3 y hy L[k] List.mem_cons_self
      rw [e] at this
      simpa using this
  · exact List.filter_eq_self.2 fun y hy => by
      have := (List.pairwise_cons.1 h2).1 y hy
      rw [e] at this
      simpa using fun h' => this (Eq.symm h')
theorem ins_at (x : FM) : ∀ (L : List FM) (k : Nat), k ≤ L.length → (∀ f ∈ L.take k, bytesBefore f.nm x.nm = true) → (∀ f, L[k]? = some f → bytesBefore f.nm x.nm = false) → (∀ f ∈ L, f.nm ≠ x.nm) → insN FM.nm x L = L.take k ++ x :: L.drop k
  | [], k, hk, _, _, _ => by
    obtain rfl : k = 0 := by simpa using hk
    rfl
  | a :: r, 0, _, _, h2, hne => by
    have h3 := h2 a rfl
    have : bytesBefore x.nm a.nm = true := by
      rcases WideAt.bytes_total _ _ (hne a List.mem_cons_self) with h | h
      · rw [h3] at h; cases h
      · exact h
    unfold insN
    rw [if_pos this]; rfl
  | a :: r, k + 1, hk, h1, h2, hne => by
    have h3 : bytesBefore a.nm x.nm = true := h1 a (by simp)
    have h4 : ¬ bytesBefore x.nm a.nm = true := fun h => by
      have := WideShapes.bytes_trans _ _ _ h h3
      rw [WideAt.bytes_irrefl] at this; cases this
    unfold insN
    rw [if_neg h4, ins_at x r k (by simpa using hk) (fun f hf => h1 f (by simp [hf])) (fun f hf => h2 f (by simpa using hf)) (fun f hf => hne f (List.mem_cons_of_mem _ hf))]
    rfl

/-- the document's disk that plays a disk -/
def rm (σ : DM) (fl : Int) : RM := ⟨σ.cap, σ.L, σ.reads, σ.starts, σ.down, fl, σ.keep⟩
/-- behind how many changes it fails: they say the same for B changes -/
def FlOk (B : Nat) (σ : DM) (fl : Int) : Prop := (σ.fail = false ∧ fl = 0) ∨ (σ.fail = true ∧ 1 ≤ fl ∧ fl ≤ 1099511627777 ∧ (fl = σ.left + 1 ∨ ((B : Int) < fl ∧ (B : Int) ≤ σ.left)))
theorem FlOk.rng {B : Nat} {σ : DM} {fl : Int} (h : FlOk B σ fl) : 0 ≤ fl ∧ fl ≤ 1099511627777 := by rcases h with ⟨_, rfl⟩ | ⟨_, h1, h2, _⟩ <;> omega
theorem FlOk.less {B B' : Nat} {σ : DM} {fl : Int} (h : FlOk B σ fl) (hb : B' ≤ B) : FlOk B' σ fl := by
  rcases h with h | ⟨h0, h1, h2, h3⟩
  · exact .inl h
  · refine .inr ⟨h0, h1, h2, ?_⟩
    rcases h3 with h3 | ⟨h3, h4⟩
    · exact .inl h3
    · exact .inr ⟨by omega, by omega⟩
theorem FlOk.like {B : Nat} {σ σ' : DM} {fl : Int} (h : FlOk B σ fl) (h1 : σ'.fail = σ.fail) (h2 : σ'.left = σ.left) : FlOk B σ' fl := by unfold FlOk at *; rw [h1, h2]; exact h
theorem okR_rm {σ : DM} {fl : Int} (h : okD σ) (h0 : 0 ≤ fl) (h1 : fl ≤ 1099511627777) : okR (rm σ fl) := ⟨h.cap0, h.cap1, h.used, h.ord, h.sy, h.many, h0, h1, h.keep⟩
theorem tick_idle {σ : DM} (h : okD σ) (hf : σ.fail = false) : tickM σ = σ := by
  have := h.idle hf
  obtain ⟨c, L, r, s, d, f, l, k⟩ := σ
  simp only at this; subst this; rfl
theorem fl_tick {B : Nat} {σ : DM} {fl : Int} (ho : okD σ) (h : FlOk (B + 1) σ fl) (hf : failsM σ = false) : (fl = 0 ∧ FlOk B (tickM σ) 0) ∨ (1 < fl ∧ FlOk B (tickM σ) (fl - 1)) := by
  rcases h with ⟨h1, h2⟩ | ⟨h1, h2, h3, h4⟩
  · exact .inl ⟨h2, .inl ⟨h1, rfl⟩⟩
  · have hl : σ.left ≠ 0 := by unfold failsM at hf; rw [h1] at hf; simpa using hf
    have hl0 := ho.left
    have hm : (tickM σ).left = σ.left - 1 := by show max (σ.left - 1) 0 = _; omega
    rcases h4 with h4 | ⟨h4, h5⟩
    · exact .inr ⟨by omega, .inr ⟨h1, by omega, by omega, .inl (by rw [hm]; omega)⟩⟩
    · exact .inr ⟨by omega, .inr ⟨h1, by omega, by omega, .inr ⟨by omega, by rw [hm]; omega⟩⟩⟩
theorem fl_fails {B : Nat} {σ : DM} {fl : Int} (h : FlOk (B + 1) σ fl) (hf : failsM σ = true) : fl = 1 := by
  unfold failsM at hf
  simp only [Bool.and_eq_true, decide_eq_true_eq] at hf
  rcases h with ⟨h1, _⟩ | ⟨_, h2, h3, h4⟩
  · rw [hf.1] at h1; cases h1
  · omega
theorem fl_crash (B : Nat) (σ : DM) (ks : List Int) : FlOk B (crashM σ ks) 0 := .inl ⟨rfl, rfl⟩

end Go.Proofs.Ytmpiepkkikmpmaa
namespace Go.Proofs.Ytmpiepkkikmpmaa
open Go.RowKit

section
variable {w w' w1 w2 : World} {r : Nat} {F G : Nat → Prop} {ρ ρ' σ1 σ2 : RM} {v kv : Value}
def rhead (ρ : RM) (v kv : Value) : Array Value := #[.int .i64 ρ.cap, v, .int .i64 ρ.cnt, .bool ρ.down, .int .i64 ρ.starts, .int .i64 ρ.fl, kv]
theorem RkI.own_r {e : TypeId} {B size n : Nat} {u : Value} {cs : List Value} (h : RkI w r v kv ρ) (ho : Own w B e size u n cs) (hne : e ≠ 38) : u.ownBlock ≠ some r := h.head.own ho hne
/-- a cell of its head is written -/
theorem RkI.put (h : RkI w r v kv ρ) (j : Nat) (u : Value) (e : (rhead ρ v kv).setIfInBounds j u = rhead ρ' v kv) (hL : ρ'.L = ρ.L) (hk : ρ'.keep = ρ.keep) : RkI (w.setCell ⟨r, j, none⟩ u) r v kv ρ' := by
  refine ⟨?_, ?_, ?_⟩
  · have := h.head.set j u
    rw [show (#[.int .i64 ρ.cap, v, .int .i64 ρ.cnt, .bool ρ.down, .int .i64 ρ.starts, .int .i64 ρ.fl, kv] : Array Value).setIfInBounds j u = rhead ρ' v kv from e] at this
    exact this
  · rw [hL]; exact h.row.setOther u (h.own_r h.row (by decide))
  · rw [hk]; exact h.keep.setOther u (h.own_r h.keep (by decide))
theorem RkI.drew (h : RkI w r v kv ρ) : RkI w.drew r v kv ρ := h.same fun _ _ => rfl
theorem RkI.drewN (h : RkI w r v kv ρ) (n : Nat) : RkI (w.drewN n) r v kv ρ := h.same fun _ _ => rfl
end

/-- reads in any order, then the rest one behind the other: the world drawn once -/
theorem wp_tail_drew {P : Program} {id : Nat} {Q : Exit → Act → World → Prop} {a : Act} {w : World} {l : List Oper} (n : Nat) (hm : P.follows .mixedOrders = true) (hB : Region.lexTailB .any l.toArray n = true)
    (h : wpStill P l.toArray w.drew (fun a' => wpList P l.toArray Q (l.drop n) a' w.drew) (l.take n) a) : (Code.region id l.toArray true).wp P Q a w :=
  wp_region_still_tail n hm hB h

theorem usedM_take {L : List FM} {k : Nat} (h : k < L.length) : usedM (L.take (k + 1)) = usedM (L.take k) + L[k].da.length := by
  rw [List.take_succ_eq_append_getElem h, usedM_append]; simp [usedM, sumN]
theorem usedM_take_le (L : List FM) (k : Nat) : usedM (L.take k) ≤ usedM L := by
  conv => rhs; rw [← List.take_append_drop k L, usedM_append]
  omega

set_option maxRecDepth 100000
set_option linter.unusedVariables false
set_option maxHeartbeats 1600000

theorem rchange_c {w : World} {r B : Nat} {F : Nat → Prop} {σ : DM} {fl : Int} (h : Rk w r F (rm σ fl)) (ho : okD σ) (hf : FlOk (B + 1) σ fl) :
    Calls Try.prog 54 #[.pointer (some ⟨r, 0, none⟩)] w fun e w' => e = .returned (.bool (!failsM σ)) ∧ ∃ fl', RkS w r F (rm σ fl') w' ∧ (failsM σ = false → FlOk B (tickM σ) fl') := by
  have H0 := Lib.hid h
  obtain ⟨ho', v, kv, hi, hin, hF⟩ := h
  have hfl := hf.rng
  have HP : ∀ x : Int, 0 ≤ x → x ≤ 1099511627777 → RkS w r F (rm σ x) (w.setCell ⟨r, 5, none⟩ (.int .i64 x)) := fun x h0 h1 =>
    RkS.mk' (okR_rm ho h0 h1) (hi.put 5 (.int .i64 x) (ρ' := rm σ x) rfl rfl rfl) (fun i hi' => .inl (hin i hi')) hF (OffS.set w (hin r (.inl rfl)) 5 _)
  have HPh := Lib.hid HP
  have d5 : w.cell? ⟨r, 5, none⟩ = some (.int .i64 fl) := hi.head.cell 5
  have z5 := hi.head.free 5
  have hcase : (fl = 0 ∧ failsM σ = false) ∨ (failsM σ = true ∧ fl = 1) ∨ (failsM σ = false ∧ 1 < fl) := by
    cases hq : failsM σ with
    | true => exact .inr (.inl ⟨rfl, fl_fails hf hq⟩)
    | false =>
      rcases fl_tick ho hf hq with ⟨h1, _⟩ | ⟨h1, _⟩
      · exact .inl ⟨h1, rfl⟩
      · exact .inr (.inr ⟨rfl, h1⟩)
  have HT := Lib.hid (fun hq => fl_tick ho hf hq)
  clear hi hin hF ho' HP hf ho
  rcases hcase with ⟨rfl, hq⟩ | ⟨hq, rfl⟩ | ⟨hq, hlt⟩
  · have HT := Lib.hid (HT.out hq)
    rw [hq]
    clear hq
    go_enter Try.func54, Try.ntmps54
    go_wp2_with fail
    go_ret
    refine ⟨rfl, 0, RkS.refl H0.out, ?_⟩
    rcases HT.out with ⟨_, h⟩ | ⟨h, _⟩
    · exact h
    · omega
  · rw [hq]
    clear hq HT
    go_enter Try.func54, Try.ntmps54
    go_wp2_with fail
    go_ret
    exact ⟨rfl, 0, HPh.out 0 (by omega) (by omega), fun h => by cases h⟩
  · have HT := Lib.hid (HT.out hq)
    rw [hq]
    clear hq
    have hne : (fl == 0) = false := by simp; omega
    have hwr : IntKind.i64.wrap (fl - 1) = fl - 1 := IntWalk.i64_in _ (by omega)
    have hgt : 0 < fl - 1 := by omega
    go_enter Try.func54, Try.ntmps54
    go_wp2_with fail
    go_ret
    refine ⟨rfl, fl - 1, HPh.out (fl - 1) (by omega) (by omega), fun _ => ?_⟩
    rcases HT.out with ⟨h, _⟩ | ⟨_, h⟩
    · omega
    · exact h

theorem rused_c {w : World} {r : Nat} {F : Nat → Prop} {ρ : RM} (h : Rk w r F ρ) :
    Calls Try.prog 41 #[.pointer (some ⟨r, 0, none⟩)] w fun e w' => e = .returned (.int .i64 (usedM ρ.L)) ∧ w = w' := by
  obtain ⟨ho, v, kv, hi, -, -⟩ := h
  obtain ⟨ao, cap, rfl⟩ := hi.row.slice
  have d1 : w.cell? ⟨r, 1, none⟩ = some (.slice ao ρ.L.length cap) := hi.head.cell 1
  have hm := ho.many
  have HI := Lib.hid hi
  have HU : Hid (usedM ρ.L ≤ 1048576) := Lib.hid (by have h1 := ho.used; have h2 := ho.cap1; omega)
  obtain ⟨n, hn⟩ : ∃ n, ρ.L.length = n := ⟨_, rfl⟩
  rw [hn] at d1 hm
  have HN := Lib.hid hn
  clear ho hi hn
  go_enter Try.func41, Try.ntmps41
  go_wp2_with fail
  go_loop [3, 4] (fun s i => ∃ k : Nat, k ≤ n ∧ i = .int .i64 k ∧ s = .int .i64 (usedM (ρ.L.take k) : Int)) (fun _ i => n - (intOf i).toNat)
  case atStart => exact ⟨0, Nat.zero_le _, rfl, rfl⟩
  case round =>
    obtain ⟨k, hk, rfl, rfl⟩ := hrel
    by_cases hlt : k < n
    · have hkL : k < ρ.L.length := by rw [HN.out]; exact hlt
      obtain ⟨g, cap', hv, -, q1, -, -, hc1, hc2⟩ := HI.out.at hkL
      cases hv
      have hst := usedM_take hkL
      have hle := usedM_take_le ρ.L (k + 1)
      have hu := HU.out
      obtain ⟨x, hx⟩ : ∃ x, ρ.L[k].da = x := ⟨_, rfl⟩
      rw [hx] at q1 hst
      obtain ⟨s, hs⟩ : ∃ s, usedM (ρ.L.take k) = s := ⟨_, rfl⟩
      rw [hs] at hst ⊢
      have hxl : (s : Int) + (x.length : Int) ≤ 1048576 := by omega
      have HSt : Hid ((usedM (ρ.L.take (k + 1)) : Int) = (s : Int) + x.length) := Lib.hid (by rw [hst]; omega)
      clear hx hst hle hu hs
      go_wp2_with fail
      go_round
      case rel => exact ⟨k + 1, by omega, by go_num, by rw [HSt.out]⟩
      case measure => simp [intOf]; omega
    · have HAll : Hid (ρ.L.take k = ρ.L) := Lib.hid (List.take_of_length_le (by rw [HN.out]; omega))
      go_wp2_with fail
      go_ret
      rw [HAll.out]
      exact ⟨rfl, rfl⟩

end Go.Proofs.Ytmpiepkkikmpmaa
namespace Go.Proofs.Ytmpiepkkikmpmaa
open Go.RowKit

section
variable {w w' w1 w2 : World} {r : Nat} {F G : Nat → Prop} {ρ ρ' σ1 σ2 : RM} {v kv : Value}
/-- a cell of a file is written -/
theorem RkI.putF (h : RkI w r v kv ρ) {g n cap : Nat} (hv : v = .slice (some ⟨g, 0, none⟩) n cap) {k : Nat} (hk : k < ρ.L.length) (j : Nat) (hj : j < 3) (u : Value) (f : FM) (e : (c3 ρ.L[k]).set j u = c3 f) :
    RkI (w.setCell ⟨g, k * 3 + j, none⟩ u) r v kv { ρ with L := ρ.L.set k f } := by
  have hb : v.ownBlock = some g := by rw [hv]; rfl
  have hn : n = ρ.L.length := by
    obtain ⟨a, c, hv'⟩ := h.row.slice
    rw [hv'] at hv; cases hv; rfl
  refine ⟨?_, ?_, ?_⟩
  · exact h.head.same (Below.heap_setCell _ _ _ _ fun e => h.own_r h.row (by decide) (by rw [hb, e]))
  · have := h.row.storedN (hn ▸ hv) (k * 3 + j) u
    rw [cs3_set ρ.L k hk j u f hj e] at this
    show Own _ _ _ _ _ (ρ.L.set k f).length _
    rw [List.length_set]; exact this
  · exact h.keep.setOther u (h.row.apart h.keep (by decide) g hb)
theorem RkI.crashed (h : RkI w r v kv ρ) : RkI (((w.setCell ⟨r, 3, none⟩ (.bool true)).setCell ⟨r, 5, none⟩ (.int .i64 0)).setCell ⟨r, 6, none⟩ (.slice none 0 0)) r v (.slice none 0 0) { ρ with down := true, fl := 0, keep := [] } := by
  have h1 := h.put 3 (.bool true) (ρ' := { ρ with down := true }) rfl rfl rfl
  have h2 := h1.put 5 (.int .i64 0) (ρ' := { ρ with down := true, fl := 0 }) rfl rfl rfl
  exact ⟨h2.head.set 6 (.slice none 0 0), h2.row.setOther _ (h2.own_r h2.row (by decide)), Own.nil _ _ _ _⟩
end

def crashR (ρ : RM) (xs : List Int) : RM := { ρ with L := crashL ρ.L xs, down := true, fl := 0, keep := [] }
theorem crashR_ok {ρ : RM} (h : okR ρ) (xs : List Int) : okR (crashR ρ xs) :=
  ⟨h.cap0, h.cap1, by have h1 := usedM_crs ρ.L xs; have h2 := h.used; show (usedM (crashL ρ.L xs) : Int) ≤ ρ.cap; omega, ord_nm h.ord (crashL_nm ρ.L xs), fun f hf => Nat.le_of_eq (crashL_sy ρ.L xs h.sy f hf), by show (crashL ρ.L xs).length ≤ 400; rw [crashL_length]; exact h.many, Int.le_refl 0, by show (0 : Int) ≤ _; omega, by show 0 ≤ _; omega⟩
theorem crs_at {L : List FM} (xs : List Int) {k : Nat} (hk : k < L.length) : ∃ h : k < (crsL L xs k).length, (crsL L xs k)[k] = L[k] ∧ ∀ f, f = crashF L[k] (xs.getD k 0) → (crsL L xs k).set k f = crsL L xs (k + 1) := by
  have hl : k < (crsL L xs k).length := by rw [crsL_length]; exact hk
  have e1 : crsL L xs k = crashL (L.take k) xs ++ L[k] :: L.drop (k + 1) := by unfold crsL; rw [List.drop_eq_getElem_cons hk]
  have hcl : (crashL (L.take k) xs).length = k := by rw [crashL_length, List.length_take]; omega
  refine ⟨hl, ?_, fun f hf => ?_⟩
  · simp only [e1]
    rw [List.getElem_append_right (by omega)]
    simp [hcl]
  · rw [e1, List.set_append_right _ _ (by omega), hcl, Nat.sub_self, List.set_cons_zero, hf]
    unfold crsL
    rw [List.take_succ_eq_append_getElem hk, crashL_snoc, List.length_take, Nat.min_eq_left (Nat.le_of_lt hk)]
    simp

set_option maxRecDepth 100000
set_option linter.unusedVariables false
set_option maxHeartbeats 3200000

theorem rcrash_down {w : World} {r : Nat} {F : Nat → Prop} {ρ : RM} (h : Rk w r F ρ) (hd : ρ.down = true) (ks : Value) :
    Calls Try.prog 34 #[.pointer (some ⟨r, 0, none⟩), ks] w fun e w' => e = .returned (.int .i64 61) ∧ w = w' := by
  obtain ⟨ho, v, kv, hi, -, -⟩ := h
  have d3 : w.cell? ⟨r, 3, none⟩ = some (.bool ρ.down) := hi.head.cell 3
  rw [hd] at d3
  clear ho hi
  go_enter Try.func34, Try.ntmps34
  go_wp2_with fail
  go_ret
  exact ⟨rfl, rfl⟩

theorem rcrash_c {w : World} {r : Nat} {F : Nat → Prop} {ρ : RM} (h : Rk w r F ρ) (hd : ρ.down = false) {ka : Option Addr} {kn kc : Nat} {xs : List Int}
    (hkeep : ∀ v kv, RkI w r v kv ρ → (∀ i, InR r v kv i → F i) → ∀ W, OffS (fun i => v.ownBlock = some i) w W → Ints W ka kn kc xs) :
    Calls Try.prog 34 #[.pointer (some ⟨r, 0, none⟩), .slice ka kn kc] w fun e w' => e = .returned (.int .i64 0) ∧ RkS w r F (crashR ρ xs) w' := by
  obtain ⟨ho, v, kv, hi, hin, hF⟩ := h
  have HK := Lib.hid (hkeep v kv hi hin)
  obtain ⟨ao, cap, rfl⟩ := hi.row.slice
  have hm := ho.many
  have d3 : w.cell? ⟨r, 3, none⟩ = some (.bool ρ.down) := hi.head.cell 3
  rw [hd] at d3
  have HO := Lib.hid ho
  have HI := Lib.hid hi; have HIn := Lib.hid hin; have HF := Lib.hid hF
  have HU : Hid (∀ k (h : k < ρ.L.length), ρ.L[k].sy ≤ ρ.L[k].da.length ∧ (ρ.L[k].da.length : Int) ≤ 1048576) := Lib.hid fun k h => by
    have h1 := ho.sy _ (List.getElem_mem h)
    have h2 : ρ.L[k].da.length ≤ usedM ρ.L := usedM_mem (List.getElem_mem h)
    have h3 := ho.used; have h4 := ho.cap1
    exact ⟨h1, by omega⟩
  have hkn : kn ≤ 9223372036854775807 := by have h := HK.out w (OffS.refl _ _); exact Nat.le_trans h.fits h.bound
  obtain ⟨n, hn⟩ : ∃ n, ρ.L.length = n := ⟨_, rfl⟩
  rw [hn] at hm HI HIn HK
  have HN := Lib.hid hn
  clear ho hi hn hd hin hF hkeep
  go_enter Try.func34, Try.ntmps34
  go_wp2_with fail
  go_loopw [5] (fun i wr => ∃ k : Nat, k ≤ n ∧ i = .int .i64 k ∧ RkI wr r (.slice ao n cap) kv { ρ with L := crsL ρ.L xs k } ∧ OffS (fun i => (Value.slice ao n cap).ownBlock = some i) w wr) (fun i _ => n - (intOf i).toNat)
  case atStart => exact ⟨0, Nat.zero_le _, rfl, by rw [crsL_zero]; exact HI.out, OffS.refl _ _⟩
  case round =>
    obtain ⟨k, hk, rfl, hik, hoff⟩ := hrel
    have d1 : wr.cell? ⟨r, 1, none⟩ = some (.slice ao n cap) := hik.head.cell 1
    by_cases hlt : k < n
    · have hkL : k < ρ.L.length := by rw [HN.out]; exact hlt
      obtain ⟨hkc, hcat, hcset⟩ := crs_at xs hkL
      obtain ⟨g, cap', hv, -, q1, q2, hz, hc1, hc2⟩ := hik.at (k := k) hkc
      obtain ⟨hu1, hu2⟩ := HU.out k hkL
      have hkk := HK.out wr hoff
      have hcl : (crsL ρ.L xs k).length = n := by rw [crsL_length, HN.out]
      simp only [hcl] at hv hc1
      cases hv
      simp only [hcat] at q1 q2
      have y1 := hz (k * 3 + 1); have y2 := hz (k * 3 + 2)
      obtain ⟨f, hf⟩ : ∃ f, ρ.L[k] = f := ⟨_, rfl⟩
      rw [hf] at hcat hcset
      simp only [hf] at q1 q2 hu1 hu2
      obtain ⟨nm, da, sy⟩ := f
      simp only at q1 q2 hu1 hu2
      have HFin : Hid (∀ (DA : List UInt8) (t : Nat) (W : World), (⟨nm, DA, t⟩ : FM) = crashF ⟨nm, da, sy⟩ (xs.getD k 0) → W.heap = ((wr.setCell ⟨g, k * 3 + 1, none⟩ (.string ⟨DA.toArray⟩)).setCell ⟨g, k * 3 + 2, none⟩ (.int .i64 (t : Int))).heap → W.os = wr.os → W.tape = wr.tape → W.output = wr.output →
          RkI W r (.slice (some ⟨g, 0, none⟩) n cap) kv { ρ with L := crsL ρ.L xs (k + 1) } ∧ OffS (fun i => (Value.slice (some ⟨g, 0, none⟩) n cap).ownBlock = some i) w W) := Lib.hid fun DA t W he hh h1 h2 h3 => by
        have a1 := hik.putF rfl (k := k) hkc 1 (by omega) (.string ⟨DA.toArray⟩) ⟨nm, DA, sy⟩ (by rw [show ({ ρ with L := crsL ρ.L xs k } : RM).L[k] = ⟨nm, da, sy⟩ from hcat]; rfl)
        have hl2 : k < ((crsL ρ.L xs k).set k ⟨nm, DA, sy⟩).length := by rw [List.length_set]; exact hkc
        have a2 := a1.putF rfl (k := k) hl2 2 (by omega) (.int .i64 (t : Int)) ⟨nm, DA, t⟩ (by
          rw [show ({ ρ with L := (crsL ρ.L xs k).set k ⟨nm, DA, sy⟩ } : RM).L[k] = ⟨nm, DA, sy⟩ from List.getElem_set_self _]; rfl)
        have e3 : ((crsL ρ.L xs k).set k ⟨nm, DA, sy⟩).set k ⟨nm, DA, t⟩ = crsL ρ.L xs (k + 1) := by rw [List.set_set]; exact hcset _ he
        refine ⟨(e3 ▸ a2).same fun i _ => by rw [hh], ?_⟩
        have o1 : OffS (fun i => (Value.slice (some ⟨g, 0, none⟩) n cap).ownBlock = some i) wr (wr.setCell ⟨g, k * 3 + 1, none⟩ (.string ⟨DA.toArray⟩)) := OffS.set (F := fun i => (Value.slice (some ⟨g, 0, none⟩) n cap).ownBlock = some i) wr (g := g) rfl _ _
        have o2 : OffS (fun i => (Value.slice (some ⟨g, 0, none⟩) n cap).ownBlock = some i) (wr.setCell ⟨g, k * 3 + 1, none⟩ (.string ⟨DA.toArray⟩)) ((wr.setCell ⟨g, k * 3 + 1, none⟩ (.string ⟨DA.toArray⟩)).setCell ⟨g, k * 3 + 2, none⟩ (.int .i64 (t : Int))) := OffS.set (F := fun i => (Value.slice (some ⟨g, 0, none⟩) n cap).ownBlock = some i) _ (g := g) rfl _ _
        have o3 := hoff.trans (o1.trans o2)
        exact ⟨h1.trans hoff.os, h2.trans hoff.tape, h3.trans hoff.output, by rw [hh]; exact o3.size, fun i hi hn => by rw [hh]; exact o3.block i hi hn⟩
      have hgr : g ≠ r := fun e => hik.own_r hik.row (by decide) (by rw [e]; rfl)
      have hrg : r ≠ g := fun e => hgr e.symm
      clear hik hoff hcset hcat hf hz
      have hke := hkk.len
      by_cases hkn2 : k < kn
      · obtain ⟨bk, ok, rfl, hck⟩ := hkk.at hkn2
        obtain ⟨x, hx⟩ : ∃ x, xs.getD k 0 = x := ⟨_, rfl⟩
        rw [hx] at hck HFin
        clear hkk hx
        by_cases hx0 : 0 < x
        · by_cases hxl : (da.length : Int) - (sy : Int) < x
          · have hwr : IntKind.i64.wrap ((sy : Int) + ((da.length : Int) - (sy : Int))) = (da.length : Int) := by rw [IntWalk.i64_in _ (by omega)]; omega
            have HE : Hid ((⟨nm, da, da.length⟩ : FM) = crashF ⟨nm, da, sy⟩ x) := Lib.hid (by
              have : min (max x 0).toNat (da.length - sy) = da.length - sy := by omega
              unfold crashF; simp only [this]
              rw [show sy + (da.length - sy) = da.length by omega, List.take_length])
            go_wp2_with fail
            go_quiet (fail)
            go_wp2_with fail
            go_quiet (fail)
            go_wp2_with fail
            refine wp_tail_drew 26 (by kernel_rfl) (by kernel_rfl) ?_
            simp only [List.take_succ_cons, List.take_zero, List.drop_succ_cons, List.drop_zero]
            repeat still_step
            refine wpStill_nil ?_
            go_wp2_with fail
            refine wp_tail_drew 16 (by kernel_rfl) (by kernel_rfl) ?_
            simp only [List.take_succ_cons, List.take_zero, List.drop_succ_cons, List.drop_zero]
            repeat still_step
            refine wpStill_nil ?_
            go_wp2_with fail
            go_roundw
            case rel =>
              refine ⟨k + 1, by omega, by go_num, (HFin.out da da.length _ HE.out ?_ ?_ ?_ ?_).1, (HFin.out da da.length _ HE.out ?_ ?_ ?_ ?_).2⟩ <;> rfl
            case measure => simp [intOf]; omega
          · obtain ⟨t, ht⟩ : ∃ t : Nat, (t : Int) = (sy : Int) + x := ⟨sy + x.toNat, by omega⟩
            have hwr : IntKind.i64.wrap ((sy : Int) + x) = (t : Int) := by rw [IntWalk.i64_in _ (by omega)]; omega
            have htl : (t : Int) ≤ (da.length : Int) := by omega
            obtain ⟨DA, hDA⟩ : ∃ DA, List.take t da = DA := ⟨_, rfl⟩
            have hDl : DA.length = t := by rw [← hDA, List.length_take]; omega
            have HE : Hid ((⟨nm, DA, t⟩ : FM) = crashF ⟨nm, da, sy⟩ x) := Lib.hid (by
              have : sy + min (max x 0).toNat (da.length - sy) = t := by omega
              unfold crashF; simp only [this]
              rw [hDA])
            clear ht
            go_wp2_with fail
            go_quiet (fail)
            go_wp2_with fail
            refine wp_tail_drew 26 (by kernel_rfl) (by kernel_rfl) ?_
            simp only [List.take_succ_cons, List.take_zero, List.drop_succ_cons, List.drop_zero]
            repeat still_step
            refine wpStill_nil ?_
            go_wp2_with fail
            refine wp_tail_drew 16 (by kernel_rfl) (by kernel_rfl) ?_
            simp only [List.take_succ_cons, List.take_zero, List.drop_succ_cons, List.drop_zero]
            repeat still_step
            refine wpStill_nil ?_
            go_wp2_with fail
            go_roundw
            case rel =>
              refine ⟨k + 1, by omega, by go_num, (HFin.out DA t _ HE.out ?_ ?_ ?_ ?_).1, (HFin.out DA t _ HE.out ?_ ?_ ?_ ?_).2⟩ <;> rfl
            case measure => simp [intOf]; omega
        · have hwr : IntKind.i64.wrap (sy : Int) = (sy : Int) := IntWalk.i64_in _ (by omega)
          have hn0 : ¬ ((da.length : Int) - (sy : Int) < 0) := by omega
          obtain ⟨DA, hDA⟩ : ∃ DA, List.take sy da = DA := ⟨_, rfl⟩
          have hDl : DA.length = sy := by rw [← hDA, List.length_take]; omega
          have HE : Hid ((⟨nm, DA, sy⟩ : FM) = crashF ⟨nm, da, sy⟩ x) := Lib.hid (by
            have : min (max x 0).toNat (da.length - sy) = 0 := by omega
            unfold crashF; simp only [this]
            rw [Nat.add_zero, hDA])
          go_wp2_with fail
          go_quiet (fail)
          go_wp2_with fail
          refine wp_tail_drew 26 (by kernel_rfl) (by kernel_rfl) ?_
          simp only [List.take_succ_cons, List.take_zero, List.drop_succ_cons, List.drop_zero]
          repeat still_step
          refine wpStill_nil ?_
          go_wp2_with fail
          refine wp_tail_drew 16 (by kernel_rfl) (by kernel_rfl) ?_
          simp only [List.take_succ_cons, List.take_zero, List.drop_succ_cons, List.drop_zero]
          repeat still_step
          refine wpStill_nil ?_
          go_wp2_with fail
          go_roundw
          case rel =>
            refine ⟨k + 1, by omega, by go_num, (HFin.out DA sy _ HE.out ?_ ?_ ?_ ?_).1, (HFin.out DA sy _ HE.out ?_ ?_ ?_ ?_).2⟩ <;> rfl
          case measure => simp [intOf]; omega
      · have hx0 : xs.getD k 0 = 0 := by rw [List.getD_eq_getElem?_getD, List.getElem?_eq_none (by omega)]; rfl
        rw [hx0] at HFin
        clear hkk hx0
        have hwr : IntKind.i64.wrap (sy : Int) = (sy : Int) := IntWalk.i64_in _ (by omega)
        have hn0 : ¬ ((da.length : Int) - (sy : Int) < 0) := by omega
        obtain ⟨DA, hDA⟩ : ∃ DA, List.take sy da = DA := ⟨_, rfl⟩
        have hDl : DA.length = sy := by rw [← hDA, List.length_take]; omega
        have HE : Hid ((⟨nm, DA, sy⟩ : FM) = crashF ⟨nm, da, sy⟩ 0) := Lib.hid (by
          have : min (max (0 : Int) 0).toNat (da.length - sy) = 0 := by omega
          unfold crashF; simp only [this]
          rw [Nat.add_zero, hDA])
        go_wp2_with fail
        go_quiet (fail)
        go_wp2_with fail
        refine wp_tail_drew 26 (by kernel_rfl) (by kernel_rfl) ?_
        simp only [List.take_succ_cons, List.take_zero, List.drop_succ_cons, List.drop_zero]
        repeat still_step
        refine wpStill_nil ?_
        go_wp2_with fail
        refine wp_tail_drew 16 (by kernel_rfl) (by kernel_rfl) ?_
        simp only [List.take_succ_cons, List.take_zero, List.drop_succ_cons, List.drop_zero]
        repeat still_step
        refine wpStill_nil ?_
        go_wp2_with fail
        go_roundw
        case rel =>
          refine ⟨k + 1, by omega, by go_num, (HFin.out DA sy _ HE.out ?_ ?_ ?_ ?_).1, (HFin.out DA sy _ HE.out ?_ ?_ ?_ ?_).2⟩ <;> rfl
        case measure => simp [intOf]; omega
    · obtain rfl : k = n := by omega
      have e3 : wr.cell? ⟨r, 3, none⟩ = some (.bool ρ.down) := hik.head.cell 3
      have e5 : wr.cell? ⟨r, 5, none⟩ = some (.int .i64 ρ.fl) := hik.head.cell 5
      have e6 : wr.cell? ⟨r, 6, none⟩ = some kv := hik.head.cell 6
      have z3 := hik.head.free 3; have z5 := hik.head.free 5; have z6 := hik.head.free 6
      have HEnd : Hid (RkS w r F (crashR ρ xs) (((wr.setCell ⟨r, 3, none⟩ (.bool true)).setCell ⟨r, 5, none⟩ (.int .i64 0)).setCell ⟨r, 6, none⟩ (.slice none 0 0))) := Lib.hid (by
        have hi := hik.crashed
        have hall : crsL ρ.L xs k = crashL ρ.L xs := by rw [← HN.out, crsL_all]
        have hr := HIn.out r (.inl rfl)
        refine RkS.mk' (crashR_ok HO.out xs) (v' := .slice ao k cap) (kv' := .slice none 0 0) (by rw [hall] at hi; exact hi) (fun i hi => .inl ?_) HF.out ?_
        · rcases hi with h | h | h
          · exact HIn.out i (.inl h)
          · exact HIn.out i (.inr (.inl h))
          · cases h
        · exact (hoff.mono fun i _ h => HIn.out i (.inr (.inl h))).trans ((OffS.set wr hr 3 _).trans ((OffS.set _ hr 5 _).trans (OffS.set _ hr 6 _))))
      clear hik hoff
      go_wp2_with fail
      go_ret
      exact ⟨rfl, HEnd.out⟩

end Go.Proofs.Ytmpiepkkikmpmaa
namespace Go.Proofs.Ytmpiepkkikmpmaa
open Go.RowKit

set_option maxRecDepth 100000
set_option linter.unusedVariables false
set_option maxHeartbeats 3200000

theorem sinks_c (w : World) : Calls Try.prog 5 #[] w fun e w' => e = .returned (.bool true) ∧ Ext w w' := by
  go_enter Try.func5, Try.ntmps5
  go_wp2_with fail
  refine (KD.new w 5 (by decide) (by decide) (Ext.refl _)).mono ?_
  rintro e w' ⟨g, rfl, hk⟩
  have HK := Lib.hid hk
  clear hk
  go_wp2_with fail
  refine (KD.create HK.out [97] (by decide) (c := 0) (σ' := ⟨5, [⟨[97], [], 0⟩], 0, 0, false, false, 0, []⟩) (by kernel_rfl)).mono ?_
  rintro e w' ⟨rfl, hk⟩
  have HK := Lib.hid hk
  clear hk
  go_wp2_with fail
  refine (KD.append HK.out [97] [120, 121, 122] (by decide) (by decide) (c := 0) (σ' := ⟨5, [⟨[97], [120, 121, 122], 0⟩], 0, 0, false, false, 0, []⟩) (by kernel_rfl)).mono ?_
  rintro e w' ⟨rfl, hk⟩
  have HK := Lib.hid hk
  clear hk
  go_wp2_with fail
  refine (KD.append HK.out [97] [117, 118, 119] (by decide) (by decide) (c := 60) (σ' := ⟨5, [⟨[97], [120, 121, 122], 0⟩], 0, 0, false, false, 0, []⟩) (by kernel_rfl)).mono ?_
  rintro e w' ⟨rfl, hk⟩
  have HK := Lib.hid hk
  clear hk
  go_wp2_with fail
  refine (KD.append HK.out [98] [120] (by decide) (by decide) (c := 4) (σ' := ⟨5, [⟨[97], [120, 121, 122], 0⟩], 0, 0, false, false, 0, []⟩) (by kernel_rfl)).mono ?_
  rintro e w' ⟨rfl, hk⟩
  have HK := Lib.hid hk
  clear hk
  go_wp2_with fail
  refine (KD.free HK.out (n := 2) (by kernel_rfl)).mono ?_
  rintro e w' ⟨rfl, hx⟩
  have HK := Lib.hid (HK.out.ext hx)
  clear hx
  go_wp2_with fail
  refine (KD.read HK.out [97] 1 2 (by decide) (by decide) (by decide) (by decide) (by decide) (s := [121, 122]) (c := 0) (σ' := ⟨5, [⟨[97], [120, 121, 122], 0⟩], 1, 0, false, false, 0, []⟩) (by kernel_rfl)).mono ?_
  rintro e w' ⟨rfl, hk⟩
  have HK := Lib.hid hk
  clear hk
  go_wp2_with fail
  refine (KD.read HK.out [97] 2 2 (by decide) (by decide) (by decide) (by decide) (by decide) (s := []) (c := 2) (σ' := ⟨5, [⟨[97], [120, 121, 122], 0⟩], 2, 0, false, false, 0, []⟩) (by kernel_rfl)).mono ?_
  rintro e w' ⟨rfl, hk⟩
  have HK := Lib.hid hk
  clear hk
  go_wp2_with fail
  refine (KD.reads HK.out (n := 2) (by kernel_rfl)).mono ?_
  rintro e w' ⟨rfl, rfl⟩
  go_wp2_with fail
  refine (KD.sync HK.out [97] (by decide) (c := 0) (σ' := ⟨5, [⟨[97], [120, 121, 122], 3⟩], 2, 0, false, false, 0, []⟩) (by kernel_rfl)).mono ?_
  rintro e w' ⟨rfl, hk⟩
  have HK := Lib.hid hk
  clear hk
  go_wp2_with fail
  refine (KD.append HK.out [97] [117, 118] (by decide) (by decide) (c := 0) (σ' := ⟨5, [⟨[97], [120, 121, 122, 117, 118], 3⟩], 2, 0, false, false, 0, []⟩) (by kernel_rfl)).mono ?_
  rintro e w' ⟨rfl, hk⟩
  have HK := Lib.hid hk
  clear hk
  go_wp2_with fail
  refine (KD.crash1 HK.out 1 (c := 0) (σ' := ⟨5, [⟨[97], [120, 121, 122, 117], 4⟩], 2, 0, true, false, 0, []⟩) (by kernel_rfl)).mono ?_
  rintro e w' ⟨rfl, hk⟩
  have HK := Lib.hid hk
  clear hk
  go_wp2_with fail
  refine (KD.start HK.out (c := 0) (σ' := ⟨5, [⟨[97], [120, 121, 122, 117], 4⟩], 2, 1, false, false, 0, []⟩) (by kernel_rfl)).mono ?_
  rintro e w' ⟨rfl, hk⟩
  have HK := Lib.hid hk
  clear hk
  go_wp2_with fail
  refine (KD.size HK.out [97] (by decide) (n := 4) (c := 0) (by kernel_rfl)).mono ?_
  rintro e w' ⟨rfl, rfl⟩
  go_wp2_with fail
  refine (KD.fail0 HK.out 0 (by decide) (c := 0) (σ' := ⟨5, [⟨[97], [120, 121, 122, 117], 4⟩], 2, 1, false, true, 0, []⟩) (by kernel_rfl)).mono ?_
  rintro e w' ⟨rfl, hk⟩
  have HK := Lib.hid hk
  clear hk
  go_wp2_with fail
  refine (KD.append HK.out [97] [116] (by decide) (by decide) (c := 61) (σ' := ⟨5, [⟨[97], [120, 121, 122, 117], 4⟩], 2, 1, true, false, 0, []⟩) (by kernel_rfl)).mono ?_
  rintro e w' ⟨rfl, hk⟩
  have HK := Lib.hid hk
  clear hk
  go_wp2_with fail
  refine (KD.up HK.out (b := false) (by kernel_rfl)).mono ?_
  rintro e w' ⟨rfl, rfl⟩
  go_wp2_with fail
  refine (KD.start HK.out (c := 0) (σ' := ⟨5, [⟨[97], [120, 121, 122, 117], 4⟩], 2, 2, false, false, 0, []⟩) (by kernel_rfl)).mono ?_
  rintro e w' ⟨rfl, hk⟩
  have HK := Lib.hid hk
  clear hk
  go_wp2_with fail
  refine (KD.size HK.out [97] (by decide) (n := 4) (c := 0) (by kernel_rfl)).mono ?_
  rintro e w' ⟨rfl, rfl⟩
  go_wp2_with fail
  refine (KD.spoil HK.out [97] [120, 120] (by decide) (by decide) 3 (by decide) (c := 0) (σ' := ⟨5, [⟨[97], [120, 121, 122, 120], 4⟩], 2, 2, false, false, 0, []⟩) (by kernel_rfl)).mono ?_
  rintro e w' ⟨rfl, hk⟩
  have HK := Lib.hid hk
  clear hk
  go_wp2_with fail
  refine (KD.read HK.out [97] 0 4 (by decide) (by decide) (by decide) (by decide) (by decide) (s := [120, 121, 122, 120]) (c := 0) (σ' := ⟨5, [⟨[97], [120, 121, 122, 120], 4⟩], 3, 2, false, false, 0, []⟩) (by kernel_rfl)).mono ?_
  rintro e w' ⟨rfl, hk⟩
  have HK := Lib.hid hk
  clear hk
  go_wp2_with fail
  refine (KD.cut HK.out [97] (by decide) 1 (by decide) (c := 0) (σ' := ⟨5, [⟨[97], [120], 1⟩], 3, 2, false, false, 0, []⟩) (by kernel_rfl)).mono ?_
  rintro e w' ⟨rfl, hk⟩
  have HK := Lib.hid hk
  clear hk
  go_wp2_with fail
  refine (KD.size HK.out [97] (by decide) (n := 1) (c := 0) (by kernel_rfl)).mono ?_
  rintro e w' ⟨rfl, rfl⟩
  go_wp2_with fail
  go_ret
  exact ⟨rfl, HK.out.base⟩

end Go.Proofs.Ytmpiepkkikmpmaa
