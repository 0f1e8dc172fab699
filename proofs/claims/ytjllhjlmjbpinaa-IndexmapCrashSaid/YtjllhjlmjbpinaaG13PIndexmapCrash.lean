/- Walks: a disk of the law's own; whether two lists of numbers are the same. Walks: the chapter's disk. Walks: the law DiskCrash. -/
import Derived.Test.YtjllhjlmjbpinaaG11PIndexmapCrash
import Derived.Test.YtjllhjlmjbpinaaG12PIndexmapCrash
set_option linter.unusedVariables false
set_option linter.unusedSimpArgs false
namespace Go.Proofs.Ytjllhjlmjbpinaa
open Go.RowKit

theorem Ints.off {F : Nat → Prop} {w : World} {ka : Option Addr} {kn kc : Nat} {xs : List Int} (h : Ints w ka kn kc xs) (hn : ∀ a, ka = some a → ¬ F a.block) : ∀ W, OffS F w W → Ints W ka kn kc xs := fun W hW => by
  refine ⟨h.len, h.fits, h.bound, h.nil, fun j u hj => ?_⟩
  obtain ⟨b, off, e, hc⟩ := h.rd j u hj
  refine ⟨b, off, e, ?_⟩
  have hb := hW.block b (World.block_lt_of_cell? (h := hc)) (hn _ e)
  simp only [World.cell?, hb] at hc ⊢
  exact hc

theorem crashD_c {w : World} {g : Nat} {F : Nat → Prop} {σ : DM} (h : Dk w g F σ) (ka : Option Addr) (kn kc : Nat) (xs : List Int) (hkeep : ∀ W, OffS F w W → Ints W ka kn kc xs) :
    Calls Try.prog 27 #[.pointer (some ⟨g, 0, none⟩), .slice ka kn kc] w fun e w' => e = .returned (.int .i64 (crashD σ xs).1) ∧ DkS w g F (crashD σ xs).2 w' := by
  obtain ⟨ho, m, kv, L, hi, hin, hlt⟩ := h
  have fin : ∀ σ' w', Fin w g m kv L σ' w' → DkS w g F σ' w' := fun σ' w' ⟨ho', m', kv', L', hi', hin', hoff⟩ => DkS.mk' hin hlt ho' hi' hoff hin'
  cases hd : σ.down with
  | true =>
    have c6 := hi.c6
    rw [hd] at c6
    have hM : crashD σ xs = (61, σ) := by unfold crashD; rw [if_pos hd]
    refine (crash_down w g hi.c0 c6 _).mono ?_
    rintro e w' ⟨rfl, rfl⟩
    rw [hM]
    exact ⟨rfl, fin _ _ (Fin.same ho hi)⟩
  | false =>
    have hM : crashD σ xs = (0, crashM σ xs) := by unfold crashD; rw [if_neg (by rw [hd]; decide)]
    refine (crash_c hi ho hd ka kn kc xs fun W hW => hkeep W (hW.mono fun i _ hm => hin i hm.inD)).mono ?_
    rintro e w' ⟨rfl, L', h1, h2, h3⟩
    rw [hM]
    refine ⟨rfl, fin _ _ ⟨crash_ok ho xs, m, _, L', h1, fun i hx => ?_, h3.inD⟩⟩
    rcases hx with h4 | h4 | h4
    · exact .inl (.inl h4)
    · exact .inl (.inr (.inl (h2 i h4)))
    · cases h4

/-- a disk that was made since w0 -/
def KD (w0 w : World) (g : Nat) (σ : DM) : Prop := ∃ F, Dk w g F σ ∧ (∀ i, F i → w0.heap.size ≤ i) ∧ Ext w0 w

section
variable {w0 w w' : World} {g : Nat} {σ σ' : DM}
theorem KD.ext (h : KD w0 w g σ) (k : Ext w w') : KD w0 w' g σ := by
  obtain ⟨F, h1, h2, h3⟩ := h
  exact ⟨F, h1.ext k, h2, h3.trans k⟩
theorem KD.base (h : KD w0 w g σ) : Ext w0 w := by obtain ⟨F, h1, h2, h3⟩ := h; exact h3
theorem KD.dkS {F : Nat → Prop} (h2 : ∀ i, F i → w0.heap.size ≤ i) (h3 : Ext w0 w) (h : DkS w g F σ' w') : KD w0 w' g σ' :=
  ⟨Gr F w w', h.dk, fun i hi => Gr.ge h2 h3.size hi, h.off.ext h3 h2⟩
theorem KD.new (w0 : World) (c : Int) (h0 : 0 ≤ c) (h1 : c ≤ 1048576) {w : World} (hx : Ext w0 w) : Calls Try.prog 8 #[.int .i64 c] w fun e w' => ∃ g, e = .returned (.tuple #[.pointer (some ⟨g, 0, none⟩), .int .i64 0]) ∧ KD w0 w' g (newM c) := by
  refine (new_c w c h0 h1).mono ?_
  rintro e w' ⟨g, F, rfl, h1, h2, h3⟩
  exact ⟨g, rfl, F, h1, fun i hi => Nat.le_trans hx.size (h2 i hi), hx.trans h3⟩
theorem KD.create (h : KD w0 w g σ) (nm : List UInt8) (hl : nm.length ≤ 9223372036854775807) {c : Int} (hm : createM σ nm = (c, σ')) :
    Calls Try.prog 18 #[.pointer (some ⟨g, 0, none⟩), .string ⟨nm.toArray⟩] w fun e w' => e = .returned (.int .i64 c) ∧ KD w0 w' g σ' := by
  obtain ⟨F, h1, h2, h3⟩ := h
  refine (create_c h1 nm hl).mono ?_
  rw [hm]
  rintro e w' ⟨rfl, h⟩
  exact ⟨rfl, KD.dkS h2 h3 h⟩
theorem KD.append (h : KD w0 w g σ) (nm s : List UInt8) (hl : nm.length ≤ 9223372036854775807) (hs : s.length ≤ 9223372036854775807) {c : Int} (hm : appendM σ nm s = (c, σ')) :
    Calls Try.prog 19 #[.pointer (some ⟨g, 0, none⟩), .string ⟨nm.toArray⟩, .string ⟨s.toArray⟩] w fun e w' => e = .returned (.int .i64 c) ∧ KD w0 w' g σ' := by
  obtain ⟨F, h1, h2, h3⟩ := h
  refine (append_c h1 nm s hl hs).mono ?_
  rw [hm]
  rintro e w' ⟨rfl, h⟩
  exact ⟨rfl, KD.dkS h2 h3 h⟩
theorem KD.read (h : KD w0 w g σ) (nm : List UInt8) (a n : Int) (hl : nm.length ≤ 9223372036854775807) (ha0 : -9223372036854775808 ≤ a) (ha1 : a ≤ 9223372036854775807) (hn0 : -9223372036854775808 ≤ n) (hn1 : n ≤ 9223372036854775807) {s : List UInt8} {c : Int} (hm : readM σ nm a n = (s, c, σ')) :
    Calls Try.prog 29 #[.pointer (some ⟨g, 0, none⟩), .string ⟨nm.toArray⟩, .int .i64 a, .int .i64 n] w fun e w' => e = .returned (.tuple #[.string ⟨s.toArray⟩, .int .i64 c]) ∧ KD w0 w' g σ' := by
  obtain ⟨F, h1, h2, h3⟩ := h
  refine (read_c h1 nm a n hl ha0 ha1 hn0 hn1).mono ?_
  rw [hm]
  rintro e w' ⟨rfl, h⟩
  exact ⟨rfl, KD.dkS h2 h3 h⟩
theorem KD.sync (h : KD w0 w g σ) (nm : List UInt8) (hl : nm.length ≤ 9223372036854775807) {c : Int} (hm : syncM σ nm = (c, σ')) :
    Calls Try.prog 31 #[.pointer (some ⟨g, 0, none⟩), .string ⟨nm.toArray⟩] w fun e w' => e = .returned (.int .i64 c) ∧ KD w0 w' g σ' := by
  obtain ⟨F, h1, h2, h3⟩ := h
  refine (sync_c h1 nm hl).mono ?_
  rw [hm]
  rintro e w' ⟨rfl, h⟩
  exact ⟨rfl, KD.dkS h2 h3 h⟩
theorem KD.delete (h : KD w0 w g σ) (nm : List UInt8) (hl : nm.length ≤ 9223372036854775807) {c : Int} (hm : deleteM σ nm = (c, σ')) :
    Calls Try.prog 40 #[.pointer (some ⟨g, 0, none⟩), .string ⟨nm.toArray⟩] w fun e w' => e = .returned (.int .i64 c) ∧ KD w0 w' g σ' := by
  obtain ⟨F, h1, h2, h3⟩ := h
  refine (delete_c h1 nm hl).mono ?_
  rw [hm]
  rintro e w' ⟨rfl, h⟩
  exact ⟨rfl, KD.dkS h2 h3 h⟩
theorem KD.rename (h : KD w0 w g σ) (a b : List UInt8) (hla : a.length ≤ 9223372036854775807) (hlb : b.length ≤ 9223372036854775807) {c : Int} (hm : renameM σ a b = (c, σ')) :
    Calls Try.prog 38 #[.pointer (some ⟨g, 0, none⟩), .string ⟨a.toArray⟩, .string ⟨b.toArray⟩] w fun e w' => e = .returned (.int .i64 c) ∧ KD w0 w' g σ' := by
  obtain ⟨F, h1, h2, h3⟩ := h
  refine (rename_c h1 a b hla hlb).mono ?_
  rw [hm]
  rintro e w' ⟨rfl, h⟩
  exact ⟨rfl, KD.dkS h2 h3 h⟩
theorem KD.start (h : KD w0 w g σ) {c : Int} (hm : startM σ = (c, σ')) :
    Calls Try.prog 14 #[.pointer (some ⟨g, 0, none⟩)] w fun e w' => e = .returned (.int .i64 c) ∧ KD w0 w' g σ' := by
  obtain ⟨F, h1, h2, h3⟩ := h
  refine (start_c h1).mono ?_
  rw [hm]
  rintro e w' ⟨rfl, h⟩
  exact ⟨rfl, KD.dkS h2 h3 h⟩
theorem KD.spoil (h : KD w0 w g σ) (nm s : List UInt8) (hl : nm.length ≤ 9223372036854775807) (hs : s.length ≤ 9223372036854775807) (n : Int) (hn1 : n ≤ 9223372036854775807) {c : Int} (hm : spoilM σ nm n s = (c, σ')) :
    Calls Try.prog 33 #[.pointer (some ⟨g, 0, none⟩), .string ⟨nm.toArray⟩, .int .i64 n, .string ⟨s.toArray⟩] w fun e w' => e = .returned (.int .i64 c) ∧ KD w0 w' g σ' := by
  obtain ⟨F, h1, h2, h3⟩ := h
  refine (spoil_c h1 nm s hl hs n hn1).mono ?_
  rw [hm]
  rintro e w' ⟨rfl, h⟩
  exact ⟨rfl, KD.dkS h2 h3 h⟩
theorem KD.cut (h : KD w0 w g σ) (nm : List UInt8) (hl : nm.length ≤ 9223372036854775807) (n : Int) (hn1 : n ≤ 9223372036854775807) {c : Int} (hm : cutM σ nm n = (c, σ')) :
    Calls Try.prog 34 #[.pointer (some ⟨g, 0, none⟩), .string ⟨nm.toArray⟩, .int .i64 n] w fun e w' => e = .returned (.int .i64 c) ∧ KD w0 w' g σ' := by
  obtain ⟨F, h1, h2, h3⟩ := h
  refine (cutD_c h1 nm hl n hn1).mono ?_
  rw [hm]
  rintro e w' ⟨rfl, h⟩
  exact ⟨rfl, KD.dkS h2 h3 h⟩
theorem KD.size (h : KD w0 w g σ) (nm : List UInt8) (hl : nm.length ≤ 9223372036854775807) {n c : Int} (hm : sizeM σ nm = (n, c)) :
    Calls Try.prog 32 #[.pointer (some ⟨g, 0, none⟩), .string ⟨nm.toArray⟩] w fun e w' => e = .returned (.tuple #[.int .i64 n, .int .i64 c]) ∧ w = w' := by
  obtain ⟨F, h1, h2, h3⟩ := h
  have := size_c h1 nm hl
  rwa [hm] at this
theorem KD.up (h : KD w0 w g σ) {b : Bool} (hm : σ.down = !b) : Calls Try.prog 26 #[.pointer (some ⟨g, 0, none⟩)] w fun e w' => e = .returned (.bool b) ∧ w = w' := by
  obtain ⟨F, h1, h2, h3⟩ := h
  have := up_c h1
  rw [hm, Bool.not_not] at this
  exact this
theorem KD.free (h : KD w0 w g σ) {n : Int} (hm : freeM σ = n) : Calls Try.prog 28 #[.pointer (some ⟨g, 0, none⟩)] w fun e w' => e = .returned (.int .i64 n) ∧ Ext w w' := by
  obtain ⟨F, h1, h2, h3⟩ := h
  have := free_c h1
  rwa [hm] at this
theorem KD.reads (h : KD w0 w g σ) {n : Int} (hm : σ.reads = n) : Calls Try.prog 30 #[.pointer (some ⟨g, 0, none⟩)] w fun e w' => e = .returned (.int .i64 n) ∧ w = w' := by
  obtain ⟨F, h1, h2, h3⟩ := h
  have := reads_c h1
  rwa [hm] at this
/-- a crash, nothing kept -/
theorem KD.crash0 (h : KD w0 w g σ) {c : Int} (hm : crashD σ [] = (c, σ')) :
    Calls Try.prog 27 #[.pointer (some ⟨g, 0, none⟩), .slice none 0 0] w fun e w' => e = .returned (.int .i64 c) ∧ KD w0 w' g σ' := by
  obtain ⟨F, h1, h2, h3⟩ := h
  refine (crashD_c h1 none 0 0 [] fun W _ => Ints.empty W).mono ?_
  rw [hm]
  rintro e w' ⟨rfl, h⟩
  exact ⟨rfl, KD.dkS h2 h3 h⟩
/-- .. a list that was just laid -/
theorem KD.crash1 (h : KD w0 w g σ) (k : Int) {c : Int} (hm : crashD σ [k] = (c, σ')) :
    Calls Try.prog 27 #[.pointer (some ⟨g, 0, none⟩), .slice (some ⟨w.heap.size, 0, none⟩) 1 1] (w.alloc (.cells #[.int .i64 k] 3)) fun e w' => e = .returned (.int .i64 c) ∧ KD w0 w' g σ' := by
  obtain ⟨F, h1, h2, h3⟩ := h
  have hlt : ∀ i, F i → i < w.heap.size := by obtain ⟨_, _, _, _, _, _, h⟩ := h1; exact h
  have hi : Ints (w.alloc (.cells #[.int .i64 k] 3)) (some ⟨w.heap.size, 0, none⟩) 1 1 [k] := ⟨rfl, Nat.le_refl _, by omega, (fun h => by cases h), Rd.lit w #[.int .i64 k] 3⟩
  refine (crashD_c (h1.ext (ext_a1 _ _)) _ 1 1 [k] (hi.off fun a e hf => by cases e; have := hlt _ hf; simp at this)).mono ?_
  rw [hm]
  rintro e w' ⟨rfl, h⟩
  exact ⟨rfl, KD.dkS h2 (h3.trans (ext_a1 _ _)) h⟩
theorem KD.fail0 (h : KD w0 w g σ) (n : Int) (hn1 : n ≤ 9223372036854775807) {c : Int} (hm : failD σ n [] = (c, σ')) :
    Calls Try.prog 25 #[.pointer (some ⟨g, 0, none⟩), .int .i64 n, .slice none 0 0] w fun e w' => e = .returned (.int .i64 c) ∧ KD w0 w' g σ' := by
  obtain ⟨F, h1, h2, h3⟩ := h
  refine (fail_c h1 n hn1 (Ints.empty w) (by omega)).mono ?_
  rw [hm]
  rintro e w' ⟨rfl, h⟩
  exact ⟨rfl, KD.dkS h2 h3 h⟩
theorem KD.fail1 (h : KD w0 w g σ) (n k : Int) (hn1 : n ≤ 9223372036854775807) {c : Int} (hm : failD σ n [k] = (c, σ')) :
    Calls Try.prog 25 #[.pointer (some ⟨g, 0, none⟩), .int .i64 n, .slice (some ⟨w.heap.size, 0, none⟩) 1 1] (w.alloc (.cells #[.int .i64 k] 3)) fun e w' => e = .returned (.int .i64 c) ∧ KD w0 w' g σ' := by
  obtain ⟨F, h1, h2, h3⟩ := h
  have hi : Ints (w.alloc (.cells #[.int .i64 k] 3)) (some ⟨w.heap.size, 0, none⟩) 1 1 [k] := ⟨rfl, Nat.le_refl _, by omega, (fun h => by cases h), Rd.lit w #[.int .i64 k] 3⟩
  refine (fail_c (h1.ext (ext_a1 _ _)) n hn1 hi (by omega)).mono ?_
  rw [hm]
  rintro e w' ⟨rfl, h⟩
  exact ⟨rfl, KD.dkS h2 (h3.trans (ext_a1 _ _)) h⟩
theorem KD.loose (h : KD w0 w g σ) : Calls Try.prog 49 #[.pointer (some ⟨g, 0, none⟩)] w (RetI 3 w (looseM σ)) := by
  obtain ⟨F, h1, h2, h3⟩ := h
  exact unsynced_c h1
theorem KD.names (h : KD w0 w g σ) : Calls Try.prog 48 #[.pointer (some ⟨g, 0, none⟩)] w (RetN w (namesM σ)) := by
  obtain ⟨F, ⟨ho, m, kv, L, hi, _⟩, h2, h3⟩ := h
  have := ho.many
  have hl : L.length = σ.L.length := by rw [← hi.files, List.length_map]
  have hn := names_c w g m L hi.c0 hi.c3 hi.fs (by omega)
  have e : L.map FE.nm = namesM σ := by unfold namesM; rw [← hi.files, List.map_map]; rfl
  rwa [e] at hn
end

theorem RetI.out {t : TypeId} {w w' : World} {xs : List Int} {e : Ending} (h : RetI t w xs e w') : ∃ a c, e = .returned (.slice a xs.length c) ∧ Ints w' a xs.length c xs ∧ Ext w w' := by
  obtain ⟨v, rfl, ho, hb⟩ := h
  obtain ⟨a, c, rfl, hi⟩ := own_ints ho
  exact ⟨a, c, rfl, hi, hb⟩

set_option maxRecDepth 100000
set_option linter.unusedVariables false
set_option maxHeartbeats 1600000

/-- 'Ints' -/
theorem eqInts_c {w : World} {a b : Option Addr} {n m ca cb : Nat} {xs ys : List Int} (hx : Ints w a n ca xs) (hy : Ints w b m cb ys) :
    Calls Try.prog 13 #[.slice a n ca, .slice b m cb] w fun e w' => e = .returned (.bool (decide (xs = ys))) ∧ Ext w w' := by
  by_cases hl : n = m
  case neg =>
    have HM : Hid (decide (xs = ys) = false) := Lib.hid (by rw [decide_eq_false_iff_not]; intro e; apply hl; rw [← hx.len, ← hy.len, e])
    have hn1 : n ≤ 9223372036854775807 := Nat.le_trans hx.fits hx.bound
    have hm1 : m ≤ 9223372036854775807 := Nat.le_trans hy.fits hy.bound
    have hnz : ¬ (n : Int) = (m : Int) := by omega
    have hne : ((n : Int) == (m : Int)) = false := by simp [hnz]
    have hne' : ((n : Int) != (m : Int)) = true := by simp [hnz]
    clear hnz
    clear hx hy hl
    go_enter Try.func13, Try.ntmps13
    go_wp2_with fail
    go_ret
    rw [HM.out]
    exact ⟨rfl, Ext.refl _⟩
  case pos =>
    subst hl
    have HX := Lib.hid hx; have HY := Lib.hid hy
    have hn1 : n ≤ 9223372036854775807 := Nat.le_trans hx.fits hx.bound
    have HLx := Lib.hid hx.len; have HLy := Lib.hid hy.len
    clear hx hy
    go_enter Try.func13, Try.ntmps13
    go_wp2_with fail
    go_loopw [5] (fun i wr => ∃ k : Nat, k ≤ n ∧ i = .int .i64 k ∧ xs.take k = ys.take k ∧ Ext w wr) (fun i _ => n - (intOf i).toNat)
    case atStart => exact ⟨0, Nat.zero_le _, rfl, by simp, Ext.refl _⟩
    case round =>
      obtain ⟨k, hk, rfl, he, hb⟩ := hrel
      have HE := Lib.hid he; have HB := Lib.hid hb
      by_cases hlt : k < n
      · obtain ⟨b1, o1, rfl, hc1⟩ := (HX.out.ext hb).at hlt
        obtain ⟨b2, o2, rfl, hc2⟩ := (HY.out.ext hb).at hlt
        have HT1 := Lib.hid (take_succ_getD xs 0 k (by rw [HLx.out]; exact hlt))
        have HT2 := Lib.hid (take_succ_getD ys 0 k (by rw [HLy.out]; exact hlt))
        obtain ⟨x, hx⟩ : ∃ x, xs.getD k 0 = x := ⟨_, rfl⟩
        obtain ⟨y, hy⟩ : ∃ y, ys.getD k 0 = y := ⟨_, rfl⟩
        rw [hx] at hc1 HT1
        rw [hy] at hc2 HT2
        have Hx := Lib.hid hx; have Hy := Lib.hid hy
        clear hx hy he hb
        by_cases hxy : x = y
        · subst hxy
          go_wp2_with fail
          go_quiet (fail)
          go_wp2_with fail
          go_roundw
          case rel => exact ⟨k + 1, by omega, by go_num, by rw [HT1.out, HT2.out, HE.out], HB.out.drewN _⟩
          case measure => simp [intOf]; omega
        · have HM : Hid (decide (xs = ys) = false) := Lib.hid (by rw [decide_eq_false_iff_not]; intro e; apply hxy; rw [← Hx.out, ← Hy.out, e])
          have hne : (x == y) = false := by simpa using hxy
          have hne' : (x != y) = true := by simpa using hxy
          go_wp2_with fail
          go_quiet (fail)
          go_wp2_with fail
          go_ret
          rw [HM.out]
          exact ⟨rfl, HB.out.drewN _⟩
      · have HM : Hid (decide (xs = ys) = true) := Lib.hid (by
          rw [decide_eq_true_eq]
          have e1 := he
          rw [List.take_of_length_le (by rw [HLx.out]; omega), List.take_of_length_le (by rw [HLy.out]; omega)] at e1
          exact e1)
        clear he hb
        go_wp2_with fail
        go_ret
        rw [HM.out]
        exact ⟨rfl, HB.out⟩

end Go.Proofs.Ytjllhjlmjbpinaa
namespace Go.Proofs.Ytjllhjlmjbpinaa
open Go.RowKit

set_option maxRecDepth 100000
set_option linter.unusedVariables false
set_option maxHeartbeats 3200000

theorem sinks_c (w : World) : Calls Try.prog 7 #[] w fun e w' => e = .returned (.bool true) ∧ Ext w w' := by
  go_enter Try.func7, Try.ntmps7
  go_wp2_with fail
  refine (KD.new w 5 (by decide) (by decide) (Ext.refl _)).mono ?_
  rintro e w' ⟨g, rfl, hk⟩
  have HK := Lib.hid hk
  clear hk
  go_wp2_with fail
  refine (KD.create HK.out [97] (by decide) (c := 0) (σ' := ⟨5, [⟨[97], [], 0⟩], 0, 0, false, false, 0, []⟩) (by kernel_rfl)).mono ?_
  rintro e w' ⟨rfl, hk⟩
  have HK := Lib.hid hk
  clear hk
  go_wp2_with fail
  refine (KD.append HK.out [97] [120, 121, 122] (by decide) (by decide) (c := 0) (σ' := ⟨5, [⟨[97], [120, 121, 122], 0⟩], 0, 0, false, false, 0, []⟩) (by kernel_rfl)).mono ?_
  rintro e w' ⟨rfl, hk⟩
  have HK := Lib.hid hk
  clear hk
  go_wp2_with fail
  refine (KD.append HK.out [97] [117, 118, 119] (by decide) (by decide) (c := 60) (σ' := ⟨5, [⟨[97], [120, 121, 122], 0⟩], 0, 0, false, false, 0, []⟩) (by kernel_rfl)).mono ?_
  rintro e w' ⟨rfl, hk⟩
  have HK := Lib.hid hk
  clear hk
  go_wp2_with fail
  refine (KD.append HK.out [98] [120] (by decide) (by decide) (c := 4) (σ' := ⟨5, [⟨[97], [120, 121, 122], 0⟩], 0, 0, false, false, 0, []⟩) (by kernel_rfl)).mono ?_
  rintro e w' ⟨rfl, hk⟩
  have HK := Lib.hid hk
  clear hk
  go_wp2_with fail
  refine (KD.free HK.out (n := 2) (by kernel_rfl)).mono ?_
  rintro e w' ⟨rfl, hx⟩
  have HK := Lib.hid (HK.out.ext hx)
  clear hx
  go_wp2_with fail
  refine (KD.read HK.out [97] 1 2 (by decide) (by decide) (by decide) (by decide) (by decide) (s := [121, 122]) (c := 0) (σ' := ⟨5, [⟨[97], [120, 121, 122], 0⟩], 1, 0, false, false, 0, []⟩) (by kernel_rfl)).mono ?_
  rintro e w' ⟨rfl, hk⟩
  have HK := Lib.hid hk
  clear hk
  go_wp2_with fail
  refine (KD.read HK.out [97] 2 2 (by decide) (by decide) (by decide) (by decide) (by decide) (s := []) (c := 2) (σ' := ⟨5, [⟨[97], [120, 121, 122], 0⟩], 2, 0, false, false, 0, []⟩) (by kernel_rfl)).mono ?_
  rintro e w' ⟨rfl, hk⟩
  have HK := Lib.hid hk
  clear hk
  go_wp2_with fail
  refine (KD.reads HK.out (n := 2) (by kernel_rfl)).mono ?_
  rintro e w' ⟨rfl, rfl⟩
  go_wp2_with fail
  refine (KD.sync HK.out [97] (by decide) (c := 0) (σ' := ⟨5, [⟨[97], [120, 121, 122], 3⟩], 2, 0, false, false, 0, []⟩) (by kernel_rfl)).mono ?_
  rintro e w' ⟨rfl, hk⟩
  have HK := Lib.hid hk
  clear hk
  go_wp2_with fail
  refine (KD.append HK.out [97] [117, 118] (by decide) (by decide) (c := 0) (σ' := ⟨5, [⟨[97], [120, 121, 122, 117, 118], 3⟩], 2, 0, false, false, 0, []⟩) (by kernel_rfl)).mono ?_
  rintro e w' ⟨rfl, hk⟩
  have HK := Lib.hid hk
  clear hk
  go_wp2_with fail
  refine (KD.crash1 HK.out 1 (c := 0) (σ' := ⟨5, [⟨[97], [120, 121, 122, 117], 4⟩], 2, 0, true, false, 0, []⟩) (by kernel_rfl)).mono ?_
  rintro e w' ⟨rfl, hk⟩
  have HK := Lib.hid hk
  clear hk
  go_wp2_with fail
  refine (KD.start HK.out (c := 0) (σ' := ⟨5, [⟨[97], [120, 121, 122, 117], 4⟩], 2, 1, false, false, 0, []⟩) (by kernel_rfl)).mono ?_
  rintro e w' ⟨rfl, hk⟩
  have HK := Lib.hid hk
  clear hk
  go_wp2_with fail
  refine (KD.size HK.out [97] (by decide) (n := 4) (c := 0) (by kernel_rfl)).mono ?_
  rintro e w' ⟨rfl, rfl⟩
  go_wp2_with fail
  refine (KD.fail0 HK.out 0 (by decide) (c := 0) (σ' := ⟨5, [⟨[97], [120, 121, 122, 117], 4⟩], 2, 1, false, true, 0, []⟩) (by kernel_rfl)).mono ?_
  rintro e w' ⟨rfl, hk⟩
  have HK := Lib.hid hk
  clear hk
  go_wp2_with fail
  refine (KD.append HK.out [97] [116] (by decide) (by decide) (c := 61) (σ' := ⟨5, [⟨[97], [120, 121, 122, 117], 4⟩], 2, 1, true, false, 0, []⟩) (by kernel_rfl)).mono ?_
  rintro e w' ⟨rfl, hk⟩
  have HK := Lib.hid hk
  clear hk
  go_wp2_with fail
  refine (KD.up HK.out (b := false) (by kernel_rfl)).mono ?_
  rintro e w' ⟨rfl, rfl⟩
  go_wp2_with fail
  refine (KD.start HK.out (c := 0) (σ' := ⟨5, [⟨[97], [120, 121, 122, 117], 4⟩], 2, 2, false, false, 0, []⟩) (by kernel_rfl)).mono ?_
  rintro e w' ⟨rfl, hk⟩
  have HK := Lib.hid hk
  clear hk
  go_wp2_with fail
  refine (KD.size HK.out [97] (by decide) (n := 4) (c := 0) (by kernel_rfl)).mono ?_
  rintro e w' ⟨rfl, rfl⟩
  go_wp2_with fail
  refine (KD.spoil HK.out [97] [120, 120] (by decide) (by decide) 3 (by decide) (c := 0) (σ' := ⟨5, [⟨[97], [120, 121, 122, 120], 4⟩], 2, 2, false, false, 0, []⟩) (by kernel_rfl)).mono ?_
  rintro e w' ⟨rfl, hk⟩
  have HK := Lib.hid hk
  clear hk
  go_wp2_with fail
  refine (KD.read HK.out [97] 0 4 (by decide) (by decide) (by decide) (by decide) (by decide) (s := [120, 121, 122, 120]) (c := 0) (σ' := ⟨5, [⟨[97], [120, 121, 122, 120], 4⟩], 3, 2, false, false, 0, []⟩) (by kernel_rfl)).mono ?_
  rintro e w' ⟨rfl, hk⟩
  have HK := Lib.hid hk
  clear hk
  go_wp2_with fail
  refine (KD.cut HK.out [97] (by decide) 1 (by decide) (c := 0) (σ' := ⟨5, [⟨[97], [120], 1⟩], 3, 2, false, false, 0, []⟩) (by kernel_rfl)).mono ?_
  rintro e w' ⟨rfl, hk⟩
  have HK := Lib.hid hk
  clear hk
  go_wp2_with fail
  refine (KD.size HK.out [97] (by decide) (n := 1) (c := 0) (by kernel_rfl)).mono ?_
  rintro e w' ⟨rfl, rfl⟩
  go_wp2_with fail
  go_ret
  exact ⟨rfl, HK.out.base⟩

end Go.Proofs.Ytjllhjlmjbpinaa
namespace Go.Proofs.Ytjllhjlmjbpinaa
open Go.RowKit

/-- a disk of one file -/
def one (f : FM) (c r s : Int) (dn : Bool) : DM := ⟨c, [f], r, s, dn, false, 0, []⟩

theorem find_one {f : FM} {nm : List UInt8} (h : f.nm = nm) : findN FM.nm nm [f] = some f := by simp [findN, h]
theorem upd_one {f : FM} {nm : List UInt8} (h : f.nm = nm) (k : FM → FM) : updN FM.nm nm k [f] = [k f] := by simp [updN, h]
theorem used_one (f : FM) : usedM [f] = f.da.length := by simp [usedM, sumN]

theorem one_append {f : FM} {nm : List UInt8} (h : f.nm = nm) {c r s : Int} {t : List UInt8} (hc : (f.da.length : Int) + t.length ≤ c) : appendM (one f c r s false) nm t = (0, one { f with da := f.da ++ t } c r s false) := by
  unfold appendM one
  simp only [find_one h, used_one, Bool.false_eq_true, if_false, Option.isNone_some, failsM, Bool.false_and]
  rw [if_neg (by omega)]
  simp [tickM, appM, upd_one h]
  decide
theorem one_append_down (f : FM) (c r s : Int) (nm t : List UInt8) : appendM (one f c r s true) nm t = (61, one f c r s true) := rfl
theorem one_sync {f : FM} {nm : List UInt8} (h : f.nm = nm) (c r s : Int) : syncM (one f c r s false) nm = (0, one { f with sy := f.da.length } c r s false) := by
  unfold syncM one
  simp [find_one h, failsM, tickM, upd_one h]
  decide
theorem one_crash (f : FM) (c r s k : Int) : crashD (one f c r s false) [k] = (0, one (crashF f k) c r s true) := rfl
theorem one_crash_down (f : FM) (c r s : Int) : crashD (one f c r s true) [] = (61, one f c r s true) := rfl
theorem one_start (f : FM) (c r s : Int) : startM (one f c r s true) = (0, one f c r (wrap64 (s + 1)) false) := rfl
theorem one_read {f : FM} {nm : List UInt8} (h : f.nm = nm) (c r s : Int) {n : Int} (hn : n = (f.da.length : Int)) : readM (one f c r s false) nm 0 n = (f.da, 0, one f c (wrap64 (r + 1)) s false) := by
  unfold readM one
  simp only [find_one h, Bool.false_eq_true, if_false]
  rw [if_pos (by omega)]
  subst hn
  simp [tellM]
theorem one_size {f : FM} {nm : List UInt8} (h : f.nm = nm) (c r s : Int) : sizeM (one f c r s false) nm = ((f.da.length : Int), 0) := by
  unfold sizeM one
  simp [find_one h]
theorem lit_ints (w : World) (k : Int) : Ints (w.alloc (.cells #[.int .i64 k] 3)) (some ⟨w.heap.size, 0, none⟩) 1 1 [k] := ⟨rfl, Nat.le_refl _, by omega, (fun h => by cases h), Rd.lit w #[.int .i64 k] 3⟩
theorem KD.loose' {w0 w : World} {g : Nat} {σ : DM} (h : KD w0 w g σ) {xs : List Int} (hm : looseM σ = xs) : Calls Try.prog 49 #[.pointer (some ⟨g, 0, none⟩)] w (RetI 3 w xs) := hm ▸ h.loose
theorem one_loose (f : FM) (c r s : Int) (d : Bool) : looseM (one f c r s d) = [(f.da.length : Int) - (f.sy : Int)] := rfl

set_option maxRecDepth 100000
set_option linter.unusedVariables false
set_option maxHeartbeats 3200000

end Go.Proofs.Ytjllhjlmjbpinaa
