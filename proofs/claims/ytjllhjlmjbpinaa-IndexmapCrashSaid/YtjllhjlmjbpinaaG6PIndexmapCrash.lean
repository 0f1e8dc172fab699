/- Walks: a disk of the law's own; whether two lists of numbers are the same. Walks: the chapter's disk. Walks: the law DiskCrash. Walks: great levels, a number among some, the first place of a number. Walks: all tables, by levels. Plain laws on levels: no program here. -/
import Derived.Test.YtjllhjlmjbpinaaG5PIndexmapCrash
import Derived.Test.YtjllhjlmjbpinaaChecked
import Derived.Test.YtjllhjlmjbpinaaG1PIndexmapCrash
namespace Go.Proofs.Ytjllhjlmjbpinaa
open Go.RowKit

theorem Ints.off {F : Nat → Prop} {w : World} {ka : Option Addr} {kn kc : Nat} {xs : List Int} (h : Ints w ka kn kc xs) (hn : ∀ a, ka = some a → ¬ F a.block) : ∀ W, OffS F w W → Ints W ka kn kc xs := fun W hW => by
  refine ⟨h.len, h.fits, h.bound, h.nil, fun j u hj => ?_⟩
  obtain ⟨b, off, e, hc⟩ := h.rd j u hj
  refine ⟨b, off, e, ?_⟩
  have hb := hW.block b (World.block_lt_of_cell? (h := hc)) (hn _ e)
  simp only [World.cell?, hb] at hc ⊢
  exact hc

theorem crashD_c {w : World} {g : Nat} {F : Nat → Prop} {σ : DM} (h : Dk w g F σ) (ka : Option Addr) (kn kc : Nat) (xs : List Int) (hkeep : ∀ W, OffS F w W → Ints W ka kn kc xs) :
    Calls Try.prog 27 #[.pointer (some ⟨g, 0, none⟩), .slice ka kn kc] w fun e w' => e = .returned (.int .i64 (crashD σ xs).1) ∧ DkS w g F (crashD σ xs).2 w' := by
  obtain ⟨ho, m, kv, L, hi, hin, hlt⟩ := h
  have fin : ∀ σ' w', Fin w g m kv L σ' w' → DkS w g F σ' w' := fun σ' w' ⟨ho', m', kv', L', hi', hin', hoff⟩ => DkS.mk' hin hlt ho' hi' hoff hin'
  cases hd : σ.down with
  | true =>
    have c6 := hi.c6
    rw [hd] at c6
    have hM : crashD σ xs = (61, σ) := by unfold crashD; rw [if_pos hd]
    refine (crash_down w g hi.c0 c6 _).mono ?_
    rintro e w' ⟨rfl, rfl⟩
    rw [hM]
    exact ⟨rfl, fin _ _ (Fin.same ho hi)⟩
  | false =>
    have hM : crashD σ xs = (0, crashM σ xs) := by unfold crashD; rw [if_neg (by rw [hd]; decide)]
    refine (crash_c hi ho hd ka kn kc xs fun W hW => hkeep W (hW.mono fun i _ hm => hin i hm.inD)).mono ?_
    rintro e w' ⟨rfl, L', h1, h2, h3⟩
    rw [hM]
    refine ⟨rfl, fin _ _ ⟨crash_ok ho xs, m, _, L', h1, fun i hx => ?_, h3.inD⟩⟩
    rcases hx with h4 | h4 | h4
    · exact .inl (.inl h4)
    · exact .inl (.inr (.inl (h2 i h4)))
    · cases h4

/-- a disk that was made since w0 -/
def KD (w0 w : World) (g : Nat) (σ : DM) : Prop := ∃ F, Dk w g F σ ∧ (∀ i, F i → w0.heap.size ≤ i) ∧ Ext w0 w

section
variable {w0 w w' : World} {g : Nat} {σ σ' : DM}
theorem KD.ext (h : KD w0 w g σ) (k : Ext w w') : KD w0 w' g σ := by
  obtain ⟨F, h1, h2, h3⟩ := h
  exact ⟨F, h1.ext k, h2, h3.trans k⟩
theorem KD.base (h : KD w0 w g σ) : Ext w0 w := by obtain ⟨F, h1, h2, h3⟩ := h; exact h3
theorem KD.dkS {F : Nat → Prop} (h2 : ∀ i, F i → w0.heap.size ≤ i) (h3 : Ext w0 w) (h : DkS w g F σ' w') : KD w0 w' g σ' :=
  ⟨Gr F w w', h.dk, fun i hi => Gr.ge h2 h3.size hi, h.off.ext h3 h2⟩
theorem KD.new (w0 : World) (c : Int) (h0 : 0 ≤ c) (h1 : c ≤ 1048576) {w : World} (hx : Ext w0 w) : Calls Try.prog 8 #[.int .i64 c] w fun e w' => ∃ g, e = .returned (.tuple #[.pointer (some ⟨g, 0, none⟩), .int .i64 0]) ∧ KD w0 w' g (newM c) := by
  refine (new_c w c h0 h1).mono ?_
  rintro e w' ⟨g, F, rfl, h1, h2, h3⟩
  exact ⟨g, rfl, F, h1, fun i hi => Nat.le_trans hx.size (h2 i hi), hx.trans h3⟩
theorem KD.create (h : KD w0 w g σ) (nm : List UInt8) (hl : nm.length ≤ 9223372036854775807) {c : Int} (hm : createM σ nm = (c, σ')) :
    Calls Try.prog 18 #[.pointer (some ⟨g, 0, none⟩), .string ⟨nm.toArray⟩] w fun e w' => e = .returned (.int .i64 c) ∧ KD w0 w' g σ' := by
  obtain ⟨F, h1, h2, h3⟩ := h
  refine (create_c h1 nm hl).mono ?_
  rw [hm]
  rintro e w' ⟨rfl, h⟩
  exact ⟨rfl, KD.dkS h2 h3 h⟩
theorem KD.append (h : KD w0 w g σ) (nm s : List UInt8) (hl : nm.length ≤ 9223372036854775807) (hs : s.length ≤ 9223372036854775807) {c : Int} (hm : appendM σ nm s = (c, σ')) :
    Calls Try.prog 19 #[.pointer (some ⟨g, 0, none⟩), .string ⟨nm.toArray⟩, .string ⟨s.toArray⟩] w fun e w' => e = .returned (.int .i64 c) ∧ KD w0 w' g σ' := by
  obtain ⟨F, h1, h2, h3⟩ := h
  refine (append_c h1 nm s hl hs).mono ?_
  rw [hm]
  rintro e w' ⟨rfl, h⟩
  exact ⟨rfl, KD.dkS h2 h3 h⟩
theorem KD.read (h : KD w0 w g σ) (nm : List UInt8) (a n : Int) (hl : nm.length ≤ 9223372036854775807) (ha0 : -9223372036854775808 ≤ a) (ha1 : a ≤ 9223372036854775807) (hn0 : -9223372036854775808 ≤ n) (hn1 : n ≤ 9223372036854775807) {s : List UInt8} {c : Int} (hm : readM σ nm a n = (s, c, σ')) :
    Calls Try.prog 29 #[.pointer (some ⟨g, 0, none⟩), .string ⟨nm.toArray⟩, .int .i64 a, .int .i64 n] w fun e w' => e = .returned (.tuple #[.string ⟨s.toArray⟩, .int .i64 c]) ∧ KD w0 w' g σ' := by
  obtain ⟨F, h1, h2, h3⟩ := h
  refine (read_c h1 nm a n hl ha0 ha1 hn0 hn1).mono ?_
  rw [hm]
  rintro e w' ⟨rfl, h⟩
  exact ⟨rfl, KD.dkS h2 h3 h⟩
theorem KD.sync (h : KD w0 w g σ) (nm : List UInt8) (hl : nm.length ≤ 9223372036854775807) {c : Int} (hm : syncM σ nm = (c, σ')) :
    Calls Try.prog 31 #[.pointer (some ⟨g, 0, none⟩), .string ⟨nm.toArray⟩] w fun e w' => e = .returned (.int .i64 c) ∧ KD w0 w' g σ' := by
  obtain ⟨F, h1, h2, h3⟩ := h
  refine (sync_c h1 nm hl).mono ?_
  rw [hm]
  rintro e w' ⟨rfl, h⟩
  exact ⟨rfl, KD.dkS h2 h3 h⟩
theorem KD.delete (h : KD w0 w g σ) (nm : List UInt8) (hl : nm.length ≤ 9223372036854775807) {c : Int} (hm : deleteM σ nm = (c, σ')) :
    Calls Try.prog 40 #[.pointer (some ⟨g, 0, none⟩), .string ⟨nm.toArray⟩] w fun e w' => e = .returned (.int .i64 c) ∧ KD w0 w' g σ' := by
  obtain ⟨F, h1, h2, h3⟩ := h
  refine (delete_c h1 nm hl).mono ?_
  rw [hm]
  rintro e w' ⟨rfl, h⟩
  exact ⟨rfl, KD.dkS h2 h3 h⟩
theorem KD.rename (h : KD w0 w g σ) (a b : List UInt8) (hla : a.length ≤ 9223372036854775807) (hlb : b.length ≤ 9223372036854775807) {c : Int} (hm : renameM σ a b = (c, σ')) :
    Calls Try.prog 38 #[.pointer (some ⟨g, 0, none⟩), .string ⟨a.toArray⟩, .string ⟨b.toArray⟩] w fun e w' => e = .returned (.int .i64 c) ∧ KD w0 w' g σ' := by
  obtain ⟨F, h1, h2, h3⟩ := h
  refine (rename_c h1 a b hla hlb).mono ?_
  rw [hm]
  rintro e w' ⟨rfl, h⟩
  exact ⟨rfl, KD.dkS h2 h3 h⟩
theorem KD.start (h : KD w0 w g σ) {c : Int} (hm : startM σ = (c, σ')) :
    Calls Try.prog 14 #[.pointer (some ⟨g, 0, none⟩)] w fun e w' => e = .returned (.int .i64 c) ∧ KD w0 w' g σ' := by
  obtain ⟨F, h1, h2, h3⟩ := h
  refine (start_c h1).mono ?_
  rw [hm]
  rintro e w' ⟨rfl, h⟩
  exact ⟨rfl, KD.dkS h2 h3 h⟩
theorem KD.spoil (h : KD w0 w g σ) (nm s : List UInt8) (hl : nm.length ≤ 9223372036854775807) (hs : s.length ≤ 9223372036854775807) (n : Int) (hn1 : n ≤ 9223372036854775807) {c : Int} (hm : spoilM σ nm n s = (c, σ')) :
    Calls Try.prog 33 #[.pointer (some ⟨g, 0, none⟩), .string ⟨nm.toArray⟩, .int .i64 n, .string ⟨s.toArray⟩] w fun e w' => e = .returned (.int .i64 c) ∧ KD w0 w' g σ' := by
  obtain ⟨F, h1, h2, h3⟩ := h
  refine (spoil_c h1 nm s hl hs n hn1).mono ?_
  rw [hm]
  rintro e w' ⟨rfl, h⟩
  exact ⟨rfl, KD.dkS h2 h3 h⟩
theorem KD.cut (h : KD w0 w g σ) (nm : List UInt8) (hl : nm.length ≤ 9223372036854775807) (n : Int) (hn1 : n ≤ 9223372036854775807) {c : Int} (hm : cutM σ nm n = (c, σ')) :
    Calls Try.prog 34 #[.pointer (some ⟨g, 0, none⟩), .string ⟨nm.toArray⟩, .int .i64 n] w fun e w' => e = .returned (.int .i64 c) ∧ KD w0 w' g σ' := by
  obtain ⟨F, h1, h2, h3⟩ := h
  refine (cutD_c h1 nm hl n hn1).mono ?_
  rw [hm]
  rintro e w' ⟨rfl, h⟩
  exact ⟨rfl, KD.dkS h2 h3 h⟩
theorem KD.size (h : KD w0 w g σ) (nm : List UInt8) (hl : nm.length ≤ 9223372036854775807) {n c : Int} (hm : sizeM σ nm = (n, c)) :
    Calls Try.prog 32 #[.pointer (some ⟨g, 0, none⟩), .string ⟨nm.toArray⟩] w fun e w' => e = .returned (.tuple #[.int .i64 n, .int .i64 c]) ∧ w = w' := by
  obtain ⟨F, h1, h2, h3⟩ := h
  have := size_c h1 nm hl
  rwa [hm] at this
theorem KD.up (h : KD w0 w g σ) {b : Bool} (hm : σ.down = !b) : Calls Try.prog 26 #[.pointer (some ⟨g, 0, none⟩)] w fun e w' => e = .returned (.bool b) ∧ w = w' := by
  obtain ⟨F, h1, h2, h3⟩ := h
  have := up_c h1
  rw [hm, Bool.not_not] at this
  exact this
theorem KD.free (h : KD w0 w g σ) {n : Int} (hm : freeM σ = n) : Calls Try.prog 28 #[.pointer (some ⟨g, 0, none⟩)] w fun e w' => e = .returned (.int .i64 n) ∧ Ext w w' := by
  obtain ⟨F, h1, h2, h3⟩ := h
  have := free_c h1
  rwa [hm] at this
theorem KD.reads (h : KD w0 w g σ) {n : Int} (hm : σ.reads = n) : Calls Try.prog 30 #[.pointer (some ⟨g, 0, none⟩)] w fun e w' => e = .returned (.int .i64 n) ∧ w = w' := by
  obtain ⟨F, h1, h2, h3⟩ := h
  have := reads_c h1
  rwa [hm] at this
/-- a crash, nothing kept -/
theorem KD.crash0 (h : KD w0 w g σ) {c : Int} (hm : crashD σ [] = (c, σ')) :
    Calls Try.prog 27 #[.pointer (some ⟨g, 0, none⟩), .slice none 0 0] w fun e w' => e = .returned (.int .i64 c) ∧ KD w0 w' g σ' := by
  obtain ⟨F, h1, h2, h3⟩ := h
  refine (crashD_c h1 none 0 0 [] fun W _ => Ints.empty W).mono ?_
  rw [hm]
  rintro e w' ⟨rfl, h⟩
  exact ⟨rfl, KD.dkS h2 h3 h⟩
/-- .. a list that was just laid -/
theorem KD.crash1 (h : KD w0 w g σ) (k : Int) {c : Int} (hm : crashD σ [k] = (c, σ')) :
    Calls Try.prog 27 #[.pointer (some ⟨g, 0, none⟩), .slice (some ⟨w.heap.size, 0, none⟩) 1 1] (w.alloc (.cells #[.int .i64 k] 3)) fun e w' => e = .returned (.int .i64 c) ∧ KD w0 w' g σ' := by
  obtain ⟨F, h1, h2, h3⟩ := h
  have hlt : ∀ i, F i → i < w.heap.size := by obtain ⟨_, _, _, _, _, _, h⟩ := h1; exact h
  have hi : Ints (w.alloc (.cells #[.int .i64 k] 3)) (some ⟨w.heap.size, 0, none⟩) 1 1 [k] := ⟨rfl, Nat.le_refl _, by omega, (fun h => by cases h), Rd.lit w #[.int .i64 k] 3⟩
  refine (crashD_c (h1.ext (ext_a1 _ _)) _ 1 1 [k] (hi.off fun a e hf => by cases e; have := hlt _ hf; simp at this)).mono ?_
  rw [hm]
  rintro e w' ⟨rfl, h⟩
  exact ⟨rfl, KD.dkS h2 (h3.trans (ext_a1 _ _)) h⟩
theorem KD.fail0 (h : KD w0 w g σ) (n : Int) (hn1 : n ≤ 9223372036854775807) {c : Int} (hm : failD σ n [] = (c, σ')) :
    Calls Try.prog 25 #[.pointer (some ⟨g, 0, none⟩), .int .i64 n, .slice none 0 0] w fun e w' => e = .returned (.int .i64 c) ∧ KD w0 w' g σ' := by
  obtain ⟨F, h1, h2, h3⟩ := h
  refine (fail_c h1 n hn1 (Ints.empty w) (by omega)).mono ?_
  rw [hm]
  rintro e w' ⟨rfl, h⟩
  exact ⟨rfl, KD.dkS h2 h3 h⟩
theorem KD.fail1 (h : KD w0 w g σ) (n k : Int) (hn1 : n ≤ 9223372036854775807) {c : Int} (hm : failD σ n [k] = (c, σ')) :
    Calls Try.prog 25 #[.pointer (some ⟨g, 0, none⟩), .int .i64 n, .slice (some ⟨w.heap.size, 0, none⟩) 1 1] (w.alloc (.cells #[.int .i64 k] 3)) fun e w' => e = .returned (.int .i64 c) ∧ KD w0 w' g σ' := by
  obtain ⟨F, h1, h2, h3⟩ := h
  have hi : Ints (w.alloc (.cells #[.int .i64 k] 3)) (some ⟨w.heap.size, 0, none⟩) 1 1 [k] := ⟨rfl, Nat.le_refl _, by omega, (fun h => by cases h), Rd.lit w #[.int .i64 k] 3⟩
  refine (fail_c (h1.ext (ext_a1 _ _)) n hn1 hi (by omega)).mono ?_
  rw [hm]
  rintro e w' ⟨rfl, h⟩
  exact ⟨rfl, KD.dkS h2 (h3.trans (ext_a1 _ _)) h⟩
theorem KD.loose (h : KD w0 w g σ) : Calls Try.prog 49 #[.pointer (some ⟨g, 0, none⟩)] w (RetI 3 w (looseM σ)) := by
  obtain ⟨F, h1, h2, h3⟩ := h
  exact unsynced_c h1
theorem KD.names (h : KD w0 w g σ) : Calls Try.prog 48 #[.pointer (some ⟨g, 0, none⟩)] w (RetN w (namesM σ)) := by
  obtain ⟨F, ⟨ho, m, kv, L, hi, _⟩, h2, h3⟩ := h
  have := ho.many
  have hl : L.length = σ.L.length := by rw [← hi.files, List.length_map]
  have hn := names_c w g m L hi.c0 hi.c3 hi.fs (by omega)
  have e : L.map FE.nm = namesM σ := by unfold namesM; rw [← hi.files, List.map_map]; rfl
  rwa [e] at hn
end

theorem RetI.out {t : TypeId} {w w' : World} {xs : List Int} {e : Ending} (h : RetI t w xs e w') : ∃ a c, e = .returned (.slice a xs.length c) ∧ Ints w' a xs.length c xs ∧ Ext w w' := by
  obtain ⟨v, rfl, ho, hb⟩ := h
  obtain ⟨a, c, rfl, hi⟩ := own_ints ho
  exact ⟨a, c, rfl, hi, hb⟩

set_option maxRecDepth 100000
set_option linter.unusedVariables false
set_option maxHeartbeats 1600000

/-- 'Ints' -/
theorem eqInts_c {w : World} {a b : Option Addr} {n m ca cb : Nat} {xs ys : List Int} (hx : Ints w a n ca xs) (hy : Ints w b m cb ys) :
    Calls Try.prog 13 #[.slice a n ca, .slice b m cb] w fun e w' => e = .returned (.bool (decide (xs = ys))) ∧ Ext w w' := by
  by_cases hl : n = m
  case neg =>
    have HM : Hid (decide (xs = ys) = false) := Lib.hid (by rw [decide_eq_false_iff_not]; intro e; apply hl; rw [← hx.len, ← hy.len, e])
    have hn1 : n ≤ 9223372036854775807 := Nat.le_trans hx.fits hx.bound
    have hm1 : m ≤ 9223372036854775807 := Nat.le_trans hy.fits hy.bound
    have hnz : ¬ (n : Int) = (m : Int) := by omega
    have hne : ((n : Int) == (m : Int)) = false := by simp [hnz]
    have hne' : ((n : Int) != (m : Int)) = true := by simp [hnz]
    clear hnz
    clear hx hy hl
    go_enter Try.func13, Try.ntmps13
    go_wp2_with fail
    go_ret
    rw [HM.out]
    exact ⟨rfl, Ext.refl _⟩
  case pos =>
    subst hl
    have HX := Lib.hid hx; have HY := Lib.hid hy
    have hn1 : n ≤ 9223372036854775807 := Nat.le_trans hx.fits hx.bound
    have HLx := Lib.hid hx.len; have HLy := Lib.hid hy.len
    clear hx hy
    go_enter Try.func13, Try.ntmps13
    go_wp2_with fail
    go_loopw [5] (fun i wr => ∃ k : Nat, k ≤ n ∧ i = .int .i64 k ∧ xs.take k = ys.take k ∧ Ext w wr) (fun i _ => n - (intOf i).toNat)
    case atStart => exact ⟨0, Nat.zero_le _, rfl, by simp, Ext.refl _⟩
    case round =>
      obtain ⟨k, hk, rfl, he, hb⟩ := hrel
      have HE := Lib.hid he; have HB := Lib.hid hb
      by_cases hlt : k < n
      · obtain ⟨b1, o1, rfl, hc1⟩ := (HX.out.ext hb).at hlt
        obtain ⟨b2, o2, rfl, hc2⟩ := (HY.out.ext hb).at hlt
        have HT1 := Lib.hid (take_succ_getD xs 0 k (by rw [HLx.out]; exact hlt))
        have HT2 := Lib.hid (take_succ_getD ys 0 k (by rw [HLy.out]; exact hlt))
        obtain ⟨x, hx⟩ : ∃ x, xs.getD k 0 = x := ⟨_, rfl⟩
        obtain ⟨y, hy⟩ : ∃ y, ys.getD k 0 = y := ⟨_, rfl⟩
        rw [hx] at hc1 HT1
        rw [hy] at hc2 HT2
        have Hx := Lib.hid hx; have Hy := Lib.hid hy
        clear hx hy he hb
        by_cases hxy : x = y
        · subst hxy
          go_wp2_with fail
          go_quiet (fail)
          go_wp2_with fail
          go_roundw
          case rel => exact ⟨k + 1, by omega, by go_num, by rw [HT1.out, HT2.out, HE.out], HB.out.drewN _⟩
          case measure => simp [intOf]; omega
        · have HM : Hid (decide (xs = ys) = false) := Lib.hid (by rw [decide_eq_false_iff_not]; intro e; apply hxy; rw [← Hx.out, ← Hy.out, e])
          have hne : (x == y) = false := by simpa using hxy
          have hne' : (x != y) = true := by simpa using hxy
          go_wp2_with fail
          go_quiet (fail)
          go_wp2_with fail
          go_ret
          rw [HM.out]
          exact ⟨rfl, HB.out.drewN _⟩
      · have HM : Hid (decide (xs = ys) = true) := Lib.hid (by
          rw [decide_eq_true_eq]
          have e1 := he
          rw [List.take_of_length_le (by rw [HLx.out]; omega), List.take_of_length_le (by rw [HLy.out]; omega)] at e1
          exact e1)
        clear he hb
        go_wp2_with fail
        go_ret
        rw [HM.out]
        exact ⟨rfl, HB.out⟩

end Go.Proofs.Ytjllhjlmjbpinaa
namespace Go.Proofs.Ytjllhjlmjbpinaa
open Go.RowKit

set_option maxRecDepth 100000
set_option linter.unusedVariables false
set_option maxHeartbeats 3200000

theorem sinks_c (w : World) : Calls Try.prog 7 #[] w fun e w' => e = .returned (.bool true) ∧ Ext w w' := by
  go_enter Try.func7, Try.ntmps7
  go_wp2_with fail
  refine (KD.new w 5 (by decide) (by decide) (Ext.refl _)).mono ?_
  rintro e w' ⟨g, rfl, hk⟩
  have HK := Lib.hid hk
  clear hk
  go_wp2_with fail
  refine (KD.create HK.out [97] (by decide) (c := 0) (σ' := ⟨5, [⟨[97], [], 0⟩], 0, 0, false, false, 0, []⟩) (by kernel_rfl)).mono ?_
  rintro e w' ⟨rfl, hk⟩
  have HK := Lib.hid hk
  clear hk
  go_wp2_with fail
  refine (KD.append HK.out [97] [120, 121, 122] (by decide) (by decide) (c := 0) (σ' := ⟨5, [⟨[97], [120, 121, 122], 0⟩], 0, 0, false, false, 0, []⟩) (by kernel_rfl)).mono ?_
  rintro e w' ⟨rfl, hk⟩
  have HK := Lib.hid hk
  clear hk
  go_wp2_with fail
  refine (KD.append HK.out [97] [117, 118, 119] (by decide) (by decide) (c := 60) (σ' := ⟨5, [⟨[97], [120, 121, 122], 0⟩], 0, 0, false, false, 0, []⟩) (by kernel_rfl)).mono ?_
  rintro e w' ⟨rfl, hk⟩
  have HK := Lib.hid hk
  clear hk
  go_wp2_with fail
  refine (KD.append HK.out [98] [120] (by decide) (by decide) (c := 4) (σ' := ⟨5, [⟨[97], [120, 121, 122], 0⟩], 0, 0, false, false, 0, []⟩) (by kernel_rfl)).mono ?_
  rintro e w' ⟨rfl, hk⟩
  have HK := Lib.hid hk
  clear hk
  go_wp2_with fail
  refine (KD.free HK.out (n := 2) (by kernel_rfl)).mono ?_
  rintro e w' ⟨rfl, hx⟩
  have HK := Lib.hid (HK.out.ext hx)
  clear hx
  go_wp2_with fail
  refine (KD.read HK.out [97] 1 2 (by decide) (by decide) (by decide) (by decide) (by decide) (s := [121, 122]) (c := 0) (σ' := ⟨5, [⟨[97], [120, 121, 122], 0⟩], 1, 0, false, false, 0, []⟩) (by kernel_rfl)).mono ?_
  rintro e w' ⟨rfl, hk⟩
  have HK := Lib.hid hk
  clear hk
  go_wp2_with fail
  refine (KD.read HK.out [97] 2 2 (by decide) (by decide) (by decide) (by decide) (by decide) (s := []) (c := 2) (σ' := ⟨5, [⟨[97], [120, 121, 122], 0⟩], 2, 0, false, false, 0, []⟩) (by kernel_rfl)).mono ?_
  rintro e w' ⟨rfl, hk⟩
  have HK := Lib.hid hk
  clear hk
  go_wp2_with fail
  refine (KD.reads HK.out (n := 2) (by kernel_rfl)).mono ?_
  rintro e w' ⟨rfl, rfl⟩
  go_wp2_with fail
  refine (KD.sync HK.out [97] (by decide) (c := 0) (σ' := ⟨5, [⟨[97], [120, 121, 122], 3⟩], 2, 0, false, false, 0, []⟩) (by kernel_rfl)).mono ?_
  rintro e w' ⟨rfl, hk⟩
  have HK := Lib.hid hk
  clear hk
  go_wp2_with fail
  refine (KD.append HK.out [97] [117, 118] (by decide) (by decide) (c := 0) (σ' := ⟨5, [⟨[97], [120, 121, 122, 117, 118], 3⟩], 2, 0, false, false, 0, []⟩) (by kernel_rfl)).mono ?_
  rintro e w' ⟨rfl, hk⟩
  have HK := Lib.hid hk
  clear hk
  go_wp2_with fail
  refine (KD.crash1 HK.out 1 (c := 0) (σ' := ⟨5, [⟨[97], [120, 121, 122, 117], 4⟩], 2, 0, true, false, 0, []⟩) (by kernel_rfl)).mono ?_
  rintro e w' ⟨rfl, hk⟩
  have HK := Lib.hid hk
  clear hk
  go_wp2_with fail
  refine (KD.start HK.out (c := 0) (σ' := ⟨5, [⟨[97], [120, 121, 122, 117], 4⟩], 2, 1, false, false, 0, []⟩) (by kernel_rfl)).mono ?_
  rintro e w' ⟨rfl, hk⟩
  have HK := Lib.hid hk
  clear hk
  go_wp2_with fail
  refine (KD.size HK.out [97] (by decide) (n := 4) (c := 0) (by kernel_rfl)).mono ?_
  rintro e w' ⟨rfl, rfl⟩
  go_wp2_with fail
  refine (KD.fail0 HK.out 0 (by decide) (c := 0) (σ' := ⟨5, [⟨[97], [120, 121, 122, 117], 4⟩], 2, 1, false, true, 0, []⟩) (by kernel_rfl)).mono ?_
  rintro e w' ⟨rfl, hk⟩
  have HK := Lib.hid hk
  clear hk
  go_wp2_with fail
  refine (KD.append HK.out [97] [116] (by decide) (by decide) (c := 61) (σ' := ⟨5, [⟨[97], [120, 121, 122, 117], 4⟩], 2, 1, true, false, 0, []⟩) (by kernel_rfl)).mono ?_
  rintro e w' ⟨rfl, hk⟩
  have HK := Lib.hid hk
  clear hk
  go_wp2_with fail
  refine (KD.up HK.out (b := false) (by kernel_rfl)).mono ?_
  rintro e w' ⟨rfl, rfl⟩
  go_wp2_with fail
  refine (KD.start HK.out (c := 0) (σ' := ⟨5, [⟨[97], [120, 121, 122, 117], 4⟩], 2, 2, false, false, 0, []⟩) (by kernel_rfl)).mono ?_
  rintro e w' ⟨rfl, hk⟩
  have HK := Lib.hid hk
  clear hk
  go_wp2_with fail
  refine (KD.size HK.out [97] (by decide) (n := 4) (c := 0) (by kernel_rfl)).mono ?_
  rintro e w' ⟨rfl, rfl⟩
  go_wp2_with fail
  refine (KD.spoil HK.out [97] [120, 120] (by decide) (by decide) 3 (by decide) (c := 0) (σ' := ⟨5, [⟨[97], [120, 121, 122, 120], 4⟩], 2, 2, false, false, 0, []⟩) (by kernel_rfl)).mono ?_
  rintro e w' ⟨rfl, hk⟩
  have HK := Lib.hid hk
  clear hk
  go_wp2_with fail
  refine (KD.read HK.out [97] 0 4 (by decide) (by decide) (by decide) (by decide) (by decide) (s := [120, 121, 122, 120]) (c := 0) (σ' := ⟨5, [⟨[97], [120, 121, 122, 120], 4⟩], 3, 2, false, false, 0, []⟩) (by kernel_rfl)).mono ?_
  rintro e w' ⟨rfl, hk⟩
  have HK := Lib.hid hk
  clear hk
  go_wp2_with fail
  refine (KD.cut HK.out [97] (by decide) 1 (by decide) (c := 0) (σ' := ⟨5, [⟨[97], [120], 1⟩], 3, 2, false, false, 0, []⟩) (by kernel_rfl)).mono ?_
  rintro e w' ⟨rfl, hk⟩
  have HK := Lib.hid hk
  clear hk
  go_wp2_with fail
  refine (KD.size HK.out [97] (by decide) (n := 1) (c := 0) (by kernel_rfl)).mono ?_
  rintro e w' ⟨rfl, rfl⟩
  go_wp2_with fail
  go_ret
  exact ⟨rfl, HK.out.base⟩

end Go.Proofs.Ytjllhjlmjbpinaa
namespace Go.Proofs.Ytjllhjlmjbpinaa
open Go.RowKit

/-- a disk of one file -/
def one (f : FM) (c r s : Int) (dn : Bool) : DM := ⟨c, [f], r, s, dn, false, 0, []⟩

theorem find_one {f : FM} {nm : List UInt8} (h : f.nm = nm) : findN FM.nm nm [f] = some f := by simp [findN, h]
theorem upd_one {f : FM} {nm : List UInt8} (h : f.nm = nm) (k : FM → FM) : updN FM.nm nm k [f] = [k f] := by simp [updN, h]
theorem used_one (f : FM) : usedM [f] = f.da.length := by simp [usedM, sumN]

theorem one_append {f : FM} {nm : List UInt8} (h : f.nm = nm) {c r s : Int} {t : List UInt8} (hc : (f.da.length : Int) + t.length ≤ c) : appendM (one f c r s false) nm t = (0, one { f with da := f.da ++ t } c r s false) := by
  unfold appendM one
  simp only [find_one h, used_one, Bool.false_eq_true, if_false, Option.isNone_some, failsM, Bool.false_and]
  rw [if_neg (by omega)]
  simp [tickM, appM, upd_one h]
  decide
theorem one_append_down (f : FM) (c r s : Int) (nm t : List UInt8) : appendM (one f c r s true) nm t = (61, one f c r s true) := rfl
theorem one_sync {f : FM} {nm : List UInt8} (h : f.nm = nm) (c r s : Int) : syncM (one f c r s false) nm = (0, one { f with sy := f.da.length } c r s false) := by
  unfold syncM one
  simp [find_one h, failsM, tickM, upd_one h]
  decide
theorem one_crash (f : FM) (c r s k : Int) : crashD (one f c r s false) [k] = (0, one (crashF f k) c r s true) := rfl
theorem one_crash_down (f : FM) (c r s : Int) : crashD (one f c r s true) [] = (61, one f c r s true) := rfl
theorem one_start (f : FM) (c r s : Int) : startM (one f c r s true) = (0, one f c r (wrap64 (s + 1)) false) := rfl
theorem one_read {f : FM} {nm : List UInt8} (h : f.nm = nm) (c r s : Int) {n : Int} (hn : n = (f.da.length : Int)) : readM (one f c r s false) nm 0 n = (f.da, 0, one f c (wrap64 (r + 1)) s false) := by
  unfold readM one
  simp only [find_one h, Bool.false_eq_true, if_false]
  rw [if_pos (by omega)]
  subst hn
  simp [tellM]
theorem one_size {f : FM} {nm : List UInt8} (h : f.nm = nm) (c r s : Int) : sizeM (one f c r s false) nm = ((f.da.length : Int), 0) := by
  unfold sizeM one
  simp [find_one h]
theorem lit_ints (w : World) (k : Int) : Ints (w.alloc (.cells #[.int .i64 k] 3)) (some ⟨w.heap.size, 0, none⟩) 1 1 [k] := ⟨rfl, Nat.le_refl _, by omega, (fun h => by cases h), Rd.lit w #[.int .i64 k] 3⟩
theorem KD.loose' {w0 w : World} {g : Nat} {σ : DM} (h : KD w0 w g σ) {xs : List Int} (hm : looseM σ = xs) : Calls Try.prog 49 #[.pointer (some ⟨g, 0, none⟩)] w (RetI 3 w xs) := hm ▸ h.loose
theorem one_loose (f : FM) (c r s : Int) (d : Bool) : looseM (one f c r s d) = [(f.da.length : Int) - (f.sy : Int)] := rfl

set_option maxRecDepth 100000
set_option linter.unusedVariables false
set_option maxHeartbeats 3200000

end Go.Proofs.Ytjllhjlmjbpinaa
namespace Go.Proofs.Ytjllhjlmjbpinaa
open Go.RowKit

def greatB (L : List (List Int)) : Bool := (L.any fun r => decide (60 < r.length)) || decide (10 < L.length)

theorem any_take_succ {α : Type} (p : α → Bool) (d : α) (L : List α) (k : Nat) (h : k < L.length) (h0 : (L.take k).any p = false) (h1 : p (L.getD k d) = false) : (L.take (k + 1)).any p = false := by
  rw [take_succ_getD L d k h, List.any_append, h0]; simp only [List.any_cons, List.any_nil, h1, Bool.or_self]

theorem any_of_getD {α : Type} (p : α → Bool) (d : α) (L : List α) (k : Nat) (h : k < L.length) (h1 : p (L.getD k d) = true) : L.any p = true := by
  rw [List.any_eq_true]
  refine ⟨L[k], List.getElem_mem h, ?_⟩
  rw [List.getD_eq_getElem?_getD, List.getElem?_eq_getElem h] at h1
  exact h1

theorem any_of_take {α : Type} (p : α → Bool) (L : List α) (n k : Nat) (hn : L.length = n) (hk : n ≤ k) (h0 : (L.take k).any p = false) : L.any p = false := by
  rwa [List.take_of_length_le (by omega)] at h0

set_option maxHeartbeats 400000 in
theorem great_c (ao : Option Addr) (n cap : Nat) (L : List (List Int)) (w : World) (hx : Grid w ao n cap L) :
    Calls Try.prog 22 #[.slice ao n cap] w fun e w' => e = .returned (.bool (greatB L)) ∧ Ext w w' := by
  have Hx := Lib.hid hx
  have b1 := hx.fits; have b2 := hx.bound
  clear hx
  go_enter Try.func22, Try.ntmps22
  go_wp2_with fail
  go_loopw [3] (fun i w' => ∃ k : Nat, k ≤ n ∧ i = .int .i64 k ∧ (L.take k).any (fun r => decide (60 < r.length)) = false ∧ Ext w w') (fun i _ => n - (intOf i).toNat)
  case atStart => exact ⟨0, Nat.zero_le _, rfl, rfl, Ext.refl _⟩
  case round =>
    obtain ⟨k, hk, rfl, heq, hb⟩ := hrel
    have Heq := Lib.hid heq; clear heq
    have Hb := Lib.hid hb; clear hb
    by_cases hlt : k < n
    · obtain ⟨b, off, ai, ni, ci, rfl, c1, r1⟩ := (Hx.out.ext Hb.out).at hlt
      have R1 := Lib.hid r1; clear r1
      have f1 := R1.out.fits; have f2 := R1.out.bound
      by_cases hg : 60 < ni
      · go_wp2_with fail
        go_ret
        exact ⟨rb (by rw [greatB, any_of_getD _ [] L k (by rw [Hx.out.len]; exact hlt) (by rw [R1.out.len]; exact decide_eq_true hg)]; rfl), Hb.out⟩
      · go_wp2_with fail
        go_roundw
        case rel => exact ⟨k + 1, by omega, by go_num, any_take_succ _ [] L k (by rw [Hx.out.len]; exact hlt) Heq.out (by rw [R1.out.len]; exact decide_eq_false hg), Hb.out⟩
        case measure => simp [intOf]; omega
    · have hg : greatB L = decide (10 < n) := by rw [greatB, any_of_take _ L n k Hx.out.len (by omega) Heq.out, Hx.out.len]; rfl
      have Hg := Lib.hid hg; clear hg
      go_wp2_with fail
      go_ret
      exact ⟨rb (by rw [Hg.out]; simp only [decide_eq_decide]; omega), Hb.out⟩

theorem not_mem_take_succ (xs : List Int) (x : Int) (k : Nat) (h : k < xs.length) (h0 : x ∉ xs.take k) (h1 : xs.getD k 0 ≠ x) : x ∉ xs.take (k + 1) := by
  rw [take_succ_getD xs 0 k h, List.mem_append]
  rintro (h2 | h2)
  · exact h0 h2
  · exact h1 (List.mem_singleton.1 h2).symm

theorem mem_of_getD (xs : List Int) (x : Int) (k : Nat) (h : k < xs.length) (h1 : xs.getD k 0 = x) : x ∈ xs := by
  rw [← h1, List.getD_eq_getElem?_getD, List.getElem?_eq_getElem h]; exact List.getElem_mem h

theorem not_mem_of_take (xs : List Int) (x : Int) (n k : Nat) (hn : xs.length = n) (hk : n ≤ k) (h0 : x ∉ xs.take k) : x ∉ xs := by
  rwa [List.take_of_length_le (by omega)] at h0

set_option maxHeartbeats 400000 in
theorem has_c (ao : Option Addr) (n cap : Nat) (xs : List Int) (x : Int) (w : World) (hx : Ints w ao n cap xs) :
    Calls Try.prog 114 #[.slice ao n cap, .int .i64 x] w fun e w' => e = .returned (.bool (decide (x ∈ xs))) ∧ Ext w w' := by
  have Hx := Lib.hid hx
  have b1 := hx.fits; have b2 := hx.bound
  clear hx
  go_enter Try.func114, Try.ntmps114
  go_wp2_with fail
  go_loopw [5] (fun i w' => ∃ k : Nat, k ≤ n ∧ i = .int .i64 k ∧ x ∉ xs.take k ∧ Ext w w') (fun i _ => n - (intOf i).toNat)
  case atStart => exact ⟨0, Nat.zero_le _, rfl, by simp, Ext.refl _⟩
  case round =>
    obtain ⟨k, hk, rfl, heq, hb⟩ := hrel
    have Heq := Lib.hid heq; clear heq
    have Hb := Lib.hid hb; clear hb
    by_cases hlt : k < n
    · obtain ⟨b, off, rfl, c1⟩ := (Hx.out.ext Hb.out).at hlt
      generalize hX : xs.getD k 0 = X at *
      have HX := Lib.hid hX; clear hX
      by_cases hg : X = x
      · have hg' : (X == x) = true := by simpa using hg
        have Hg := Lib.hid hg; clear hg
        go_wp2_with fail
        go_ret
        exact ⟨rb (decide_eq_true (mem_of_getD xs x k (by rw [Hx.out.len]; exact hlt) (HX.out.trans Hg.out))), Hb.out⟩
      · have hg' : (X == x) = false := by simpa using hg
        have Hg := Lib.hid hg; clear hg
        go_wp2_with fail
        go_roundw
        case rel => exact ⟨k + 1, by omega, by go_num, not_mem_take_succ xs x k (by rw [Hx.out.len]; exact hlt) Heq.out (by rw [HX.out]; exact Hg.out), Hb.out⟩
        case measure => simp [intOf]; omega
    · go_wp2_with fail
      go_ret
      exact ⟨rb (decide_eq_false (not_mem_of_take xs x n k Hx.out.len (by omega) Heq.out)), Hb.out⟩

/-- the first place of x in xs, or -1 -/
def idxI (xs : List Int) (x : Int) : Int := if x ∈ xs then (xs.idxOf x : Int) else -1

theorem idxI_hit (xs : List Int) (x : Int) (k : Nat) (h : k < xs.length) (h0 : x ∉ xs.take k) (h1 : xs.getD k 0 = x) : idxI xs x = k := by
  have hm := mem_of_getD xs x k h h1
  rw [idxI, if_pos hm]
  have e : xs = xs.take k ++ xs.drop k := (List.take_append_drop k xs).symm
  have e2 : xs.drop k = x :: xs.drop (k + 1) := by
    rw [List.drop_eq_getElem_cons h]
    rw [List.getD_eq_getElem?_getD, List.getElem?_eq_getElem h] at h1
    simp at h1
    rw [h1]
  have : xs.idxOf x = k := by
    rw [e, e2, List.idxOf_append, if_neg h0, List.idxOf_cons_self]
    simp; omega
  omega

theorem idxI_miss (xs : List Int) (x : Int) (h : x ∉ xs) : idxI xs x = -1 := by rw [idxI, if_neg h]
theorem idxI_pos (xs : List Int) (x : Int) : decide (0 ≤ idxI xs x) = decide (x ∈ xs) := by
  unfold idxI
  by_cases h : x ∈ xs
  · simp [h]
  · simp [h]

end Go.Proofs.Ytjllhjlmjbpinaa
namespace Go.Proofs.Ytjllhjlmjbpinaa
open Go.RowKit

theorem Try.infoInt : (Try.prog.info? 3).map (fun i => (i.zero, i.size, i.bytes)) = some (some (.int .i64 0), 1, 8) := by kernel_rfl
theorem Try.infoInts : (Try.prog.info? 32).map (fun i => (i.zero, i.size, i.bytes)) = some (some (.slice none 0 0), 1, 24) := by kernel_rfl

set_option maxHeartbeats 400000 in
theorem refall_c (ao : Option Addr) (n cap : Nat) (L : List (List Int)) (w : World) (hx : Grid w ao n cap L) (hsum : L.flatten.length ≤ 17592186044416) :
    Calls Try.prog 99 #[.slice ao n cap] w (RetI 3 w L.flatten) := by
  have Hx := Lib.hid hx
  have b1 := hx.fits; have b2 := hx.bound
  clear hx
  go_enter Try.func99, Try.ntmps99
  go_wp2_with fail
  go_loopw [3, 4] (fun v i w' => ∃ k : Nat, k ≤ n ∧ i = .int .i64 k ∧ Own w' w.heap.size 3 1 v (L.take k).flatten.length ((L.take k).flatten.map (Value.int .i64)) ∧ Ext w w') (fun _ i _ => n - (intOf i).toNat)
  case atStart => exact ⟨0, Nat.zero_le _, rfl, Own.nil _ _ _ _, Ext.refl _⟩
  case round =>
    obtain ⟨k, hk, rfl, hown, hb⟩ := hrel
    have Hb := Lib.hid hb; clear hb
    have Hown := Lib.hid hown; clear hown
    by_cases hlt : k < n
    · obtain ⟨b, off, ai, ni, ci, rfl, c1, r1⟩ := (Hx.out.ext Hb.out).at hlt
      have R1 := Lib.hid r1; clear r1
      have hkl : k < L.length := by rw [Hx.out.len]; exact hlt
      have hs := flatten_take_succ L k hkl
      have hle := flatten_take_le L (k + 1)
      have hlen : (L.take k).flatten.length + ni = (L.take (k + 1)).flatten.length := by rw [hs, List.length_append, R1.out.len]
      have HS := Lib.hid hs; clear hs
      have HL := Lib.hid hlen; clear hlen
      go_wp2_with (at_builtin; refine wpList_append_any rfl _ _ 32 rfl w.heap.size 3 _ 1 8 Try.underlying32 Try.infoInt rfl (by decide) _ _ _ rfl Hown.out _ _ _ ((L.getD k []).map (Value.int .i64)) rfl (by rw [List.length_map, R1.out.len]; omega) R1.out.nil R1.out.rd (ints_oneCell _ _) (by have := HL.out; omega) (by have := HL.out; omega) Hb.out.size ?_; intro v' w1 hown' hg _)
      have hb1 := below_own Hb.out Hown.out hg Hb.out.size
      have HB1 := Lib.hid hb1; clear hb1
      rw [← List.map_append, ← HS.out, HL.out] at hown'
      have HO := Lib.hid hown'; clear hown' hg
      go_wp2_with fail
      go_roundw
      case rel => exact ⟨k + 1, by omega, by go_num, HO.out, HB1.out⟩
      case measure => simp [intOf]; omega
    · have hk2 : L.take k = L := List.take_of_length_le (by have := Hx.out.len; omega)
      have HK := Lib.hid hk2; clear hk2
      go_wp2_with fail
      go_ret
      exact ⟨_, rfl, by have := Hown.out; rw [HK.out] at this; exact this, Hb.out⟩

set_option maxRecDepth 100000 in
set_option maxHeartbeats 400000 in
theorem grow_c (n : Nat) (w : World) (hn : n ≤ 17592186044416) :
    Calls Try.prog 101 #[.slice none 0 0, .int .i64 n] w (RetI 3 w []) := by
  by_cases h0 : n = 0
  · subst h0
    go_enter Try.func101, Try.ntmps101
    go_wp2_with fail
    go_ret
    exact ⟨_, rfl, Own.nil _ _ _ _, Ext.refl _⟩
  · have h1 : 0 < n := by omega
    obtain ⟨i, hi, hz, hsize, hby⟩ := info_parts Try.infoInt
    have hr := Lib.run_append_nil_zeros (P := Try.prog) w 32 3 32 3 i (.int .i64 0) .i64 .i64 Try.underlying32 Try.underlying3 hi hz n h1 (by omega) (by omega) (by rw [hby]; omega)
    have HR := Lib.hid hr; clear hr
    have Hge := Lib.hid (grownCap_ge w n 0 3)
    have Hle := Lib.hid (grownCap_le_maxLen w n 0 3 (by unfold maxLen; omega))
    have HS := Lib.hid hsize; clear hi hz hsize hby
    go_enter Try.func101, Try.ntmps101
    go_wp2_with (at_builtin; refine Lib.wpList_append_run _ rfl _ _ _ _ rfl _ _ rfl rfl _ _ HR.out ?_)
    go_ret
    refine ⟨_, rfl, Own.of_row ⟨rfl, .inr ⟨w.heap.size, grownCap w n 0 3, _, rfl, Nat.le_refl _, heap_alloc_new w.drew _, Nat.zero_le _, Hle.out, ?_, rfl⟩⟩, (Ext.refl w).drew.alloc _⟩
    have := Hge.out
    simp [size_zeroCells]; omega

set_option maxRecDepth 100000 in
set_option maxHeartbeats 800000 in
theorem concat_c (ao : Option Addr) (n cap : Nat) (L : List (List Int)) (w : World) (hx : Grid w ao n cap L) (hsum : L.flatten.length ≤ 17592186044416) :
    Calls Try.prog 92 #[.slice ao n cap] w (RetI 3 w L.flatten) := by
  have Hx := Lib.hid hx
  have b1 := hx.fits; have b2 := hx.bound
  clear hx
  go_enter Try.func92, Try.ntmps92
  go_wp2_with fail
  go_loopw [3, 11] (fun s i w' => ∃ k : Nat, k ≤ n ∧ i = .int .i64 k ∧ s = .int .i64 (L.take k).flatten.length ∧ Ext w w') (fun _ i _ => n - (intOf i).toNat)
  case atStart => exact ⟨0, Nat.zero_le _, rfl, rfl, Ext.refl _⟩
  case round =>
    obtain ⟨k, hk, rfl, rfl, hb⟩ := hrel
    have Hb := Lib.hid hb; clear hb
    by_cases hlt : k < n
    · obtain ⟨b, off, ai, ni, ci, rfl, c1, r1⟩ := (Hx.out.ext Hb.out).at hlt
      have R1 := Lib.hid r1; clear r1
      have hkl : k < L.length := by rw [Hx.out.len]; exact hlt
      have hs := flatten_take_succ L k hkl
      have hle := flatten_take_le L (k + 1)
      have hlen : (L.take k).flatten.length + ni = (L.take (k + 1)).flatten.length := by rw [hs, List.length_append, R1.out.len]
      have HL := Lib.hid hlen
      have g1 : (L.take k).flatten.length + ni ≤ 17592186044416 := by omega
      clear hs hle hlen
      generalize (L.take k).flatten.length = F at *
      go_wp2_with fail
      go_roundw
      case rel => exact ⟨k + 1, by omega, by go_num, by rw [← HL.out]; go_num, Hb.out⟩
      case measure => simp [intOf]; omega
    · have hk2 : L.take k = L := List.take_of_length_le (by have := Hx.out.len; omega)
      have HK := Lib.hid hk2
      have hF : (L.take k).flatten.length = L.flatten.length := by rw [hk2]
      rw [hF]
      clear hk2 hF
      generalize hF : L.flatten.length = F at *
      have HF := Lib.hid hF; clear hF
      go_wp2_with (go_at_call 101; (with_reducible refine (grow_c F _ (by omega)).mono ?_); rintro e w1 ⟨v1, rfl, hown, hb1⟩)
      have HB := Lib.hid (Hb.out.trans hb1)
      have hown0 : Own w1 w.heap.size 3 1 v1 0 [] := hown.base Hb.out.size
      have HO := Lib.hid hown0
      clear hown hown0 hb1 Hb
      go_loopw [6, 27] (fun v i w' => ∃ k : Nat, k ≤ n ∧ i = .int .i64 k ∧ Own w' w.heap.size 3 1 v (L.take k).flatten.length ((L.take k).flatten.map (Value.int .i64)) ∧ Ext w w') (fun _ i _ => n - (intOf i).toNat)
      case atStart => exact ⟨0, Nat.zero_le _, rfl, HO.out, HB.out⟩
      case round =>
        clear HO HB
        obtain ⟨k, hk, rfl, hown, hb⟩ := hrel
        have Hb := Lib.hid hb; clear hb
        have Hown := Lib.hid hown; clear hown
        by_cases hlt : k < n
        · obtain ⟨b, off, ai, ni, ci, rfl, c1, r1⟩ := (Hx.out.ext Hb.out).at hlt
          have R1 := Lib.hid r1; clear r1
          have hkl : k < L.length := by rw [Hx.out.len]; exact hlt
          have hs := flatten_take_succ L k hkl
          have hle := flatten_take_le L (k + 1)
          have hlen : (L.take k).flatten.length + ni = (L.take (k + 1)).flatten.length := by rw [hs, List.length_append, R1.out.len]
          have HS := Lib.hid hs; clear hs
          have HL := Lib.hid hlen; clear hlen
          have HFF := HF.out
          have hle2 : (L.take (k + 1)).flatten.length ≤ F := by omega
          clear HFF hle
          go_wp2_with (at_builtin; refine wpList_append_any rfl _ _ 32 rfl w.heap.size 3 _ 1 8 Try.underlying32 Try.infoInt rfl (by decide) _ _ _ rfl Hown.out _ _ _ ((L.getD k []).map (Value.int .i64)) rfl (by rw [List.length_map, R1.out.len]; omega) R1.out.nil R1.out.rd (ints_oneCell _ _) (by have := HL.out; omega) (by have := HL.out; omega) Hb.out.size ?_; intro v' w2 hown' hg _)
          have hb1 := below_own Hb.out Hown.out hg Hb.out.size
          have HB1 := Lib.hid hb1; clear hb1
          rw [← List.map_append, ← HS.out, HL.out] at hown'
          have HO := Lib.hid hown'; clear hown' hg
          go_wp2_with fail
          go_roundw
          case rel => exact ⟨k + 1, by omega, by go_num, HO.out, HB1.out⟩
          case measure => simp [intOf]; omega
        · have hk2 : L.take k = L := List.take_of_length_le (by have := Hx.out.len; omega)
          have HK := Lib.hid hk2; clear hk2
          go_wp2_with fail
          go_ret
          exact ⟨_, rfl, by have := Hown.out; rw [HK.out] at this; exact this, Hb.out⟩

theorem all_c (ao : Option Addr) (n cap : Nat) (L : List (List Int)) (w : World) (hx : Grid w ao n cap L) (hsum : L.flatten.length ≤ 17592186044416) :
    Calls Try.prog 68 #[.slice ao n cap] w (RetI 3 w L.flatten) := by
  have Hx := Lib.hid hx
  clear hx
  go_enter Try.func68, Try.ntmps68
  go_wp2_with (go_at_call 92; (with_reducible refine (concat_c _ _ _ L _ Hx.out hsum).mono ?_); rintro e w1 ⟨v1, rfl, hown, hb1⟩)
  go_ret
  exact ⟨_, rfl, by assumption, by assumption⟩

end Go.Proofs.Ytjllhjlmjbpinaa
namespace Go.Proofs.Ytjllhjlmjbpinaa

/-- how many of the first n levels stay when empty ones at the end go -/
def trimN (L : List (List Int)) : Nat → Nat
  | 0 => 0
  | n + 1 => if L.getD n [] = [] then trimN L n else n + 1

/-- levels without empty ones at the end -/
def trimL (L : List (List Int)) : List (List Int) := L.take (trimN L L.length)

theorem trimN_le (L : List (List Int)) (n : Nat) : trimN L n ≤ n := by
  induction n with
  | zero => exact Nat.le_refl _
  | succ n ih => rw [trimN]; split <;> omega

theorem trimN_empty (L : List (List Int)) (n : Nat) (h : L.getD n [] = []) : trimN L (n + 1) = trimN L n := by rw [trimN, if_pos h]
theorem trimN_stop (L : List (List Int)) (n : Nat) (h : L.getD n [] ≠ []) : trimN L (n + 1) = n + 1 := by rw [trimN, if_neg h]

theorem trimN_congr (L M : List (List Int)) (n : Nat) (h : ∀ i, i < n → L.getD i [] = M.getD i []) : trimN L n = trimN M n := by
  induction n with
  | zero => rfl
  | succ n ih =>
    rw [trimN, trimN, h n (by omega), ih (fun i hi => h i (by omega))]

theorem getD_take_lt {α : Type} (L : List α) (d : α) (m i : Nat) (h : i < m) : (L.take m).getD i d = L.getD i d := by
  simp only [List.getD_eq_getElem?_getD, List.getElem?_take, h, if_true]

theorem getD_ge {α : Type} (L : List α) (d : α) (i : Nat) (h : L.length ≤ i) : L.getD i d = d := by
  rw [List.getD_eq_getElem?_getD, List.getElem?_eq_none h]; rfl

/-- five levels, with those that there are -/
def wideL (L : List (List Int)) : List (List Int) := L ++ List.replicate (5 - L.length) []

theorem wideL_length (L : List (List Int)) (h : L.length ≤ 5) : (wideL L).length = 5 := by simp [wideL]; omega

theorem wideL_getD (L : List (List Int)) (i : Nat) : (wideL L).getD i [] = L.getD i [] := by
  unfold wideL
  simp only [List.getD_eq_getElem?_getD, List.getElem?_append]
  split
  · rfl
  · rw [List.getElem?_eq_none (l := L) (by omega)]
    rcases Nat.lt_or_ge (i - L.length) (List.replicate (5 - L.length) ([] : List Int)).length with h | h
    · rw [List.getElem?_eq_getElem h]; simp
    · rw [List.getElem?_eq_none h]

theorem wideL_nil : wideL [] = List.replicate 5 [] := rfl

theorem wideL_succ (L : List (List Int)) (k : Nat) (h : k < L.length) (h5 : L.length ≤ 5) : (wideL (L.take k)).set k (L.getD k []) = wideL (L.take (k + 1)) := by
  have hl1 : (L.take k).length = k := by simp; omega
  have hl2 : (L.take (k + 1)).length = k + 1 := by simp; omega
  have w1 := wideL_length (L.take k) (by omega)
  have w2 := wideL_length (L.take (k + 1)) (by omega)
  apply List.ext_getElem (by simp [w1, w2])
  intro i h1 h2
  have e : ∀ (M : List (List Int)) (hM : i < M.length), M[i] = M.getD i [] := fun M hM => by rw [List.getD_eq_getElem?_getD, List.getElem?_eq_getElem hM]; rfl
  have hg : ∀ m, (L.take m).getD i [] = if i < m then L.getD i [] else [] := by
    intro m
    simp only [List.getD_eq_getElem?_getD, List.getElem?_take]
    split <;> rfl
  rw [e _ h1, e _ h2, getD_set _ _ _ _ _ (by omega), wideL_getD, wideL_getD, hg, hg]
  by_cases hi : i = k
  · subst hi; simp
  · rw [if_neg hi]
    by_cases hik : i < k
    · rw [if_pos hik, if_pos (by omega)]
    · rw [if_neg hik, if_neg (by omega)]

/-- with a level behind the end taken as an empty one: the same behind trimming -/
theorem trimN_more (L : List (List Int)) (n k : Nat) (h : ∀ i, n ≤ i → i < n + k → L.getD i [] = []) : trimN L (n + k) = trimN L n := by
  induction k with
  | zero => rfl
  | succ k ih =>
    rw [← Nat.add_assoc, trimN_empty L (n + k) (h _ (by omega) (by omega)), ih (fun i h1 h2 => h i h1 (by omega))]

theorem ext_getD {α : Type} (L M : List α) (d : α) (h0 : L.length = M.length) (h : ∀ i, i < L.length → L.getD i d = M.getD i d) : L = M := by
  apply List.ext_getElem h0
  intro i h1 h2
  have := h i h1
  rw [List.getD_eq_getElem?_getD, List.getD_eq_getElem?_getD, List.getElem?_eq_getElem h1, List.getElem?_eq_getElem h2] at this
  exact this

/-- two lists of levels that agree everywhere (missing ones: empty) are one behind trimming -/
theorem trimL_congr (L M : List (List Int)) (h : ∀ i, L.getD i [] = M.getD i []) : trimL L = trimL M := by
  have hN : trimN L L.length = trimN M M.length := by
    rcases Nat.le_total L.length M.length with hle | hle
    · obtain ⟨k, hk⟩ := Nat.exists_eq_add_of_le hle
      rw [hk, ← trimN_congr L M _ (fun i _ => h i), trimN_more L L.length k (fun i h1 _ => getD_ge L [] i h1)]
    · obtain ⟨k, hk⟩ := Nat.exists_eq_add_of_le hle
      rw [hk, trimN_congr L M _ (fun i _ => h i), trimN_more M M.length k (fun i h1 _ => getD_ge M [] i h1)]
  unfold trimL
  have l1 : (L.take (trimN L L.length)).length = trimN L L.length := by have := trimN_le L L.length; simp; omega
  have l2 : (M.take (trimN M M.length)).length = trimN M M.length := by have := trimN_le M M.length; simp; omega
  refine ext_getD _ _ [] (by rw [l1, l2, hN]) fun i hi => ?_
  rw [l1] at hi
  rw [getD_take_lt _ _ _ _ hi, getD_take_lt _ _ _ _ (by omega), h]

theorem trimL_getD (L : List (List Int)) (i : Nat) : (trimL L).getD i [] = L.getD i [] := by
  unfold trimL
  rcases Nat.lt_or_ge i (trimN L L.length) with h | h
  · exact getD_take_lt _ _ _ _ h
  · rw [getD_ge _ _ _ (by simp; omega)]
    have : ∀ n, trimN L n ≤ i → i < n → L.getD i [] = [] := by
      intro n
      induction n with
      | zero => intro _ h2; omega
      | succ n ih =>
        intro h1 h2
        rw [trimN] at h1
        split at h1
        · rename_i he
          rcases Nat.lt_or_ge i n with h3 | h3
          · exact ih h1 h3
          · have : i = n := by omega
            subst this; exact he
        · omega
    rcases Nat.lt_or_ge i L.length with h2 | h2
    · exact (this _ h h2).symm
    · exact (getD_ge _ _ _ h2).symm

theorem trimL_length (L : List (List Int)) : (trimL L).length = trimN L L.length := by have := trimN_le L L.length; simp [trimL]; omega

/-- what may be: at most five levels, of at most forty tables, numbers from 0 on, each once -/
def validB (L : List (List Int)) : Bool := decide (L.length ≤ 5 ∧ L.flatten.length ≤ 40 ∧ (∀ x ∈ L.flatten, 0 ≤ x) ∧ L.flatten.Nodup)

theorem getD_mem (xs : List Int) (k : Nat) (h : k < xs.length) : xs.getD k 0 ∈ xs := by
  rw [List.getD_eq_getElem?_getD, List.getElem?_eq_getElem h]; exact List.getElem_mem h

theorem validB_many (L : List (List Int)) (h : 5 < L.length) : validB L = false := by unfold validB; rw [decide_eq_false_iff_not]; rintro ⟨h1, _⟩; omega
theorem validB_great (L : List (List Int)) (h : 40 < L.flatten.length) : validB L = false := by unfold validB; rw [decide_eq_false_iff_not]; rintro ⟨_, h1, _⟩; omega
theorem validB_neg (L : List (List Int)) (k : Nat) (hk : k < L.flatten.length) (h : L.flatten.getD k 0 < 0) : validB L = false := by
  unfold validB; rw [decide_eq_false_iff_not]; rintro ⟨_, _, h1, _⟩
  have := h1 _ (getD_mem _ k hk); omega
theorem validB_dup (L : List (List Int)) (k : Nat) (hk : k < L.flatten.length) (h : L.flatten.getD k 0 ∈ L.flatten.take k) : validB L = false := by
  unfold validB; rw [decide_eq_false_iff_not]; rintro ⟨_, _, _, h1⟩
  have h2 := h1.sublist (List.take_sublist (k + 1) _)
  rw [take_succ_getD _ 0 k hk] at h2
  have := (List.nodup_append.1 h2).2.2 _ h _ (List.mem_singleton.2 rfl)
  exact this rfl
theorem validB_ok (L : List (List Int)) (h1 : L.length ≤ 5) (h2 : L.flatten.length ≤ 40) (h3 : ∀ x ∈ L.flatten, 0 ≤ x) (h4 : L.flatten.Nodup) : validB L = true := by
  unfold validB; exact decide_eq_true ⟨h1, h2, h3, h4⟩
theorem nonneg_take_succ (xs : List Int) (k : Nat) (hk : k < xs.length) (h0 : ∀ x ∈ xs.take k, 0 ≤ x) (h1 : ¬ xs.getD k 0 < 0) : ∀ x ∈ xs.take (k + 1), 0 ≤ x := by
  rw [take_succ_getD _ 0 k hk]
  intro x hx
  rcases List.mem_append.1 hx with h | h
  · exact h0 x h
  · rw [List.mem_singleton.1 h]; omega
theorem nodup_take_succ (xs : List Int) (k : Nat) (hk : k < xs.length) (h0 : (xs.take k).Nodup) (h1 : xs.getD k 0 ∉ xs.take k) : (xs.take (k + 1)).Nodup := by
  rw [take_succ_getD _ 0 k hk, List.nodup_append]
  refine ⟨h0, by simp, fun a ha b hb => ?_⟩
  rw [List.mem_singleton.1 hb]
  intro e; exact h1 (e ▸ ha)
theorem mem_take_succ (xs : List Int) (k : Nat) (hk : k < xs.length) (x : Int) : (x ∈ xs.take (k + 1)) ↔ (x ∈ xs.take k ∨ x = xs.getD k 0) := by
  rw [take_succ_getD _ 0 k hk, List.mem_append, List.mem_singleton]

theorem row_le_flatten (L : List (List Int)) (i : Nat) : (L.getD i []).length ≤ L.flatten.length := by
  rcases Nat.lt_or_ge i L.length with h | h
  · have h1 := flatten_take_succ L i h
    have h2 := flatten_take_le L (i + 1)
    rw [h1, List.length_append] at h2
    omega
  · rw [getD_ge _ _ _ h]; simp

theorem validB_len (L : List (List Int)) (h : validB L = true) : L.length ≤ 5 ∧ L.flatten.length ≤ 40 := by
  unfold validB at h
  have := of_decide_eq_true h
  exact ⟨this.1, this.2.1⟩

/-- a table put behind those of the level 0 -/
def addL (L : List (List Int)) (x : Int) : List (List Int) := (if trimL L = [] then [[]] else trimL L).set 0 (L.getD 0 [] ++ [x])

def addS (L : List (List Int)) (x : Int) : List (List Int) × Int :=
  if validB L = false ∨ x < 0 ∨ x ∈ L.flatten then ([], 2) else if 40 ≤ L.flatten.length then ([], 60) else (addL L x, 0)

def pickS (L : List (List Int)) (level : Int) : List Int × Int :=
  if validB L = false ∨ level < 0 ∨ 5 ≤ level then ([], 2) else if L.getD level.toNat [] = [] then ([], 4) else (L.getD level.toNat [], 0)

/-- one table in the place of a level's -/
def repL (L : List (List Int)) (level : Nat) (x : Int) : List (List Int) :=
  trimL ((((wideL L).set level []).set (min (level + 1) 4)) ((((wideL L).set level []).getD (min (level + 1) 4) []) ++ [x]))

def replaceS (L : List (List Int)) (level x : Int) : List (List Int) × Int :=
  if (pickS L level).2 ≠ 0 then ([], (pickS L level).2) else if x < 0 ∨ x ∈ L.flatten then ([], 2) else (repL L level.toNat x, 0)

theorem addS_arg (L : List (List Int)) (x : Int) (h : validB L = false ∨ x < 0 ∨ x ∈ L.flatten) : addS L x = ([], 2) := by rw [addS, if_pos h]
theorem addS_full (L : List (List Int)) (x : Int) (h : ¬ (validB L = false ∨ x < 0 ∨ x ∈ L.flatten)) (h2 : 40 ≤ L.flatten.length) : addS L x = ([], 60) := by rw [addS, if_neg h, if_pos h2]
theorem addS_ok (L : List (List Int)) (x : Int) (h : ¬ (validB L = false ∨ x < 0 ∨ x ∈ L.flatten)) (h2 : ¬ 40 ≤ L.flatten.length) : addS L x = (addL L x, 0) := by rw [addS, if_neg h, if_neg h2]

/-- the document's way to add: five levels, trimmed -/
theorem addL_ref (L : List (List Int)) (x : Int) (h : L.length ≤ 5) : trimL ((wideL L).set 0 ((wideL L).getD 0 [] ++ [x])) = addL L x := by
  have hw := wideL_length L h
  have hne : (L.getD 0 [] ++ [x]) ≠ [] := by simp
  have e1 : trimL (addL L x) = addL L x := by
    unfold trimL
    have : ∀ n, n ≤ (addL L x).length → (∀ i, n ≤ i → i < (addL L x).length → False) → n = (addL L x).length := by
      intro n h1 h2
      rcases Nat.lt_or_ge n (addL L x).length with h3 | h3
      · exact (h2 n (Nat.le_refl _) h3).elim
      · omega
    have hlast : trimN (addL L x) (addL L x).length = (addL L x).length := by
      have hl : (addL L x).length = max 1 (trimL L).length := by
        unfold addL; split
        · rename_i he; simp [he]
        · rename_i he
          have := List.length_pos_iff.2 he
          simp; omega
      rcases Nat.lt_or_ge 1 (trimL L).length with h1 | h1
      · obtain ⟨m, hm⟩ : ∃ m, (trimL L).length = m + 1 := ⟨(trimL L).length - 1, by omega⟩
        have : (addL L x).length = m + 1 := by omega
        rw [this, trimN_stop]
        have he : (addL L x).getD m [] = L.getD m [] := by
          unfold addL
          have hnil : trimL L ≠ [] := by intro h0; rw [h0] at hm; simp at hm
          rw [if_neg hnil, getD_set _ _ _ _ _ (by omega), if_neg (by omega), trimL_getD]
        rw [he]
        intro h0
        rw [trimL_length] at hm
        have : ∀ n, trimN L n = m + 1 → L.getD m [] = [] → False := by
          intro n
          induction n with
          | zero => intro h3; simp [trimN] at h3
          | succ n ih =>
            intro h3 h4
            rw [trimN] at h3
            split at h3
            · exact ih h3 h4
            · rename_i h5
              have : n = m := by omega
              subst this; exact h5 h4
        exact this _ hm h0
      · have : (addL L x).length = 0 + 1 := by omega
        rw [this, trimN_stop]
        have he : (addL L x).getD 0 [] = L.getD 0 [] ++ [x] := by
          unfold addL
          split
          · rfl
          · rename_i hnil
            have := List.length_pos_iff.2 hnil
            rw [getD_set _ _ _ _ _ (by omega), if_pos rfl]
        rw [he]; exact hne
    rw [hlast, List.take_length]
  rw [← e1]
  refine trimL_congr _ _ fun i => ?_
  rw [getD_set _ _ _ _ _ (by omega), wideL_getD, wideL_getD]
  unfold addL
  split
  · rename_i hi
    subst hi
    split
    · rfl
    · rename_i hnil
      have := List.length_pos_iff.2 hnil
      rw [getD_set _ _ _ _ _ (by omega), if_pos rfl]
  · rename_i hi
    split
    · rename_i hnil
      have hz : L.getD i [] = [] := by rw [← trimL_getD, hnil]; rfl
      rw [hz, getD_ge _ _ _ (by simp; omega)]
    · rename_i hnil
      have := List.length_pos_iff.2 hnil
      rw [getD_set _ _ _ _ _ (by omega), if_neg hi, trimL_getD]

theorem trimL_fix (T : List (List Int)) (h : T = [] ∨ T.getD (T.length - 1) [] ≠ []) : trimL T = T := by
  rcases h with rfl | h
  · rfl
  · have hp : 0 < T.length := by
      rcases Nat.eq_zero_or_pos T.length with h0 | h0
      · have : T = [] := List.eq_nil_of_length_eq_zero h0
        subst this; simp at h
      · exact h0
    obtain ⟨m, hm⟩ : ∃ m, T.length = m + 1 := ⟨T.length - 1, by omega⟩
    unfold trimL
    rw [hm] at h ⊢
    rw [trimN_stop T m (by simpa using h), ← hm, List.take_length]

theorem trimN_last (L : List (List Int)) : ∀ n m, trimN L n = m + 1 → L.getD m [] ≠ [] := by
  intro n
  induction n with
  | zero => intro m h; simp [trimN] at h
  | succ n ih =>
    intro m h
    rw [trimN] at h
    split at h
    · exact ih m h
    · rename_i h5
      have : n = m := by omega
      subst this; exact h5

theorem trimL_last (L : List (List Int)) (m : Nat) (h : (trimL L).length = m + 1) : (trimL L).getD m [] ≠ [] := by
  rw [trimL_getD]
  rw [trimL_length] at h
  exact trimN_last L _ m h

theorem lt_trimL (L : List (List Int)) (i : Nat) (h : L.getD i [] ≠ []) : i < (trimL L).length := by
  rcases Nat.lt_or_ge i (trimL L).length with h1 | h1
  · exact h1
  · exact (h (by rw [← trimL_getD, getD_ge _ _ _ h1])).elim

/-- the program's way to put a table in the place of a level's -/
def repP (L : List (List Int)) (level : Nat) (x : Int) : List (List Int) :=
  let M1 := (trimL L).set level []
  let into := min (level + 1) 4
  let M2 := if M1.length ≤ into then M1 ++ [[]] else M1
  M2.set into (M2.getD into [] ++ [x])

theorem repP_eq (L : List (List Int)) (level : Nat) (x : Int) (h5 : L.length ≤ 5) (hl : level < 5) (hne : L.getD level [] ≠ []) : repP L level x = repL L level x := by
  have hlt := lt_trimL L level hne
  have hT5 : (trimL L).length ≤ 5 := by have := trimN_le L L.length; rw [trimL_length]; omega
  have hw := wideL_length L h5
  have hM1 : ((trimL L).set level []).length = (trimL L).length := by simp
  have g1 : ∀ i, ((trimL L).set level []).getD i [] = if i = level then [] else L.getD i [] := by
    intro i; rw [getD_set _ _ _ _ _ hlt, trimL_getD]
  obtain ⟨M2, hM2⟩ : ∃ M2, M2 = if ((trimL L).set level []).length ≤ min (level + 1) 4 then (trimL L).set level [] ++ [[]] else (trimL L).set level [] := ⟨_, rfl⟩
  have hlen2 : min (level + 1) 4 < M2.length := by
    rw [hM2]; split
    · rename_i h; simp at h ⊢; omega
    · rename_i h; omega
  have g2 : ∀ i, M2.getD i [] = if i = level then [] else L.getD i [] := by
    intro i
    rw [hM2]; split
    · rw [getD_snoc]
      split
      · exact g1 i
      · rename_i h
        have : (if i = ((trimL L).set level []).length then ([] : List Int) else []) = [] := by split <;> rfl
        rw [this]
        have h3 : (trimL L).getD i [] = [] := getD_ge _ _ _ (by rw [hM1] at h; omega)
        rw [trimL_getD] at h3
        rw [h3]; split <;> rfl
    · exact g1 i
  have hP : repP L level x = M2.set (min (level + 1) 4) (M2.getD (min (level + 1) 4) [] ++ [x]) := by rw [hM2]; rfl
  have g3 : ∀ i, (repP L level x).getD i [] = if i = min (level + 1) 4 then M2.getD i [] ++ [x] else M2.getD i [] := by
    intro i
    rw [hP, getD_set _ _ _ _ _ hlen2]
    split
    · rename_i h; rw [h]
    · rfl
  have hfix : trimL (repP L level x) = repP L level x := by
    refine trimL_fix _ (.inr ?_)
    have hl3 : (repP L level x).length = M2.length := by rw [hP]; simp
    rw [hl3, g3]
    split
    · simp
    · rename_i hi
      rw [g2]
      have hbig : min (level + 1) 4 + 1 < M2.length := by omega
      have hM2e : M2 = (trimL L).set level [] := by
        rw [hM2]; split
        · rename_i h
          rw [hM2, if_pos h] at hbig
          simp at hbig h; omega
        · rfl
      have hlen : M2.length = (trimL L).length := by rw [hM2e]; simp
      rw [if_neg (by omega)]
      have := trimL_last L (M2.length - 1) (by omega)
      rwa [trimL_getD] at this
  rw [← hfix]
  unfold repL
  refine trimL_congr _ _ fun i => ?_
  have hws : min (level + 1) 4 < ((wideL L).set level []).length := by simp; omega
  rw [g3, getD_set _ _ _ _ _ hws]
  have g4 : ∀ i, ((wideL L).set level []).getD i [] = if i = level then [] else L.getD i [] := by
    intro i; rw [getD_set _ _ _ _ _ (by omega), wideL_getD]
  split
  · rename_i h; rw [g4, g2, h]
  · rw [g4, g2]

theorem pickS_arg (L : List (List Int)) (k : Int) (h : validB L = false ∨ k < 0 ∨ 5 ≤ k) : pickS L k = ([], 2) := by rw [pickS, if_pos h]
theorem pickS_none (L : List (List Int)) (k : Int) (h : ¬ (validB L = false ∨ k < 0 ∨ 5 ≤ k)) (h2 : L.getD k.toNat [] = []) : pickS L k = ([], 4) := by rw [pickS, if_neg h, if_pos h2]
theorem pickS_ok (L : List (List Int)) (k : Int) (h : ¬ (validB L = false ∨ k < 0 ∨ 5 ≤ k)) (h2 : ¬ L.getD k.toNat [] = []) : pickS L k = (L.getD k.toNat [], 0) := by rw [pickS, if_neg h, if_neg h2]

theorem replaceS_err (L : List (List Int)) (k x : Int) (h : (pickS L k).2 ≠ 0) : replaceS L k x = ([], (pickS L k).2) := by rw [replaceS, if_pos h]
theorem replaceS_arg (L : List (List Int)) (k x : Int) (h : ¬ (pickS L k).2 ≠ 0) (h2 : x < 0 ∨ x ∈ L.flatten) : replaceS L k x = ([], 2) := by rw [replaceS, if_neg h, if_pos h2]
theorem replaceS_ok (L : List (List Int)) (k x : Int) (h : ¬ (pickS L k).2 ≠ 0) (h2 : ¬ (x < 0 ∨ x ∈ L.flatten)) : replaceS L k x = (repL L k.toNat x, 0) := by rw [replaceS, if_neg h, if_neg h2]

/-- what is picked tells that the levels may be, and that the level is one of those that there are -/
theorem pickS_zero (L : List (List Int)) (k : Int) (h : ¬ (pickS L k).2 ≠ 0) : validB L = true ∧ 0 ≤ k ∧ k < 5 ∧ L.getD k.toNat [] ≠ [] := by
  by_cases h1 : validB L = false ∨ k < 0 ∨ 5 ≤ k
  · rw [pickS_arg L k h1] at h; exact (h (by decide)).elim
  · by_cases h2 : L.getD k.toNat [] = []
    · rw [pickS_none L k h1 h2] at h; exact (h (by decide)).elim
    · refine ⟨?_, ?_, ?_, h2⟩
      · rcases hb : validB L with _ | _
        · exact (h1 (.inl hb)).elim
        · rfl
      · rcases Int.lt_or_le k 0 with h3 | h3
        · exact (h1 (.inr (.inl h3))).elim
        · exact h3
      · rcases Int.lt_or_le k 5 with h3 | h3
        · exact h3
        · exact (h1 (.inr (.inr h3))).elim

end Go.Proofs.Ytjllhjlmjbpinaa
