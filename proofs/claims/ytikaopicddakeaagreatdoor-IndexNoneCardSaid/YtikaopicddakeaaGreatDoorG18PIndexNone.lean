/- Walks: a disk of the law's own; whether two lists of numbers are the same. A disk behind several changes; a disk beside other blocks. Walks: the chapter's disk. Walks: the law DiskCrash. -/
import Derived.Test.YtikaopicddakeaaGreatDoorG16PIndexNone
import Derived.Test.YtikaopicddakeaaGreatDoorG17PIndexNone
set_option linter.unusedVariables false
set_option linter.unusedSimpArgs false
namespace Go.Proofs.YtikaopicddakeaaGreatDoor
open Go.RowKit

theorem Ints.off {F : Nat → Prop} {w : World} {ka : Option Addr} {kn kc : Nat} {xs : List Int} (h : Ints w ka kn kc xs) (hn : ∀ a, ka = some a → ¬ F a.block) : ∀ W, OffS F w W → Ints W ka kn kc xs := fun W hW => by
  refine ⟨h.len, h.fits, h.bound, h.nil, fun j u hj => ?_⟩
  obtain ⟨b, off, e, hc⟩ := h.rd j u hj
  refine ⟨b, off, e, ?_⟩
  have hb := hW.block b (World.block_lt_of_cell? (h := hc)) (hn _ e)
  simp only [World.cell?, hb] at hc ⊢
  exact hc

theorem crashD_c {w : World} {g : Nat} {F : Nat → Prop} {σ : DM} (h : Dk w g F σ) (ka : Option Addr) (kn kc : Nat) (xs : List Int) (hkeep : ∀ W, OffS F w W → Ints W ka kn kc xs) :
    Calls Tryz.prog 15 #[.pointer (some ⟨g, 0, none⟩), .slice ka kn kc] w fun e w' => e = .returned (.int .i64 (crashD σ xs).1) ∧ DkS w g F (crashD σ xs).2 w' := by
  obtain ⟨ho, m, kv, L, hi, hin, hlt⟩ := h
  have fin : ∀ σ' w', Fin w g m kv L σ' w' → DkS w g F σ' w' := fun σ' w' ⟨ho', m', kv', L', hi', hin', hoff⟩ => DkS.mk' hin hlt ho' hi' hoff hin'
  cases hd : σ.down with
  | true =>
    have c6 := hi.c6
    rw [hd] at c6
    have hM : crashD σ xs = (61, σ) := by unfold crashD; rw [if_pos hd]
    refine (crash_down w g hi.c0 c6 _).mono ?_
    rintro e w' ⟨rfl, rfl⟩
    rw [hM]
    exact ⟨rfl, fin _ _ (Fin.same ho hi)⟩
  | false =>
    have hM : crashD σ xs = (0, crashM σ xs) := by unfold crashD; rw [if_neg (by rw [hd]; decide)]
    refine (crash_c hi ho hd ka kn kc xs fun W hW => hkeep W (hW.mono fun i _ hm => hin i hm.inD)).mono ?_
    rintro e w' ⟨rfl, L', h1, h2, h3⟩
    rw [hM]
    refine ⟨rfl, fin _ _ ⟨crash_ok ho xs, m, _, L', h1, fun i hx => ?_, h3.inD⟩⟩
    rcases hx with h4 | h4 | h4
    · exact .inl (.inl h4)
    · exact .inl (.inr (.inl (h2 i h4)))
    · cases h4

/-- a disk that was made since w0 -/
def KD (w0 w : World) (g : Nat) (σ : DM) : Prop := ∃ F, Dk w g F σ ∧ (∀ i, F i → w0.heap.size ≤ i) ∧ Ext w0 w

section
variable {w0 w w' : World} {g : Nat} {σ σ' : DM}
theorem KD.ext (h : KD w0 w g σ) (k : Ext w w') : KD w0 w' g σ := by
  obtain ⟨F, h1, h2, h3⟩ := h
  exact ⟨F, h1.ext k, h2, h3.trans k⟩
theorem KD.base (h : KD w0 w g σ) : Ext w0 w := by obtain ⟨F, h1, h2, h3⟩ := h; exact h3
theorem KD.dkS {F : Nat → Prop} (h2 : ∀ i, F i → w0.heap.size ≤ i) (h3 : Ext w0 w) (h : DkS w g F σ' w') : KD w0 w' g σ' :=
  ⟨Gr F w w', h.dk, fun i hi => Gr.ge h2 h3.size hi, h.off.ext h3 h2⟩
theorem KD.new (w0 : World) (c : Int) (h0 : 0 ≤ c) (h1 : c ≤ 1048576) {w : World} (hx : Ext w0 w) : Calls Tryz.prog 5 #[.int .i64 c] w fun e w' => ∃ g, e = .returned (.tuple #[.pointer (some ⟨g, 0, none⟩), .int .i64 0]) ∧ KD w0 w' g (newM c) := by
  refine (new_c w c h0 h1).mono ?_
  rintro e w' ⟨g, F, rfl, h1, h2, h3⟩
  exact ⟨g, rfl, F, h1, fun i hi => Nat.le_trans hx.size (h2 i hi), hx.trans h3⟩
theorem KD.create (h : KD w0 w g σ) (nm : List UInt8) (hl : nm.length ≤ 9223372036854775807) {c : Int} (hm : createM σ nm = (c, σ')) :
    Calls Tryz.prog 135 #[.pointer (some ⟨g, 0, none⟩), .string ⟨nm.toArray⟩] w fun e w' => e = .returned (.int .i64 c) ∧ KD w0 w' g σ' := by
  obtain ⟨F, h1, h2, h3⟩ := h
  refine (create_c h1 nm hl).mono ?_
  rw [hm]
  rintro e w' ⟨rfl, h⟩
  exact ⟨rfl, KD.dkS h2 h3 h⟩
theorem KD.append (h : KD w0 w g σ) (nm s : List UInt8) (hl : nm.length ≤ 9223372036854775807) (hs : s.length ≤ 9223372036854775807) {c : Int} (hm : appendM σ nm s = (c, σ')) :
    Calls Tryz.prog 136 #[.pointer (some ⟨g, 0, none⟩), .string ⟨nm.toArray⟩, .string ⟨s.toArray⟩] w fun e w' => e = .returned (.int .i64 c) ∧ KD w0 w' g σ' := by
  obtain ⟨F, h1, h2, h3⟩ := h
  refine (append_c h1 nm s hl hs).mono ?_
  rw [hm]
  rintro e w' ⟨rfl, h⟩
  exact ⟨rfl, KD.dkS h2 h3 h⟩
theorem KD.read (h : KD w0 w g σ) (nm : List UInt8) (a n : Int) (hl : nm.length ≤ 9223372036854775807) (ha0 : -9223372036854775808 ≤ a) (ha1 : a ≤ 9223372036854775807) (hn0 : -9223372036854775808 ≤ n) (hn1 : n ≤ 9223372036854775807) {s : List UInt8} {c : Int} (hm : readM σ nm a n = (s, c, σ')) :
    Calls Tryz.prog 120 #[.pointer (some ⟨g, 0, none⟩), .string ⟨nm.toArray⟩, .int .i64 a, .int .i64 n] w fun e w' => e = .returned (.tuple #[.string ⟨s.toArray⟩, .int .i64 c]) ∧ KD w0 w' g σ' := by
  obtain ⟨F, h1, h2, h3⟩ := h
  refine (read_c h1 nm a n hl ha0 ha1 hn0 hn1).mono ?_
  rw [hm]
  rintro e w' ⟨rfl, h⟩
  exact ⟨rfl, KD.dkS h2 h3 h⟩
theorem KD.sync (h : KD w0 w g σ) (nm : List UInt8) (hl : nm.length ≤ 9223372036854775807) {c : Int} (hm : syncM σ nm = (c, σ')) :
    Calls Tryz.prog 124 #[.pointer (some ⟨g, 0, none⟩), .string ⟨nm.toArray⟩] w fun e w' => e = .returned (.int .i64 c) ∧ KD w0 w' g σ' := by
  obtain ⟨F, h1, h2, h3⟩ := h
  refine (sync_c h1 nm hl).mono ?_
  rw [hm]
  rintro e w' ⟨rfl, h⟩
  exact ⟨rfl, KD.dkS h2 h3 h⟩
theorem KD.delete (h : KD w0 w g σ) (nm : List UInt8) (hl : nm.length ≤ 9223372036854775807) {c : Int} (hm : deleteM σ nm = (c, σ')) :
    Calls Tryz.prog 58 #[.pointer (some ⟨g, 0, none⟩), .string ⟨nm.toArray⟩] w fun e w' => e = .returned (.int .i64 c) ∧ KD w0 w' g σ' := by
  obtain ⟨F, h1, h2, h3⟩ := h
  refine (delete_c h1 nm hl).mono ?_
  rw [hm]
  rintro e w' ⟨rfl, h⟩
  exact ⟨rfl, KD.dkS h2 h3 h⟩
theorem KD.rename (h : KD w0 w g σ) (a b : List UInt8) (hla : a.length ≤ 9223372036854775807) (hlb : b.length ≤ 9223372036854775807) {c : Int} (hm : renameM σ a b = (c, σ')) :
    Calls Tryz.prog 137 #[.pointer (some ⟨g, 0, none⟩), .string ⟨a.toArray⟩, .string ⟨b.toArray⟩] w fun e w' => e = .returned (.int .i64 c) ∧ KD w0 w' g σ' := by
  obtain ⟨F, h1, h2, h3⟩ := h
  refine (rename_c h1 a b hla hlb).mono ?_
  rw [hm]
  rintro e w' ⟨rfl, h⟩
  exact ⟨rfl, KD.dkS h2 h3 h⟩
theorem KD.size (h : KD w0 w g σ) (nm : List UInt8) (hl : nm.length ≤ 9223372036854775807) {n c : Int} (hm : sizeM σ nm = (n, c)) :
    Calls Tryz.prog 49 #[.pointer (some ⟨g, 0, none⟩), .string ⟨nm.toArray⟩] w fun e w' => e = .returned (.tuple #[.int .i64 n, .int .i64 c]) ∧ w = w' := by
  obtain ⟨F, h1, h2, h3⟩ := h
  have := size_c h1 nm hl
  rwa [hm] at this
theorem KD.up (h : KD w0 w g σ) {b : Bool} (hm : σ.down = !b) : Calls Tryz.prog 57 #[.pointer (some ⟨g, 0, none⟩)] w fun e w' => e = .returned (.bool b) ∧ w = w' := by
  obtain ⟨F, h1, h2, h3⟩ := h
  have := up_c h1
  rw [hm, Bool.not_not] at this
  exact this
theorem KD.free (h : KD w0 w g σ) {n : Int} (hm : freeM σ = n) : Calls Tryz.prog 130 #[.pointer (some ⟨g, 0, none⟩)] w fun e w' => e = .returned (.int .i64 n) ∧ Ext w w' := by
  obtain ⟨F, h1, h2, h3⟩ := h
  have := free_c h1
  rwa [hm] at this
/-- a crash, nothing kept -/
theorem KD.crash0 (h : KD w0 w g σ) {c : Int} (hm : crashD σ [] = (c, σ')) :
    Calls Tryz.prog 15 #[.pointer (some ⟨g, 0, none⟩), .slice none 0 0] w fun e w' => e = .returned (.int .i64 c) ∧ KD w0 w' g σ' := by
  obtain ⟨F, h1, h2, h3⟩ := h
  refine (crashD_c h1 none 0 0 [] fun W _ => Ints.empty W).mono ?_
  rw [hm]
  rintro e w' ⟨rfl, h⟩
  exact ⟨rfl, KD.dkS h2 h3 h⟩
/-- .. a list that was just laid -/
theorem KD.crash1 (h : KD w0 w g σ) (k : Int) {c : Int} (hm : crashD σ [k] = (c, σ')) :
    Calls Tryz.prog 15 #[.pointer (some ⟨g, 0, none⟩), .slice (some ⟨w.heap.size, 0, none⟩) 1 1] (w.alloc (.cells #[.int .i64 k] 3)) fun e w' => e = .returned (.int .i64 c) ∧ KD w0 w' g σ' := by
  obtain ⟨F, h1, h2, h3⟩ := h
  have hlt : ∀ i, F i → i < w.heap.size := by obtain ⟨_, _, _, _, _, _, h⟩ := h1; exact h
  have hi : Ints (w.alloc (.cells #[.int .i64 k] 3)) (some ⟨w.heap.size, 0, none⟩) 1 1 [k] := ⟨rfl, Nat.le_refl _, by omega, (fun h => by cases h), Rd.lit w #[.int .i64 k] 3⟩
  refine (crashD_c (h1.ext (ext_a1 _ _)) _ 1 1 [k] (hi.off fun a e hf => by cases e; have := hlt _ hf; simp at this)).mono ?_
  rw [hm]
  rintro e w' ⟨rfl, h⟩
  exact ⟨rfl, KD.dkS h2 (h3.trans (ext_a1 _ _)) h⟩
theorem KD.names (h : KD w0 w g σ) : Calls Tryz.prog 54 #[.pointer (some ⟨g, 0, none⟩)] w (RetN w (namesM σ)) := by
  obtain ⟨F, ⟨ho, m, kv, L, hi, _⟩, h2, h3⟩ := h
  have := ho.many
  have hl : L.length = σ.L.length := by rw [← hi.files, List.length_map]
  have hn := names_c w g m L hi.c0 hi.c3 hi.fs (by omega)
  have e : L.map FE.nm = namesM σ := by unfold namesM; rw [← hi.files, List.map_map]; rfl
  rwa [e] at hn
end

theorem RetI.out {t : TypeId} {w w' : World} {xs : List Int} {e : Ending} (h : RetI t w xs e w') : ∃ a c, e = .returned (.slice a xs.length c) ∧ Ints w' a xs.length c xs ∧ Ext w w' := by
  obtain ⟨v, rfl, ho, hb⟩ := h
  obtain ⟨a, c, rfl, hi⟩ := own_ints ho
  exact ⟨a, c, rfl, hi, hb⟩

set_option maxRecDepth 100000
set_option linter.unusedVariables false
set_option maxHeartbeats 1600000

end Go.Proofs.YtikaopicddakeaaGreatDoor
namespace Go.Proofs.YtikaopicddakeaaGreatDoor
open Go.RowKit

theorem Dk.keep {w w' : World} {g : Nat} {F : Nat → Prop} {σ : DM} (h : Dk w g F σ) (hs : w.heap.size ≤ w'.heap.size) (k : ∀ i, F i → w'.heap[i]? = w.heap[i]?) : Dk w' g F σ := by
  obtain ⟨ho, m, kv, L, hi, h1, h2⟩ := h
  exact ⟨ho, m, kv, L, ⟨hi.head.same (k g (h1 g (.inl rfl))), hi.fs.same fun i hx => k i (h1 i (.inr (.inl hx))), hi.files, hi.keep.same fun i hx => k i (h1 i (.inr (.inr hx)))⟩, h1, fun i hf => Nat.lt_of_lt_of_le (h2 i hf) hs⟩

section
variable {w w1 w2 : World} {g : Nat} {F : Nat → Prop} {σ σ1 σ2 : DM}
theorem DkS.refl (h : Dk w g F σ) : DkS w g F σ w := by
  have hlt : ∀ i, F i → i < w.heap.size := by obtain ⟨_, _, _, _, _, _, h⟩ := h; exact h
  exact ⟨h.mono (fun i hi => .inl hi) (fun i hi => hi.elim (hlt i) fun h => by omega), OffS.refl _ _⟩
theorem DkS.trans (h : DkS w g F σ1 w1) (k : DkS w1 g (Gr F w w1) σ2 w2) : DkS w g F σ2 w2 := by
  have s1 := h.off.size; have s2 := k.off.size
  have hlt : ∀ i, Gr (Gr F w w1) w1 w2 i → i < w2.heap.size := by obtain ⟨_, _, _, _, _, _, h⟩ := k.dk; exact h
  refine ⟨k.dk.mono (fun i hi => ?_) (fun i hi => ?_), h.off.gr k.off⟩
  · rcases hi with (h1 | h1) | h1
    · exact .inl h1
    · exact .inr (by omega)
    · exact .inr (by omega)
  · rcases hi with h1 | h1
    · exact hlt i (.inl (.inl h1))
    · exact h1.2
theorem DkS.ext (h : DkS w g F σ w1) (k : Ext w1 w2) : DkS w g F σ w2 := by
  have s1 := h.off.size; have s2 := k.size
  have hlt : ∀ i, Gr F w w1 i → i < w1.heap.size := by obtain ⟨_, _, _, _, _, _, h⟩ := h.dk; exact h
  refine ⟨(h.dk.ext k).mono (fun i hi => ?_) (fun i hi => ?_), h.off.trans (OffS.of_ext k)⟩
  · rcases hi with h1 | h1
    · exact .inl h1
    · exact .inr (by omega)
  · rcases hi with h1 | h1
    · exact Nat.lt_of_lt_of_le (hlt i (.inl h1)) s2
    · exact h1.2
/-- a new block, made before, was written -/
theorem DkS.box {wa : World} (hx : Ext w wa) (h : DkS wa g F σ w1) (hF : ∀ i, F i → i < w.heap.size) (hs : w1.heap.size ≤ w2.heap.size) (h1 : w2.os = w1.os) (h2 : w2.tape = w1.tape) (h3 : w2.output = w1.output)
    (k : ∀ i, i < w1.heap.size → ¬ (w.heap.size ≤ i ∧ i < wa.heap.size) → w2.heap[i]? = w1.heap[i]?) : DkS w g F σ w2 := by
  have s0 := hx.size; have s1 := h.off.size
  have hlt : ∀ i, Gr F wa w1 i → i < w1.heap.size := by obtain ⟨_, _, _, _, _, _, h⟩ := h.dk; exact h
  have hd : Dk w2 g (Gr F wa w1) σ := h.dk.keep hs fun i hi => k i (hlt i hi) (by
    rcases hi with h1 | h1
    · have := hF i h1; omega
    · omega)
  refine ⟨hd.mono (fun i hi => ?_) (fun i hi => ?_), ⟨h1.trans (h.off.os.trans hx.os), h2.trans (h.off.tape.trans hx.tape), h3.trans (h.off.output.trans hx.output), by omega, fun i hl hn => ?_⟩⟩
  · rcases hi with h1 | h1
    · exact .inl h1
    · exact .inr (by omega)
  · rcases hi with h1 | h1
    · have := hF i h1; omega
    · exact h1.2
  · rw [k i (by omega) (by omega), h.off.block i (by omega) hn, hx.block i hl]
end

theorem Dk.held {w w' : World} {g : Nat} {F : Nat → Prop} {σ : DM} (h : Dk w g F σ) (hs : w.heap.size ≤ w'.heap.size) (k : ∀ i, F i → w'.heap[i]? = w.heap[i]?) : Dk w' g F σ := by
  obtain ⟨ho, m, kv, L, hi, h1, h2⟩ := h
  exact ⟨ho, m, kv, L, ⟨hi.head.same (k g (h1 g (.inl rfl))), hi.fs.same fun i hx => k i (h1 i (.inr (.inl hx))), hi.files, hi.keep.same fun i hx => k i (h1 i (.inr (.inr hx)))⟩, h1, fun i hf => Nat.lt_of_lt_of_le (h2 i hf) hs⟩

/-- a disk alone, made since w0, beside the blocks K -/
structure DkF (w0 w : World) (g : Nat) (F : Nat → Prop) (σ : DM) (K : Nat → Prop) : Prop where
  d : Dk w g F σ
  bF : ∀ i, F i → w0.heap.size ≤ i
  ext : Ext w0 w
  k : ∀ i, K i → i < w.heap.size ∧ ¬ F i
/-- what is beside stays -/
def Stay (K : Nat → Prop) (w w' : World) : Prop := ∀ i, K i → w'.heap[i]? = w.heap[i]?

theorem Stay.trans {K : Nat → Prop} {a b c : World} (h : Stay K a b) (k : Stay K b c) : Stay K a c := fun i hi => (k i hi).trans (h i hi)
theorem Stay.refl (K : Nat → Prop) (w : World) : Stay K w w := fun _ _ => rfl
section
variable {w0 w w1 : World} {g : Nat} {F K : Nat → Prop} {σ σ1 : DM}
theorem DkF.disk (h : DkF w0 w g F σ K) (k : DkS w g F σ1 w1) : DkF w0 w1 g (Gr F w w1) σ1 K ∧ Stay K w w1 := by
  have hs := k.off.size
  refine ⟨⟨k.dk, fun i hi => Gr.ge h.bF h.ext.size hi, k.off.ext h.ext h.bF, fun i hi => ?_⟩, fun i hi => ?_⟩
  · obtain ⟨a, b⟩ := h.k i hi
    exact ⟨by omega, Gr.not b a⟩
  · obtain ⟨a, b⟩ := h.k i hi
    exact k.off.block i a b
theorem DkF.grow (h : DkF w0 w g F σ K) (k : Ext w w1) : DkF w0 w1 g F σ K :=
  ⟨h.d.ext k, h.bF, h.ext.trans k, fun i hi => ⟨Nat.lt_of_lt_of_le (h.k i hi).1 k.size, (h.k i hi).2⟩⟩
end

end Go.Proofs.YtikaopicddakeaaGreatDoor
namespace Go.Proofs.YtikaopicddakeaaGreatDoor
open Go.RowKit

set_option maxRecDepth 100000
set_option linter.unusedVariables false
set_option maxHeartbeats 3200000

end Go.Proofs.YtikaopicddakeaaGreatDoor
namespace Go.Proofs.YtikaopicddakeaaGreatDoor
open Go.RowKit

/-- a disk of one file -/
def one (f : FM) (c r s : Int) (dn : Bool) : DM := ⟨c, [f], r, s, dn, false, 0, []⟩

theorem find_one {f : FM} {nm : List UInt8} (h : f.nm = nm) : findN FM.nm nm [f] = some f := by simp [findN, h]
theorem upd_one {f : FM} {nm : List UInt8} (h : f.nm = nm) (k : FM → FM) : updN FM.nm nm k [f] = [k f] := by simp [updN, h]
theorem used_one (f : FM) : usedM [f] = f.da.length := by simp [usedM, sumN]

theorem one_append {f : FM} {nm : List UInt8} (h : f.nm = nm) {c r s : Int} {t : List UInt8} (hc : (f.da.length : Int) + t.length ≤ c) : appendM (one f c r s false) nm t = (0, one { f with da := f.da ++ t } c r s false) := by
  unfold appendM one
  simp only [find_one h, used_one, Bool.false_eq_true, if_false, Option.isNone_some, failsM, Bool.false_and]
  rw [if_neg (by omega)]
  simp [tickM, appM, upd_one h]
  decide
theorem one_append_down (f : FM) (c r s : Int) (nm t : List UInt8) : appendM (one f c r s true) nm t = (61, one f c r s true) := rfl
theorem one_sync {f : FM} {nm : List UInt8} (h : f.nm = nm) (c r s : Int) : syncM (one f c r s false) nm = (0, one { f with sy := f.da.length } c r s false) := by
  unfold syncM one
  simp [find_one h, failsM, tickM, upd_one h]
  decide
theorem one_crash (f : FM) (c r s k : Int) : crashD (one f c r s false) [k] = (0, one (crashF f k) c r s true) := rfl
theorem one_crash_down (f : FM) (c r s : Int) : crashD (one f c r s true) [] = (61, one f c r s true) := rfl
theorem one_start (f : FM) (c r s : Int) : startM (one f c r s true) = (0, one f c r (wrap64 (s + 1)) false) := rfl
theorem one_read {f : FM} {nm : List UInt8} (h : f.nm = nm) (c r s : Int) {n : Int} (hn : n = (f.da.length : Int)) : readM (one f c r s false) nm 0 n = (f.da, 0, one f c (wrap64 (r + 1)) s false) := by
  unfold readM one
  simp only [find_one h, Bool.false_eq_true, if_false]
  rw [if_pos (by omega)]
  subst hn
  simp [tellM]
theorem one_size {f : FM} {nm : List UInt8} (h : f.nm = nm) (c r s : Int) : sizeM (one f c r s false) nm = ((f.da.length : Int), 0) := by
  unfold sizeM one
  simp [find_one h]
theorem lit_ints (w : World) (k : Int) : Ints (w.alloc (.cells #[.int .i64 k] 3)) (some ⟨w.heap.size, 0, none⟩) 1 1 [k] := ⟨rfl, Nat.le_refl _, by omega, (fun h => by cases h), Rd.lit w #[.int .i64 k] 3⟩
theorem one_loose (f : FM) (c r s : Int) (d : Bool) : looseM (one f c r s d) = [(f.da.length : Int) - (f.sy : Int)] := rfl

set_option maxRecDepth 100000
set_option linter.unusedVariables false
set_option maxHeartbeats 3200000

end Go.Proofs.YtikaopicddakeaaGreatDoor
