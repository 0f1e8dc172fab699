/- Walks: a disk of the law's own; whether two lists of numbers are the same. -/
import Derived.Test.YtfkllobehgffoaaGreatDoorG14PTflogBack
import Derived.Test.YtfkllobehgffoaaGreatDoorG15PTflogBack
set_option linter.unusedVariables false
set_option linter.unusedSimpArgs false
namespace Go.Proofs.YtfkllobehgffoaaGreatDoor
open Go.RowKit

theorem Ints.off {F : Nat → Prop} {w : World} {ka : Option Addr} {kn kc : Nat} {xs : List Int} (h : Ints w ka kn kc xs) (hn : ∀ a, ka = some a → ¬ F a.block) : ∀ W, OffS F w W → Ints W ka kn kc xs := fun W hW => by
  refine ⟨h.len, h.fits, h.bound, h.nil, fun j u hj => ?_⟩
  obtain ⟨b, off, e, hc⟩ := h.rd j u hj
  refine ⟨b, off, e, ?_⟩
  have hb := hW.block b (World.block_lt_of_cell? (h := hc)) (hn _ e)
  simp only [World.cell?, hb] at hc ⊢
  exact hc

theorem crashD_c {w : World} {g : Nat} {F : Nat → Prop} {σ : DM} (h : Dk w g F σ) (ka : Option Addr) (kn kc : Nat) (xs : List Int) (hkeep : ∀ W, OffS F w W → Ints W ka kn kc xs) :
    Calls Tryz.prog 14 #[.pointer (some ⟨g, 0, none⟩), .slice ka kn kc] w fun e w' => e = .returned (.int .i64 (crashD σ xs).1) ∧ DkS w g F (crashD σ xs).2 w' := by
  obtain ⟨ho, m, kv, L, hi, hin, hlt⟩ := h
  have fin : ∀ σ' w', Fin w g m kv L σ' w' → DkS w g F σ' w' := fun σ' w' ⟨ho', m', kv', L', hi', hin', hoff⟩ => DkS.mk' hin hlt ho' hi' hoff hin'
  cases hd : σ.down with
  | true =>
    have c6 := hi.c6
    rw [hd] at c6
    have hM : crashD σ xs = (61, σ) := by unfold crashD; rw [if_pos hd]
    refine (crash_down w g hi.c0 c6 _).mono ?_
    rintro e w' ⟨rfl, rfl⟩
    rw [hM]
    exact ⟨rfl, fin _ _ (Fin.same ho hi)⟩
  | false =>
    have hM : crashD σ xs = (0, crashM σ xs) := by unfold crashD; rw [if_neg (by rw [hd]; decide)]
    refine (crash_c hi ho hd ka kn kc xs fun W hW => hkeep W (hW.mono fun i _ hm => hin i hm.inD)).mono ?_
    rintro e w' ⟨rfl, L', h1, h2, h3⟩
    rw [hM]
    refine ⟨rfl, fin _ _ ⟨crash_ok ho xs, m, _, L', h1, fun i hx => ?_, h3.inD⟩⟩
    rcases hx with h4 | h4 | h4
    · exact .inl (.inl h4)
    · exact .inl (.inr (.inl (h2 i h4)))
    · cases h4

/-- a disk that was made since w0 -/
def KD (w0 w : World) (g : Nat) (σ : DM) : Prop := ∃ F, Dk w g F σ ∧ (∀ i, F i → w0.heap.size ≤ i) ∧ Ext w0 w

section
variable {w0 w w' : World} {g : Nat} {σ σ' : DM}
theorem KD.ext (h : KD w0 w g σ) (k : Ext w w') : KD w0 w' g σ := by
  obtain ⟨F, h1, h2, h3⟩ := h
  exact ⟨F, h1.ext k, h2, h3.trans k⟩
theorem KD.base (h : KD w0 w g σ) : Ext w0 w := by obtain ⟨F, h1, h2, h3⟩ := h; exact h3
theorem KD.dkS {F : Nat → Prop} (h2 : ∀ i, F i → w0.heap.size ≤ i) (h3 : Ext w0 w) (h : DkS w g F σ' w') : KD w0 w' g σ' :=
  ⟨Gr F w w', h.dk, fun i hi => Gr.ge h2 h3.size hi, h.off.ext h3 h2⟩
theorem KD.new (w0 : World) (c : Int) (h0 : 0 ≤ c) (h1 : c ≤ 1048576) {w : World} (hx : Ext w0 w) : Calls Tryz.prog 13 #[.int .i64 c] w fun e w' => ∃ g, e = .returned (.tuple #[.pointer (some ⟨g, 0, none⟩), .int .i64 0]) ∧ KD w0 w' g (newM c) := by
  refine (new_c w c h0 h1).mono ?_
  rintro e w' ⟨g, F, rfl, h1, h2, h3⟩
  exact ⟨g, rfl, F, h1, fun i hi => Nat.le_trans hx.size (h2 i hi), hx.trans h3⟩
theorem KD.create (h : KD w0 w g σ) (nm : List UInt8) (hl : nm.length ≤ 9223372036854775807) {c : Int} (hm : createM σ nm = (c, σ')) :
    Calls Tryz.prog 48 #[.pointer (some ⟨g, 0, none⟩), .string ⟨nm.toArray⟩] w fun e w' => e = .returned (.int .i64 c) ∧ KD w0 w' g σ' := by
  obtain ⟨F, h1, h2, h3⟩ := h
  refine (create_c h1 nm hl).mono ?_
  rw [hm]
  rintro e w' ⟨rfl, h⟩
  exact ⟨rfl, KD.dkS h2 h3 h⟩
theorem KD.append (h : KD w0 w g σ) (nm s : List UInt8) (hl : nm.length ≤ 9223372036854775807) (hs : s.length ≤ 9223372036854775807) {c : Int} (hm : appendM σ nm s = (c, σ')) :
    Calls Tryz.prog 45 #[.pointer (some ⟨g, 0, none⟩), .string ⟨nm.toArray⟩, .string ⟨s.toArray⟩] w fun e w' => e = .returned (.int .i64 c) ∧ KD w0 w' g σ' := by
  obtain ⟨F, h1, h2, h3⟩ := h
  refine (append_c h1 nm s hl hs).mono ?_
  rw [hm]
  rintro e w' ⟨rfl, h⟩
  exact ⟨rfl, KD.dkS h2 h3 h⟩
theorem KD.read (h : KD w0 w g σ) (nm : List UInt8) (a n : Int) (hl : nm.length ≤ 9223372036854775807) (ha0 : -9223372036854775808 ≤ a) (ha1 : a ≤ 9223372036854775807) (hn0 : -9223372036854775808 ≤ n) (hn1 : n ≤ 9223372036854775807) {s : List UInt8} {c : Int} (hm : readM σ nm a n = (s, c, σ')) :
    Calls Tryz.prog 25 #[.pointer (some ⟨g, 0, none⟩), .string ⟨nm.toArray⟩, .int .i64 a, .int .i64 n] w fun e w' => e = .returned (.tuple #[.string ⟨s.toArray⟩, .int .i64 c]) ∧ KD w0 w' g σ' := by
  obtain ⟨F, h1, h2, h3⟩ := h
  refine (read_c h1 nm a n hl ha0 ha1 hn0 hn1).mono ?_
  rw [hm]
  rintro e w' ⟨rfl, h⟩
  exact ⟨rfl, KD.dkS h2 h3 h⟩
theorem KD.sync (h : KD w0 w g σ) (nm : List UInt8) (hl : nm.length ≤ 9223372036854775807) {c : Int} (hm : syncM σ nm = (c, σ')) :
    Calls Tryz.prog 56 #[.pointer (some ⟨g, 0, none⟩), .string ⟨nm.toArray⟩] w fun e w' => e = .returned (.int .i64 c) ∧ KD w0 w' g σ' := by
  obtain ⟨F, h1, h2, h3⟩ := h
  refine (sync_c h1 nm hl).mono ?_
  rw [hm]
  rintro e w' ⟨rfl, h⟩
  exact ⟨rfl, KD.dkS h2 h3 h⟩
theorem KD.delete (h : KD w0 w g σ) (nm : List UInt8) (hl : nm.length ≤ 9223372036854775807) {c : Int} (hm : deleteM σ nm = (c, σ')) :
    Calls Tryz.prog 36 #[.pointer (some ⟨g, 0, none⟩), .string ⟨nm.toArray⟩] w fun e w' => e = .returned (.int .i64 c) ∧ KD w0 w' g σ' := by
  obtain ⟨F, h1, h2, h3⟩ := h
  refine (delete_c h1 nm hl).mono ?_
  rw [hm]
  rintro e w' ⟨rfl, h⟩
  exact ⟨rfl, KD.dkS h2 h3 h⟩
theorem KD.rename (h : KD w0 w g σ) (a b : List UInt8) (hla : a.length ≤ 9223372036854775807) (hlb : b.length ≤ 9223372036854775807) {c : Int} (hm : renameM σ a b = (c, σ')) :
    Calls Tryz.prog 98 #[.pointer (some ⟨g, 0, none⟩), .string ⟨a.toArray⟩, .string ⟨b.toArray⟩] w fun e w' => e = .returned (.int .i64 c) ∧ KD w0 w' g σ' := by
  obtain ⟨F, h1, h2, h3⟩ := h
  refine (rename_c h1 a b hla hlb).mono ?_
  rw [hm]
  rintro e w' ⟨rfl, h⟩
  exact ⟨rfl, KD.dkS h2 h3 h⟩
theorem KD.size (h : KD w0 w g σ) (nm : List UInt8) (hl : nm.length ≤ 9223372036854775807) {n c : Int} (hm : sizeM σ nm = (n, c)) :
    Calls Tryz.prog 35 #[.pointer (some ⟨g, 0, none⟩), .string ⟨nm.toArray⟩] w fun e w' => e = .returned (.tuple #[.int .i64 n, .int .i64 c]) ∧ w = w' := by
  obtain ⟨F, h1, h2, h3⟩ := h
  have := size_c h1 nm hl
  rwa [hm] at this
theorem KD.up (h : KD w0 w g σ) {b : Bool} (hm : σ.down = !b) : Calls Tryz.prog 34 #[.pointer (some ⟨g, 0, none⟩)] w fun e w' => e = .returned (.bool b) ∧ w = w' := by
  obtain ⟨F, h1, h2, h3⟩ := h
  have := up_c h1
  rw [hm, Bool.not_not] at this
  exact this
theorem KD.free (h : KD w0 w g σ) {n : Int} (hm : freeM σ = n) : Calls Tryz.prog 18 #[.pointer (some ⟨g, 0, none⟩)] w fun e w' => e = .returned (.int .i64 n) ∧ Ext w w' := by
  obtain ⟨F, h1, h2, h3⟩ := h
  have := free_c h1
  rwa [hm] at this
/-- a crash, nothing kept -/
theorem KD.crash0 (h : KD w0 w g σ) {c : Int} (hm : crashD σ [] = (c, σ')) :
    Calls Tryz.prog 14 #[.pointer (some ⟨g, 0, none⟩), .slice none 0 0] w fun e w' => e = .returned (.int .i64 c) ∧ KD w0 w' g σ' := by
  obtain ⟨F, h1, h2, h3⟩ := h
  refine (crashD_c h1 none 0 0 [] fun W _ => Ints.empty W).mono ?_
  rw [hm]
  rintro e w' ⟨rfl, h⟩
  exact ⟨rfl, KD.dkS h2 h3 h⟩
/-- .. a list that was just laid -/
theorem KD.crash1 (h : KD w0 w g σ) (k : Int) {c : Int} (hm : crashD σ [k] = (c, σ')) :
    Calls Tryz.prog 14 #[.pointer (some ⟨g, 0, none⟩), .slice (some ⟨w.heap.size, 0, none⟩) 1 1] (w.alloc (.cells #[.int .i64 k] 3)) fun e w' => e = .returned (.int .i64 c) ∧ KD w0 w' g σ' := by
  obtain ⟨F, h1, h2, h3⟩ := h
  have hlt : ∀ i, F i → i < w.heap.size := by obtain ⟨_, _, _, _, _, _, h⟩ := h1; exact h
  have hi : Ints (w.alloc (.cells #[.int .i64 k] 3)) (some ⟨w.heap.size, 0, none⟩) 1 1 [k] := ⟨rfl, Nat.le_refl _, by omega, (fun h => by cases h), Rd.lit w #[.int .i64 k] 3⟩
  refine (crashD_c (h1.ext (ext_a1 _ _)) _ 1 1 [k] (hi.off fun a e hf => by cases e; have := hlt _ hf; simp at this)).mono ?_
  rw [hm]
  rintro e w' ⟨rfl, h⟩
  exact ⟨rfl, KD.dkS h2 (h3.trans (ext_a1 _ _)) h⟩
theorem KD.names (h : KD w0 w g σ) : Calls Tryz.prog 32 #[.pointer (some ⟨g, 0, none⟩)] w (RetN w (namesM σ)) := by
  obtain ⟨F, ⟨ho, m, kv, L, hi, _⟩, h2, h3⟩ := h
  have := ho.many
  have hl : L.length = σ.L.length := by rw [← hi.files, List.length_map]
  have hn := names_c w g m L hi.c0 hi.c3 hi.fs (by omega)
  have e : L.map FE.nm = namesM σ := by unfold namesM; rw [← hi.files, List.map_map]; rfl
  rwa [e] at hn
end

theorem RetI.out {t : TypeId} {w w' : World} {xs : List Int} {e : Ending} (h : RetI t w xs e w') : ∃ a c, e = .returned (.slice a xs.length c) ∧ Ints w' a xs.length c xs ∧ Ext w w' := by
  obtain ⟨v, rfl, ho, hb⟩ := h
  obtain ⟨a, c, rfl, hi⟩ := own_ints ho
  exact ⟨a, c, rfl, hi, hb⟩

set_option maxRecDepth 100000
set_option linter.unusedVariables false
set_option maxHeartbeats 1600000

end Go.Proofs.YtfkllobehgffoaaGreatDoor
