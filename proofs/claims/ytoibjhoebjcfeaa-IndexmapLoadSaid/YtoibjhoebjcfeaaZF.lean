/- Walks: the failure that is set; the small tellers. -/
import Derived.Test.YtoibjhoebjcfeaaZE
import Derived.Test.YtoibjhoebjcfeaaZG
namespace Go.Proofs.Ytoibjhoebjcfeaa
open Go.RowKit

/-- behind a walk on a disk that was laid open -/
def Fin (w : World) (g m : Nat) (kv : Value) (L : List FE) (σ' : DM) (w' : World) : Prop :=
  okD σ' ∧ ∃ m' kv' L', DkI w' g m' kv' L' (usedM σ'.L : Int) σ' ∧ (∀ i, InD g m' kv' L' i → InD g m kv L i ∨ w.heap.size ≤ i) ∧ OffS (InD g m kv L) w w'

theorem Dk.openD {w : World} {g : Nat} {F : Nat → Prop} {σ : DM} (h : Dk w g F σ) : okD σ ∧ ∃ m kv L, DkI w g m kv L (usedM σ.L : Int) σ ∧ ∀ σ' w', Fin w g m kv L σ' w' → DkS w g F σ' w' := by
  obtain ⟨ho, m, kv, L, hi, h1, h2⟩ := h
  refine ⟨ho, m, kv, L, hi, fun σ' w' ⟨ho', m', kv', L', hi', hin, hoff⟩ => DkS.mk' h1 h2 ho' hi' hoff hin⟩

theorem Fin.same {w : World} {g m : Nat} {kv : Value} {L : List FE} {σ : DM} (ho : okD σ) (h : DkI w g m kv L (usedM σ.L : Int) σ) : Fin w g m kv L σ w :=
  ⟨ho, m, kv, L, h, fun i hi => .inl hi, OffS.refl _ _⟩
theorem Fin.ext {w w' : World} {g m : Nat} {kv : Value} {L : List FE} {σ : DM} (ho : okD σ) (h : DkI w g m kv L (usedM σ.L : Int) σ) (k : Ext w w') : Fin w g m kv L σ w' :=
  ⟨ho, m, kv, L, h.ext k, fun i hi => .inl hi, OffS.of_ext k⟩
/-- .. in two steps -/
theorem Fin.after {w w1 w' : World} {g m m1 : Nat} {kv kv1 : Value} {L L1 : List FE} {σ' : DM} (hin : ∀ i, InD g m1 kv1 L1 i → InD g m kv L i ∨ w.heap.size ≤ i) (hoff : OffS (InD g m kv L) w w1) (h : Fin w1 g m1 kv1 L1 σ' w') : Fin w g m kv L σ' w' := by
  obtain ⟨ho, m', kv', L', hi, h1, h2⟩ := h
  have hs := hoff.size
  refine ⟨ho, m', kv', L', hi, fun i hx => ?_, ⟨h2.os.trans hoff.os, h2.tape.trans hoff.tape, h2.output.trans hoff.output, Nat.le_trans hs h2.size, fun i hl hn => ?_⟩⟩
  · rcases h1 i hx with h3 | h3
    · exact hin i h3
    · exact .inr (Nat.le_trans hs h3)
  · refine (h2.block i (Nat.lt_of_lt_of_le hl hs) fun h3 => ?_).trans (hoff.block i hl hn)
    rcases hin i h3 with h4 | h4
    · exact hn h4
    · omega

set_option maxRecDepth 100000
set_option linter.unusedVariables false
set_option maxHeartbeats 1600000

/-- only the head's cells were written -/
theorem Fin.head {w w' : World} {g m : Nat} {kv : Value} {L : List FE} {us : Int} {σ σ' : DM} (ho : okD σ') (h : DkI w g m kv L us σ) (hs : w.heap.size ≤ w'.heap.size) (h1 : w'.os = w.os) (h2 : w'.tape = w.tape) (h3 : w'.output = w.output) (hk : ∀ i, i < w.heap.size → i ≠ g → w'.heap[i]? = w.heap[i]?)
    (hb : Blk w' g 61 (headC σ' (usedM σ'.L : Int) m kv)) (hL : σ'.L = σ.L) (hK : σ'.keep = σ.keep) : Fin w g m kv L σ' w' :=
  ⟨ho, m, kv, L, h.headSet hk hb hL hK, fun i hi => .inl hi, ⟨h1, h2, h3, hs, fun i hl hn => hk i hl fun e => hn (.inl e)⟩⟩

/-- a file was written, the head perhaps too -/
theorem Fin.file {w w' : World} {g m : Nat} {kv : Value} {L : List FE} {us : Int} {σ σ' : DM} (ho : okD σ') (h : DkI w g m kv L us σ) {nm : List UInt8} {e : FE} (hf : findN FE.nm nm L = some e) (e' : FE) (hn : e'.f.nm = nm) (hb : e'.b = e.b)
    (hs : w.heap.size ≤ w'.heap.size) (h1 : w'.os = w.os) (h2 : w'.tape = w.tape) (h3 : w'.output = w.output) (hw : ∀ i, i < w.heap.size → i ≠ g → i ≠ e.b → e.v.ownBlock ≠ some i → w'.heap[i]? = w.heap[i]?)
    (hhd : Blk w' g 61 (headC σ' (usedM σ'.L : Int) m kv)) (hblk : Blk w' e.b 76 #[e'.v, .int .i64 (e'.f.sy : Int)]) (hrow : Own w' 0 5 1 e'.v e'.f.da.length (e'.f.da.map byteV))
    (hsep : ∀ i, e'.v.ownBlock = some i → e.v.ownBlock = some i ∨ w.heap.size ≤ i) (f : FM → FM) (hfe : e'.f = f e.f) (hL : σ'.L = updN FM.nm nm f σ.L) (hK : σ'.keep = σ.keep) : Fin w g m kv L σ' w' := by
  have he := (findN_some hf).1
  refine ⟨ho, m, kv, _, h.fileSet hf e' hn hb hw hhd hblk hrow hsep f hfe hL hK, fun i hi => ?_, (off_file he hs h1 h2 h3 hw).inD⟩
  rcases hi with h4 | h4 | h4
  · exact .inl (.inl h4)
  · rcases InF.upd h.fs.ord hf hb h4 with h5 | h5
    · exact .inl (.inr (.inl h5))
    · rcases hsep i h5 with h6 | h6
      · exact .inl (.inr (.inl (.inr ⟨e, he, .inr h6⟩)))
      · exact .inr h6
  · exact .inl (.inr (.inr h4))

theorem kept_ints {w : World} {g m : Nat} {kv : Value} {L : List FE} {us : Int} {σ : DM} (h : DkI w g m kv L us σ) : ∃ ka kc, kv = .slice ka σ.keep.length kc ∧ ∀ W, OffS (MutD g m L) w W → Ints W ka σ.keep.length kc σ.keep := by
  obtain ⟨ka, kc, hv⟩ := h.keep.slice
  refine ⟨ka, kc, hv, fun W hW => ?_⟩
  have hk : Own W 0 3 1 kv σ.keep.length (σ.keep.map (Value.int .i64)) := hW.own h.keep fun i hi hm => hm.elim (h.keepF hi).1 (h.keepF hi).2
  obtain ⟨ao, cap, e1, e2, e3, e4, e5⟩ := hk.rd
  rw [hv] at e1
  cases e1
  exact ⟨rfl, e2, e3, e4, e5⟩

theorem sink_c {w : World} {g m : Nat} {kv : Value} {L : List FE} {σ : DM} (h : DkI w g m kv L (usedM σ.L : Int) σ) (ho : okD σ) (hup : σ.down = false) :
    Calls Try.prog 43 #[.pointer (some ⟨g, 0, none⟩)] w fun e w' => e = .returned (.int .i64 61) ∧ Fin w g m kv L (sinkM σ) w' := by
  obtain ⟨ka, kc, rfl, hk⟩ := kept_ints h
  have HC := Lib.hid (crash_c h ho hup ka _ kc _ hk)
  have HO := Lib.hid ho.sink
  have c9 := h.c9
  clear h ho hk hup
  go_enter Try.func43, Try.ntmps43
  go_wp2_with fail
  refine HC.out.mono ?_
  rintro e w' ⟨rfl, L', hi, hin, hoff⟩
  have HF : Fin w g m (.slice ka σ.keep.length kc) L (sinkM σ) w' := by
    refine ⟨HO.out, m, _, L', hi, fun i hx => ?_, hoff.inD⟩
    rcases hx with h | h | h
    · exact .inl (.inl h)
    · exact .inl (.inr (.inl (hin i h)))
    · cases h
  have HF := Lib.hid HF
  clear hi hin hoff
  go_wp2_with fail
  go_ret
  exact ⟨rfl, HF.out⟩

/-- one change, which is done -/
theorem tick_c {w : World} {g m : Nat} {kv : Value} {L : List FE} {σ : DM} {us : Int} (h : DkI w g m kv L us σ) (ho : okD σ) (hf : failsM σ = false) :
    Calls Try.prog 42 #[.pointer (some ⟨g, 0, none⟩)] w fun e w' => e = .returned (.bool false) ∧ DkI w' g m kv L us (tickM σ) ∧ OffS (MutD g m L) w w' ∧ w'.heap.size = w.heap.size ∧ ∀ i, i ≠ g → w'.heap[i]? = w.heap[i]? := by
  refine (fails_no w g σ.fail σ.left h.c7 h.c8 (h.z 8) ho.left ho.left1 (fun e1 e2 => by simp [failsM, e1, e2] at hf)).mono ?_
  rintro e w' ⟨rfl, rfl⟩
  have hw : ∀ i, i ≠ g → (w.setCell ⟨g, 8, none⟩ (.int .i64 (max (σ.left - 1) 0))).heap[i]? = w.heap[i]? := fun i hg => heap_set_ne _ _ hg
  exact ⟨rfl, h.headSet (fun i _ => hw i) (h.head.set 8 _) rfl rfl, OffS.set w (F := MutD g m L) (.inl rfl) _ _, by simp [World.setCell], hw⟩
theorem stop_c {w : World} {g m : Nat} {kv : Value} {L : List FE} {σ : DM} {us : Int} (h : DkI w g m kv L us σ) (hf : failsM σ = true) :
    Calls Try.prog 42 #[.pointer (some ⟨g, 0, none⟩)] w fun e w' => e = .returned (.bool true) ∧ w = w' := by
  simp [failsM] at hf
  have c7 := h.c7; have c8 := h.c8
  rw [hf.1] at c7
  rw [hf.2] at c8
  exact fails_yes w g c7 c8

theorem up_c {w : World} {g : Nat} {F : Nat → Prop} {σ : DM} (h : Dk w g F σ) : Calls Try.prog 17 #[.pointer (some ⟨g, 0, none⟩)] w fun e w' => e = .returned (.bool (!σ.down)) ∧ w = w' := by
  obtain ⟨ho, m, kv, L, hi, _⟩ := h
  have c6 := hi.c6
  cases hd : σ.down with
  | false =>
    rw [hd] at c6
    have HR := Lib.hid (ready_up w g hi.c0 c6)
    clear hi ho c6 hd
    go_enter Try.func17, Try.ntmps17
    go_wp2_with fail
    refine HR.out.mono ?_
    rintro e w' ⟨rfl, rfl⟩
    go_wp2_with fail
    go_ret
    exact ⟨rfl, rfl⟩
  | true =>
    rw [hd] at c6
    have HR := Lib.hid (ready_down w g hi.c0 c6)
    clear hi ho c6 hd
    go_enter Try.func17, Try.ntmps17
    go_wp2_with fail
    refine HR.out.mono ?_
    rintro e w' ⟨rfl, rfl⟩
    go_wp2_with fail
    go_ret
    exact ⟨rfl, rfl⟩
theorem up_no (w : World) (p : Option Addr) (h : NoD w p) : Calls Try.prog 17 #[.pointer p] w fun e w' => e = .returned (.bool false) ∧ w = w' := by
  have H := Lib.hid h; clear h
  go_enter Try.func17, Try.ntmps17
  go_wp2_with fail
  refine (ready_no _ p H.out).mono ?_
  rintro e w' ⟨rfl, rfl⟩
  go_wp2_with fail
  go_ret
  exact ⟨rfl, rfl⟩

theorem free_c {w : World} {g : Nat} {F : Nat → Prop} {σ : DM} (h : Dk w g F σ) : Calls Try.prog 25 #[.pointer (some ⟨g, 0, none⟩)] w fun e w' => e = .returned (.int .i64 (freeM σ)) ∧ Ext w w' := by
  obtain ⟨ho, m, kv, L, hi, _⟩ := h
  have HN := Lib.hid (none_at w g true hi.c0)
  have c1 := hi.c1; have c2 := hi.c2
  have h0 := ho.cap0; have h1 := ho.cap1; have h2 := ho.used
  obtain ⟨us, hus⟩ : ∃ us : Int, (usedM σ.L : Int) = us := ⟨_, rfl⟩
  have hus0 : 0 ≤ us := by omega
  have HF : Hid (freeM σ = σ.cap - us) := Lib.hid (by rw [← hus]; rfl)
  rw [hus] at c2 h2
  generalize σ.cap = cp at *
  clear hi ho hus
  go_enter Try.func25, Try.ntmps25
  go_wp2_with fail
  refine HN.out.mono ?_
  rintro e w' ⟨rfl, rfl⟩
  go_wp2_with fail
  go_quiet (fail)
  go_wp2_with fail
  go_ret
  rw [HF.out]
  exact ⟨rfl, (Ext.refl w).drewN _⟩
theorem free_no (w : World) (p : Option Addr) (h : NoD w p) : Calls Try.prog 25 #[.pointer p] w fun e w' => e = .returned (.int .i64 0) ∧ w = w' := by
  have H := Lib.hid h; clear h
  go_enter Try.func25, Try.ntmps25
  go_wp2_with fail
  refine (none_no _ p H.out).mono ?_
  rintro e w' ⟨rfl, rfl⟩
  go_wp2_with fail
  go_ret
  exact ⟨rfl, rfl⟩
theorem reads_c {w : World} {g : Nat} {F : Nat → Prop} {σ : DM} (h : Dk w g F σ) : Calls Try.prog 34 #[.pointer (some ⟨g, 0, none⟩)] w fun e w' => e = .returned (.int .i64 σ.reads) ∧ w = w' := by
  obtain ⟨ho, m, kv, L, hi, _⟩ := h
  have HN := Lib.hid (none_at w g true hi.c0)
  have c4 := hi.c4
  clear hi ho
  go_enter Try.func34, Try.ntmps34
  go_wp2_with fail
  refine HN.out.mono ?_
  rintro e w' ⟨rfl, rfl⟩
  go_wp2_with fail
  go_ret
  exact ⟨rfl, rfl⟩
theorem reads_no (w : World) (p : Option Addr) (h : NoD w p) : Calls Try.prog 34 #[.pointer p] w fun e w' => e = .returned (.int .i64 0) ∧ w = w' := by
  have H := Lib.hid h; clear h
  go_enter Try.func34, Try.ntmps34
  go_wp2_with fail
  refine (none_no _ p H.out).mono ?_
  rintro e w' ⟨rfl, rfl⟩
  go_wp2_with fail
  go_ret
  exact ⟨rfl, rfl⟩
theorem starts_c {w : World} {g : Nat} {F : Nat → Prop} {σ : DM} (h : Dk w g F σ) : Calls Try.prog 35 #[.pointer (some ⟨g, 0, none⟩)] w fun e w' => e = .returned (.int .i64 σ.starts) ∧ w = w' := by
  obtain ⟨ho, m, kv, L, hi, _⟩ := h
  have HN := Lib.hid (none_at w g true hi.c0)
  have c5 := hi.c5
  clear hi ho
  go_enter Try.func35, Try.ntmps35
  go_wp2_with fail
  refine HN.out.mono ?_
  rintro e w' ⟨rfl, rfl⟩
  go_wp2_with fail
  go_ret
  exact ⟨rfl, rfl⟩
theorem starts_no (w : World) (p : Option Addr) (h : NoD w p) : Calls Try.prog 35 #[.pointer p] w fun e w' => e = .returned (.int .i64 0) ∧ w = w' := by
  have H := Lib.hid h; clear h
  go_enter Try.func35, Try.ntmps35
  go_wp2_with fail
  refine (none_no _ p H.out).mono ?_
  rintro e w' ⟨rfl, rfl⟩
  go_wp2_with fail
  go_ret
  exact ⟨rfl, rfl⟩

theorem size_no (w : World) (p : Option Addr) (h : NoD w p) (s : ByteArray) : Calls Try.prog 20 #[.pointer p, .string s] w fun e w' => e = .returned (.tuple #[.int .i64 0, .int .i64 1]) ∧ w = w' := by
  have H := Lib.hid h; clear h
  go_enter Try.func20, Try.ntmps20
  go_wp2_with fail
  refine (find_no _ p H.out s).mono ?_
  rintro e w' ⟨rfl, rfl⟩
  go_wp2_with fail
  go_ret2
  exact ⟨rfl, rfl⟩

/-- 'find' tells where a file lies -/
theorem find_c {w : World} {g m : Nat} {kv : Value} {L : List FE} {us : Int} {σ : DM} (h : DkI w g m kv L us σ) (nm : List UInt8) (hl : nm.length ≤ 9223372036854775807) :
    (σ.down = true ∧ ∃ R : Hid (Calls Try.prog 44 #[.pointer (some ⟨g, 0, none⟩), .string ⟨nm.toArray⟩] w fun e w' => e = .returned (.tuple #[.pointer none, .int .i64 61]) ∧ w = w'), True) ∨
    (σ.down = false ∧ findN FM.nm nm σ.L = none ∧ findN FE.nm nm L = none ∧ ∃ R : Hid (Calls Try.prog 44 #[.pointer (some ⟨g, 0, none⟩), .string ⟨nm.toArray⟩] w fun e w' => e = .returned (.tuple #[.pointer none, .int .i64 4]) ∧ w = w'), True) ∨
    (σ.down = false ∧ ∃ e : FE, findN FE.nm nm L = some e ∧ findN FM.nm nm σ.L = some e.f ∧ e ∈ L ∧ ∃ R : Hid (Calls Try.prog 44 #[.pointer (some ⟨g, 0, none⟩), .string ⟨nm.toArray⟩] w fun en w' => en = .returned (.tuple #[.pointer (some ⟨e.b, 0, none⟩), .int .i64 0]) ∧ w = w'), True) := by
  have c6 := h.c6
  cases hd : σ.down with
  | true =>
    rw [hd] at c6
    exact .inl ⟨rfl, Lib.hid (find_down w g h.c0 c6 _), trivial⟩
  | false =>
    rw [hd] at c6
    cases hf : findN FE.nm nm L with
    | none =>
      refine .inr (.inl ⟨rfl, ?_, rfl, Lib.hid (find_none w g m nm h.c0 c6 h.c3 (look_no h.fs hl hf)), trivial⟩)
      rw [← h.files, findN_map (k := FE.nm) (k' := FM.nm) (h := FE.f) (fun x => rfl), hf]; rfl
    | some e =>
      refine .inr (.inr ⟨rfl, e, rfl, ?_, (findN_some hf).1, Lib.hid (find_some w g m e.b nm h.c0 c6 h.c3 (look_yes h.fs hl hf)), trivial⟩)
      rw [← h.files, findN_map (k := FE.nm) (k' := FM.nm) (h := FE.f) (fun x => rfl), hf]; rfl

theorem size_c {w : World} {g : Nat} {F : Nat → Prop} {σ : DM} (h : Dk w g F σ) (nm : List UInt8) (hl : nm.length ≤ 9223372036854775807) :
    Calls Try.prog 20 #[.pointer (some ⟨g, 0, none⟩), .string ⟨nm.toArray⟩] w fun e w' => e = .returned (.tuple #[.int .i64 (sizeM σ nm).1, .int .i64 (sizeM σ nm).2]) ∧ w = w' := by
  obtain ⟨ho, m, kv, L, hi, _⟩ := h
  rcases find_c hi nm hl with ⟨hd, R, _⟩ | ⟨hd, hf, _, R, _⟩ | ⟨hd, e, hfe, hf, he, R, _⟩
  · have HS : Hid (sizeM σ nm = (0, 61)) := Lib.hid (by unfold sizeM; rw [if_pos hd])
    clear hi ho hd
    go_enter Try.func20, Try.ntmps20
    go_wp2_with fail
    refine R.out.mono ?_
    rintro e w' ⟨rfl, rfl⟩
    go_wp2_with fail
    go_ret2
    rw [HS.out]
    exact ⟨rfl, rfl⟩
  · have HS : Hid (sizeM σ nm = (0, 4)) := Lib.hid (by unfold sizeM; rw [if_neg (by rw [hd]; decide), hf])
    clear hi ho hd hf
    go_enter Try.func20, Try.ntmps20
    go_wp2_with fail
    refine R.out.mono ?_
    rintro e w' ⟨rfl, rfl⟩
    go_wp2_with fail
    go_ret2
    rw [HS.out]
    exact ⟨rfl, rfl⟩
  · have HS : Hid (sizeM σ nm = ((e.f.da.length : Int), 0)) := Lib.hid (by unfold sizeM; rw [if_neg (by rw [hd]; decide), hf])
    obtain ⟨ao, cap, hv, _⟩ := (hi.fs.row e he).rd
    have f0 := hi.f0 he
    rw [hv] at f0
    clear hi ho hd hf hfe he hv
    generalize e.f.da.length = dl at *
    generalize e.b = bb at *
    go_enter Try.func20, Try.ntmps20
    go_wp2_with fail
    refine R.out.mono ?_
    rintro e w' ⟨rfl, rfl⟩
    go_wp2_with fail
    go_ret2
    rw [HS.out]
    exact ⟨rfl, rfl⟩

end Go.Proofs.Ytoibjhoebjcfeaa
