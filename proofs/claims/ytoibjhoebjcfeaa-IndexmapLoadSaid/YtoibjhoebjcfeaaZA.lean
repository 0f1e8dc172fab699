/- Walks: the small functions of a disk. -/
import Derived.Test.YtoibjhoebjcfeaaZR
namespace Go.Proofs.Ytoibjhoebjcfeaa
open Go.RowKit

theorem lawS : Maps.Keyed Try.prog 9 := Maps.string_keyed Try.underlying9
theorem zeroF (w : World) : (zeroValue 72).run Try.prog w = .ok (.pointer none) w := by kernel_rfl
theorem hkeyS (nm : List UInt8) (h : nm.length ≤ 9223372036854775807) : keyOf Try.prog 9 (.string ⟨nm.toArray⟩) = some (.string nm) :=
  WideMaps.keyOf_string_mk Try.underlying9 (s := ⟨nm.toArray⟩) (by unfold maxLen; exact h)

theorem look_any {w : World} {m : Nat} {L : List FE} (h : FS w m L) (nm : List UInt8) (hl : nm.length ≤ 9223372036854775807) : ∃ v ps, (Instr.lookup 59 (.map (some m)) (.string ⟨nm.toArray⟩) true).run Try.prog w = .ok (.tuple #[v, .bool (findN FE.nm nm L).isSome]) w ∧
    ptrE v = some (match findN FE.nm nm L with | some e => .lit (.int .i64 e.b) | none => .nil, ps) := by
  obtain ⟨v, ps, h1, h2⟩ := h.map.look_ok lawS Try.underlying59 (zeroF w) ptrE_nil (hkeyS nm hl)
  rw [dmap_has] at h1
  rw [dmap_at] at h2
  exact ⟨v, ps, h1, h2⟩
theorem look_yes {w : World} {m : Nat} {L : List FE} (h : FS w m L) {nm : List UInt8} (hl : nm.length ≤ 9223372036854775807) {e : FE} (hf : findN FE.nm nm L = some e) :
    (Instr.lookup 59 (.map (some m)) (.string ⟨nm.toArray⟩) true).run Try.prog w = .ok (.tuple #[.pointer (some ⟨e.b, 0, none⟩), .bool true]) w := by
  obtain ⟨v, ps, h1, h2⟩ := look_any h nm hl
  rw [hf] at h1 h2
  rw [h1, ptrE_inv h2]; rfl
theorem look_no {w : World} {m : Nat} {L : List FE} (h : FS w m L) {nm : List UInt8} (hl : nm.length ≤ 9223372036854775807) (hf : findN FE.nm nm L = none) :
    (Instr.lookup 59 (.map (some m)) (.string ⟨nm.toArray⟩) true).run Try.prog w = .ok (.tuple #[.pointer none, .bool false]) w := by
  obtain ⟨v, ps, h1, h2⟩ := look_any h nm hl
  rw [hf] at h1 h2
  rw [h1, ptrE_inv_nil h2]; rfl
theorem look1_yes {w : World} {m : Nat} {L : List FE} (h : FS w m L) {nm : List UInt8} (hl : nm.length ≤ 9223372036854775807) {e : FE} (hf : findN FE.nm nm L = some e) :
    (Instr.lookup 59 (.map (some m)) (.string ⟨nm.toArray⟩) false).run Try.prog w = .ok (.pointer (some ⟨e.b, 0, none⟩)) w := by
  obtain ⟨v, ps, h1, h2⟩ := h.map.lookup lawS Try.underlying59 (zeroF w) ptrE_nil (hkeyS nm hl)
  rw [dmap_at, hf] at h2
  rw [h1, ptrE_inv h2]

section head
variable {w : World} {g m : Nat} {kv : Value} {L : List FE} {us : Int} {σ : DM}
theorem DkI.c0 (h : DkI w g m kv L us σ) : w.cell? ⟨g, 0, none⟩ = some (.bool true) := h.head.cell 0
theorem DkI.c1 (h : DkI w g m kv L us σ) : w.cell? ⟨g, 1, none⟩ = some (.int .i64 σ.cap) := h.head.cell 1
theorem DkI.c2 (h : DkI w g m kv L us σ) : w.cell? ⟨g, 2, none⟩ = some (.int .i64 us) := h.head.cell 2
theorem DkI.c3 (h : DkI w g m kv L us σ) : w.cell? ⟨g, 3, none⟩ = some (.map (some m)) := h.head.cell 3
theorem DkI.c4 (h : DkI w g m kv L us σ) : w.cell? ⟨g, 4, none⟩ = some (.int .i64 σ.reads) := h.head.cell 4
theorem DkI.c5 (h : DkI w g m kv L us σ) : w.cell? ⟨g, 5, none⟩ = some (.int .i64 σ.starts) := h.head.cell 5
theorem DkI.c6 (h : DkI w g m kv L us σ) : w.cell? ⟨g, 6, none⟩ = some (.bool σ.down) := h.head.cell 6
theorem DkI.c7 (h : DkI w g m kv L us σ) : w.cell? ⟨g, 7, none⟩ = some (.bool σ.fail) := h.head.cell 7
theorem DkI.c8 (h : DkI w g m kv L us σ) : w.cell? ⟨g, 8, none⟩ = some (.int .i64 σ.left) := h.head.cell 8
theorem DkI.c9 (h : DkI w g m kv L us σ) : w.cell? ⟨g, 9, none⟩ = some kv := h.head.cell 9
theorem DkI.z (h : DkI w g m kv L us σ) (i : Nat) : w.frozen? ⟨g, i, none⟩ = false := h.head.free i
theorem DkI.f0 (h : DkI w g m kv L us σ) {e : FE} (he : e ∈ L) : w.cell? ⟨e.b, 0, none⟩ = some e.v := (h.fs.blk e he).cell 0
theorem DkI.f1 (h : DkI w g m kv L us σ) {e : FE} (he : e ∈ L) : w.cell? ⟨e.b, 1, none⟩ = some (.int .i64 (e.f.sy : Int)) := (h.fs.blk e he).cell 1
theorem DkI.fz (h : DkI w g m kv L us σ) {e : FE} (he : e ∈ L) (i : Nat) : w.frozen? ⟨e.b, i, none⟩ = false := (h.fs.blk e he).free i
end head

set_option maxRecDepth 100000
set_option maxHeartbeats 800000

theorem none_nil (w : World) : Calls Try.prog 46 #[.pointer none] w fun e w' => e = .returned (.bool true) ∧ w = w' := by
  go_enter Try.func46, Try.ntmps46
  go_wp2_with fail
  go_ret
  exact ⟨rfl, rfl⟩
theorem none_at (w : World) (g : Nat) (b : Bool) (c0 : w.cell? ⟨g, 0, none⟩ = some (.bool b)) : Calls Try.prog 46 #[.pointer (some ⟨g, 0, none⟩)] w fun e w' => e = .returned (.bool (!b)) ∧ w = w' := by
  go_enter Try.func46, Try.ntmps46
  go_wp2_with fail
  go_ret
  exact ⟨rfl, rfl⟩

/-- a disk that is none -/
def NoD (w : World) (p : Option Addr) : Prop := p = none ∨ ∃ g, p = some ⟨g, 0, none⟩ ∧ w.cell? ⟨g, 0, none⟩ = some (.bool false)
theorem NoD.ext {w w' : World} {p : Option Addr} (h : NoD w p) (k : Ext w w') : NoD w' p := by
  rcases h with h | ⟨g, h1, h2⟩
  · exact .inl h
  · exact .inr ⟨g, h1, cell_ext k h2⟩

theorem none_no (w : World) (p : Option Addr) (h : NoD w p) : Calls Try.prog 46 #[.pointer p] w fun e w' => e = .returned (.bool true) ∧ w = w' := by
  rcases h with rfl | ⟨g, rfl, h⟩
  · exact none_nil w
  · exact none_at w g false h

theorem ready_no (w : World) (p : Option Addr) (h : NoD w p) : Calls Try.prog 40 #[.pointer p] w fun e w' => e = .returned (.int .i64 1) ∧ w = w' := by
  have H := Lib.hid h; clear h
  go_enter Try.func40, Try.ntmps40
  go_wp2_with fail
  refine (none_no _ p H.out).mono ?_
  rintro e w' ⟨rfl, rfl⟩
  go_wp2_with fail
  go_ret
  exact ⟨rfl, rfl⟩
theorem ready_up (w : World) (g : Nat) (c0 : w.cell? ⟨g, 0, none⟩ = some (.bool true)) (c6 : w.cell? ⟨g, 6, none⟩ = some (.bool false)) : Calls Try.prog 40 #[.pointer (some ⟨g, 0, none⟩)] w fun e w' => e = .returned (.int .i64 0) ∧ w = w' := by
  go_enter Try.func40, Try.ntmps40
  go_wp2_with fail
  refine (none_at _ g true c0).mono ?_
  rintro e w' ⟨rfl, rfl⟩
  go_wp2_with fail
  go_ret
  exact ⟨rfl, rfl⟩
theorem ready_down (w : World) (g : Nat) (c0 : w.cell? ⟨g, 0, none⟩ = some (.bool true)) (c6 : w.cell? ⟨g, 6, none⟩ = some (.bool true)) : Calls Try.prog 40 #[.pointer (some ⟨g, 0, none⟩)] w fun e w' => e = .returned (.int .i64 61) ∧ w = w' := by
  go_enter Try.func40, Try.ntmps40
  go_wp2_with fail
  refine (none_at _ g true c0).mono ?_
  rintro e w' ⟨rfl, rfl⟩
  go_wp2_with fail
  go_ret
  exact ⟨rfl, rfl⟩

theorem find_no (w : World) (p : Option Addr) (h : NoD w p) (s : ByteArray) : Calls Try.prog 44 #[.pointer p, .string s] w fun e w' => e = .returned (.tuple #[.pointer none, .int .i64 1]) ∧ w = w' := by
  have H := Lib.hid h; clear h
  go_enter Try.func44, Try.ntmps44
  go_wp2_with fail
  refine (ready_no _ p H.out).mono ?_
  rintro e w' ⟨rfl, rfl⟩
  go_wp2_with fail
  go_ret2
  exact ⟨rfl, rfl⟩
theorem find_down (w : World) (g : Nat) (c0 : w.cell? ⟨g, 0, none⟩ = some (.bool true)) (c6 : w.cell? ⟨g, 6, none⟩ = some (.bool true)) (s : ByteArray) : Calls Try.prog 44 #[.pointer (some ⟨g, 0, none⟩), .string s] w fun e w' => e = .returned (.tuple #[.pointer none, .int .i64 61]) ∧ w = w' := by
  have H := Lib.hid (ready_down w g c0 c6); clear c0 c6
  go_enter Try.func44, Try.ntmps44
  go_wp2_with fail
  refine H.out.mono ?_
  rintro e w' ⟨rfl, rfl⟩
  go_wp2_with fail
  go_ret2
  exact ⟨rfl, rfl⟩
theorem find_none (w : World) (g m : Nat) (nm : List UInt8) (c0 : w.cell? ⟨g, 0, none⟩ = some (.bool true)) (c6 : w.cell? ⟨g, 6, none⟩ = some (.bool false)) (c3 : w.cell? ⟨g, 3, none⟩ = some (.map (some m)))
    (hrun : (Instr.lookup 59 (.map (some m)) (.string ⟨nm.toArray⟩) true).run Try.prog w = .ok (.tuple #[.pointer none, .bool false]) w) :
    Calls Try.prog 44 #[.pointer (some ⟨g, 0, none⟩), .string ⟨nm.toArray⟩] w fun e w' => e = .returned (.tuple #[.pointer none, .int .i64 4]) ∧ w = w' := by
  have H := Lib.hid (ready_up w g c0 c6); clear c0 c6
  go_enter Try.func44, Try.ntmps44
  go_wp2_with fail
  refine H.out.mono ?_
  rintro e w' ⟨rfl, rfl⟩
  go_wp2_with fail
  go_ret2
  exact ⟨rfl, rfl⟩
theorem find_some (w : World) (g m b : Nat) (nm : List UInt8) (c0 : w.cell? ⟨g, 0, none⟩ = some (.bool true)) (c6 : w.cell? ⟨g, 6, none⟩ = some (.bool false)) (c3 : w.cell? ⟨g, 3, none⟩ = some (.map (some m)))
    (hrun : (Instr.lookup 59 (.map (some m)) (.string ⟨nm.toArray⟩) true).run Try.prog w = .ok (.tuple #[.pointer (some ⟨b, 0, none⟩), .bool true]) w) :
    Calls Try.prog 44 #[.pointer (some ⟨g, 0, none⟩), .string ⟨nm.toArray⟩] w fun e w' => e = .returned (.tuple #[.pointer (some ⟨b, 0, none⟩), .int .i64 0]) ∧ w = w' := by
  have H := Lib.hid (ready_up w g c0 c6); clear c0 c6
  go_enter Try.func44, Try.ntmps44
  go_wp2_with fail
  refine H.out.mono ?_
  rintro e w' ⟨rfl, rfl⟩
  go_wp2_with fail
  go_ret2
  exact ⟨rfl, rfl⟩

theorem name_c (w : World) (nm : List UInt8) (hl : nm.length ≤ 9223372036854775807) : Calls Try.prog 41 #[.string ⟨nm.toArray⟩] w fun e w' => e = .returned (.bool (okName nm)) ∧ w = w' := by
  by_cases h0 : nm = []
  · subst h0
    go_enter Try.func41, Try.ntmps41
    go_wp2_with fail
    go_ret
    exact ⟨rfl, rfl⟩
  · have h1 : nm.isEmpty = false := by cases nm <;> simp_all
    by_cases h2 : nm.length ≤ 12
    · have e : okName nm = true := by unfold okName; simp [h1, h2]
      have E := Lib.hid e; clear e
      go_enter Try.func41, Try.ntmps41
      go_wp2_with fail
      go_ret
      rw [E.out]
      exact ⟨rb (by simp; omega), rfl⟩
    · have e : okName nm = false := by unfold okName; simp [h2]
      have E := Lib.hid e; clear e
      go_enter Try.func41, Try.ntmps41
      go_wp2_with fail
      go_ret
      rw [E.out]
      exact ⟨rb (by simp; omega), rfl⟩

theorem fails_yes (w : World) (g : Nat) (c7 : w.cell? ⟨g, 7, none⟩ = some (.bool true)) (c8 : w.cell? ⟨g, 8, none⟩ = some (.int .i64 0)) :
    Calls Try.prog 42 #[.pointer (some ⟨g, 0, none⟩)] w fun e w' => e = .returned (.bool true) ∧ w = w' := by
  go_enter Try.func42, Try.ntmps42
  go_wp2_with fail
  go_ret
  exact ⟨rfl, rfl⟩
theorem fails_no (w : World) (g : Nat) (fl : Bool) (k : Int) (c7 : w.cell? ⟨g, 7, none⟩ = some (.bool fl)) (c8 : w.cell? ⟨g, 8, none⟩ = some (.int .i64 k)) (z8 : w.frozen? ⟨g, 8, none⟩ = false) (hk0 : 0 ≤ k) (hk1 : k ≤ 9223372036854775807) (h : fl = true → k ≠ 0) :
    Calls Try.prog 42 #[.pointer (some ⟨g, 0, none⟩)] w fun e w' => e = .returned (.bool false) ∧ w' = w.setCell ⟨g, 8, none⟩ (.int .i64 (max (k - 1) 0)) := by
  cases fl with
  | false =>
    clear h
    go_enter Try.func42, Try.ntmps42
    go_wp2_with fail
    all_goals
      go_ret
      refine ⟨rfl, congrArg (fun x : Int => w.setCell ⟨g, 8, none⟩ (.int .i64 x)) ?_⟩
      omega
  | true =>
    have h1 : (k == 0) = false := by simpa using h rfl
    clear h
    go_enter Try.func42, Try.ntmps42
    go_wp2_with fail
    all_goals
      go_ret
      refine ⟨rfl, congrArg (fun x : Int => w.setCell ⟨g, 8, none⟩ (.int .i64 x)) ?_⟩
      omega

theorem new_bad (w : World) (c : Int) (h : c < 0 ∨ 1048576 < c) : Calls Try.prog 10 #[.int .i64 c] w fun e w' => e = .returned (.tuple #[.pointer none, .int .i64 2]) ∧ w = w' := by
  rcases h with h | h
  · go_enter Try.func10, Try.ntmps10
    go_wp2_with fail
    go_ret2
    exact ⟨rfl, rfl⟩
  · have h' : ¬ c < 0 := by omega
    go_enter Try.func10, Try.ntmps10
    go_wp2_with fail
    go_ret2
    exact ⟨rfl, rfl⟩
def newM (c : Int) : DM := ⟨c, [], 0, 0, false, false, 0, []⟩
theorem new_ok (c : Int) (h0 : 0 ≤ c) (h1 : c ≤ 1048576) : okD (newM c) := ⟨h0, h1, by simpa [newM, usedM, sumN] using h0, List.Pairwise.nil, (fun f hf => by cases hf), Nat.zero_le _, Int.le_refl _, fun _ => rfl, Nat.zero_le _, by show (0 : Int) ≤ _; decide⟩
theorem new_dk (w : World) (c : Int) (h0 : 0 ≤ c) (h1 : c ≤ 1048576) : Dk ((w.alloc (.map #[] 0)).alloc (.cells (headC (newM c) 0 w.heap.size (.slice none 0 0)) 61)) (w.heap.size + 1) (fun i => i = w.heap.size ∨ i = w.heap.size + 1) (newM c) := by
  have hb := Blk.new (w.alloc (.map #[] 0)) 61 (headC (newM c) 0 w.heap.size (.slice none 0 0))
  rw [World.size_alloc] at hb
  have hm := (World.ownsMap_made (H := Unit) w Try.prog 9 ptrE).alloc (.cells (headC (newM c) 0 w.heap.size (.slice none 0 0)) 61)
  refine ⟨new_ok c h0 h1, w.heap.size, .slice none 0 0, [], ⟨hb, ⟨hm, (fun e he => by cases he), (fun e he => by cases he), List.Pairwise.nil, List.Pairwise.nil⟩, rfl, Own.nil _ _ _ _⟩, fun i hi => ?_, fun i hi => ?_⟩
  · rcases hi with h | (h | ⟨_, h, _⟩) | h
    · exact .inr h
    · exact .inl h
    · cases h
    · cases h
  · simp only [World.size_alloc]; omega
theorem new_c (w : World) (c : Int) (h0 : 0 ≤ c) (h1 : c ≤ 1048576) : Calls Try.prog 10 #[.int .i64 c] w fun e w' => ∃ g F, e = .returned (.tuple #[.pointer (some ⟨g, 0, none⟩), .int .i64 0]) ∧ Dk w' g F (newM c) ∧ (∀ i, F i → w.heap.size ≤ i) ∧ Ext w w' := by
  have hmm := @run_makeMap Try.prog
  go_enter Try.func10, Try.ntmps10
  go_wp2_with fail
  go_ret2
  exact ⟨_, _, rfl, new_dk w c h0 h1, (fun i hi => by omega), ext_a2 _ _ _⟩

end Go.Proofs.Ytoibjhoebjcfeaa
