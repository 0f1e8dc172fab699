/- Walks: the manifest that lies on a disk. -/
import Derived.Test.YtoibjhoebjcfeaaYA
import Derived.Test.YtoibjhoebjcfeaaZX
import Derived.Test.YtoibjhoebjcfeaaMH
import Derived.Test.YtoibjhoebjcfeaaMQ
namespace Go.Proofs.Ytoibjhoebjcfeaa
open Go.RowKit

theorem Dk.keep {w w' : World} {g : Nat} {F : Nat → Prop} {σ : DM} (h : Dk w g F σ) (hs : w.heap.size ≤ w'.heap.size) (k : ∀ i, F i → w'.heap[i]? = w.heap[i]?) : Dk w' g F σ := by
  obtain ⟨ho, m, kv, L, hi, h1, h2⟩ := h
  exact ⟨ho, m, kv, L, ⟨hi.head.same (k g (h1 g (.inl rfl))), hi.fs.same fun i hx => k i (h1 i (.inr (.inl hx))), hi.files, hi.keep.same fun i hx => k i (h1 i (.inr (.inr hx)))⟩, h1, fun i hf => Nat.lt_of_lt_of_le (h2 i hf) hs⟩

section
variable {w w1 w2 : World} {g : Nat} {F : Nat → Prop} {σ σ1 σ2 : DM}
theorem DkS.refl (h : Dk w g F σ) : DkS w g F σ w := by
  have hlt : ∀ i, F i → i < w.heap.size := by obtain ⟨_, _, _, _, _, _, h⟩ := h; exact h
  exact ⟨h.mono (fun i hi => .inl hi) (fun i hi => hi.elim (hlt i) fun h => by omega), OffS.refl _ _⟩
theorem DkS.trans (h : DkS w g F σ1 w1) (k : DkS w1 g (Gr F w w1) σ2 w2) : DkS w g F σ2 w2 := by
  have s1 := h.off.size; have s2 := k.off.size
  have hlt : ∀ i, Gr (Gr F w w1) w1 w2 i → i < w2.heap.size := by obtain ⟨_, _, _, _, _, _, h⟩ := k.dk; exact h
  refine ⟨k.dk.mono (fun i hi => ?_) (fun i hi => ?_), h.off.gr k.off⟩
  · rcases hi with (h1 | h1) | h1
    · exact .inl h1
    · exact .inr (by omega)
    · exact .inr (by omega)
  · rcases hi with h1 | h1
    · exact hlt i (.inl (.inl h1))
    · exact h1.2
theorem DkS.ext (h : DkS w g F σ w1) (k : Ext w1 w2) : DkS w g F σ w2 := by
  have s1 := h.off.size; have s2 := k.size
  have hlt : ∀ i, Gr F w w1 i → i < w1.heap.size := by obtain ⟨_, _, _, _, _, _, h⟩ := h.dk; exact h
  refine ⟨(h.dk.ext k).mono (fun i hi => ?_) (fun i hi => ?_), h.off.trans (OffS.of_ext k)⟩
  · rcases hi with h1 | h1
    · exact .inl h1
    · exact .inr (by omega)
  · rcases hi with h1 | h1
    · exact Nat.lt_of_lt_of_le (hlt i (.inl h1)) s2
    · exact h1.2
/-- a new block, made before, was written -/
theorem DkS.box {wa : World} (hx : Ext w wa) (h : DkS wa g F σ w1) (hF : ∀ i, F i → i < w.heap.size) (hs : w1.heap.size ≤ w2.heap.size) (h1 : w2.os = w1.os) (h2 : w2.tape = w1.tape) (h3 : w2.output = w1.output)
    (k : ∀ i, i < w1.heap.size → ¬ (w.heap.size ≤ i ∧ i < wa.heap.size) → w2.heap[i]? = w1.heap[i]?) : DkS w g F σ w2 := by
  have s0 := hx.size; have s1 := h.off.size
  have hlt : ∀ i, Gr F wa w1 i → i < w1.heap.size := by obtain ⟨_, _, _, _, _, _, h⟩ := h.dk; exact h
  have hd : Dk w2 g (Gr F wa w1) σ := h.dk.keep hs fun i hi => k i (hlt i hi) (by
    rcases hi with h1 | h1
    · have := hF i h1; omega
    · omega)
  refine ⟨hd.mono (fun i hi => ?_) (fun i hi => ?_), ⟨h1.trans (h.off.os.trans hx.os), h2.trans (h.off.tape.trans hx.tape), h3.trans (h.off.output.trans hx.output), by omega, fun i hl hn => ?_⟩⟩
  · rcases hi with h1 | h1
    · exact .inl h1
    · exact .inr (by omega)
  · rcases hi with h1 | h1
    · have := hF i h1; omega
    · exact h1.2
  · rw [k i (by omega) (by omega), h.off.block i (by omega) hn, hx.block i hl]
end

def mapN : List UInt8 := [109, 97, 112]
def newN : List UInt8 := [110, 101, 119]

/-- a manifest and an error's number are handed back by what reads a disk -/
def RetL (w : World) (g : Nat) (F : Nat → Prop) (σ' : DM) (r : Got) (e : Ending) (w' : World) : Prop :=
  ∃ a c, e = .returned (.tuple #[.agg #[.int .i64 r.nx, .int .i64 r.ck, .int .u64 r.sd, .slice a r.L.length c], .int .i64 r.en]) ∧ Grid w' a r.L.length c r.L ∧ DkS w g F σ' w'

theorem box4f {w : World} {a b c d : Value} {t : TypeId} : ∀ i, i < 4 → ((w.alloc (.cells #[a, b, c, d] t)).frozen? ⟨w.heap.size, i, none⟩ = false) := fun i _ => (Blk.new w t #[a, b, c, d]).free i

set_option maxRecDepth 100000
set_option linter.unusedVariables false
set_option maxHeartbeats 3200000

theorem load_none {w : World} {g : Nat} {F : Nat → Prop} {σ : DM} (h : Dk w g F σ) (hm : sizeM σ mapN = (0, 4)) :
    Calls Try.prog 37 #[.pointer (some ⟨g, 0, none⟩)] w (RetL w g F σ ⟨0, 0, 0, [], 4⟩) := by
  have H := Lib.hid h
  have HS := Lib.hid (size_c (h.ext (ext_a1 w (.cells #[.int .i64 0, .int .i64 0, .int .u64 0, .slice none 0 0] 66))) mapN (by decide))
  rw [hm] at HS
  clear h hm
  have hb := Blk.new w 66 #[.int .i64 0, .int .i64 0, .int .u64 0, .slice none 0 0]
  have HB := Lib.hid hb
  have d0 := hb.cell 0; have d1 := hb.cell 1; have d2 := hb.cell 2; have d3 := hb.cell 3
  have z0 := hb.free 0; have z1 := hb.free 1; have z2 := hb.free 2; have z3 := hb.free 3
  clear hb
  go_enter Try.func37, Try.ntmps37
  go_wp2_with fail
  refine HS.out.mono ?_
  rintro e w' ⟨rfl, rfl⟩
  go_wp2_with fail
  ((try simp only [Exit.inBlock, Exit.then]); refine bodyPost_ret (v := .tuple #[.agg #[_, _, _, _], _]) (by rw [results_cell_tmp rfl]; go_simp; exact ⟨⟨rfl, rfl, rfl, rfl⟩, rfl⟩) rfl ?_)
  exact ⟨none, 0, rfl, Grid.empty _, (DkS.refl H.out).ext (ext_a1 _ _)⟩

theorem load_some {w : World} {g : Nat} {F : Nat → Prop} {σ : DM} (h : Dk w g F σ) {f : FM} (hf : findN FM.nm mapN σ.L = some f) (hup : σ.down = false) :
    Calls Try.prog 37 #[.pointer (some ⟨g, 0, none⟩)] w (RetL w g F (tellM σ) (mgetS f.da)) := by
  have hlt : ∀ i, F i → i < w.heap.size := by obtain ⟨_, _, _, _, _, _, h⟩ := h; exact h
  have hle : f.da.length ≤ 1048576 := by
    have h1 : f.da.length ≤ usedM σ.L := usedM_mem (findN_some hf).1
    have h2 := h.1.used; have h3 := h.1.cap1
    omega
  obtain ⟨S, hS⟩ : ∃ S, f.da = S := ⟨_, rfl⟩
  have hs1 : sizeM σ mapN = ((S.length : Int), 0) := by unfold sizeM; rw [if_neg (by rw [hup]; decide), hf, ← hS]
  have hs2 : readM σ mapN 0 (S.length : Int) = (S, 0, tellM σ) := by
    unfold readM
    rw [if_neg (by rw [hup]; decide), hf]
    simp only
    rw [hS, if_pos (by omega)]
    simp
  rw [hS] at hle ⊢
  have HS := Lib.hid (size_c (h.ext (ext_a1 w (.cells #[.int .i64 0, .int .i64 0, .int .u64 0, .slice none 0 0] 66))) mapN (by decide))
  rw [hs1] at HS
  have HR := Lib.hid (read_c (h.ext (ext_a1 w (.cells #[.int .i64 0, .int .i64 0, .int .u64 0, .slice none 0 0] 66))) mapN 0 (S.length : Int) (by decide) (by decide) (by decide) (by omega) (by omega))
  rw [hs2] at HR
  have HL := Lib.hid hlt
  clear h hf hup hs1 hs2 hS hlt
  have hb := Blk.new w 66 #[.int .i64 0, .int .i64 0, .int .u64 0, .slice none 0 0]
  have HB := Lib.hid hb
  have d0 := hb.cell 0; have d1 := hb.cell 1; have d2 := hb.cell 2; have d3 := hb.cell 3
  have z0 := hb.free 0; have z1 := hb.free 1; have z2 := hb.free 2; have z3 := hb.free 3
  clear hb
  go_enter Try.func37, Try.ntmps37
  go_wp2_with fail
  refine HS.out.mono ?_
  rintro e w' ⟨rfl, rfl⟩
  go_wp2_with fail
  refine HR.out.mono ?_
  rintro e w1 ⟨rfl, hd⟩
  have HD := Lib.hid hd
  have HB1 := Lib.hid (HB.out.same (hd.off.block _ HB.out.lt fun hf => by have := HL.out _ hf; omega))
  have HZ1 : Hid (w.heap.size < w1.heap.size) := Lib.hid HB1.out.lt
  clear hd d0 d1 d2 d3 z0 z1 z2 z3
  go_wp2_with fail
  refine (mget_c S w1 (by omega)).mono ?_
  rintro e w2 ⟨v, vs, rfl, hog, hx⟩
  obtain ⟨a, c, rfl⟩ := hog.own.slice
  have HOg := Lib.hid hog; have HX := Lib.hid hx
  have hb2 := HB1.out.ext hx
  have d0 := hb2.cell 0; have d1 := hb2.cell 1; have d2 := hb2.cell 2; have d3 := hb2.cell 3
  have z0 := hb2.free 0; have z1 := hb2.free 1; have z2 := hb2.free 2; have z3 := hb2.free 3
  clear hog hx hb2
  generalize mgetS S = G at *
  go_wp2_with fail
  ((try simp only [Exit.inBlock, Exit.then]); refine bodyPost_ret (v := .tuple #[.agg #[_, _, _, _], _]) (by rw [results_cell_tmp rfl]; go_simp; exact ⟨⟨rfl, rfl, rfl, rfl⟩, rfl⟩) rfl ?_)
  obtain ⟨a2, c2, e2, hg⟩ := ((((HOg.out.setBelow HZ1.out 0 (.int .i64 G.nx)).setBelow HZ1.out 1 (.int .i64 G.ck)).setBelow HZ1.out 2 (.int .u64 G.sd)).setBelow HZ1.out 3 (.slice a G.L.length c)).grid
  cases e2
  refine ⟨a, c, rfl, hg, DkS.box (ext_a1 w (.cells #[.int .i64 0, .int .i64 0, .int .u64 0, .slice none 0 0] 66)) (HD.out.ext HX.out) HL.out (by simp [World.setCell]) rfl rfl rfl fun i hi hn => ?_⟩
  have hne : i ≠ w.heap.size := fun e => hn (by rw [World.size_alloc]; omega)
  rw [heap_set_ne _ _ hne, heap_set_ne _ _ hne, heap_set_ne _ _ hne, heap_set_ne _ _ hne]

end Go.Proofs.Ytoibjhoebjcfeaa
