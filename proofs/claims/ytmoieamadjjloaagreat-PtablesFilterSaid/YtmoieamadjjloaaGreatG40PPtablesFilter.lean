/- Walks: a table with its disk, made since a world, beside other blocks: the easy contracts. Walks: does a table answer as the document says (law19's answers)? Walks: the chapter's table (law19's small). Walks: the law PtablesFilter. -/
import Derived.Test.YtmoieamadjjloaaGreatG36PPtablesFilter
import Derived.Test.YtmoieamadjjloaaGreatG11PPtablesFilter
import Derived.Test.YtmoieamadjjloaaGreatG17PPtablesFilter
import Derived.Test.YtmoieamadjjloaaGreatG38PPtablesFilter
import Derived.Test.YtmoieamadjjloaaGreatG39PPtablesFilter
import Derived.Deep.RegionHeld3
import Derived.Deep.CutRange
set_option linter.unusedVariables false
set_option linter.unusedSimpArgs false
namespace Go.Proofs.YtmoieamadjjloaaGreat
open Go.RowKit

set_option maxRecDepth 100000
set_option linter.unusedVariables false
set_option maxHeartbeats 6400000

/-- a disk alone, made since wb, beside the blocks K -/
def DkW (wb W : World) (g : Nat) (σ : DM) (K : Nat → Prop) : Prop := ∃ F, DkF wb W g F σ K
/-- a table with its disk -/
def TbW (wb W : World) (t g : Nat) (n : Int) (L : List En) (may : Int → Bool) (σ : DM) (K : Nat → Prop) : Prop :=
  ∃ F T, TbD W t g n L may T F σ ∧ (∀ i, F i → wb.heap.size ≤ i) ∧ (∀ i, T i → wb.heap.size ≤ i) ∧ Ext wb W ∧ ∀ i, K i → i < W.heap.size ∧ ¬ F i ∧ ¬ T i

section
variable {wb W W' w w1 w2 : World} {t g : Nat} {n : Int} {L : List En} {may : Int → Bool} {T F K K' V : Nat → Prop} {σ σ' : DM} {k : Nat}

theorem DkW.ok (h : DkW wb W g σ K) : okD σ := by obtain ⟨F, h1⟩ := h; exact h1.d.1
theorem DkW.base (h : DkW wb W g σ K) : Ext wb W := by obtain ⟨F, h1⟩ := h; exact h1.ext
theorem DkW.grow (h : DkW wb W g σ K) (k : Ext W W') : DkW wb W' g σ K := by obtain ⟨F, h1⟩ := h; exact ⟨F, h1.grow k⟩
theorem DkW.kExt (h : DkW wb W g σ K) (k : Ext W W') : Stay K W W' := by obtain ⟨F, h1⟩ := h; exact fun i hi => k.block i (h1.k i hi).1
theorem DkW.more (h : DkW wb W g σ K) (k : Ext W W') (hK : ∀ i, K' i → K i ∨ (W.heap.size ≤ i ∧ i < W'.heap.size)) : DkW wb W' g σ K' := by
  obtain ⟨F, h1⟩ := h
  have h2 := h1.grow k
  refine ⟨F, h2.d, h2.bF, h2.ext, fun i hi => ?_⟩
  rcases hK i hi with h3 | ⟨h3, h4⟩
  · exact h2.k i h3
  · exact ⟨h4, fun hf => by have := h1.d.Flt i hf; omega⟩
theorem DkW.beside (h : DkW wb W g σ K) (k : ∀ i, K' i → K i) : DkW wb W g σ K' := by
  obtain ⟨F, h1⟩ := h
  exact ⟨F, h1.d, h1.bF, h1.ext, fun i hi => h1.k i (k i hi)⟩
theorem DkW.disk {f : FuncId} {P : Program} {args : Array Value} {R : Ending → Prop} (h : DkW wb W g σ K) (hc : ∀ F, Dk W g F σ → Calls P f args W fun e w' => R e ∧ DkS W g F σ' w') :
    Calls P f args W fun e w' => R e ∧ DkW wb w' g σ' K ∧ Stay K W w' := by
  obtain ⟨F, h1⟩ := h
  refine (hc F h1.d).mono ?_
  rintro e w' ⟨he, hd⟩
  have := h1.disk hd
  exact ⟨he, ⟨_, this.1⟩, this.2⟩

theorem TbW.disk0 (h : TbW wb W t g n L may σ K) : DkW wb W g σ K := by
  obtain ⟨F, T, h1, h2, h3, h4, h5⟩ := h
  exact ⟨F, h1.d, h2, h4, fun i hi => ⟨(h5 i hi).1, (h5 i hi).2.1⟩⟩
theorem TbW.base (h : TbW wb W t g n L may σ K) : Ext wb W := h.disk0.base
theorem TbW.okL (h : TbW wb W t g n L may σ K) : okT L := by obtain ⟨F, T, h1, h2, h3, h4, h5⟩ := h; exact h1.t.okL
theorem TbW.thru (h : TbW wb W t g n L may σ K) : ∀ x ∈ L, may x.1 = true := by obtain ⟨F, T, h1, h2, h3, h4, h5⟩ := h; exact h1.t.thru
theorem TbW.grow (h : TbW wb W t g n L may σ K) (k : Ext W W') : TbW wb W' t g n L may σ K := by
  obtain ⟨F, T, h1, h2, h3, h4, h5⟩ := h
  exact ⟨F, T, h1.ext k, h2, h3, h4.trans k, fun i hi => ⟨Nat.lt_of_lt_of_le (h5 i hi).1 k.size, (h5 i hi).2⟩⟩
theorem TbW.kExt (h : TbW wb W t g n L may σ K) (k : Ext W W') : Stay K W W' := h.disk0.kExt k
theorem TbW.more (h : TbW wb W t g n L may σ K) (k : Ext W W') (hK : ∀ i, K' i → K i ∨ (W.heap.size ≤ i ∧ i < W'.heap.size)) : TbW wb W' t g n L may σ K' := by
  obtain ⟨F, T, h1, h2, h3, h4, h5⟩ := h
  refine ⟨F, T, h1.ext k, h2, h3, h4.trans k, fun i hi => ?_⟩
  rcases hK i hi with h6 | ⟨h6, h7⟩
  · exact ⟨Nat.lt_of_lt_of_le (h5 i h6).1 k.size, (h5 i h6).2⟩
  · exact ⟨h7, fun hf => by have := h1.d.Flt i hf; omega, fun ht => by have := h1.t.lt i ht; omega⟩
/-- a turn of blocks beside it alone -/
theorem TbW.side (h : TbW wb W t g n L may σ K) (hs : W.heap.size ≤ W'.heap.size) (hx : Ext wb W') (k : ∀ i, i < W.heap.size → ¬ K i → W'.heap[i]? = W.heap[i]?) : TbW wb W' t g n L may σ K := by
  obtain ⟨F, T, h1, h2, h3, h4, h5⟩ := h
  have hF : ∀ i, F i → W'.heap[i]? = W.heap[i]? := fun i hi => k i (h1.d.Flt i hi) fun hk => (h5 i hk).2.1 hi
  have hT : ∀ i, T i → W'.heap[i]? = W.heap[i]? := fun i hi => k i (h1.t.lt i hi) fun hk => (h5 i hk).2.2 hi
  exact ⟨F, T, ⟨h1.d.held hs hF, h1.t.same hs hT, h1.ap⟩, h2, h3, hx, fun i hi => ⟨Nat.lt_of_lt_of_le (h5 i hi).1 hs, (h5 i hi).2⟩⟩
theorem TbW.set (h : TbW wb W t g n L may σ K) {q j : Nat} (hq : K q) (hb : wb.heap.size ≤ q) (u : Value) : TbW wb (W.setCell ⟨q, j, none⟩ u) t g n L may σ K :=
  h.side (by simp [World.setCell]) (OffS.ext h.base (F := fun i => i = q) (fun i hi => by rw [hi]; exact hb) (OffS.set (F := fun i => i = q) _ rfl _ _)) fun i _ hn => Below.heap_setCell _ _ _ _ fun e => hn (e ▸ hq)
theorem TbW.beside (h : TbW wb W t g n L may σ K) (k : ∀ i, K' i → K i) : TbW wb W t g n L may σ K' := by
  obtain ⟨F, T, h1, h2, h3, h4, h5⟩ := h
  exact ⟨F, T, h1, h2, h3, h4, fun i hi => h5 i (k i hi)⟩
/-- behind a change of the disk -/
theorem TbW.step (h1 : TbD W t g n L may T F σ) (h2 : ∀ i, F i → wb.heap.size ≤ i) (h3 : ∀ i, T i → wb.heap.size ≤ i) (h4 : Ext wb W) (h5 : ∀ i, K i → i < W.heap.size ∧ ¬ F i ∧ ¬ T i) (k : DkS W g F σ' W') :
    TbW wb W' t g n L may σ' K ∧ Stay K W W' :=
  ⟨⟨_, T, h1.disk k, fun i hi => Gr.ge h2 h4.size hi, h3, k.off.ext h4 h2, fun i hi => ⟨Nat.lt_of_lt_of_le (h5 i hi).1 k.off.size, Gr.not (h5 i hi).2.1 (h5 i hi).1, (h5 i hi).2.2⟩⟩, fun i hi => k.off.block i (h5 i hi).1 (h5 i hi).2.1⟩
/-- .. with a new row beside it -/
theorem TbW.stepV (h1 : TbD W t g n L may T F σ) (h2 : ∀ i, F i → wb.heap.size ≤ i) (h3 : ∀ i, T i → wb.heap.size ≤ i) (h4 : Ext wb W) (h5 : ∀ i, K i → i < W.heap.size ∧ ¬ F i ∧ ¬ T i) {v : Value} {acc : List En} (k : RowV W g F σ' W' v acc) :
    TbW wb W' t g n L may σ' (fun i => K i ∨ v.ownBlock = some i) ∧ Stay K W W' := by
  obtain ⟨F', d1, d2, d3⟩ := k.dk
  have hs := k.off.size
  refine ⟨⟨F', T, ⟨d1, h1.t.off k.off h1.ap, fun i hi hf => ?_⟩, fun i hi => ?_, h3, k.off.ext h4 h2, fun i hi => ?_⟩, fun i hi => k.off.block i (h5 i hi).1 (h5 i hi).2.1⟩
  · rcases d2 i hf with h6 | h6
    · exact h1.ap i hi h6
    · have := h1.t.lt i hi; omega
  · rcases d2 i hi with h6 | h6
    · exact h2 i h6
    · have := h4.size; omega
  · rcases hi with hi | hi
    · refine ⟨by have := (h5 i hi).1; omega, fun hf => ?_, (h5 i hi).2.2⟩
      rcases d2 i hf with h6 | h6
      · exact (h5 i hi).2.1 h6
      · have := (h5 i hi).1; omega
    · exact ⟨(row_lt k.row i hi).2, d3 i hi, fun ht => by have := h1.t.lt i ht; have := (row_lt k.row i hi).1; omega⟩

theorem TbW.range (h : TbW wb W t g n L may σ K) (hw : Wl σ n L) (x a b : Int) :
    Calls Tryz.prog 23 #[.pointer (some ⟨t, 0, none⟩), .int .u64 x, .int .i64 a, .int .i64 b] W fun e W' =>
      ∃ v k, e = .returned (.tuple #[v, .int .i64 0]) ∧ k ≤ (rangeE L x (max a 0) (min b 1073741824)).length + 4 ∧ (tbMay L may x = false → k = 0) ∧
        W'.ownsRow W.heap.size 44 3 v (rangeE L x (max a 0) (min b 1073741824)).length (ecs (rangeE L x (max a 0) (min b 1073741824))) ∧ TbW wb W' t g n L may (tellN k σ) (fun i => K i ∨ v.ownBlock = some i) ∧ Stay K W W' := by
  obtain ⟨k, hk, hz, he⟩ := rangeM_ok hw h.okL.sort h.okL.ok h.thru x a b
  obtain ⟨F, T, h1, h2, h3, h4, h5⟩ := h
  refine (trange_c h1 x a b).mono ?_
  rw [he]
  rintro e W' ⟨v, rfl, hr⟩
  obtain ⟨q1, q2⟩ := TbW.stepV h1 h2 h3 h4 h5 hr
  exact ⟨v, k, rfl, hk, hz, hr.row, q1, q2⟩
theorem TbW.last (h : TbW wb W t g n L may σ K) (hw : Wl σ n L) (x u : Int) (hu : -9223372036854775808 ≤ u) {r : Option En} (hr : (if u < 0 then none else lastE L x (min u 1073741824)) = r) :
    Calls Tryz.prog 24 #[.pointer (some ⟨t, 0, none⟩), .int .u64 x, .int .i64 u] W fun e W' =>
      ∃ k, e = .returned (.tuple #[enV (r.getD en0), .bool r.isSome, .int .i64 0]) ∧ k ≤ 5 ∧ (tbMay L may x = false → k = 0) ∧ TbW wb W' t g n L may (tellN k σ) K ∧ Stay K W W' := by
  obtain ⟨k, hk, hz, he⟩ := lastM_ok hw h.okL.sort h.okL.ok h.thru x u
  rw [hr] at he
  obtain ⟨F, T, h1, h2, h3, h4, h5⟩ := h
  refine (tlast_c h1 x u hu).mono ?_
  rw [he]
  cases r with
  | none =>
    rintro e W' ⟨rfl, hd⟩
    obtain ⟨q1, q2⟩ := TbW.step h1 h2 h3 h4 h5 hd
    exact ⟨k, rfl, hk, hz, q1, q2⟩
  | some y =>
    rintro e W' ⟨rfl, hd⟩
    obtain ⟨q1, q2⟩ := TbW.step h1 h2 h3 h4 h5 hd
    exact ⟨k, rfl, hk, hz, q1, q2⟩
theorem TbW.all (h : TbW wb W t g n L may σ K) (hw : Wl σ n L) :
    Calls Tryz.prog 15 #[.pointer (some ⟨t, 0, none⟩)] W fun e W' =>
      ∃ v, e = .returned (.tuple #[v, .int .i64 0]) ∧ W'.ownsRow W.heap.size 44 3 v L.length (ecs L) ∧ TbW wb W' t g n L may (tellM σ) (fun i => K i ∨ v.ownBlock = some i) ∧ Stay K W W' := by
  have he := allM_ok hw h.okL.sort h.okL.ok (by have := h.okL.len; omega)
  obtain ⟨F, T, h1, h2, h3, h4, h5⟩ := h
  refine (tall_c h1).mono ?_
  rw [he]
  rintro e W' ⟨v, rfl, hr⟩
  obtain ⟨q1, q2⟩ := TbW.stepV h1 h2 h3 h4 h5 hr
  exact ⟨v, rfl, hr.row, q1, q2⟩
theorem TbW.asks (h : TbW wb W t g n L may σ K) (x : Int) : Calls Tryz.prog 25 #[.pointer (some ⟨t, 0, none⟩), .int .u64 x] W fun e w' => e = .returned (.bool (tbMay L may x)) ∧ Ext W w' := by
  obtain ⟨F, T, h1, h2, h3, h4, h5⟩ := h
  exact tmay_c h1.t x
theorem TbW.len (h : TbW wb W t g n L may σ K) : Calls Tryz.prog 13 #[.pointer (some ⟨t, 0, none⟩)] W fun e w' => e = .returned (.int .i64 (L.length : Int)) ∧ W = w' := by
  obtain ⟨F, T, h1, h2, h3, h4, h5⟩ := h
  exact tlen_c h1.t
theorem TbW.num (h : TbW wb W t g n L may σ K) : Calls Tryz.prog 14 #[.pointer (some ⟨t, 0, none⟩)] W fun e w' => e = .returned (.int .i64 n) ∧ W = w' := by
  obtain ⟨F, T, h1, h2, h3, h4, h5⟩ := h
  exact tnum_c h1.t
theorem DkW.reads (h : DkW wb W g σ K) {r : Int} (hr : σ.reads = r) : Calls Tryz.prog 11 #[.pointer (some ⟨g, 0, none⟩)] W fun e w' => e = .returned (.int .i64 r) ∧ W = w' := by
  obtain ⟨F, h1⟩ := h
  rw [← hr]
  exact reads_c h1.d
theorem DkW.make (wb : World) (c : Int) (h0 : 0 ≤ c) (h1 : c ≤ 1048576) : Calls Tryz.prog 9 #[.int .i64 c] wb fun e w' => ∃ g, e = .returned (.tuple #[.pointer (some ⟨g, 0, none⟩), .int .i64 0]) ∧ DkW wb w' g (newM c) (fun _ => False) := by
  refine (new_c wb c h0 h1).mono ?_
  rintro e w' ⟨g, F, rfl, h1, h2, h3⟩
  exact ⟨g, rfl, F, h1, h2, h3, fun i hi => hi.elim⟩
/-- a table is written -/
theorem DkW.write (h : DkW wb W g σ K) {ao : Option Addr} {m cap : Nat} {L : List En} (n : Int) (rate : Nat) (hx : Ens W ao m cap L) (hk : m ≤ 1000) (hok : ∀ e ∈ L, okEn e = true) :
    Calls Tryz.prog 10 #[.pointer (some ⟨g, 0, none⟩), .int .i64 n, .slice ao m cap, .float .f64 rate] W fun e w' =>
      ∃ f : List UInt8, 128 ≤ f.length ∧ f.length ≤ 64 * (L.length / 20 + 2) ∧ e = .returned (.int .i64 (pwriteM σ n L f).1) ∧ DkW wb w' g (pwriteM σ n L f).2 K ∧ Stay K W w' := by
  obtain ⟨F, h1⟩ := h
  refine (pwrite_c h1.d n rate hx hk hok).mono ?_
  rintro e w' ⟨f, f1, f2, rfl, hd⟩
  have := h1.disk hd
  exact ⟨f, f1, f2, rfl, ⟨_, this.1⟩, this.2⟩
/-- .. opened -/
theorem DkW.openT (h : DkW wb W g σ K) (n : Int) {L : List En} {e : Int} (hr : openM σ n = (some L, e, σ')) :
    Calls Tryz.prog 12 #[.pointer (some ⟨g, 0, none⟩), .int .i64 n] W fun e w' => ∃ t may, e = .returned (.tuple #[.pointer (some ⟨t, 0, none⟩), .int .i64 0]) ∧ TbW wb w' t g n L may σ' K ∧ Stay K W w' := by
  obtain ⟨F, h1⟩ := h
  refine (popen_c h1.d n).mono ?_
  rw [hr]
  rintro e w' ⟨t, may, T, w3, rfl, hd, hx, htb, hT⟩
  have hds := h1.disk hd
  have hs := hd.off.size
  refine ⟨t, may, rfl, ⟨Gr F W w3, T, ⟨hd.dk.ext hx, htb, fun i hi hf => ?_⟩, hds.1.bF, fun i hi => ?_, hds.1.ext.trans hx, fun i hi => ⟨Nat.lt_of_lt_of_le (hds.1.k i hi).1 hx.size, (hds.1.k i hi).2, fun ht => by have h8 := hT i ht; have h9 := (hds.1.k i hi).1; omega⟩⟩, fun i hi => ?_⟩
  · have := hd.dk.Flt i hf
    have := hT i hi
    omega
  · have := hT i hi; have := h1.ext.size; omega
  · rw [hx.block i (hds.1.k i hi).1]; exact hds.2 i hi
theorem DkW.openN (h : DkW wb W g σ K) (n : Int) {e : Int} (hr : openM σ n = (none, e, σ')) :
    Calls Tryz.prog 12 #[.pointer (some ⟨g, 0, none⟩), .int .i64 n] W fun r w' => r = .returned (.tuple #[.pointer none, .int .i64 e]) ∧ DkW wb w' g σ' K ∧ Stay K W w' := by
  obtain ⟨F, h1⟩ := h
  refine (popen_c h1.d n).mono ?_
  rw [hr]
  rintro e w' ⟨rfl, hd⟩
  have := h1.disk hd
  exact ⟨rfl, ⟨_, this.1⟩, this.2⟩
end

end Go.Proofs.YtmoieamadjjloaaGreat
namespace Go.Proofs.YtmoieamadjjloaaGreat
open Go.RowKit

set_option maxRecDepth 100000
set_option linter.unusedVariables false
set_option maxHeartbeats 12800000

theorem set3_heap {W : World} {p q : Nat} {a b c : Value} (h : q ≠ p) : (((W.setCell ⟨p, 0, none⟩ a).setCell ⟨p, 1, none⟩ b).setCell ⟨p, 2, none⟩ c).heap[q]? = W.heap[q]? := by
  rw [Below.heap_setCell _ _ _ _ (by exact h), Below.heap_setCell _ _ _ _ (by exact h), Below.heap_setCell _ _ _ _ (by exact h)]
theorem set3_off {W : World} {p : Nat} {a b c : Value} : OffS (fun i => i = p) W (((W.setCell ⟨p, 0, none⟩ a).setCell ⟨p, 1, none⟩ b).setCell ⟨p, 2, none⟩ c) :=
  ((OffS.set (F := fun i => i = p) _ rfl _ _).trans (OffS.set (F := fun i => i = p) _ rfl _ _)).trans (OffS.set (F := fun i => i = p) _ rfl _ _)
theorem set3_blk {W : World} {p : Nat} {ty : TypeId} {x0 x1 x2 a b c : Value} (h : Blk W p ty #[x0, x1, x2]) : Blk (((W.setCell ⟨p, 0, none⟩ a).setCell ⟨p, 1, none⟩ b).setCell ⟨p, 2, none⟩ c) p ty #[a, b, c] := by
  unfold Blk at *
  simp only [World.setCell, Array.getElem?_modify, if_true, h, Option.map_some]
  rfl
def askH (a : En) : Int := a.1 % 9 * 1000003
theorem ahash_c (a : En) (w : World) (h0 : 0 ≤ a.1) (h1 : a.1 ≤ 255) : Calls Tryz.prog 46 #[.agg #[.int .u8 a.1, .int .i64 a.2.1, .int .i64 a.2.2]] w fun e w' => e = .returned (.int .u64 (askH a)) ∧ Ext w w' := by
  obtain ⟨x, y, z⟩ := a
  simp only at h0 h1
  have q1 : Int.tmod x 9 = x % 9 := Int.tmod_eq_emod_of_nonneg h0
  have q2 : IntKind.u8.wrap (x % 9) = x % 9 := by rw [IntKind.wrap_u8]; omega
  have q3 : IntKind.u64.wrap (x % 9) = x % 9 := by rw [IntKind.wrap_u64]; omega
  have q4 : IntKind.u64.wrap (x % 9 * 1000003) = askH (x, y, z) := by rw [IntKind.wrap_u64]; unfold askH; simp only; omega
  have hbk := Blk.new w 87 #[.int .u8 x, .int .i64 y, .int .i64 z]
  have c0 := hbk.cell 0
  generalize askH (x, y, z) = H at *
  have HX := Lib.hid (ext_a1 w (.cells #[.int .u8 x, .int .i64 y, .int .i64 z] 87))
  clear hbk
  go_enter Tryz.func46, Tryz.ntmps46
  go_wp2_with fail
  go_ret
  exact ⟨rfl, HX.out⟩

section
variable {wb w : World} {t g : Nat} {n : Int} {L : List En} {may : Int → Bool} {σ : DM}

theorem answers_c {ao bo : Option Addr} {m cap k bcap : Nat} {A : List En} (h : TbW wb w t g n L may σ (fun _ => False)) (hw : Wl σ n L) (hx : Ens wb ao m cap L) (ha : AsksIn wb bo k bcap A) (hk : k ≤ 40) (hL : L.length ≤ 1000) (hr0 : 0 ≤ σ.reads) (hr1 : σ.reads ≤ 100000) :
    Calls Tryz.prog 17 #[.pointer (some ⟨g, 0, none⟩), .pointer (some ⟨t, 0, none⟩), .slice ao m cap, .slice bo k bcap] w fun e w' => e = .returned (.bool true) ∧ ∃ c, c ≤ k * (L.length + 9) ∧ TbW wb w' t g n L may (tellN c σ) (fun _ => False) := by
  have HT0 := Lib.hid h
  have Hx := Lib.hid hx; have Ha := Lib.hid ha
  have b1 := ha.fits; have b2 := ha.bound
  have HLx := Lib.hid hx.len
  have HWl := Lib.hid hw
  have HL := Lib.hid hL
  clear h hx ha hw
  go_enter Tryz.func17, Tryz.ntmps17
  go_wp2_with fail
  go_loopw [9] (fun i W => ∃ j c : Nat, j ≤ k ∧ i = .int .i64 (j : Int) ∧ c ≤ j * (L.length + 9) ∧ TbW wb W t g n L may (tellN c σ) (fun _ => False)) (fun i _ => k - (intOf i).toNat)
  case atStart => exact ⟨0, 0, Nat.zero_le _, rfl, Nat.zero_le _, HT0.out⟩
  case round =>
    obtain ⟨j, c, hj, rfl, hc, htb⟩ := hrel
    have HT := Lib.hid htb
    have HC := Lib.hid hc
    by_cases hlt : j < k
    · have hd : decide ((j : Int) < (k : Int)) = true := by simp; omega
      have q1 : IntKind.i64.wrap ((j : Int) + 1) = (j : Int) + 1 := by rw [IntKind.wrap_i64]; omega
      obtain ⟨b, off, rfl, c0, c1, c2, hok⟩ := (Ha.out.ext htb.base).at hlt
      generalize A.getD j en0 = a at *
      obtain ⟨a1, a2, a3⟩ := a
      have hcb : c ≤ 40 * 1009 := by
        have h2 := Nat.mul_le_mul (show j ≤ 40 by omega) (show L.length + 9 ≤ 1009 by omega)
        omega
      have hrd : (tellN c σ).reads = σ.reads + c := tellN_reads c σ hr0 (by omega)
      obtain ⟨R, hR⟩ : ∃ R : Int, σ.reads + c = R := ⟨_, rfl⟩
      rw [hR] at hrd
      have hR0 : 0 ≤ R := by omega
      have hR1 : R ≤ 1000000 := by omega
      have HWc := Lib.hid (HWl.out.tellN c)
      obtain ⟨τ, hτ⟩ : ∃ τ, tellN c σ = τ := ⟨_, rfl⟩
      have HTau := Lib.hid hτ
      rw [hτ] at HT hrd HWc
      have HRd := Lib.hid hrd
      have HH := Lib.hid (fun W => ahash_c (a1, a2, a3) W hok.h0 hok.h1)
      have HA3 := Lib.hid hok.t0
      simp only at c0 c1 c2
      clear htb hok hcb hrd hτ hc hR
      obtain ⟨H, hH⟩ : ∃ H, askH (a1, a2, a3) = H := ⟨_, rfl⟩
      rw [hH] at HH
      clear hH
      -- the ask's box
      have hbk := Blk.new wr 87 #[.int .u8 a1, .int .i64 a2, .int .i64 a3]
      have hx1 := ext_a1 wr (.cells #[.int .u8 a1, .int .i64 a2, .int .i64 a3] 87)
      have HT1 := Lib.hid (HT.out.more (K' := fun i => i = wr.heap.size) hx1 fun i hi => .inr ⟨by omega, by rw [World.size_alloc]; omega⟩)
      have HS0 : Hid (∀ W : World, W.heap[wr.heap.size]? = (wr.alloc (.cells #[.int .u8 a1, .int .i64 a2, .int .i64 a3] 87)).heap[wr.heap.size]? → W.cell? ⟨wr.heap.size, 0, none⟩ = some (.int .u8 a1) ∧ W.cell? ⟨wr.heap.size, 1, none⟩ = some (.int .i64 a2) ∧ W.cell? ⟨wr.heap.size, 2, none⟩ = some (.int .i64 a3)) := Lib.hid fun W hW => by
        have hb := hbk.same hW
        exact ⟨hb.cell 0, hb.cell 1, hb.cell 2⟩
      clear hbk hx1
      go_wp2_with fail
      generalize wr.heap.size = q at *
      generalize wr.alloc (.cells #[.int .u8 a1, .int .i64 a2, .int .i64 a3] 87) = w1 at *
      refine (HT1.out.disk0.reads HRd.out).mono ?_
      rintro e w1' ⟨rfl, rfl⟩
      go_wp2_with fail
      have HRa := Lib.hid (fun (W : World) (h : TbW wb W t g n L may τ (fun i => i = q)) => h.range HWc.out H a2 a3)
      have HTd : Hid (TbW wb w1.drew t g n L may τ (fun i => i = q)) := Lib.hid (HT1.out.grow (Ext.refl _).drew)
      have HS1 := Lib.hid (HS0.out w1.drew rfl)
      go_region_held3 (fun W => W.cell? ⟨q, 0, none⟩ = some (.int .u8 a1) ∧ W.cell? ⟨q, 1, none⟩ = some (.int .i64 a2) ∧ W.cell? ⟨q, 2, none⟩ = some (.int .i64 a3))
        (first | exact HS3.out | exact HS2.out | exact HS1.out)
        (first
          | (go_at_call 46; refine (HH.out _).mono ?_; rintro e wa ⟨rfl, h1⟩; have HX2 := Lib.hid h1; have HTa := Lib.hid (HTd.out.grow h1); have hst := HTd.out.kExt h1 q rfl; have HS2 := Lib.hid (HS0.out wa hst); clear h1 hst)
          | (go_at_call 23; refine (HRa.out _ HTa.out).mono ?_; rintro e wb2 ⟨v, k1, rfl, h1, h2, h3, h4, h5⟩; have HK1 := Lib.hid (And.intro h1 h2); have HRow := Lib.hid h3; have HTb := Lib.hid h4; have hst := (h5 q rfl).trans (HTd.out.kExt HX2.out q rfl); have HS3 := Lib.hid (HS0.out wb2 hst); clear h1 h2 h3 h4 h5 hst))
      clear HTd HS1 HTa HS2 HX2 HRa HT1
      have hrl : (rangeE L H (max a2 0) (min a3 1073741824)).length ≤ L.length := by unfold rangeE; exact List.length_filter_le _ _
      obtain ⟨RG, hRG⟩ : ∃ RG, rangeE L H (max a2 0) (min a3 1073741824) = RG := ⟨_, rfl⟩
      rw [hRG] at HK1 HRow hrl
      have HRG := Lib.hid hRG
      obtain ⟨va, vc, rfl⟩ := row_slice HRow.out
      have hk1 : k1 ≤ RG.length + 4 := HK1.out.1
      have hr1' : (tellN k1 τ).reads = R + k1 := by rw [tellN_reads k1 τ (by rw [HRd.out]; exact hR0) (by rw [HRd.out]; have := HL.out; omega), HRd.out]
      have HRd1 := Lib.hid hr1'
      have HWc1 := Lib.hid (HWc.out.tellN k1)
      obtain ⟨τ1, hτ1⟩ : ∃ τ1, tellN k1 τ = τ1 := ⟨_, rfl⟩
      have HTau1 := Lib.hid hτ1
      rw [hτ1] at HTb HRd1 HWc1
      obtain ⟨R1, hR1'⟩ : ∃ R1 : Int, R + k1 = R1 := ⟨_, rfl⟩
      rw [hR1'] at HRd1
      have HR1 := Lib.hid hR1'
      clear hRG hr1' hτ1 hR1' hrl
      go_wp2_with fail
      refine (HTb.out.disk0.reads HRd1.out).mono ?_
      rintro e w1' ⟨rfl, rfl⟩
      have hla : ∃ r, (if a3 < 0 then none else lastE L H (min a3 1073741824)) = r := ⟨_, rfl⟩
      obtain ⟨r, hr⟩ := hla
      have HLr := Lib.hid hr
      have HLa := Lib.hid (fun (W : World) (K : Nat → Prop) (h : TbW wb W t g n L may τ1 K) => h.last HWc1.out H a3 HA3.out hr)
      obtain ⟨⟨y1, y2, y3⟩, hy⟩ : ∃ y, r.getD en0 = y := ⟨_, rfl⟩
      have HY := Lib.hid hy
      rw [hy] at HLa
      have HLa : Hid (∀ (W : World) (K : Nat → Prop), TbW wb W t g n L may τ1 K → Calls Tryz.prog 24 #[.pointer (some ⟨t, 0, none⟩), .int .u64 H, .int .i64 a3] W fun e W' =>
        ∃ k, e = .returned (.tuple #[.agg #[.int .u64 y1, .int .i64 y2, .int .i64 y3], .bool r.isSome, .int .i64 0]) ∧ k ≤ 5 ∧ (tbMay L may H = false → k = 0) ∧ TbW wb W' t g n L may (tellN k τ1) K ∧ Stay K W W') := HLa
      obtain ⟨ri, hri⟩ : ∃ ri, r.isSome = ri := ⟨_, rfl⟩
      have HRi := Lib.hid hri
      rw [hri] at HLa
      have HTd : Hid (TbW wb wb2.drew t g n L may τ1 (fun i => i = q ∨ (Value.slice va RG.length vc).ownBlock = some i)) := Lib.hid (HTb.out.grow (Ext.refl _).drew)
      have HS4 : Hid (wb2.drew.cell? ⟨q, 0, none⟩ = some (.int .u8 a1) ∧ wb2.drew.cell? ⟨q, 1, none⟩ = some (.int .i64 a2) ∧ wb2.drew.cell? ⟨q, 2, none⟩ = some (.int .i64 a3)) := Lib.hid HS3.out
      have HSx : Hid (∀ W W' : World, Ext W W' → (W.cell? ⟨q, 0, none⟩ = some (.int .u8 a1) ∧ W.cell? ⟨q, 1, none⟩ = some (.int .i64 a2) ∧ W.cell? ⟨q, 2, none⟩ = some (.int .i64 a3)) → W'.cell? ⟨q, 0, none⟩ = some (.int .u8 a1) ∧ W'.cell? ⟨q, 1, none⟩ = some (.int .i64 a2) ∧ W'.cell? ⟨q, 2, none⟩ = some (.int .i64 a3)) := Lib.hid fun W W' k hs => ⟨cell_ext k hs.1, cell_ext k hs.2.1, cell_ext k hs.2.2⟩
      have HSy : Hid (∀ W W' : World, W'.heap[q]? = W.heap[q]? → (W.cell? ⟨q, 0, none⟩ = some (.int .u8 a1) ∧ W.cell? ⟨q, 1, none⟩ = some (.int .i64 a2) ∧ W.cell? ⟨q, 2, none⟩ = some (.int .i64 a3)) → W'.cell? ⟨q, 0, none⟩ = some (.int .u8 a1) ∧ W'.cell? ⟨q, 1, none⟩ = some (.int .i64 a2) ∧ W'.cell? ⟨q, 2, none⟩ = some (.int .i64 a3)) := Lib.hid fun W W' k hs => by
        simp only [World.cell?, k] at hs ⊢
        exact hs
      have HKq : Hid (∀ W W' : World, (Stay (fun i => i = q ∨ (Value.slice va RG.length vc).ownBlock = some i) W W' ∨ ∃ p, Stay (fun i => (i = q ∨ (Value.slice va RG.length vc).ownBlock = some i) ∨ i = p) W W') → W'.heap[q]? = W.heap[q]?) := Lib.hid fun W W' h => h.elim (fun h => h q (Or.inl rfl)) fun ⟨p, h⟩ => h q (Or.inl (Or.inl rfl))
      have HQlt := Lib.hid (show q < wb2.heap.size from by obtain ⟨F, T, h1, h2, h3, h4, h5⟩ := HTb.out; exact (h5 q (.inl rfl)).1)
      have HQb := Lib.hid (show wb.heap.size ≤ wb2.heap.size from HTb.out.base.size)
      have HFA : Hid (∀ (wa wb6 : World) (k2 : Nat), Stay (fun i => i = q ∨ (Value.slice va RG.length vc).ownBlock = some i) wb2 wa → Stay (fun i => i = q ∨ (Value.slice va RG.length vc).ownBlock = some i) wa wb6 → TbW wb wb6 t g n L may (tellN k2 τ1) (fun i => i = q ∨ (Value.slice va RG.length vc).ownBlock = some i) → TbW wb (wb6.alloc (.cells #[.int .u64 y1, .int .i64 y2, .int .i64 y3] 44)) t g n L may (tellN k2 τ1) (fun i => (i = q ∨ (Value.slice va RG.length vc).ownBlock = some i) ∨ i = wb6.heap.size) ∧ Blk (wb6.alloc (.cells #[.int .u64 y1, .int .i64 y2, .int .i64 y3] 44)) wb6.heap.size 44 #[.int .u64 y1, .int .i64 y2, .int .i64 y3] ∧ Stay (fun i => i = q ∨ (Value.slice va RG.length vc).ownBlock = some i) wb2 (wb6.alloc (.cells #[.int .u64 y1, .int .i64 y2, .int .i64 y3] 44))) := Lib.hid fun wa wb6 k2 h1 h2 h3 =>
        ⟨h3.more (ext_a1 _ _) (fun i hi => hi.imp id fun e => by rw [e, World.size_alloc]; omega), Blk.new _ _ _, (h1.trans h2).trans (h3.kExt (ext_a1 _ _))⟩
      have HFB : Hid (∀ (p : Nat) (wa wb6 : World) (k2 : Nat), wb2.heap.size ≤ p → Stay (fun i => i = q ∨ (Value.slice va RG.length vc).ownBlock = some i) wb2 wa → Stay (fun i => (i = q ∨ (Value.slice va RG.length vc).ownBlock = some i) ∨ i = p) wa wb6 → TbW wb wb6 t g n L may (tellN k2 τ1) (fun i => (i = q ∨ (Value.slice va RG.length vc).ownBlock = some i) ∨ i = p) → Blk wb6 p 44 #[.int .u64 0, .int .i64 0, .int .i64 0] →
          TbW wb (((wb6.setCell ⟨p, 0, none⟩ (.int .u64 y1)).setCell ⟨p, 1, none⟩ (.int .i64 y2)).setCell ⟨p, 2, none⟩ (.int .i64 y3)) t g n L may (tellN k2 τ1) (fun i => (i = q ∨ (Value.slice va RG.length vc).ownBlock = some i) ∨ i = p) ∧ Blk (((wb6.setCell ⟨p, 0, none⟩ (.int .u64 y1)).setCell ⟨p, 1, none⟩ (.int .i64 y2)).setCell ⟨p, 2, none⟩ (.int .i64 y3)) p 44 #[.int .u64 y1, .int .i64 y2, .int .i64 y3] ∧ Stay (fun i => i = q ∨ (Value.slice va RG.length vc).ownBlock = some i) wb2 (((wb6.setCell ⟨p, 0, none⟩ (.int .u64 y1)).setCell ⟨p, 1, none⟩ (.int .i64 y2)).setCell ⟨p, 2, none⟩ (.int .i64 y3))) := Lib.hid fun p wa wb6 k2 hp h1 h2 h3 h4 => by
        have hb : wb.heap.size ≤ p := Nat.le_trans HTb.out.base.size hp
        refine ⟨((h3.set (.inr rfl) hb _).set (.inr rfl) hb _).set (.inr rfl) hb _, set3_blk h4, fun i hi => ?_⟩
        have hlt : i < wb2.heap.size := by obtain ⟨F, T, a1, a2, a3, a4, a5⟩ := HTb.out; exact (a5 i hi).1
        rw [set3_heap (by omega), h2 i (.inl hi), h1 i hi]
      clear hr hy hri hk1
      go_upto_region 8 with fail
      go_cut [15, 16, 17] from 46 to 55 (fun a b c W => ∃ p k2 : Nat, a = .pointer (some ⟨p, 0, none⟩) ∧ b = .bool ri ∧ c = .int .i64 0 ∧ k2 ≤ 5 ∧ (tbMay L may H = false → k2 = 0) ∧ TbW wb W t g n L may (tellN k2 τ1) (fun i => (i = q ∨ (Value.slice va RG.length vc).ownBlock = some i) ∨ i = p) ∧ Blk W p 44 #[.int .u64 y1, .int .i64 y2, .int .i64 y3] ∧ Stay (fun i => i = q ∨ (Value.slice va RG.length vc).ownBlock = some i) wb2 W)
      case first =>
        go_region_held3 (fun W => W.cell? ⟨q, 0, none⟩ = some (.int .u8 a1) ∧ W.cell? ⟨q, 1, none⟩ = some (.int .i64 a2) ∧ W.cell? ⟨q, 2, none⟩ = some (.int .i64 a3))
          (with_reducible (first | exact HS6.out | exact HSy.out _ _ (set3_heap (by have := HQlt.out; omega)) HS6.out | exact HSy.out _ _ (set3_heap (by have := HQlt.out; have := HX5.out.size; omega)) HS6.out | exact HSx.out _ _ (ext_a1 _ _) HS6.out | exact HSx.out _ _ (ext_a1 _ _) HS5.out | exact HS5.out | exact HSx.out _ _ (ext_a1 _ _) HS4.out | exact HS4.out))
          (first
            | (go_at_call 46; refine (HH.out _).mono ?_; rintro e wa ⟨rfl, h1⟩; have HX5 : Hid (Ext wb2 wa) := (by with_reducible exact Lib.hid (Ext.trans (Ext.drew (Ext.refl wb2)) h1)); clear h1; have HT5 := Lib.hid (HTb.out.grow HX5.out); have HS5 := Lib.hid (HSx.out _ _ HX5.out HS3.out); have HSt5 : Hid (Stay (fun i => i = q ∨ (Value.slice va RG.length vc).ownBlock = some i) wb2 wa) := Lib.hid (HTb.out.kExt HX5.out))
            | (go_at_call 46; refine (HH.out _).mono ?_; rintro e wa ⟨rfl, h1⟩; have HX5 : Hid (Ext wb2 wa) := (by with_reducible exact Lib.hid (Ext.trans (Ext.drew (ext_a1 wb2 _)) h1)); have HT5 := Lib.hid ((HTb.out.more (K' := (fun i => (i = q ∨ (Value.slice va RG.length vc).ownBlock = some i) ∨ i = wb2.heap.size)) (Ext.drew (ext_a1 _ (.cells #[.int .u64 0, .int .i64 0, .int .i64 0] 44))) (fun i hi => hi.imp id fun e => by rw [e]; exact ⟨Nat.le_refl _, by show wb2.heap.size < (wb2.alloc _).heap.size; rw [World.size_alloc]; omega⟩)).grow h1); have HS5 := Lib.hid (HSx.out _ _ HX5.out HS3.out); have HSt5 : Hid (Stay (fun i => i = q ∨ (Value.slice va RG.length vc).ownBlock = some i) wb2 wa) := Lib.hid (HTb.out.kExt HX5.out); have HBp := Lib.hid ((Blk.new wb2 44 #[.int .u64 0, .int .i64 0, .int .i64 0]).ext (Ext.trans (Ext.drew (Ext.refl _)) h1)); clear h1)
            | (go_at_call 24; (with_reducible show Calls _ _ _ wa _); refine (HLa.out _ _ HT5.out).mono ?_; rintro e wb6 ⟨k2, rfl, h1, h2, h4, h5⟩; have HK2 := Lib.hid (And.intro h1 h2); have HT6 := Lib.hid h4; have HSt6 := Lib.hid h5; (first | have hq6 := HKq.out _ _ (Or.inl h5) | have hq6 := HKq.out _ _ (Or.inr ⟨_, h5⟩)); have HS6 := Lib.hid (HSy.out _ _ hq6 HS5.out); (first | fail_if_success (have HBp7 := HBp.out) | (have HBp6 : Hid (Blk wb6 wb2.heap.size 44 #[.int .u64 0, .int .i64 0, .int .i64 0]) := Lib.hid (HBp.out.same (h5 _ (Or.inr rfl))); have r0 : wb6.cell? ⟨wb2.heap.size, 0, none⟩ = some (Value.int .u64 0) := HBp6.out.cell 0; have r1 : wb6.cell? ⟨wb2.heap.size, 1, none⟩ = some (Value.int .i64 0) := HBp6.out.cell 1; have r2 : wb6.cell? ⟨wb2.heap.size, 2, none⟩ = some (Value.int .i64 0) := HBp6.out.cell 2; have z0 := HBp6.out.free 0; have z1 := HBp6.out.free 1; have z2 := HBp6.out.free 2)); clear h1 h2 h4 h5 hq6)
            | (go_at_call 24; refine (HLa.out _ _ (HT5.out.more (K' := (fun i => (i = q ∨ (Value.slice va RG.length vc).ownBlock = some i) ∨ i = wa.heap.size)) (ext_a1 _ (.cells #[.int .u64 0, .int .i64 0, .int .i64 0] 44)) (fun i hi => hi.imp id fun e => by rw [e, World.size_alloc]; omega))).mono ?_; rintro e wb6 ⟨k2, rfl, h1, h2, h4, h5⟩; have HK2 := Lib.hid (And.intro h1 h2); have HT6 := Lib.hid h4; have HSt6 := Lib.hid h5; have hq6 := HKq.out _ _ (Or.inr ⟨_, h5⟩); have HS6 := Lib.hid (HSy.out _ _ hq6 (HSx.out _ _ (ext_a1 _ (.cells #[.int .u64 0, .int .i64 0, .int .i64 0] 44)) HS5.out)); have HBp6 : Hid (Blk wb6 wa.heap.size 44 #[.int .u64 0, .int .i64 0, .int .i64 0]) := Lib.hid ((Blk.new wa 44 #[.int .u64 0, .int .i64 0, .int .i64 0]).same (h5 _ (Or.inr rfl))); have r0 : wb6.cell? ⟨wa.heap.size, 0, none⟩ = some (Value.int .u64 0) := HBp6.out.cell 0; have r1 : wb6.cell? ⟨wa.heap.size, 1, none⟩ = some (Value.int .i64 0) := HBp6.out.cell 1; have r2 : wb6.cell? ⟨wa.heap.size, 2, none⟩ = some (Value.int .i64 0) := HBp6.out.cell 2; have z0 := HBp6.out.free 0; have z1 := HBp6.out.free 1; have z2 := HBp6.out.free 2; clear h1 h2 h4 h5 hq6))
        all_goals
          go_wp2_with fail
          go_meet
          case rel =>
            first
              | (obtain ⟨q1, q2, q3⟩ := HFA.out wa wb6 k2 HSt5.out HSt6.out HT6.out; exact ⟨_, k2, rfl, rfl, rfl, HK2.out.1, HK2.out.2, q1, q2, q3⟩)
              | (obtain ⟨q1, q2, q3⟩ := HFB.out wb2.heap.size wa wb6 k2 (Nat.le_refl _) HSt5.out HSt6.out HT6.out HBp6.out; exact ⟨_, k2, rfl, rfl, rfl, HK2.out.1, HK2.out.2, q1, q2, q3⟩)
              | (obtain ⟨q1, q2, q3⟩ := HFB.out wa.heap.size (wa.alloc (.cells #[.int .u64 0, .int .i64 0, .int .i64 0] 44)) wb6 k2 HX5.out.size (HSt5.out.trans (HT5.out.kExt (ext_a1 _ _))) HSt6.out HT6.out HBp6.out; exact ⟨_, k2, rfl, rfl, rfl, HK2.out.1, HK2.out.2, q1, q2, q3⟩)
      case rest =>
      obtain ⟨p, k2, rfl, rfl, rfl, hk2, hk2z, htc, hbp, hstc⟩ := hcut
      --REST
      have hrl : RG.length ≤ L.length := by rw [← HRG.out]; unfold rangeE; exact List.length_filter_le _ _
      have hk1 := HK1.out.1
      have hLL := HL.out
      have hR1e := HR1.out
      have hr2' : (tellN k2 τ1).reads = R1 + k2 := by rw [tellN_reads k2 τ1 (by rw [HRd1.out]; omega) (by rw [HRd1.out]; omega), HRd1.out]
      clear hrl hk1 hLL hR1e
      obtain ⟨τ2, hτ2⟩ : ∃ τ2, tellN k2 τ1 = τ2 := ⟨_, rfl⟩
      have HTau2 := Lib.hid hτ2
      rw [hτ2] at htc hr2'
      obtain ⟨R2, hR2⟩ : ∃ R2 : Int, R1 + k2 = R2 := ⟨_, rfl⟩
      rw [hR2] at hr2'
      have HRd2 := Lib.hid hr2'
      have HR2 := Lib.hid hR2
      have HTC := Lib.hid htc; have HBP := Lib.hid hbp
      have HSC : Hid ((fun W : World => W.cell? ⟨q, 0, none⟩ = some (.int .u8 a1) ∧ W.cell? ⟨q, 1, none⟩ = some (.int .i64 a2) ∧ W.cell? ⟨q, 2, none⟩ = some (.int .i64 a3)) wc) := Lib.hid (HSy.out _ _ (hstc q (.inl rfl)) HS3.out)
      have HRC := Lib.hid (row_same HRow.out fun i hi => hstc i (.inr hi))
      have HK2f := Lib.hid (And.intro hk2 hk2z)
      clear htc hbp hstc hτ2 hR2 hr2' hk2 hk2z HLa HFA HFB HTd HS4 HSx HKq HTb HS3 HRow
      go_wp2_with fail
      refine (HTC.out.disk0.reads HRd2.out).mono ?_
      rintro e w1' ⟨rfl, rfl⟩
      have hLV : lastV r = .tuple #[.agg #[.int .u64 y1, .int .i64 y2, .int .i64 y3], .bool ri] := by
        have h1 := HY.out; have h2 := HRi.out
        cases r with
        | none => cases h1; cases h2; rfl
        | some x => cases h1; cases h2; rfl
      have HDL : Hid (∀ W, Ext wb W → Calls Tryz.prog 47 #[.slice ao m cap, .int .u64 H, .int .i64 a3] W fun e W' => e = .returned (.tuple #[.agg #[.int .u64 y1, .int .i64 y2, .int .i64 y3], .bool ri]) ∧ Ext W W') := Lib.hid fun W hW => by
        have h1 := last19_c H a3 W (Hx.out.ext hW) (by have := Hx.out.len; omega)
        rw [HLr.out, hLV] at h1
        exact h1
      have HS7 : Hid (wc.drew.cell? ⟨q, 0, none⟩ = some (.int .u8 a1) ∧ wc.drew.cell? ⟨q, 1, none⟩ = some (.int .i64 a2) ∧ wc.drew.cell? ⟨q, 2, none⟩ = some (.int .i64 a3)) := Lib.hid HSC.out
      have HSx : Hid (∀ W W' : World, Ext W W' → (W.cell? ⟨q, 0, none⟩ = some (.int .u8 a1) ∧ W.cell? ⟨q, 1, none⟩ = some (.int .i64 a2) ∧ W.cell? ⟨q, 2, none⟩ = some (.int .i64 a3)) → W'.cell? ⟨q, 0, none⟩ = some (.int .u8 a1) ∧ W'.cell? ⟨q, 1, none⟩ = some (.int .i64 a2) ∧ W'.cell? ⟨q, 2, none⟩ = some (.int .i64 a3)) := Lib.hid fun W W' k hs => ⟨cell_ext k hs.1, cell_ext k hs.2.1, cell_ext k hs.2.2⟩
      have HWb := Lib.hid HTC.out.base
      have HQc := Lib.hid (show q < wc.heap.size from by obtain ⟨F, T, h1, h2, h3, h4, h5⟩ := HTC.out; exact (h5 q (.inl (.inl rfl))).1)
      clear hLV
      go_upto_region 10 with fail
      go_cut [19, 20] from 58 to 66 (fun a b W => ∃ p2 : Nat, a = .pointer (some ⟨p2, 0, none⟩) ∧ b = .bool ri ∧ Ext wc W ∧ Blk W p2 44 #[.int .u64 y1, .int .i64 y2, .int .i64 y3])
      case first =>
        go_region_held3 (fun W => W.cell? ⟨q, 0, none⟩ = some (.int .u8 a1) ∧ W.cell? ⟨q, 1, none⟩ = some (.int .i64 a2) ∧ W.cell? ⟨q, 2, none⟩ = some (.int .i64 a3))
          (with_reducible (first | exact HS8.out | exact HSx.out _ _ (ext_a1 _ _) HS8.out | exact HSx.out _ _ (ext_a1 _ _) HS7b.out | exact HS7b.out | exact HSx.out _ _ (ext_a1 _ _) HS7.out | exact HS7.out | exact HSx.out wc _ (Ext.drew (ext_a1 _ _)) HSC.out | exact HSy.out _ _ (set3_heap (by have := HQc.out; omega)) HS8.out | exact HSy.out _ _ (set3_heap (by have := HQc.out; have := HX7.out.size; omega)) HS8.out))
          (first
            | (go_at_call 46; refine (HH.out _).mono ?_; rintro e wa ⟨rfl, h1⟩; have HX7 : Hid (Ext wc wa) := (by with_reducible exact Lib.hid (Ext.trans (Ext.drew (Ext.refl wc)) h1)); have HS7b := Lib.hid (HSx.out _ _ HX7.out HSC.out); clear h1)
            | (go_at_call 46; refine (HH.out _).mono ?_; rintro e wa ⟨rfl, h1⟩; have HX7 : Hid (Ext wc wa) := (by with_reducible exact Lib.hid (Ext.trans (Ext.drew (ext_a1 wc _)) h1)); have HS7b := Lib.hid (HSx.out _ _ HX7.out HSC.out); have HBq := Lib.hid ((Blk.new wc 44 #[.int .u64 0, .int .i64 0, .int .i64 0]).ext (Ext.trans (Ext.drew (Ext.refl _)) h1)); clear h1)
            | (go_at_call 47; (with_reducible show Calls _ _ _ wa _); refine (HDL.out _ (HWb.out.trans HX7.out)).mono ?_; rintro e wb6 ⟨rfl, h1⟩; have HX8 := Lib.hid (HX7.out.trans h1); have HS8 := Lib.hid (HSx.out _ _ h1 HS7b.out); (first | fail_if_success (have HBp7 := HBq.out) | (have HBp6 : Hid (Blk wb6 wc.heap.size 44 #[.int .u64 0, .int .i64 0, .int .i64 0]) := Lib.hid (HBq.out.ext h1); have r0 : wb6.cell? ⟨wc.heap.size, 0, none⟩ = some (Value.int .u64 0) := HBp6.out.cell 0; have r1 : wb6.cell? ⟨wc.heap.size, 1, none⟩ = some (Value.int .i64 0) := HBp6.out.cell 1; have r2 : wb6.cell? ⟨wc.heap.size, 2, none⟩ = some (Value.int .i64 0) := HBp6.out.cell 2; have z0 := HBp6.out.free 0; have z1 := HBp6.out.free 1; have z2 := HBp6.out.free 2)); clear h1)
            | (go_at_call 47; refine (HDL.out _ ((HWb.out.trans HX7.out).trans (ext_a1 wa (.cells #[.int .u64 0, .int .i64 0, .int .i64 0] 44)))).mono ?_; rintro e wb6 ⟨rfl, h1⟩; have HX8 := Lib.hid ((HX7.out.trans (ext_a1 wa (.cells #[.int .u64 0, .int .i64 0, .int .i64 0] 44))).trans h1); have HS8 := Lib.hid (HSx.out _ _ ((ext_a1 wa (.cells #[.int .u64 0, .int .i64 0, .int .i64 0] 44)).trans h1) HS7b.out); have HBp6 : Hid (Blk wb6 wa.heap.size 44 #[.int .u64 0, .int .i64 0, .int .i64 0]) := Lib.hid ((Blk.new wa 44 #[.int .u64 0, .int .i64 0, .int .i64 0]).ext h1); have r0 : wb6.cell? ⟨wa.heap.size, 0, none⟩ = some (Value.int .u64 0) := HBp6.out.cell 0; have r1 : wb6.cell? ⟨wa.heap.size, 1, none⟩ = some (Value.int .i64 0) := HBp6.out.cell 1; have r2 : wb6.cell? ⟨wa.heap.size, 2, none⟩ = some (Value.int .i64 0) := HBp6.out.cell 2; have z0 := HBp6.out.free 0; have z1 := HBp6.out.free 1; have z2 := HBp6.out.free 2; clear h1))
        all_goals
          go_wp2_with fail
          go_meet
          case rel =>
            first
              | exact ⟨_, rfl, rfl, HX8.out.trans (ext_a1 _ _), Blk.new _ _ _⟩
              | exact ⟨_, rfl, rfl, OffS.ext (F := fun i => i = wc.heap.size) HX8.out (fun i hi => by rw [hi]; exact Nat.le_refl _) set3_off, set3_blk HBp6.out⟩
              | exact ⟨_, rfl, rfl, OffS.ext (F := fun i => i = wa.heap.size) HX8.out (fun i hi => by rw [hi]; exact HX7.out.size) set3_off, set3_blk HBp6.out⟩
      case rest =>
      obtain ⟨p2, rfl, rfl, hxc, hb2⟩ := hcut
      have HT9 := Lib.hid (HTC.out.grow hxc)
      have HS9 : Hid (wc.cell? ⟨q, 0, none⟩ = some (.int .u8 a1) ∧ wc.cell? ⟨q, 1, none⟩ = some (.int .i64 a2) ∧ wc.cell? ⟨q, 2, none⟩ = some (.int .i64 a3)) := Lib.hid (HSx.out _ _ hxc HSC.out)
      have HP9 := Lib.hid (HBP.out.ext hxc)
      have HQ9 := Lib.hid hb2
      have hrow := row_ext HRC.out hxc
      obtain ⟨_, _, e0, hens⟩ := Ens.of_own (Own.of_row hrow)
      cases e0
      have HE9 := Lib.hid hens
      have HDR : Hid (∀ W, Ext wb W → Calls Tryz.prog 48 #[.slice ao m cap, .int .u64 H, .int .i64 a2, .int .i64 a3] W fun e W' => ∃ va' vc', e = .returned (.slice va' RG.length vc') ∧ Ens W' va' RG.length vc' RG ∧ Ext W W') := Lib.hid fun W hW => by
        have h1 := range19_c H a2 a3 W (Hx.out.ext hW) (by have := Hx.out.len; omega)
        rw [HRG.out] at h1
        refine h1.mono ?_
        rintro e W' ⟨v, rfl, hr, hb⟩
        obtain ⟨a', c', rfl, he⟩ := Ens.of_own (Own.of_row hr)
        exact ⟨a', c', rfl, he, hb⟩
      have HSm : Hid (∀ W va' vc', Ens W va RG.length vc RG → Ens W va' RG.length vc' RG → Calls Tryz.prog 16 #[.slice va RG.length vc, .slice va' RG.length vc'] W fun e W' => e = .returned (.bool true) ∧ Ext W W') := Lib.hid fun W va' vc' h1 h2 => by
        have h3 := same18_c W h1 h2
        rw [decide_eq_true rfl] at h3
        exact h3
      have HSn : Hid (∀ W : World, Ext wc W → (W.cell? ⟨q, 0, none⟩ = some (.int .u8 a1) ∧ W.cell? ⟨q, 1, none⟩ = some (.int .i64 a2) ∧ W.cell? ⟨q, 2, none⟩ = some (.int .i64 a3)) ∧ (W.cell? ⟨p, 0, none⟩ = some (.int .u64 y1) ∧ W.cell? ⟨p, 1, none⟩ = some (.int .i64 y2) ∧ W.cell? ⟨p, 2, none⟩ = some (.int .i64 y3)) ∧ W.cell? ⟨p2, 0, none⟩ = some (.int .u64 y1) ∧ W.cell? ⟨p2, 1, none⟩ = some (.int .i64 y2) ∧ W.cell? ⟨p2, 2, none⟩ = some (.int .i64 y3)) := Lib.hid fun W hW => by
        have h1 := HP9.out.ext hW; have h2 := HQ9.out.ext hW
        exact ⟨HSx.out _ _ hW HS9.out, ⟨h1.cell 0, h1.cell 1, h1.cell 2⟩, h2.cell 0, h2.cell 1, h2.cell 2⟩
      have HWc2 := Lib.hid HT9.out.base
      clear hxc hb2 hrow hens HSC HBP HRC HTC HS7 HDL HSx HSy
      go_wp2_with fail
      go_region_held3 (fun W => (W.cell? ⟨q, 0, none⟩ = some (.int .u8 a1) ∧ W.cell? ⟨q, 1, none⟩ = some (.int .i64 a2) ∧ W.cell? ⟨q, 2, none⟩ = some (.int .i64 a3)) ∧ (W.cell? ⟨p, 0, none⟩ = some (.int .u64 y1) ∧ W.cell? ⟨p, 1, none⟩ = some (.int .i64 y2) ∧ W.cell? ⟨p, 2, none⟩ = some (.int .i64 y3)) ∧ W.cell? ⟨p2, 0, none⟩ = some (.int .u64 y1) ∧ W.cell? ⟨p2, 1, none⟩ = some (.int .i64 y2) ∧ W.cell? ⟨p2, 2, none⟩ = some (.int .i64 y3))
        (first | exact HSn.out _ HX12.out | exact HSn.out _ HX11.out | exact HSn.out _ HX10.out | exact HSn.out _ (Ext.refl wc).drew)
        (first
          | (go_at_call 46; refine (HH.out _).mono ?_; rintro e wa ⟨rfl, h1⟩; have HX10 : Hid (Ext wc wa) := Lib.hid ((Ext.refl wc).drew.trans h1); clear h1)
          | (go_at_call 48; refine (HDR.out _ (HWc2.out.trans HX10.out)).mono ?_; rintro e wx ⟨va', vc', rfl, h1, h2⟩; have HX11 := Lib.hid (HX10.out.trans h2); have HE11 := Lib.hid h1; clear h1 h2)
          | (go_at_call 16; refine (HSm.out _ _ _ (HE9.out.ext HX11.out) HE11.out).mono ?_; rintro e wy ⟨rfl, h1⟩; have HX12 := Lib.hid (HX11.out.trans h1); clear h1))
      all_goals
        have HTz := Lib.hid (HT9.out.grow HX12.out)
        obtain ⟨⟨d0, d1, d2⟩, _⟩ := HSn.out _ HX12.out
        have hR1e := HR1.out; have hR2e := HR2.out; have hk1 := HK1.out; have hk2 := HK2f.out; have hLL := HL.out
        have hrl : RG.length ≤ L.length := by rw [← HRG.out]; unfold rangeE; exact List.length_filter_le _ _
        have w1 : IntKind.i64.wrap (R1 - R) = (k1 : Int) := by rw [IntKind.wrap_i64]; omega
        have w2 : IntKind.i64.wrap (5 + (RG.length : Int)) = 5 + (RG.length : Int) := by rw [IntKind.wrap_i64]; omega
        have w3 : decide (5 + (RG.length : Int) < (k1 : Int)) = false := decide_eq_false (by omega)
        have w4 : IntKind.i64.wrap (R2 - R1) = (k2 : Int) := by rw [IntKind.wrap_i64]; omega
        have w5 : decide ((5 : Int) < (k2 : Int)) = false := decide_eq_false (by omega)
        have HMy := Lib.hid (fun W (k : Ext wy W) => (HTz.out.grow k).asks H)
        have w6 : tbMay L may H = false → (R2 != R) = false := fun h => by
          have h1 := hk1.2 h; have h2 := hk2.2 h
          simp; omega
        have HFinal : Hid (∀ W, Ext wy W → TbW wb W t g n L may (tellN (c + k1 + k2) σ) (fun _ => False)) := Lib.hid fun W hW => by
          have h1 := (HTz.out.grow hW).beside (K' := fun _ => False) (fun i hi => hi.elim)
          rw [← HTau2.out, ← HTau1.out, ← HTau.out, tellN_add, tellN_add, ← Nat.add_assoc] at h1
          exact h1
        have HCn : Hid (c + k1 + k2 ≤ (j + 1) * (L.length + 9)) := Lib.hid (by
          have h1 := HC.out
          rw [Nat.succ_mul]; omega)
        obtain ⟨z, hz⟩ : ∃ z, tbMay L may H = z := ⟨_, rfl⟩
        rw [hz] at HMy w6
        clear hz hR1e hR2e hk1 hk2 hLL hrl HSn HDR HSm HTz
        cases z with
        | true =>
          clear w6
          go_wp2_with fail
          refine (HH.out _).mono ?_
          rintro e w20 ⟨rfl, h20⟩
          have HX20 := Lib.hid h20; clear h20
          go_wp2_with fail
          refine (HMy.out _ HX20.out).mono ?_
          rintro e w21 ⟨rfl, h21⟩
          have HX21 := Lib.hid (HX20.out.trans h21); clear h21
          go_wp2_with fail
          go_roundw
          case rel => exact ⟨j + 1, c + k1 + k2, by omega, by go_num, HCn.out, HFinal.out _ HX21.out⟩
          case measure => simp [intOf]; omega
        | false =>
          have w7 := w6 rfl
          clear w6
          go_wp2_with fail
          refine (HH.out _).mono ?_
          rintro e w20 ⟨rfl, h20⟩
          have HX20 := Lib.hid h20; clear h20
          go_wp2_with fail
          refine (HMy.out _ HX20.out).mono ?_
          rintro e w21 ⟨rfl, h21⟩
          have HX21 := Lib.hid (HX20.out.trans h21); clear h21
          go_wp2_with fail
          go_roundw
          case rel => exact ⟨j + 1, c + k1 + k2, by omega, by go_num, HCn.out, HFinal.out _ HX21.out⟩
          case measure => simp [intOf]; omega
    · have hd : decide ((j : Int) < (k : Int)) = false := by simp; omega
      have hjk : j = k := by omega
      have HJ := Lib.hid hjk
      clear htb hc hjk
      go_wp2_with fail
      go_ret
      exact ⟨rfl, c, by rw [← HJ.out]; exact HC.out, HT.out⟩
end

end Go.Proofs.YtmoieamadjjloaaGreat
namespace Go.Proofs.YtmoieamadjjloaaGreat
open Go.RowKit

set_option maxRecDepth 100000
set_option linter.unusedVariables false
set_option maxHeartbeats 12800000

theorem small_c (w : World) : Calls Tryz.prog 7 #[] w fun e w' => e = .returned (.bool true) ∧ Ext w w' := by
  have HN := Lib.hid (DkW.make w 20000 (by decide) (by decide))
  have hok : ∀ e ∈ [((5 : Int), (0 : Int), (7 : Int))], okEn e = true := fun e he => by rw [List.mem_singleton.1 he]; decide
  have HOk := Lib.hid hok
  clear hok
  go_enter Tryz.func7, Tryz.ntmps7
  go_wp2_with fail
  refine HN.out.mono ?_
  rintro e w1 ⟨g, rfl, hd1⟩
  have HD1 := Lib.hid hd1
  clear hd1 HN
  have hb3 := Blk.new w1 44 #[.int .u64 5, .int .i64 0, .int .i64 7]
  have HX2 := Lib.hid (ext_a1 w1 (.cells #[.int .u64 5, .int .i64 0, .int .i64 7] 44))
  have HD2 := Lib.hid (HD1.out.more (K' := fun i => i = w1.heap.size) HX2.out fun i hi => .inr ⟨by omega, by rw [World.size_alloc]; omega⟩)
  have HB2 := Lib.hid hb3
  have x0 : (w1.alloc (.cells #[.int .u64 5, .int .i64 0, .int .i64 7] 44)).cell? ⟨w1.heap.size, 0, none⟩ = some (.int .u64 5) := hb3.cell 0
  have x1 : (w1.alloc (.cells #[.int .u64 5, .int .i64 0, .int .i64 7] 44)).cell? ⟨w1.heap.size, 1, none⟩ = some (.int .i64 0) := hb3.cell 1
  have x2 : (w1.alloc (.cells #[.int .u64 5, .int .i64 0, .int .i64 7] 44)).cell? ⟨w1.heap.size, 2, none⟩ = some (.int .i64 7) := hb3.cell 2
  have hsz : (w1.alloc (.cells #[.int .u64 5, .int .i64 0, .int .i64 7] 44)).heap.size = w1.heap.size + 1 := World.size_alloc _ _
  clear hb3
  go_wp2_with fail
  generalize w1.alloc (.cells #[.int .u64 5, .int .i64 0, .int .i64 7] 44) = w2 at *
  generalize w1.heap.size = q at *
  have HX3 := Lib.hid (ext_a1 w2 (.cells #[.int .u64 5, .int .i64 0, .int .i64 7] 44))
  have hlit : Ens (w2.alloc (.cells #[.int .u64 5, .int .i64 0, .int .i64 7] 44)) (some ⟨q + 1, 0, none⟩) 1 1 [((5 : Int), (0 : Int), (7 : Int))] := ⟨rfl, Nat.le_refl _, by omega, (fun h => by cases h), by have h := Rd.lit w2 #[.int .u64 5, .int .i64 0, .int .i64 7] 44; rw [hsz] at h; exact h⟩
  refine ((HD2.out.grow HX3.out).write 0 4576918229304087675 hlit (by omega) HOk.out).mono ?_
  rintro e w4 ⟨f, f1, f2, he, hd4, hs4⟩
  obtain ⟨σ', e4, p4, r4⟩ := write_new (c := 20000) (n := 0) (by decide) (L := [((5 : Int), (0 : Int), (7 : Int))]) (by decide) (f := f) (by
    have h1 := tabB_length [((5 : Int), (0 : Int), (7 : Int))]
    simp only [List.length_cons, List.length_nil] at h1 f2
    omega)
  rw [e4] at he hd4
  subst he
  have hwl : Wl σ' 0 [((5 : Int), (0 : Int), (7 : Int))] := p4.wl (x := nameS 116 0) (by rfl)
  obtain ⟨k, hk, ho⟩ := openM_ok hwl (by simp [sortE]) HOk.out (by decide)
  have HWl := Lib.hid hwl
  have HD4 := Lib.hid hd4
  have HOp := Lib.hid (hd4.openT 0 ho)
  have hst4 := hs4 q rfl
  have HB4 := Lib.hid ((HB2.out.ext HX3.out).same hst4)
  clear hsz hd4 hs4 hst4 e4 p4 r4 f1 f2 ho hk hlit hwl x0 x1 x2
  go_wp2_with fail
  refine HOp.out.mono ?_
  rintro e w5 ⟨t, may, rfl, ht5, hs5⟩
  have HB5 := Lib.hid (HB4.out.same (hs5 q rfl))
  have HWk := Lib.hid (HWl.out.tellN k)
  have HRg := Lib.hid (ht5.range HWk.out 5 0 9)
  have hrg : rangeE [((5 : Int), (0 : Int), (7 : Int))] 5 (max 0 0) (min 9 1073741824) = [((5 : Int), (0 : Int), (7 : Int))] := by decide
  rw [hrg] at HRg
  clear ht5 hs5 HOp hrg
  go_wp2_with fail
  refine HRg.out.mono ?_
  rintro e w6 ⟨v, k1, rfl, _, _, hrow, ht6, hs6⟩
  have HB6 := Lib.hid (HB5.out.same (hs6 q rfl))
  have HWk6 := Lib.hid (HWk.out.tellN k1)
  obtain ⟨va, vc, rfl, hens⟩ := Ens.of_own (Own.of_row hrow)
  have HRw := Lib.hid hrow
  have HLa := Lib.hid (ht6.last HWk6.out 5 0 (by decide) (r := some ((5 : Int), (0 : Int), (7 : Int))) (by decide))
  clear hrow ht6 hs6 HRg hens
  go_wp2_with fail
  refine HLa.out.mono ?_
  rintro e w7 ⟨k2, he, _, _, ht7, hs7⟩
  have he7 : e = .returned (.tuple #[.agg #[.int .u64 5, .int .i64 0, .int .i64 7], .bool true, .int .i64 0]) := he
  subst he7
  clear he
  have HB7 := Lib.hid (HB6.out.same (hs7 q (.inl rfl)))
  have HR7 := Lib.hid (row_same HRw.out fun i hi => hs7 i (.inr hi))
  have HWk7 := Lib.hid (HWk6.out.tellN k2)
  have HX8 := Lib.hid (ext_a1 w7 (.cells #[.int .u64 5, .int .i64 0, .int .i64 7] 44))
  have HB8 := Lib.hid (Blk.new w7 44 #[.int .u64 5, .int .i64 0, .int .i64 7])
  have ht8 := ht7.more (K' := fun i => (i = q ∨ (Value.slice va 1 vc).ownBlock = some i) ∨ i = w7.heap.size) HX8.out (fun i hi => hi.imp id fun e => by rw [e, World.size_alloc]; omega)
  have HLb := Lib.hid (ht8.last HWk7.out 6 9 (by decide) (r := none) (by decide))
  clear ht7 hs7 ht8 HLa
  go_wp2_with fail
  refine HLb.out.mono ?_
  rintro e w9 ⟨k3, he, _, _, ht9, hs9⟩
  have he9 : e = .returned (.tuple #[.agg #[.int .u64 0, .int .i64 0, .int .i64 0], .bool false, .int .i64 0]) := he
  subst he9
  clear he HLb
  have hb9 := (HB7.out.ext HX8.out).same (hs9 q (.inl (.inl rfl)))
  have hr9 := row_same (row_ext HR7.out HX8.out) fun i hi => hs9 i (.inl (.inr hi))
  have hc9 := HB8.out.same (hs9 w7.heap.size (.inr rfl))
  generalize w7.heap.size = p at *
  have HX10 := Lib.hid (ext_a1 w9 (.cells #[.int .u64 0, .int .i64 0, .int .i64 0] 44))
  have hb10 := hb9.ext HX10.out
  have y0 : (w9.alloc (.cells #[.int .u64 0, .int .i64 0, .int .i64 0] 44)).cell? ⟨q, 0, none⟩ = some (.int .u64 5) := hb10.cell 0
  have y1 : (w9.alloc (.cells #[.int .u64 0, .int .i64 0, .int .i64 0] 44)).cell? ⟨q, 1, none⟩ = some (.int .i64 0) := hb10.cell 1
  have y2 : (w9.alloc (.cells #[.int .u64 0, .int .i64 0, .int .i64 0] 44)).cell? ⟨q, 2, none⟩ = some (.int .i64 7) := hb10.cell 2
  have HT9 := Lib.hid ht9; have HB9 := Lib.hid hb9; have HR9 := Lib.hid hr9; have HC9 := Lib.hid hc9
  clear ht9 hs9 hb9 hr9 hc9 hb10
  go_wp2_with fail
  have hX11 := HX10.out.trans (ext_a1 (w9.alloc (.cells #[.int .u64 0, .int .i64 0, .int .i64 0] 44)) (.cells #[.int .u64 5, .int .i64 0, .int .i64 7] 44))
  have hsz : (w9.alloc (.cells #[.int .u64 0, .int .i64 0, .int .i64 0] 44)).heap.size = w9.heap.size + 1 := World.size_alloc _ _
  have hlit : Ens ((w9.alloc (.cells #[.int .u64 0, .int .i64 0, .int .i64 0] 44)).alloc (.cells #[.int .u64 5, .int .i64 0, .int .i64 7] 44)) (some ⟨w9.heap.size + 1, 0, none⟩) 1 1 [((5 : Int), (0 : Int), (7 : Int))] := ⟨rfl, Nat.le_refl _, by omega, (fun h => by cases h), by have h := Rd.lit (w9.alloc (.cells #[.int .u64 0, .int .i64 0, .int .i64 0] 44)) #[.int .u64 5, .int .i64 0, .int .i64 7] 44; rw [hsz] at h; exact h⟩
  obtain ⟨_, _, e0, hens⟩ := Ens.of_own (Own.of_row (row_ext HR9.out hX11))
  cases e0
  have hsm := same18_c _ hens hlit
  rw [decide_eq_true rfl] at hsm
  refine hsm.mono ?_
  rintro e w12 ⟨rfl, hb12⟩
  have hX12 := hX11.trans hb12
  have hq := HB9.out.ext hX12; have hp := HC9.out.ext hX12
  have q0 : w12.cell? ⟨q, 0, none⟩ = some (.int .u64 5) := hq.cell 0
  have q1 : w12.cell? ⟨q, 1, none⟩ = some (.int .i64 0) := hq.cell 1
  have q2 : w12.cell? ⟨q, 2, none⟩ = some (.int .i64 7) := hq.cell 2
  have p0 : w12.cell? ⟨p, 0, none⟩ = some (.int .u64 5) := hp.cell 0
  have p1 : w12.cell? ⟨p, 1, none⟩ = some (.int .i64 0) := hp.cell 1
  have p2 : w12.cell? ⟨p, 2, none⟩ = some (.int .i64 7) := hp.cell 2
  have HX := Lib.hid (HT9.out.base.trans hX12)
  clear hsm hens hlit hsz hX11 hX12 hb12 hq hp y0 y1 y2
  go_wp2_with fail
  go_ret
  exact ⟨rfl, HX.out⟩

end Go.Proofs.YtmoieamadjjloaaGreat
namespace Go.Proofs.YtmoieamadjjloaaGreat
open Go.RowKit

set_option maxRecDepth 100000
set_option linter.unusedVariables false
set_option maxHeartbeats 12800000

theorem findN_upd_other {α : Type} {k : α → List UInt8} {f : α → α} {a b : List UInt8} (hne : a ≠ b) (hk : ∀ x, k (f x) = k x) : ∀ L : List α, findN k b (updN k a f L) = findN k b L
  | [] => rfl
  | y :: r => by
    have ih := findN_upd_other hne hk r
    unfold findN updN at ih ⊢
    rw [List.map_cons, List.find?_cons, List.find?_cons, ih]
    by_cases hy : (k y == a) = true
    · rw [if_pos hy, hk y]
      have hya : k y = a := by simpa using hy
      have hb : (k y == b) = false := by rw [hya]; simpa using hne
      rw [hb]
    · rw [if_neg hy]
theorem findN_del_other {α : Type} {k : α → List UInt8} {a b : List UInt8} (hne : a ≠ b) : ∀ L : List α, findN k b (delN k a L) = findN k b L
  | [] => rfl
  | y :: r => by
    have ih := findN_del_other (k := k) hne r
    unfold findN delN at ih ⊢
    rw [List.filter_cons]
    by_cases hy : (k y == a) = true
    · rw [if_neg (by simp [hy]), ih, List.find?_cons]
      have hya : k y = a := by simpa using hy
      have hb : (k y == b) = false := by rw [hya]; simpa using hne
      rw [hb]
    · rw [if_pos (by simpa using hy), List.find?_cons, List.find?_cons, ih]

/-- a disk that has a table's file, and does not fail -/
structure Wf (σ : DM) (n : Int) (L : List En) (B : Int) : Prop where
  wl : Wl σ n L
  fine : σ.fail = false
  r0 : 0 ≤ σ.reads
  r1 : σ.reads ≤ B
theorem Wf.tell {σ : DM} {n : Int} {L : List En} {B : Int} (h : Wf σ n L B) (c : Nat) (hB : B ≤ 100000) (hc : c ≤ 100000) : Wf (tellN c σ) n L (B + c) := by
  have h0 := h.r0; have h1 := h.r1
  refine ⟨h.wl.tellN c, by rw [tellN_fail]; exact h.fine, ?_, ?_⟩ <;> rw [tellN_reads c σ h0 (by omega)] <;> omega
theorem Wf.spoil {σ : DM} {n : Int} {L : List En} {B : Int} (h : Wf σ n L B) {nm : List UInt8} (hne : nm ≠ nameS 116 n) (a : Int) (s : List UInt8) : Wf (spoilM σ nm a s).2 n L B := by
  unfold spoilM
  split
  · exact h
  · split
    · exact h
    · obtain ⟨⟨h1, f, h2, h3⟩, h4, h5, h6⟩ := h
      exact ⟨⟨h1, f, (findN_upd_other (k := FM.nm) (f := fun f => { f with da := overB f.da s a.toNat }) hne (fun _ => rfl) _).trans h2, h3⟩, h4, h5, h6⟩
theorem Wf.cut {σ : DM} {n : Int} {L : List En} {B : Int} (h : Wf σ n L B) {nm : List UInt8} (hne : nm ≠ nameS 116 n) (a : Int) : Wf (cutM σ nm a).2 n L B := by
  unfold cutM
  split
  · exact h
  · split
    · exact h
    · obtain ⟨⟨h1, f, h2, h3⟩, h4, h5, h6⟩ := h
      exact ⟨⟨h1, f, (findN_upd_other (k := FM.nm) (f := cutF a.toNat) hne (fun _ => rfl) _).trans h2, h3⟩, h4, h5, h6⟩
theorem Wf.delete {σ : DM} {n : Int} {L : List En} {B : Int} (h : Wf σ n L B) {nm : List UInt8} (hne : nm ≠ nameS 116 n) : Wf (deleteM σ nm).2 n L B := by
  obtain ⟨⟨h1, f, h2, h3⟩, h4, h5, h6⟩ := h
  unfold deleteM
  rw [if_neg (by rw [h1]; decide)]
  split
  · exact ⟨⟨h1, f, h2, h3⟩, h4, h5, h6⟩
  · rw [if_neg (by unfold failsM; rw [h4]; simp)]
    exact ⟨⟨h1, f, (findN_del_other hne _).trans h2, h3⟩, h4, h5, h6⟩

section
variable {wb W : World} {g : Nat} {σ : DM} {K : Nat → Prop}
theorem DkW.spoil (h : DkW wb W g σ K) (nm s : List UInt8) (hl : nm.length ≤ 9223372036854775807) (hs : s.length ≤ 9223372036854775807) (n : Int) (hn : n ≤ 9223372036854775807) :
    Calls Tryz.prog 28 #[.pointer (some ⟨g, 0, none⟩), .string ⟨nm.toArray⟩, .int .i64 n, .string ⟨s.toArray⟩] W fun e w' => e = .returned (.int .i64 (spoilM σ nm n s).1) ∧ DkW wb w' g (spoilM σ nm n s).2 K ∧ Stay K W w' :=
  h.disk fun F hd => spoil_c hd nm s hl hs n hn
theorem DkW.cut (h : DkW wb W g σ K) (nm : List UInt8) (hl : nm.length ≤ 9223372036854775807) (n : Int) (hn : n ≤ 9223372036854775807) :
    Calls Tryz.prog 29 #[.pointer (some ⟨g, 0, none⟩), .string ⟨nm.toArray⟩, .int .i64 n] W fun e w' => e = .returned (.int .i64 (cutM σ nm n).1) ∧ DkW wb w' g (cutM σ nm n).2 K ∧ Stay K W w' :=
  h.disk fun F hd => cutD_c hd nm hl n hn
theorem DkW.delete (h : DkW wb W g σ K) (nm : List UInt8) (hl : nm.length ≤ 9223372036854775807) :
    Calls Tryz.prog 30 #[.pointer (some ⟨g, 0, none⟩), .string ⟨nm.toArray⟩] W fun e w' => e = .returned (.int .i64 (deleteM σ nm).1) ∧ DkW wb w' g (deleteM σ nm).2 K ∧ Stay K W w' :=
  h.disk fun F hd => delete_c hd nm hl
theorem DkW.size (h : DkW wb W g σ K) (nm : List UInt8) (hl : nm.length ≤ 9223372036854775807) :
    Calls Tryz.prog 27 #[.pointer (some ⟨g, 0, none⟩), .string ⟨nm.toArray⟩] W fun e w' => e = .returned (.tuple #[.int .i64 (sizeM σ nm).1, .int .i64 (sizeM σ nm).2]) ∧ W = w' := by
  obtain ⟨F, h1⟩ := h
  exact size_c h1.d nm hl
theorem DkW.read (h : DkW wb W g σ K) (nm : List UInt8) (a n : Int) (hl : nm.length ≤ 9223372036854775807) (ha0 : -9223372036854775808 ≤ a) (ha1 : a ≤ 9223372036854775807) (hn0 : -9223372036854775808 ≤ n) (hn1 : n ≤ 9223372036854775807) :
    Calls Tryz.prog 31 #[.pointer (some ⟨g, 0, none⟩), .string ⟨nm.toArray⟩, .int .i64 a, .int .i64 n] W fun e w' => e = .returned (.tuple #[.string ⟨(readM σ nm a n).1.toArray⟩, .int .i64 (readM σ nm a n).2.1]) ∧ DkW wb w' g (readM σ nm a n).2.2 K ∧ Stay K W w' :=
  h.disk fun F hd => read_c hd nm a n hl ha0 ha1 hn0 hn1
end

end Go.Proofs.YtmoieamadjjloaaGreat
