/- Walks: a table with its disk, made since a world, beside other blocks: the easy contracts. Walks: the chapter's table (law19's small). Walks: ptables on a disk that is none, a table that is none, a table without a file. -/
import Derived.Test.YtmoieamadjjloaaGreatG36PPtablesRefused
import Derived.Test.YtmoieamadjjloaaGreatG11PPtablesRefused
import Derived.Test.YtmoieamadjjloaaGreatG17PPtablesRefused
import Derived.Test.YtmoieamadjjloaaGreatG38PPtablesRefused
import Derived.Test.YtmoieamadjjloaaGreatG39PPtablesRefused
import Derived.Deep.RegionHeld3
set_option linter.unusedVariables false
set_option linter.unusedSimpArgs false
namespace Go.Proofs.YtmoieamadjjloaaGreat
open Go.RowKit

set_option maxRecDepth 100000
set_option linter.unusedVariables false
set_option maxHeartbeats 6400000

/-- a disk alone, made since wb, beside the blocks K -/
def DkW (wb W : World) (g : Nat) (σ : DM) (K : Nat → Prop) : Prop := ∃ F, DkF wb W g F σ K
/-- a table with its disk -/
def TbW (wb W : World) (t g : Nat) (n : Int) (L : List En) (may : Int → Bool) (σ : DM) (K : Nat → Prop) : Prop :=
  ∃ F T, TbD W t g n L may T F σ ∧ (∀ i, F i → wb.heap.size ≤ i) ∧ (∀ i, T i → wb.heap.size ≤ i) ∧ Ext wb W ∧ ∀ i, K i → i < W.heap.size ∧ ¬ F i ∧ ¬ T i

section
variable {wb W W' w w1 w2 : World} {t g : Nat} {n : Int} {L : List En} {may : Int → Bool} {T F K K' V : Nat → Prop} {σ σ' : DM} {k : Nat}

theorem DkW.ok (h : DkW wb W g σ K) : okD σ := by obtain ⟨F, h1⟩ := h; exact h1.d.1
theorem DkW.base (h : DkW wb W g σ K) : Ext wb W := by obtain ⟨F, h1⟩ := h; exact h1.ext
theorem DkW.grow (h : DkW wb W g σ K) (k : Ext W W') : DkW wb W' g σ K := by obtain ⟨F, h1⟩ := h; exact ⟨F, h1.grow k⟩
theorem DkW.kExt (h : DkW wb W g σ K) (k : Ext W W') : Stay K W W' := by obtain ⟨F, h1⟩ := h; exact fun i hi => k.block i (h1.k i hi).1
theorem DkW.more (h : DkW wb W g σ K) (k : Ext W W') (hK : ∀ i, K' i → K i ∨ (W.heap.size ≤ i ∧ i < W'.heap.size)) : DkW wb W' g σ K' := by
  obtain ⟨F, h1⟩ := h
  have h2 := h1.grow k
  refine ⟨F, h2.d, h2.bF, h2.ext, fun i hi => ?_⟩
  rcases hK i hi with h3 | ⟨h3, h4⟩
  · exact h2.k i h3
  · exact ⟨h4, fun hf => by have := h1.d.Flt i hf; omega⟩
theorem DkW.beside (h : DkW wb W g σ K) (k : ∀ i, K' i → K i) : DkW wb W g σ K' := by
  obtain ⟨F, h1⟩ := h
  exact ⟨F, h1.d, h1.bF, h1.ext, fun i hi => h1.k i (k i hi)⟩
theorem DkW.disk {f : FuncId} {P : Program} {args : Array Value} {R : Ending → Prop} (h : DkW wb W g σ K) (hc : ∀ F, Dk W g F σ → Calls P f args W fun e w' => R e ∧ DkS W g F σ' w') :
    Calls P f args W fun e w' => R e ∧ DkW wb w' g σ' K ∧ Stay K W w' := by
  obtain ⟨F, h1⟩ := h
  refine (hc F h1.d).mono ?_
  rintro e w' ⟨he, hd⟩
  have := h1.disk hd
  exact ⟨he, ⟨_, this.1⟩, this.2⟩

theorem TbW.disk0 (h : TbW wb W t g n L may σ K) : DkW wb W g σ K := by
  obtain ⟨F, T, h1, h2, h3, h4, h5⟩ := h
  exact ⟨F, h1.d, h2, h4, fun i hi => ⟨(h5 i hi).1, (h5 i hi).2.1⟩⟩
theorem TbW.base (h : TbW wb W t g n L may σ K) : Ext wb W := h.disk0.base
theorem TbW.okL (h : TbW wb W t g n L may σ K) : okT L := by obtain ⟨F, T, h1, h2, h3, h4, h5⟩ := h; exact h1.t.okL
theorem TbW.thru (h : TbW wb W t g n L may σ K) : ∀ x ∈ L, may x.1 = true := by obtain ⟨F, T, h1, h2, h3, h4, h5⟩ := h; exact h1.t.thru
theorem TbW.grow (h : TbW wb W t g n L may σ K) (k : Ext W W') : TbW wb W' t g n L may σ K := by
  obtain ⟨F, T, h1, h2, h3, h4, h5⟩ := h
  exact ⟨F, T, h1.ext k, h2, h3, h4.trans k, fun i hi => ⟨Nat.lt_of_lt_of_le (h5 i hi).1 k.size, (h5 i hi).2⟩⟩
theorem TbW.kExt (h : TbW wb W t g n L may σ K) (k : Ext W W') : Stay K W W' := h.disk0.kExt k
theorem TbW.more (h : TbW wb W t g n L may σ K) (k : Ext W W') (hK : ∀ i, K' i → K i ∨ (W.heap.size ≤ i ∧ i < W'.heap.size)) : TbW wb W' t g n L may σ K' := by
  obtain ⟨F, T, h1, h2, h3, h4, h5⟩ := h
  refine ⟨F, T, h1.ext k, h2, h3, h4.trans k, fun i hi => ?_⟩
  rcases hK i hi with h6 | ⟨h6, h7⟩
  · exact ⟨Nat.lt_of_lt_of_le (h5 i h6).1 k.size, (h5 i h6).2⟩
  · exact ⟨h7, fun hf => by have := h1.d.Flt i hf; omega, fun ht => by have := h1.t.lt i ht; omega⟩
/-- a turn of blocks beside it alone -/
theorem TbW.side (h : TbW wb W t g n L may σ K) (hs : W.heap.size ≤ W'.heap.size) (hx : Ext wb W') (k : ∀ i, i < W.heap.size → ¬ K i → W'.heap[i]? = W.heap[i]?) : TbW wb W' t g n L may σ K := by
  obtain ⟨F, T, h1, h2, h3, h4, h5⟩ := h
  have hF : ∀ i, F i → W'.heap[i]? = W.heap[i]? := fun i hi => k i (h1.d.Flt i hi) fun hk => (h5 i hk).2.1 hi
  have hT : ∀ i, T i → W'.heap[i]? = W.heap[i]? := fun i hi => k i (h1.t.lt i hi) fun hk => (h5 i hk).2.2 hi
  exact ⟨F, T, ⟨h1.d.held hs hF, h1.t.same hs hT, h1.ap⟩, h2, h3, hx, fun i hi => ⟨Nat.lt_of_lt_of_le (h5 i hi).1 hs, (h5 i hi).2⟩⟩
theorem TbW.set (h : TbW wb W t g n L may σ K) {q j : Nat} (hq : K q) (hb : wb.heap.size ≤ q) (u : Value) : TbW wb (W.setCell ⟨q, j, none⟩ u) t g n L may σ K :=
  h.side (by simp [World.setCell]) (OffS.ext h.base (F := fun i => i = q) (fun i hi => by rw [hi]; exact hb) (OffS.set (F := fun i => i = q) _ rfl _ _)) fun i _ hn => Below.heap_setCell _ _ _ _ fun e => hn (e ▸ hq)
theorem TbW.beside (h : TbW wb W t g n L may σ K) (k : ∀ i, K' i → K i) : TbW wb W t g n L may σ K' := by
  obtain ⟨F, T, h1, h2, h3, h4, h5⟩ := h
  exact ⟨F, T, h1, h2, h3, h4, fun i hi => h5 i (k i hi)⟩
/-- behind a change of the disk -/
theorem TbW.step (h1 : TbD W t g n L may T F σ) (h2 : ∀ i, F i → wb.heap.size ≤ i) (h3 : ∀ i, T i → wb.heap.size ≤ i) (h4 : Ext wb W) (h5 : ∀ i, K i → i < W.heap.size ∧ ¬ F i ∧ ¬ T i) (k : DkS W g F σ' W') :
    TbW wb W' t g n L may σ' K ∧ Stay K W W' :=
  ⟨⟨_, T, h1.disk k, fun i hi => Gr.ge h2 h4.size hi, h3, k.off.ext h4 h2, fun i hi => ⟨Nat.lt_of_lt_of_le (h5 i hi).1 k.off.size, Gr.not (h5 i hi).2.1 (h5 i hi).1, (h5 i hi).2.2⟩⟩, fun i hi => k.off.block i (h5 i hi).1 (h5 i hi).2.1⟩
/-- .. with a new row beside it -/
theorem TbW.stepV (h1 : TbD W t g n L may T F σ) (h2 : ∀ i, F i → wb.heap.size ≤ i) (h3 : ∀ i, T i → wb.heap.size ≤ i) (h4 : Ext wb W) (h5 : ∀ i, K i → i < W.heap.size ∧ ¬ F i ∧ ¬ T i) {v : Value} {acc : List En} (k : RowV W g F σ' W' v acc) :
    TbW wb W' t g n L may σ' (fun i => K i ∨ v.ownBlock = some i) ∧ Stay K W W' := by
  obtain ⟨F', d1, d2, d3⟩ := k.dk
  have hs := k.off.size
  refine ⟨⟨F', T, ⟨d1, h1.t.off k.off h1.ap, fun i hi hf => ?_⟩, fun i hi => ?_, h3, k.off.ext h4 h2, fun i hi => ?_⟩, fun i hi => k.off.block i (h5 i hi).1 (h5 i hi).2.1⟩
  · rcases d2 i hf with h6 | h6
    · exact h1.ap i hi h6
    · have := h1.t.lt i hi; omega
  · rcases d2 i hi with h6 | h6
    · exact h2 i h6
    · have := h4.size; omega
  · rcases hi with hi | hi
    · refine ⟨by have := (h5 i hi).1; omega, fun hf => ?_, (h5 i hi).2.2⟩
      rcases d2 i hf with h6 | h6
      · exact (h5 i hi).2.1 h6
      · have := (h5 i hi).1; omega
    · exact ⟨(row_lt k.row i hi).2, d3 i hi, fun ht => by have := h1.t.lt i ht; have := (row_lt k.row i hi).1; omega⟩

theorem TbW.range (h : TbW wb W t g n L may σ K) (hw : Wl σ n L) (x a b : Int) :
    Calls Tryz.prog 23 #[.pointer (some ⟨t, 0, none⟩), .int .u64 x, .int .i64 a, .int .i64 b] W fun e W' =>
      ∃ v k, e = .returned (.tuple #[v, .int .i64 0]) ∧ k ≤ (rangeE L x (max a 0) (min b 1073741824)).length + 4 ∧ (tbMay L may x = false → k = 0) ∧
        W'.ownsRow W.heap.size 44 3 v (rangeE L x (max a 0) (min b 1073741824)).length (ecs (rangeE L x (max a 0) (min b 1073741824))) ∧ TbW wb W' t g n L may (tellN k σ) (fun i => K i ∨ v.ownBlock = some i) ∧ Stay K W W' := by
  obtain ⟨k, hk, hz, he⟩ := rangeM_ok hw h.okL.sort h.okL.ok h.thru x a b
  obtain ⟨F, T, h1, h2, h3, h4, h5⟩ := h
  refine (trange_c h1 x a b).mono ?_
  rw [he]
  rintro e W' ⟨v, rfl, hr⟩
  obtain ⟨q1, q2⟩ := TbW.stepV h1 h2 h3 h4 h5 hr
  exact ⟨v, k, rfl, hk, hz, hr.row, q1, q2⟩
theorem TbW.last (h : TbW wb W t g n L may σ K) (hw : Wl σ n L) (x u : Int) (hu : -9223372036854775808 ≤ u) {r : Option En} (hr : (if u < 0 then none else lastE L x (min u 1073741824)) = r) :
    Calls Tryz.prog 24 #[.pointer (some ⟨t, 0, none⟩), .int .u64 x, .int .i64 u] W fun e W' =>
      ∃ k, e = .returned (.tuple #[enV (r.getD en0), .bool r.isSome, .int .i64 0]) ∧ k ≤ 5 ∧ (tbMay L may x = false → k = 0) ∧ TbW wb W' t g n L may (tellN k σ) K ∧ Stay K W W' := by
  obtain ⟨k, hk, hz, he⟩ := lastM_ok hw h.okL.sort h.okL.ok h.thru x u
  rw [hr] at he
  obtain ⟨F, T, h1, h2, h3, h4, h5⟩ := h
  refine (tlast_c h1 x u hu).mono ?_
  rw [he]
  cases r with
  | none =>
    rintro e W' ⟨rfl, hd⟩
    obtain ⟨q1, q2⟩ := TbW.step h1 h2 h3 h4 h5 hd
    exact ⟨k, rfl, hk, hz, q1, q2⟩
  | some y =>
    rintro e W' ⟨rfl, hd⟩
    obtain ⟨q1, q2⟩ := TbW.step h1 h2 h3 h4 h5 hd
    exact ⟨k, rfl, hk, hz, q1, q2⟩
theorem TbW.all (h : TbW wb W t g n L may σ K) (hw : Wl σ n L) :
    Calls Tryz.prog 15 #[.pointer (some ⟨t, 0, none⟩)] W fun e W' =>
      ∃ v, e = .returned (.tuple #[v, .int .i64 0]) ∧ W'.ownsRow W.heap.size 44 3 v L.length (ecs L) ∧ TbW wb W' t g n L may (tellM σ) (fun i => K i ∨ v.ownBlock = some i) ∧ Stay K W W' := by
  have he := allM_ok hw h.okL.sort h.okL.ok (by have := h.okL.len; omega)
  obtain ⟨F, T, h1, h2, h3, h4, h5⟩ := h
  refine (tall_c h1).mono ?_
  rw [he]
  rintro e W' ⟨v, rfl, hr⟩
  obtain ⟨q1, q2⟩ := TbW.stepV h1 h2 h3 h4 h5 hr
  exact ⟨v, rfl, hr.row, q1, q2⟩
theorem TbW.asks (h : TbW wb W t g n L may σ K) (x : Int) : Calls Tryz.prog 25 #[.pointer (some ⟨t, 0, none⟩), .int .u64 x] W fun e w' => e = .returned (.bool (tbMay L may x)) ∧ Ext W w' := by
  obtain ⟨F, T, h1, h2, h3, h4, h5⟩ := h
  exact tmay_c h1.t x
theorem TbW.len (h : TbW wb W t g n L may σ K) : Calls Tryz.prog 13 #[.pointer (some ⟨t, 0, none⟩)] W fun e w' => e = .returned (.int .i64 (L.length : Int)) ∧ W = w' := by
  obtain ⟨F, T, h1, h2, h3, h4, h5⟩ := h
  exact tlen_c h1.t
theorem TbW.num (h : TbW wb W t g n L may σ K) : Calls Tryz.prog 14 #[.pointer (some ⟨t, 0, none⟩)] W fun e w' => e = .returned (.int .i64 n) ∧ W = w' := by
  obtain ⟨F, T, h1, h2, h3, h4, h5⟩ := h
  exact tnum_c h1.t
theorem DkW.reads (h : DkW wb W g σ K) {r : Int} (hr : σ.reads = r) : Calls Tryz.prog 11 #[.pointer (some ⟨g, 0, none⟩)] W fun e w' => e = .returned (.int .i64 r) ∧ W = w' := by
  obtain ⟨F, h1⟩ := h
  rw [← hr]
  exact reads_c h1.d
theorem DkW.make (wb : World) (c : Int) (h0 : 0 ≤ c) (h1 : c ≤ 1048576) : Calls Tryz.prog 9 #[.int .i64 c] wb fun e w' => ∃ g, e = .returned (.tuple #[.pointer (some ⟨g, 0, none⟩), .int .i64 0]) ∧ DkW wb w' g (newM c) (fun _ => False) := by
  refine (new_c wb c h0 h1).mono ?_
  rintro e w' ⟨g, F, rfl, h1, h2, h3⟩
  exact ⟨g, rfl, F, h1, h2, h3, fun i hi => hi.elim⟩
/-- a table is written -/
theorem DkW.write (h : DkW wb W g σ K) {ao : Option Addr} {m cap : Nat} {L : List En} (n : Int) (rate : Nat) (hx : Ens W ao m cap L) (hk : m ≤ 1000) (hok : ∀ e ∈ L, okEn e = true) :
    Calls Tryz.prog 10 #[.pointer (some ⟨g, 0, none⟩), .int .i64 n, .slice ao m cap, .float .f64 rate] W fun e w' =>
      ∃ f : List UInt8, 128 ≤ f.length ∧ f.length ≤ 64 * (L.length / 20 + 2) ∧ e = .returned (.int .i64 (pwriteM σ n L f).1) ∧ DkW wb w' g (pwriteM σ n L f).2 K ∧ Stay K W w' := by
  obtain ⟨F, h1⟩ := h
  refine (pwrite_c h1.d n rate hx hk hok).mono ?_
  rintro e w' ⟨f, f1, f2, rfl, hd⟩
  have := h1.disk hd
  exact ⟨f, f1, f2, rfl, ⟨_, this.1⟩, this.2⟩
/-- .. opened -/
theorem DkW.openT (h : DkW wb W g σ K) (n : Int) {L : List En} {e : Int} (hr : openM σ n = (some L, e, σ')) :
    Calls Tryz.prog 12 #[.pointer (some ⟨g, 0, none⟩), .int .i64 n] W fun e w' => ∃ t may, e = .returned (.tuple #[.pointer (some ⟨t, 0, none⟩), .int .i64 0]) ∧ TbW wb w' t g n L may σ' K ∧ Stay K W w' := by
  obtain ⟨F, h1⟩ := h
  refine (popen_c h1.d n).mono ?_
  rw [hr]
  rintro e w' ⟨t, may, T, w3, rfl, hd, hx, htb, hT⟩
  have hds := h1.disk hd
  have hs := hd.off.size
  refine ⟨t, may, rfl, ⟨Gr F W w3, T, ⟨hd.dk.ext hx, htb, fun i hi hf => ?_⟩, hds.1.bF, fun i hi => ?_, hds.1.ext.trans hx, fun i hi => ⟨Nat.lt_of_lt_of_le (hds.1.k i hi).1 hx.size, (hds.1.k i hi).2, fun ht => by have h8 := hT i ht; have h9 := (hds.1.k i hi).1; omega⟩⟩, fun i hi => ?_⟩
  · have := hd.dk.Flt i hf
    have := hT i hi
    omega
  · have := hT i hi; have := h1.ext.size; omega
  · rw [hx.block i (hds.1.k i hi).1]; exact hds.2 i hi
theorem DkW.openN (h : DkW wb W g σ K) (n : Int) {e : Int} (hr : openM σ n = (none, e, σ')) :
    Calls Tryz.prog 12 #[.pointer (some ⟨g, 0, none⟩), .int .i64 n] W fun r w' => r = .returned (.tuple #[.pointer none, .int .i64 e]) ∧ DkW wb w' g σ' K ∧ Stay K W w' := by
  obtain ⟨F, h1⟩ := h
  refine (popen_c h1.d n).mono ?_
  rw [hr]
  rintro e w' ⟨rfl, hd⟩
  have := h1.disk hd
  exact ⟨rfl, ⟨_, this.1⟩, this.2⟩
end

end Go.Proofs.YtmoieamadjjloaaGreat
namespace Go.Proofs.YtmoieamadjjloaaGreat
open Go.RowKit

set_option maxRecDepth 100000
set_option linter.unusedVariables false
set_option maxHeartbeats 12800000

theorem small_c (w : World) : Calls Tryz.prog 7 #[] w fun e w' => e = .returned (.bool true) ∧ Ext w w' := by
  have HN := Lib.hid (DkW.make w 20000 (by decide) (by decide))
  have hok : ∀ e ∈ [((5 : Int), (0 : Int), (7 : Int))], okEn e = true := fun e he => by rw [List.mem_singleton.1 he]; decide
  have HOk := Lib.hid hok
  clear hok
  go_enter Tryz.func7, Tryz.ntmps7
  go_wp2_with fail
  refine HN.out.mono ?_
  rintro e w1 ⟨g, rfl, hd1⟩
  have HD1 := Lib.hid hd1
  clear hd1 HN
  have hb3 := Blk.new w1 44 #[.int .u64 5, .int .i64 0, .int .i64 7]
  have HX2 := Lib.hid (ext_a1 w1 (.cells #[.int .u64 5, .int .i64 0, .int .i64 7] 44))
  have HD2 := Lib.hid (HD1.out.more (K' := fun i => i = w1.heap.size) HX2.out fun i hi => .inr ⟨by omega, by rw [World.size_alloc]; omega⟩)
  have HB2 := Lib.hid hb3
  have x0 : (w1.alloc (.cells #[.int .u64 5, .int .i64 0, .int .i64 7] 44)).cell? ⟨w1.heap.size, 0, none⟩ = some (.int .u64 5) := hb3.cell 0
  have x1 : (w1.alloc (.cells #[.int .u64 5, .int .i64 0, .int .i64 7] 44)).cell? ⟨w1.heap.size, 1, none⟩ = some (.int .i64 0) := hb3.cell 1
  have x2 : (w1.alloc (.cells #[.int .u64 5, .int .i64 0, .int .i64 7] 44)).cell? ⟨w1.heap.size, 2, none⟩ = some (.int .i64 7) := hb3.cell 2
  have hsz : (w1.alloc (.cells #[.int .u64 5, .int .i64 0, .int .i64 7] 44)).heap.size = w1.heap.size + 1 := World.size_alloc _ _
  clear hb3
  go_wp2_with fail
  generalize w1.alloc (.cells #[.int .u64 5, .int .i64 0, .int .i64 7] 44) = w2 at *
  generalize w1.heap.size = q at *
  have HX3 := Lib.hid (ext_a1 w2 (.cells #[.int .u64 5, .int .i64 0, .int .i64 7] 44))
  have hlit : Ens (w2.alloc (.cells #[.int .u64 5, .int .i64 0, .int .i64 7] 44)) (some ⟨q + 1, 0, none⟩) 1 1 [((5 : Int), (0 : Int), (7 : Int))] := ⟨rfl, Nat.le_refl _, by omega, (fun h => by cases h), by have h := Rd.lit w2 #[.int .u64 5, .int .i64 0, .int .i64 7] 44; rw [hsz] at h; exact h⟩
  refine ((HD2.out.grow HX3.out).write 0 4576918229304087675 hlit (by omega) HOk.out).mono ?_
  rintro e w4 ⟨f, f1, f2, he, hd4, hs4⟩
  obtain ⟨σ', e4, p4, r4⟩ := write_new (c := 20000) (n := 0) (by decide) (L := [((5 : Int), (0 : Int), (7 : Int))]) (by decide) (f := f) (by
    have h1 := tabB_length [((5 : Int), (0 : Int), (7 : Int))]
    simp only [List.length_cons, List.length_nil] at h1 f2
    omega)
  rw [e4] at he hd4
  subst he
  have hwl : Wl σ' 0 [((5 : Int), (0 : Int), (7 : Int))] := p4.wl (x := nameS 116 0) (by rfl)
  obtain ⟨k, hk, ho⟩ := openM_ok hwl (by simp [sortE]) HOk.out (by decide)
  have HWl := Lib.hid hwl
  have HD4 := Lib.hid hd4
  have HOp := Lib.hid (hd4.openT 0 ho)
  have hst4 := hs4 q rfl
  have HB4 := Lib.hid ((HB2.out.ext HX3.out).same hst4)
  clear hsz hd4 hs4 hst4 e4 p4 r4 f1 f2 ho hk hlit hwl x0 x1 x2
  go_wp2_with fail
  refine HOp.out.mono ?_
  rintro e w5 ⟨t, may, rfl, ht5, hs5⟩
  have HB5 := Lib.hid (HB4.out.same (hs5 q rfl))
  have HWk := Lib.hid (HWl.out.tellN k)
  have HRg := Lib.hid (ht5.range HWk.out 5 0 9)
  have hrg : rangeE [((5 : Int), (0 : Int), (7 : Int))] 5 (max 0 0) (min 9 1073741824) = [((5 : Int), (0 : Int), (7 : Int))] := by decide
  rw [hrg] at HRg
  clear ht5 hs5 HOp hrg
  go_wp2_with fail
  refine HRg.out.mono ?_
  rintro e w6 ⟨v, k1, rfl, _, _, hrow, ht6, hs6⟩
  have HB6 := Lib.hid (HB5.out.same (hs6 q rfl))
  have HWk6 := Lib.hid (HWk.out.tellN k1)
  obtain ⟨va, vc, rfl, hens⟩ := Ens.of_own (Own.of_row hrow)
  have HRw := Lib.hid hrow
  have HLa := Lib.hid (ht6.last HWk6.out 5 0 (by decide) (r := some ((5 : Int), (0 : Int), (7 : Int))) (by decide))
  clear hrow ht6 hs6 HRg hens
  go_wp2_with fail
  refine HLa.out.mono ?_
  rintro e w7 ⟨k2, he, _, _, ht7, hs7⟩
  have he7 : e = .returned (.tuple #[.agg #[.int .u64 5, .int .i64 0, .int .i64 7], .bool true, .int .i64 0]) := he
  subst he7
  clear he
  have HB7 := Lib.hid (HB6.out.same (hs7 q (.inl rfl)))
  have HR7 := Lib.hid (row_same HRw.out fun i hi => hs7 i (.inr hi))
  have HWk7 := Lib.hid (HWk6.out.tellN k2)
  have HX8 := Lib.hid (ext_a1 w7 (.cells #[.int .u64 5, .int .i64 0, .int .i64 7] 44))
  have HB8 := Lib.hid (Blk.new w7 44 #[.int .u64 5, .int .i64 0, .int .i64 7])
  have ht8 := ht7.more (K' := fun i => (i = q ∨ (Value.slice va 1 vc).ownBlock = some i) ∨ i = w7.heap.size) HX8.out (fun i hi => hi.imp id fun e => by rw [e, World.size_alloc]; omega)
  have HLb := Lib.hid (ht8.last HWk7.out 6 9 (by decide) (r := none) (by decide))
  clear ht7 hs7 ht8 HLa
  go_wp2_with fail
  refine HLb.out.mono ?_
  rintro e w9 ⟨k3, he, _, _, ht9, hs9⟩
  have he9 : e = .returned (.tuple #[.agg #[.int .u64 0, .int .i64 0, .int .i64 0], .bool false, .int .i64 0]) := he
  subst he9
  clear he HLb
  have hb9 := (HB7.out.ext HX8.out).same (hs9 q (.inl (.inl rfl)))
  have hr9 := row_same (row_ext HR7.out HX8.out) fun i hi => hs9 i (.inl (.inr hi))
  have hc9 := HB8.out.same (hs9 w7.heap.size (.inr rfl))
  generalize w7.heap.size = p at *
  have HX10 := Lib.hid (ext_a1 w9 (.cells #[.int .u64 0, .int .i64 0, .int .i64 0] 44))
  have hb10 := hb9.ext HX10.out
  have y0 : (w9.alloc (.cells #[.int .u64 0, .int .i64 0, .int .i64 0] 44)).cell? ⟨q, 0, none⟩ = some (.int .u64 5) := hb10.cell 0
  have y1 : (w9.alloc (.cells #[.int .u64 0, .int .i64 0, .int .i64 0] 44)).cell? ⟨q, 1, none⟩ = some (.int .i64 0) := hb10.cell 1
  have y2 : (w9.alloc (.cells #[.int .u64 0, .int .i64 0, .int .i64 0] 44)).cell? ⟨q, 2, none⟩ = some (.int .i64 7) := hb10.cell 2
  have HT9 := Lib.hid ht9; have HB9 := Lib.hid hb9; have HR9 := Lib.hid hr9; have HC9 := Lib.hid hc9
  clear ht9 hs9 hb9 hr9 hc9 hb10
  go_wp2_with fail
  have hX11 := HX10.out.trans (ext_a1 (w9.alloc (.cells #[.int .u64 0, .int .i64 0, .int .i64 0] 44)) (.cells #[.int .u64 5, .int .i64 0, .int .i64 7] 44))
  have hsz : (w9.alloc (.cells #[.int .u64 0, .int .i64 0, .int .i64 0] 44)).heap.size = w9.heap.size + 1 := World.size_alloc _ _
  have hlit : Ens ((w9.alloc (.cells #[.int .u64 0, .int .i64 0, .int .i64 0] 44)).alloc (.cells #[.int .u64 5, .int .i64 0, .int .i64 7] 44)) (some ⟨w9.heap.size + 1, 0, none⟩) 1 1 [((5 : Int), (0 : Int), (7 : Int))] := ⟨rfl, Nat.le_refl _, by omega, (fun h => by cases h), by have h := Rd.lit (w9.alloc (.cells #[.int .u64 0, .int .i64 0, .int .i64 0] 44)) #[.int .u64 5, .int .i64 0, .int .i64 7] 44; rw [hsz] at h; exact h⟩
  obtain ⟨_, _, e0, hens⟩ := Ens.of_own (Own.of_row (row_ext HR9.out hX11))
  cases e0
  have hsm := same18_c _ hens hlit
  rw [decide_eq_true rfl] at hsm
  refine hsm.mono ?_
  rintro e w12 ⟨rfl, hb12⟩
  have hX12 := hX11.trans hb12
  have hq := HB9.out.ext hX12; have hp := HC9.out.ext hX12
  have q0 : w12.cell? ⟨q, 0, none⟩ = some (.int .u64 5) := hq.cell 0
  have q1 : w12.cell? ⟨q, 1, none⟩ = some (.int .i64 0) := hq.cell 1
  have q2 : w12.cell? ⟨q, 2, none⟩ = some (.int .i64 7) := hq.cell 2
  have p0 : w12.cell? ⟨p, 0, none⟩ = some (.int .u64 5) := hp.cell 0
  have p1 : w12.cell? ⟨p, 1, none⟩ = some (.int .i64 0) := hp.cell 1
  have p2 : w12.cell? ⟨p, 2, none⟩ = some (.int .i64 7) := hp.cell 2
  have HX := Lib.hid (HT9.out.base.trans hX12)
  clear hsm hens hlit hsz hX11 hX12 hb12 hq hp y0 y1 y2
  go_wp2_with fail
  go_ret
  exact ⟨rfl, HX.out⟩

end Go.Proofs.YtmoieamadjjloaaGreat
namespace Go.Proofs.YtmoieamadjjloaaGreat
open Go.RowKit

set_option maxRecDepth 100000
set_option linter.unusedVariables false
set_option maxHeartbeats 12800000

theorem pover_no (w : World) (p : Option Addr) (h : NoD w p) : Calls Tryz.prog 36 #[.pointer p] w fun e w' => e = .returned (.int .i64 1) ∧ w = w' := by
  have HS := Lib.hid (size_no w p h ⟨#[]⟩)
  clear h
  go_enter Tryz.func36, Tryz.ntmps36
  go_wp2_with fail
  refine HS.out.mono ?_
  rintro e w' ⟨rfl, rfl⟩
  go_wp2_with fail
  go_ret
  exact ⟨rfl, rfl⟩
theorem whole_no (w : World) (p : Option Addr) (h : NoD w p) (s : ByteArray) : Calls Tryz.prog 40 #[.pointer p, .string s] w fun e w' => e = .returned (.tuple #[.string ⟨#[]⟩, .int .i64 1]) ∧ w = w' := by
  have HS := Lib.hid (size_no w p h s)
  clear h
  go_enter Tryz.func40, Tryz.ntmps40
  go_wp2_with fail
  refine HS.out.mono ?_
  rintro e w' ⟨rfl, rfl⟩
  go_wp2_with fail
  go_ret2
  exact ⟨rfl, rfl⟩
theorem popen_no (w : World) (p : Option Addr) (h : NoD w p) (n : Int) : Calls Tryz.prog 12 #[.pointer p, .int .i64 n] w fun e w' => e = .returned (.tuple #[.pointer none, .int .i64 1]) ∧ Ext w w' := by
  have HT := Lib.hid (fun W => table_c n W)
  have HW := Lib.hid (fun W (k : Ext w W) s => whole_no W p (h.ext k) s)
  have HB := Lib.hid (fun W => broken_c 1 W)
  generalize nameS 116 n = TN at *
  clear h
  go_enter Tryz.func12, Tryz.ntmps12
  go_wp2_with fail
  refine (HT.out _).mono ?_
  rintro e w1 ⟨rfl, hb⟩
  have HX1 := Lib.hid hb; clear hb
  go_wp2_with fail
  refine (HW.out _ HX1.out _).mono ?_
  rintro e w2 ⟨rfl, rfl⟩
  go_wp2_with fail
  refine (HB.out _).mono ?_
  rintro e w3 ⟨rfl, rfl⟩
  go_wp2_with fail
  go_ret2
  exact ⟨rfl, HX1.out⟩
theorem pwrite_no (w : World) (p : Option Addr) (h : NoD w p) {ao : Option Addr} {k cap : Nat} {L : List En} (n : Int) (rate : Nat) (hn : 0 ≤ n ∧ n ≤ 999999) (hs : sortB L = true) (hx : Ens w ao k cap L) (hk : k ≤ 1000) (hok : ∀ e ∈ L, okEn e = true) :
    Calls Tryz.prog 10 #[.pointer p, .int .i64 n, .slice ao k cap, .float .f64 rate] w fun e w' => e = .returned (.int .i64 1) ∧ Ext w w' := by
  have HT := Lib.hid (fun W => table_c n W)
  have HB := Lib.hid (fun W => bloom_c n W)
  have HP := Lib.hid (fun W (k : Ext w W) => tput_c W (hx.ext k) hk hok)
  have HO := Lib.hid (fun W (k : Ext w W) => pover_no W p (h.ext k))
  have hn1 := nameS_nil 116 n
  have hn2 := nameS_nil 98 n
  have hl1 := nameS_le 116 n
  have hl2 := nameS_le 98 n
  rw [decide_eq_true hn] at hn1 hn2
  unfold tputV at HP
  rw [hs] at HP
  generalize nameS 116 n = TN at *
  generalize nameS 98 n = BN at *
  clear h hx hok hs hn
  go_enter Tryz.func10, Tryz.ntmps10
  go_wp2_with fail
  refine (HT.out _).mono ?_
  rintro e w1 ⟨rfl, hb⟩
  have HX1 := Lib.hid hb; clear hb
  go_wp2_with fail
  refine (HB.out _).mono ?_
  rintro e w2 ⟨rfl, hb⟩
  have HX2 := Lib.hid (HX1.out.trans hb); clear hb
  go_wp2_with fail
  refine (HP.out _ HX2.out).mono ?_
  rintro e w3 ⟨rfl, hb⟩
  have HX3 := Lib.hid (HX2.out.trans hb); clear hb
  go_wp2_with fail
  refine (HO.out _ HX3.out).mono ?_
  rintro e w4 ⟨rfl, rfl⟩
  go_wp2_with fail
  refine (HO.out _ HX3.out).mono ?_
  rintro e w4 ⟨rfl, rfl⟩
  go_wp2_with fail
  go_ret
  exact ⟨rfl, HX3.out⟩
theorem pdrop_no (w : World) (p : Option Addr) (h : NoD w p) (n : Int) : Calls Tryz.prog 21 #[.pointer p, .int .i64 n] w fun e w' => e = .returned (.int .i64 1) ∧ Ext w w' := by
  have HT := Lib.hid (fun W => table_c n W)
  have HB := Lib.hid (fun W => bloom_c n W)
  have HD := Lib.hid (fun W (k : Ext w W) s => delete_no W p (h.ext k) s)
  generalize nameS 116 n = TN at *
  generalize nameS 98 n = BN at *
  clear h
  go_enter Tryz.func21, Tryz.ntmps21
  go_wp2_with fail
  refine (HT.out _).mono ?_
  rintro e w1 ⟨rfl, hb⟩
  have HX1 := Lib.hid hb; clear hb
  go_wp2_with fail
  refine (HB.out _).mono ?_
  rintro e w2 ⟨rfl, hb⟩
  have HX2 := Lib.hid (HX1.out.trans hb); clear hb
  go_wp2_with fail
  have hbk := Blk.new w2 9 #[.string ⟨TN.toArray⟩, .string ⟨BN.toArray⟩]
  have HX3 := Lib.hid (HX2.out.trans (ext_a1 w2 (.cells #[.string ⟨TN.toArray⟩, .string ⟨BN.toArray⟩] 9)))
  generalize w2.alloc (.cells #[.string ⟨TN.toArray⟩, .string ⟨BN.toArray⟩] 9) = wa at *
  generalize w2.heap.size = b at *
  have b0 : wa.cell? ⟨b, 0, none⟩ = some (.string ⟨TN.toArray⟩) := hbk.cell 0
  clear hbk HX1 HX2
  go_loopw [14] (fun i W => i = .int .i64 0 ∧ W = wa) (fun i _ => 2 - (intOf i).toNat)
  case atStart => exact ⟨rfl, rfl⟩
  case round =>
    obtain ⟨rfl, rfl⟩ := hrel
    go_wp2_with fail
    refine (HD.out _ HX3.out _).mono ?_
    rintro e w4 ⟨rfl, rfl⟩
    go_wp2_with fail
    go_ret
    exact ⟨rfl, HX3.out⟩

theorem trange_nil (w : World) (x a b : Int) : Calls Tryz.prog 23 #[.pointer none, .int .u64 x, .int .i64 a, .int .i64 b] w fun e w' => e = .returned (.tuple #[.slice none 0 0, .int .i64 1]) ∧ Ext w w' := by
  have HN := Lib.hid (fun W => tnone_nil W)
  have HX := Lib.hid (Ext.refl w)
  go_enter Tryz.func23, Tryz.ntmps23
  go_wp2_with fail
  refine (HN.out _).mono ?_
  rintro e w1 ⟨rfl, rfl⟩
  go_wp2_with fail
  go_ret2
  exact ⟨rfl, HX.out⟩
theorem tlast_nil (w : World) (x u : Int) : Calls Tryz.prog 24 #[.pointer none, .int .u64 x, .int .i64 u] w fun e w' => e = .returned (.tuple #[enV en0, .bool false, .int .i64 1]) ∧ Ext w w' := by
  have hbk := Blk.new w 44 #[.int .u64 0, .int .i64 0, .int .i64 0]
  have HX := Lib.hid (ext_a1 w (.cells #[.int .u64 0, .int .i64 0, .int .i64 0] 44))
  have HN := Lib.hid (fun W => tnone_nil W)
  have r0 : (w.alloc (.cells #[.int .u64 0, .int .i64 0, .int .i64 0] 44)).cell? ⟨w.heap.size, 0, none⟩ = some (Value.int .u64 0) := hbk.cell 0
  have r1 : (w.alloc (.cells #[.int .u64 0, .int .i64 0, .int .i64 0] 44)).cell? ⟨w.heap.size, 1, none⟩ = some (Value.int .i64 0) := hbk.cell 1
  have r2 : (w.alloc (.cells #[.int .u64 0, .int .i64 0, .int .i64 0] 44)).cell? ⟨w.heap.size, 2, none⟩ = some (Value.int .i64 0) := hbk.cell 2
  have z0 := hbk.free 0; have z1 := hbk.free 1; have z2 := hbk.free 2
  clear hbk
  go_enter Tryz.func24, Tryz.ntmps24
  go_wp2_with fail
  refine (HN.out _).mono ?_
  rintro e w1 ⟨rfl, rfl⟩
  go_wp2_with fail
  (try simp only [Exit.inBlock, Exit.then])
  refine bodyPost_ret (v := .tuple #[.agg #[.int .u64 (0), .int .i64 (0), .int .i64 (0)], .bool false, .int .i64 (1)]) (by rw [results_cell_tmp2 rfl]; go_simp) rfl ?_
  refine ⟨rfl, ?_⟩
  first | exact HX.out | exact OffS.ext HX.out (F := fun i => i = w.heap.size) (fun i hi => by rw [hi]; exact Nat.le_refl _) (OffS.trans (OffS.trans (OffS.set _ rfl _ _) (OffS.set _ rfl _ _)) (OffS.set _ rfl _ _))
theorem tall_nil (w : World) : Calls Tryz.prog 15 #[.pointer none] w fun e w' => e = .returned (.tuple #[.slice none 0 0, .int .i64 1]) ∧ Ext w w' := by
  have HN := Lib.hid (fun W => tnone_nil W)
  have HX := Lib.hid (Ext.refl w)
  go_enter Tryz.func15, Tryz.ntmps15
  go_wp2_with fail
  refine (HN.out _).mono ?_
  rintro e w1 ⟨rfl, rfl⟩
  go_wp2_with fail
  go_ret2
  exact ⟨rfl, HX.out⟩

section
variable {wb W : World} {g : Nat} {σ : DM} {K : Nat → Prop}
theorem openM_no {σ : DM} {n : Int} (hup : σ.down = false) (hf : findN FM.nm (nameS 116 n) σ.L = none) : openM σ n = (none, 90, σ) := by
  unfold openM
  rw [wholeM_no hup hf]
  simp only
  rw [if_pos (by decide)]
  rfl
theorem wholeM_down {σ : DM} (nm : List UInt8) (hd : σ.down = true) : wholeM σ nm = ([], 61, σ) := by
  have hs : sizeM σ nm = (0, 61) := by unfold sizeM; rw [if_pos hd]
  unfold wholeM
  rw [hs]
  simp only
  rw [if_pos (by decide)]
theorem openM_down {σ : DM} {n : Int} (hd : σ.down = true) : openM σ n = (none, 61, σ) := by
  unfold openM
  rw [wholeM_down _ hd]
  simp only
  rw [if_pos (by decide)]
  rfl
theorem missing_c (h : DkW wb W g σ K) (hup : σ.down = false) (hf : findN FM.nm (nameS 116 2) σ.L = none) :
    Calls Tryz.prog 33 #[.pointer (some ⟨g, 0, none⟩)] W fun e w' => e = .returned (.bool true) ∧ DkW wb w' g σ K := by
  have HO := Lib.hid (h.openN 2 (openM_no hup hf))
  clear h hup hf
  go_enter Tryz.func33, Tryz.ntmps33
  go_wp2_with fail
  refine HO.out.mono ?_
  rintro e w1 ⟨rfl, hd, _⟩
  have HD := Lib.hid hd; clear hd
  go_wp2_with fail
  go_ret
  exact ⟨rfl, HD.out⟩
end

end Go.Proofs.YtmoieamadjjloaaGreat
