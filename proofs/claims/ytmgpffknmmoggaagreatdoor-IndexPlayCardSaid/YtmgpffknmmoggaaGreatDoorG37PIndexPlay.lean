/- How an index lies in memory. An index with its disk, made since a world, beside other blocks. Walks: an entry is added to an index; how many wait; its manifest. Plain laws: a table is laid on a disk that is well, and opened. -/
import Derived.Test.YtmgpffknmmoggaaGreatDoorG18PIndexPlay
import Derived.Test.YtmgpffknmmoggaaGreatDoorG29PIndexPlay
import Derived.Test.YtmgpffknmmoggaaGreatDoorG36PIndexPlay
import Derived.Test.YtmgpffknmmoggaaGreatDoorG21PIndexPlay
import Derived.Test.YtmgpffknmmoggaaGreatDoorG22PIndexPlay
import Derived.Test.YtmgpffknmmoggaaGreatDoorG10PIndexPlay
import Derived.StillTailTactics
import Derived.Test.YtmgpffknmmoggaaGreatDoorG6PIndexPlay
set_option linter.unusedVariables false
set_option linter.unusedSimpArgs false
namespace Go.Proofs.YtmgpffknmmoggaaGreatDoor
open Go.RowKit Go.Maps
structure Man where
  nx : Int
  ck : Int
  sd : Int
  L : List (List Int)
def Man.ok (m : Man) : Prop := mvalid m.nx m.ck m.L = true ∧ 0 ≤ m.sd ∧ m.sd < 18446744073709551616
structure TE where
  b : Nat
  L : List En
  may : Int → Bool
structure IxSt where
  m : Man
  rate : Nat
  w : List En
  t : Int → Option TE
  c : Nat
def InX (gx gm gt i : Nat) : Prop := i = gx ∨ i = gm ∨ i = gt
def tabV (o : Option TE) : DataW Unit := match o with | some e => .lit (.int .i64 e.b) | none => .nil
structure IxI (w : World) (gx g gm gt : Nat) (st : IxSt) (v : Value) (vs : List Value) (vm : Value) (D : DataW Unit) (nn : Nat) (Y : Nat → Prop) : Prop where
  blk : Blk w gx 103 #[.pointer (some ⟨g, 0, none⟩), .int .i64 st.m.nx, .int .i64 st.m.ck, .int .u64 st.m.sd, v, .float .f64 st.rate, .pointer (some ⟨gm, 0, none⟩), .map (some gt)]
  mem : MemI w gm vm st.w
  lev : OGr w 0 88 3 v vs st.m.L
  map : w.ownsMap Tryz.prog 3 ptrE gt nn D
  cnt : nn ≤ st.c
  look : ∀ n, D.atKey (.int .i64 n) .nil = tabV (st.t n)
  tab : ∀ n e, st.t n = some e → Tb w e.b g n e.L e.may Y
  inY : ∀ i, (v.ownBlock = some i ∨ (∃ q, (vs.getD q (.slice none 0 0)).ownBlock = some i) ∨ vm.ownBlock = some i) → Y i
  lt : ∀ i, Y i → i < w.heap.size
  apart : ∀ i, Y i → ¬ InX gx gm gt i
  ne : gx ≠ gm ∧ gx ≠ gt ∧ gm ≠ gt
structure okIx (st : IxSt) : Prop where
  man : st.m.ok
  mem : okM st.w
  c : st.c ≤ 1000000
def IxSt.full (st : IxSt) : Prop := ∀ n ∈ st.m.L.flatten, ∃ e, st.t n = some e
def IxY (w : World) (gx g gm gt : Nat) (st : IxSt) (Y : Nat → Prop) : Prop := okIx st ∧ ∃ v vs vm D nn, IxI w gx g gm gt st v vs vm D nn Y
section
variable {w w' : World} {gx g gm gt : Nat} {st : IxSt} {v : Value} {vs : List Value} {vm : Value} {D : DataW Unit} {nn : Nat} {Y Y' F : Nat → Prop}
theorem IxI.same (h : IxI w gx g gm gt st v vs vm D nn Y) (hs : w.heap.size ≤ w'.heap.size) (k : ∀ i, InX gx gm gt i ∨ Y i → w'.heap[i]? = w.heap[i]?) : IxI w' gx g gm gt st v vs vm D nn Y :=
  ⟨h.blk.same (k _ (.inl (.inl rfl))), h.mem.same fun i hi => hi.elim (fun e => k i (.inl (.inr (.inl e)))) fun e => k i (.inr (h.inY i (.inr (.inr e)))),
    ogr_same h.lev fun i hi => k i (.inr (h.inY i (hi.elim .inl fun e => .inr (.inl e)))), map_same h.map (k _ (.inl (.inr (.inr rfl)))), h.cnt, h.look,
    fun n e hn => (h.tab n e hn).same hs fun i hi => k i (.inr hi), h.inY, fun i hi => Nat.lt_of_lt_of_le (h.lt i hi) hs, h.apart, h.ne⟩
theorem IxI.xlt (h : IxI w gx g gm gt st v vs vm D nn Y) : ∀ i, InX gx gm gt i → i < w.heap.size := fun i hi => by
  rcases hi with rfl | rfl | rfl
  · exact h.blk.lt
  · exact h.mem.blk.lt
  · exact h.map.lt
theorem IxI.ext (h : IxI w gx g gm gt st v vs vm D nn Y) (k : Ext w w') : IxI w' gx g gm gt st v vs vm D nn Y :=
  h.same k.size fun i hi => k.block i (hi.elim (h.xlt i) (h.lt i))
theorem IxI.off (h : IxI w gx g gm gt st v vs vm D nn Y) (k : OffS F w w') (hd : ∀ i, InX gx gm gt i ∨ Y i → ¬ F i) : IxI w' gx g gm gt st v vs vm D nn Y :=
  h.same k.size fun i hi => k.block i (hi.elim (h.xlt i) (h.lt i)) (hd i hi)
theorem IxI.memTurn (h : IxI w gx g gm gt st v vs vm D nn Y) {vm' : Value} {L' : List En} (hm : MemI w' gm vm' L') (off : OffS (fun i => i = gm) w w') (hv : vm' = vm ∨ ∀ i, vm'.ownBlock = some i → w.heap.size ≤ i) :
    IxI w' gx g gm gt { st with w := L' } v vs vm' D nn (fun i => Y i ∨ vm'.ownBlock = some i) := by
  have hY : ∀ i, Y i → w'.heap[i]? = w.heap[i]? := fun i hi => off.block i (h.lt i hi) fun e => h.apart i hi (.inr (.inl e))
  have hnew : ∀ i, vm'.ownBlock = some i → Y i ∨ w.heap.size ≤ i := fun i hi => by
    rcases hv with e | e
    · exact .inl (h.inY i (.inr (.inr (e ▸ hi))))
    · exact .inr (e i hi)
  have hlt : ∀ i, (Y i ∨ vm'.ownBlock = some i) → i < w'.heap.size := fun i hi => by
    rcases hi with hi | hi
    · exact Nat.lt_of_lt_of_le (h.lt i hi) off.size
    · exact hm.lt (.inr hi)
  have hap : ∀ i, (Y i ∨ vm'.ownBlock = some i) → ¬ InX gx gm gt i := fun i hi => by
    rcases hi with hi | hi
    · exact h.apart i hi
    · rcases hnew i hi with h1 | h1
      · exact h.apart i h1
      · intro hx
        have : i < w.heap.size := by
          rcases hx with rfl | rfl | rfl
          · exact h.blk.lt
          · exact h.mem.blk.lt
          · exact h.map.lt
        omega
  exact ⟨h.blk.same (off.block _ h.blk.lt h.ne.1), hm, ogr_same h.lev fun i hi => hY i (h.inY i (hi.elim .inl fun e => .inr (.inl e))), map_same h.map (off.block _ h.map.lt fun e => h.ne.2.2 e.symm), h.cnt, h.look,
    fun n e hn => ((h.tab n e hn).same off.size hY).mono (fun i hi => .inl hi) hlt,
    fun i hi => by
      rcases hi with hi | hi | hi
      · exact .inl (h.inY i (.inl hi))
      · exact .inl (h.inY i (.inr (.inl hi)))
      · exact .inr hi, hlt, hap, h.ne⟩
theorem IxI.c0 (h : IxI w gx g gm gt st v vs vm D nn Y) : w.cell? ⟨gx, 0, none⟩ = some (.pointer (some ⟨g, 0, none⟩)) := h.blk.cell 0
theorem IxI.c1 (h : IxI w gx g gm gt st v vs vm D nn Y) : w.cell? ⟨gx, 1, none⟩ = some (.int .i64 st.m.nx) := h.blk.cell 1
theorem IxI.c2 (h : IxI w gx g gm gt st v vs vm D nn Y) : w.cell? ⟨gx, 2, none⟩ = some (.int .i64 st.m.ck) := h.blk.cell 2
theorem IxI.c3 (h : IxI w gx g gm gt st v vs vm D nn Y) : w.cell? ⟨gx, 3, none⟩ = some (.int .u64 st.m.sd) := h.blk.cell 3
theorem IxI.c4 (h : IxI w gx g gm gt st v vs vm D nn Y) : w.cell? ⟨gx, 4, none⟩ = some v := h.blk.cell 4
theorem IxI.c5 (h : IxI w gx g gm gt st v vs vm D nn Y) : w.cell? ⟨gx, 5, none⟩ = some (.float .f64 st.rate) := h.blk.cell 5
theorem IxI.c6 (h : IxI w gx g gm gt st v vs vm D nn Y) : w.cell? ⟨gx, 6, none⟩ = some (.pointer (some ⟨gm, 0, none⟩)) := h.blk.cell 6
theorem IxI.c7 (h : IxI w gx g gm gt st v vs vm D nn Y) : w.cell? ⟨gx, 7, none⟩ = some (.map (some gt)) := h.blk.cell 7
theorem zeroT (w : World) : (zeroValue 105).run Tryz.prog w = .ok (.pointer none) w := by kernel_rfl
theorem IxI.at (h : IxI w gx g gm gt st v vs vm D nn Y) {n : Int} (hw : (Lit.int .i64 n).wf = true) {e : TE} (hn : st.t n = some e) :
    (Instr.lookup 101 (.map (some gt)) (.int .i64 n) false).run Tryz.prog w = .ok (.pointer (some ⟨e.b, 0, none⟩)) w := by
  obtain ⟨u, ps, h1, h2⟩ := h.map.lookup Tryz.keyInt Tryz.underlying101 (zeroT w) ptrE_nil (keyOf_int_mk Tryz.underlying3 hw)
  rw [h.look, hn] at h2
  rw [h1, ptrE_inv h2]
theorem look_put {n : Int} {e : TE} (hl : ∀ n, D.atKey (.int .i64 n) .nil = tabV (st.t n)) (hm : IsMap D) (x : Int) :
    (D.put (.int .i64 n) (.lit (.int .i64 e.b))).atKey (.int .i64 x) .nil = tabV (if x = n then some e else st.t x) := by
  by_cases hx : x = n
  · subst hx
    rw [if_pos rfl, atKey_put_same hm (k := .int .i64 x) (show WideAt.IsKeyLit (.int .i64 x) from trivial)]
    rfl
  · rw [if_neg hx, atKey_put_other (by intro h; injection h with _ h; exact hx h), hl]
theorem look_del {n : Int} (hl : ∀ n, D.atKey (.int .i64 n) .nil = tabV (st.t n)) (x : Int) :
    (D.del (.int .i64 n)).atKey (.int .i64 x) .nil = tabV (if x = n then none else st.t x) := by
  by_cases hx : x = n
  · subst hx
    rw [if_pos rfl, atKey_del_same]
    rfl
  · rw [if_neg hx, atKey_del_other (by intro h; injection h with _ h; exact hx h), hl]
end
end Go.Proofs.YtmgpffknmmoggaaGreatDoor
namespace Go.Proofs.YtmgpffknmmoggaaGreatDoor
open Go.RowKit
structure IxD (w : World) (g : Nat) (F : Nat → Prop) (σ : DM) (gx gm gt : Nat) (st : IxSt) (Y : Nat → Prop) : Prop where
  d : Dk w g F σ
  x : IxY w gx g gm gt st Y
  ap : ∀ i, F i → ¬ InX gx gm gt i ∧ ¬ Y i
structure IxF (wb w : World) (g : Nat) (F : Nat → Prop) (σ : DM) (gx gm gt : Nat) (st : IxSt) (Y K : Nat → Prop) : Prop where
  i : IxD w g F σ gx gm gt st Y
  bF : ∀ i, F i → wb.heap.size ≤ i
  bX : ∀ i, InX gx gm gt i → wb.heap.size ≤ i
  bY : ∀ i, Y i → wb.heap.size ≤ i
  ext : Ext wb w
  k : ∀ i, K i → i < w.heap.size ∧ ¬ F i ∧ ¬ InX gx gm gt i ∧ ¬ Y i
def IxK (wb w : World) (g gx : Nat) (st : IxSt) (σ : DM) (K : Nat → Prop) : Prop := ∃ F gm gt Y, IxF wb w g F σ gx gm gt st Y K
section
variable {wb w w1 w2 : World} {g gx gm gt : Nat} {st st1 : IxSt} {F Y Y1 K K' : Nat → Prop} {σ σ1 : DM}
theorem IxY.ok (h : IxY w gx g gm gt st Y) : okIx st := h.1
theorem IxY.xlt (h : IxY w gx g gm gt st Y) : ∀ i, InX gx gm gt i → i < w.heap.size := by
  obtain ⟨_, v, vs, vm, D, nn, h1⟩ := h
  exact h1.xlt
theorem IxY.ylt (h : IxY w gx g gm gt st Y) : ∀ i, Y i → i < w.heap.size := by
  obtain ⟨_, v, vs, vm, D, nn, h1⟩ := h
  exact h1.lt
theorem IxY.ext (h : IxY w gx g gm gt st Y) (k : Ext w w1) : IxY w1 gx g gm gt st Y := by
  obtain ⟨h0, v, vs, vm, D, nn, h1⟩ := h
  exact ⟨h0, v, vs, vm, D, nn, h1.ext k⟩
theorem IxY.off (h : IxY w gx g gm gt st Y) (k : OffS F w w1) (hd : ∀ i, InX gx gm gt i ∨ Y i → ¬ F i) : IxY w1 gx g gm gt st Y := by
  obtain ⟨h0, v, vs, vm, D, nn, h1⟩ := h
  exact ⟨h0, v, vs, vm, D, nn, h1.off k hd⟩
theorem IxY.same (h : IxY w gx g gm gt st Y) (hs : w.heap.size ≤ w1.heap.size) (k : ∀ i, InX gx gm gt i ∨ Y i → w1.heap[i]? = w.heap[i]?) : IxY w1 gx g gm gt st Y := by
  obtain ⟨h0, v, vs, vm, D, nn, h1⟩ := h
  exact ⟨h0, v, vs, vm, D, nn, h1.same hs k⟩
theorem IxF.grow (h : IxF wb w g F σ gx gm gt st Y K) (k : Ext w w1) : IxF wb w1 g F σ gx gm gt st Y K :=
  ⟨⟨h.i.d.ext k, h.i.x.ext k, h.i.ap⟩, h.bF, h.bX, h.bY, h.ext.trans k, fun i hi => ⟨Nat.lt_of_lt_of_le (h.k i hi).1 k.size, (h.k i hi).2⟩⟩
theorem IxF.kExt (h : IxF wb w g F σ gx gm gt st Y K) (k : Ext w w1) : Stay K w w1 := fun i hi => k.block i (h.k i hi).1
theorem IxF.notF (h : IxF wb w g F σ gx gm gt st Y K) : ∀ i, InX gx gm gt i ∨ Y i → ¬ F i := fun i hi hf => hi.elim (h.i.ap i hf).1 (h.i.ap i hf).2
theorem IxF.disk (h : IxF wb w g F σ gx gm gt st Y K) (k : DkS w g F σ1 w1) : IxF wb w1 g (Gr F w w1) σ1 gx gm gt st Y K ∧ Stay K w w1 := by
  have hs := k.off.size
  refine ⟨⟨⟨k.dk, h.i.x.off k.off h.notF, fun i hi => ?_⟩, fun i hi => Gr.ge h.bF h.ext.size hi, h.bX, h.bY, k.off.ext h.ext h.bF, fun i hi => ?_⟩, fun i hi => ?_⟩
  · rcases hi with hi | hi
    · exact h.i.ap i hi
    · exact ⟨fun hx => by have := h.i.x.xlt i hx; omega, fun hy => by have := h.i.x.ylt i hy; omega⟩
  · obtain ⟨a, b, c, d⟩ := h.k i hi
    exact ⟨by omega, Gr.not b a, c, d⟩
  · obtain ⟨a, b, c, d⟩ := h.k i hi
    exact k.off.block i a b
theorem IxF.row (h : IxF wb w g F σ gx gm gt st Y K) {v : Value} {acc : List En} (k : RowV w g F σ1 w1 v acc) : (∃ F', IxF wb w1 g F' σ1 gx gm gt st Y (fun i => K i ∨ v.ownBlock = some i)) ∧ Stay K w w1 := by
  obtain ⟨F', d1, d2, d3⟩ := k.dk
  have hs := k.off.size
  refine ⟨⟨F', ⟨d1, h.i.x.off k.off h.notF, fun i hi => ?_⟩, fun i hi => Gr.ge h.bF h.ext.size (d2 i hi), h.bX, h.bY, k.off.ext h.ext h.bF, fun i hi => ?_⟩, fun i hi => ?_⟩
  · rcases d2 i hi with hi | hi
    · exact h.i.ap i hi
    · exact ⟨fun hx => by have := h.i.x.xlt i hx; omega, fun hy => by have := h.i.x.ylt i hy; omega⟩
  · rcases hi with hi | hi
    · obtain ⟨a, b, c, d⟩ := h.k i hi
      exact ⟨by omega, fun hf => Gr.not b a (d2 i hf), c, d⟩
    · have := row_lt k.row i hi
      exact ⟨this.2, d3 i hi, fun hx => by have := h.i.x.xlt i hx; omega, fun hy => by have := h.i.x.ylt i hy; omega⟩
  · obtain ⟨a, b, c, d⟩ := h.k i hi
    exact k.off.block i a b
theorem IxF.turn (h : IxF wb w g F σ gx gm gt st Y K) (hx : IxY w1 gx g gm gt st1 Y1) (off : OffS (InX gx gm gt) w w1) (hY : ∀ i, Y1 i → Y i ∨ w.heap.size ≤ i) : IxF wb w1 g F σ gx gm gt st1 Y1 K ∧ Stay K w w1 := by
  have hs := off.size
  refine ⟨⟨⟨h.i.d.held hs fun i hi => off.block i (h.i.d.Flt i hi) (h.i.ap i hi).1, hx, fun i hi => ⟨(h.i.ap i hi).1, fun hy => ?_⟩⟩, h.bF, h.bX, fun i hi => ?_, off.ext h.ext h.bX, fun i hi => ?_⟩, fun i hi => ?_⟩
  · rcases hY i hy with h1 | h1
    · exact (h.i.ap i hi).2 h1
    · have := h.i.d.Flt i hi; omega
  · rcases hY i hi with h1 | h1
    · exact h.bY i h1
    · have := h.ext.size; omega
  · obtain ⟨a, b, c, d⟩ := h.k i hi
    refine ⟨by omega, b, c, fun hy => ?_⟩
    rcases hY i hy with h1 | h1
    · exact d h1
    · omega
  · obtain ⟨a, b, c, d⟩ := h.k i hi
    exact off.block i a c
theorem IxF.turnV {K2 : Nat → Prop} (h : IxF wb w g F σ gx gm gt st Y K2) (hx : IxY w1 gx g gm gt st1 Y1) (off : OffS (InX gx gm gt) w w1) (hY : ∀ i, Y1 i → wb.heap.size ≤ i ∧ ¬ F i) (hK : ∀ i, K i → K2 i ∧ ¬ Y1 i) : IxF wb w1 g F σ gx gm gt st1 Y1 K ∧ Stay K w w1 := by
  have hs := off.size
  refine ⟨⟨⟨h.i.d.held hs fun i hi => off.block i (h.i.d.Flt i hi) (h.i.ap i hi).1, hx, fun i hi => ⟨(h.i.ap i hi).1, fun hy => (hY i hy).2 hi⟩⟩, h.bF, h.bX, fun i hi => (hY i hi).1, off.ext h.ext h.bX, fun i hi => ?_⟩, fun i hi => ?_⟩
  · obtain ⟨k2, hny⟩ := hK i hi
    obtain ⟨a, b, c, d⟩ := h.k i k2
    exact ⟨by omega, b, c, hny⟩
  · obtain ⟨k2, hny⟩ := hK i hi
    obtain ⟨a, b, c, d⟩ := h.k i k2
    exact off.block i a c
theorem IxF.more (h : IxF wb w g F σ gx gm gt st Y K) (k : Ext w w1) (hK : ∀ i, K' i → K i ∨ (w.heap.size ≤ i ∧ i < w1.heap.size)) : IxF wb w1 g F σ gx gm gt st Y K' := by
  have h2 := h.grow k
  refine ⟨h2.i, h2.bF, h2.bX, h2.bY, h2.ext, fun i hi => ?_⟩
  rcases hK i hi with h3 | ⟨h3, h4⟩
  · exact h2.k i h3
  · exact ⟨h4, fun hf => by have := h.i.d.Flt i hf; omega, fun hx => by have := h.i.x.xlt i hx; omega, fun hy => by have := h.i.x.ylt i hy; omega⟩
theorem IxF.side (h : IxF wb w g F σ gx gm gt st Y K) (hs : w.heap.size ≤ w1.heap.size) (hx : Ext wb w1) (k : ∀ i, i < w.heap.size → ¬ K i → w1.heap[i]? = w.heap[i]?) : IxF wb w1 g F σ gx gm gt st Y K := by
  refine ⟨⟨h.i.d.held hs fun i hi => k i (h.i.d.Flt i hi) fun hk => (h.k i hk).2.1 hi, h.i.x.same hs fun i hi => ?_, h.i.ap⟩, h.bF, h.bX, h.bY, hx, fun i hi => ⟨Nat.lt_of_lt_of_le (h.k i hi).1 hs, (h.k i hi).2⟩⟩
  rcases hi with hi | hi
  · exact k i (h.i.x.xlt i hi) fun hk => (h.k i hk).2.2.1 hi
  · exact k i (h.i.x.ylt i hi) fun hk => (h.k i hk).2.2.2 hi
theorem IxF.sideM (h : IxF wb w g F σ gx gm gt st Y K) (hs : w.heap.size ≤ w1.heap.size) (hx : Ext wb w1) (k : ∀ i, i < w.heap.size → ¬ K i → w1.heap[i]? = w.heap[i]?) (hK : ∀ i, K' i → K i ∨ (w.heap.size ≤ i ∧ i < w1.heap.size)) : IxF wb w1 g F σ gx gm gt st Y K' := by
  have h1 := h.side hs hx k
  refine ⟨h1.i, h1.bF, h1.bX, h1.bY, hx, fun i hi => ?_⟩
  rcases hK i hi with h2 | ⟨h2, h3⟩
  · exact h1.k i h2
  · exact ⟨h3, fun hf => by have := h.i.d.Flt i hf; omega, fun hx => by have := h.i.x.xlt i hx; omega, fun hy => by have := h.i.x.ylt i hy; omega⟩
theorem IxF.beside (h : IxF wb w g F σ gx gm gt st Y K) (k : ∀ i, K' i → K i) : IxF wb w g F σ gx gm gt st Y K' := ⟨h.i, h.bF, h.bX, h.bY, h.ext, fun i hi => h.k i (k i hi)⟩
theorem IxF.tb (h : IxF wb w g F σ gx gm gt st Y K) {n : Int} {e : TE} (he : st.t n = some e) : TbD w e.b g n e.L e.may Y F σ := by
  obtain ⟨_, v, vs, vm, D, nn, h1⟩ := h.i.x
  exact ⟨h.i.d, h1.tab n e he, fun i hy hf => (h.i.ap i hf).2 hy⟩
theorem IxK.ok (h : IxK wb w g gx st σ K) : okIx st ∧ okD σ := by obtain ⟨F, gm, gt, Y, h1⟩ := h; exact ⟨h1.i.x.ok, h1.i.d.1⟩
theorem IxK.base (h : IxK wb w g gx st σ K) : Ext wb w := by obtain ⟨F, gm, gt, Y, h1⟩ := h; exact h1.ext
theorem IxK.grow (h : IxK wb w g gx st σ K) (k : Ext w w1) : IxK wb w1 g gx st σ K := by obtain ⟨F, gm, gt, Y, h1⟩ := h; exact ⟨_, _, _, _, h1.grow k⟩
theorem IxK.kExt (h : IxK wb w g gx st σ K) (k : Ext w w1) : Stay K w w1 := by obtain ⟨F, gm, gt, Y, h1⟩ := h; exact h1.kExt k
theorem IxK.more (h : IxK wb w g gx st σ K) (k : Ext w w1) (hK : ∀ i, K' i → K i ∨ (w.heap.size ≤ i ∧ i < w1.heap.size)) : IxK wb w1 g gx st σ K' := by obtain ⟨F, gm, gt, Y, h1⟩ := h; exact ⟨_, _, _, _, h1.more k hK⟩
theorem IxK.sideM (h : IxK wb w g gx st σ K) (hs : w.heap.size ≤ w1.heap.size) (hx : Ext wb w1) (k : ∀ i, i < w.heap.size → ¬ K i → w1.heap[i]? = w.heap[i]?) (hK : ∀ i, K' i → K i ∨ (w.heap.size ≤ i ∧ i < w1.heap.size)) : IxK wb w1 g gx st σ K' := by obtain ⟨F, gm, gt, Y, h1⟩ := h; exact ⟨_, _, _, _, h1.sideM hs hx k hK⟩
theorem IxK.beside (h : IxK wb w g gx st σ K) (k : ∀ i, K' i → K i) : IxK wb w g gx st σ K' := by obtain ⟨F, gm, gt, Y, h1⟩ := h; exact ⟨_, _, _, _, h1.beside k⟩
theorem IxK.dkf (h : IxK wb w g gx st σ K) : ∃ F, DkF wb w g F σ K := by
  obtain ⟨F, gm, gt, Y, h1⟩ := h
  exact ⟨F, h1.i.d, h1.bF, h1.ext, fun i hi => ⟨(h1.k i hi).1, (h1.k i hi).2.1⟩⟩
end
end Go.Proofs.YtmgpffknmmoggaaGreatDoor
namespace Go.Proofs.YtmgpffknmmoggaaGreatDoor
open Go.RowKit
set_option maxRecDepth 100000
set_option linter.unusedVariables false
set_option maxHeartbeats 6400000
section
variable {wb w w1 w2 : World} {g gx gm gt : Nat} {st st1 : IxSt} {F Y Y1 K K' : Nat → Prop} {σ σ1 : DM}
theorem inone_c (h : IxY w gx g gm gt st Y) : Calls Tryz.prog 48 #[.pointer (some ⟨gx, 0, none⟩)] w fun e w' => e = .returned (.bool false) ∧ w = w' := by
  obtain ⟨_, v, vs, vm, D, nn, h1⟩ := h
  have c6 := h1.c6
  clear h1
  go_enter Tryz.func48, Tryz.ntmps48
  go_wp2_with fail
  go_ret
  exact ⟨rfl, rfl⟩
theorem iwaiting_c (h : IxY w gx g gm gt st Y) : Calls Tryz.prog 26 #[.pointer (some ⟨gx, 0, none⟩)] w fun e w' => e = .returned (.int .i64 (st.w.length : Int)) ∧ w = w' := by
  have HN := Lib.hid (inone_c h)
  obtain ⟨_, v, vs, vm, D, nn, h1⟩ := h
  have c6 := h1.c6
  have HL := Lib.hid (mlen_c h1.mem)
  clear h1
  go_enter Tryz.func26, Tryz.ntmps26
  go_wp2_with fail
  refine HN.out.mono ?_
  rintro e w1 ⟨rfl, rfl⟩
  go_wp2_with fail
  refine HL.out.mono ?_
  rintro e w1 ⟨rfl, rfl⟩
  go_wp2_with fail
  go_ret
  exact ⟨rfl, rfl⟩
theorem IxI.grid {v : Value} {vs : List Value} {vm : Value} {D : DataW Unit} {nn : Nat} (h : IxI w gx g gm gt st v vs vm D nn Y) : ∃ ao c, v = .slice ao st.m.L.length c ∧ Grid w ao st.m.L.length c st.m.L := h.lev.grid
theorem Man.bounds {m : Man} (h : m.ok) : m.L.length ≤ 5 ∧ m.L.flatten.length ≤ 40 ∧ (∀ i, (m.L.getD i []).length ≤ 40) ∧ (∀ x ∈ m.L.flatten, (Lit.int .i64 x).wf = true ∧ 0 ≤ x ∧ x < m.nx) ∧ 0 ≤ m.nx ∧ m.nx ≤ 1000000 ∧ m.L.flatten.Nodup ∧ 0 ≤ m.ck ∧ m.ck ≤ 2147483647 := by
  have hv := h.1
  unfold mvalid validB at hv
  simp only [Bool.and_eq_true, decide_eq_true_eq, List.all_eq_true] at hv
  obtain ⟨⟨⟨h1, h2, h3, h4⟩, h5, h6, h7, h8⟩, h9⟩ := hv
  refine ⟨h5, h6, fun i => ?_, fun x hx => ⟨?_, h7 x hx, h9 x hx⟩, h1, h2, h8, h3, h4⟩
  · rcases Nat.lt_or_ge i m.L.length with hi | hi
    · have : (m.L.getD i []) ∈ m.L := by rw [List.getD_eq_getElem?_getD, List.getElem?_eq_getElem hi]; exact List.getElem_mem hi
      have := (List.sublist_flatten_of_mem this).length_le
      omega
    · rw [List.getD_eq_getElem?_getD, List.getElem?_eq_none hi]; simp
  · have := h7 x hx; have := h9 x hx
    exact WalkArith.wf_i64 (by omega)
theorem imanifest_c (h : IxY w gx g gm gt st Y) : Calls Tryz.prog 16 #[.pointer (some ⟨gx, 0, none⟩)] w fun e w' =>
    ∃ v vs, e = .returned (.agg #[.int .i64 st.m.nx, .int .i64 st.m.ck, .int .u64 st.m.sd, v]) ∧ OGr w' w.heap.size 88 3 v vs st.m.L ∧ Ext w w' := by
  have hb := Man.bounds h.1.man
  have HN := Lib.hid (fun W (k : Ext w W) => inone_c (h.ext k))
  obtain ⟨hok, v, vs, vm, D, nn, h1⟩ := h
  obtain ⟨ao, cp, rfl, hg⟩ := h1.grid
  have hx0 := ext_a1 w (.cells #[.int .i64 0, .int .i64 0, .int .u64 0, .slice none 0 0] 38)
  have HBk := Lib.hid (Blk.new w 38 #[.int .i64 0, .int .i64 0, .int .u64 0, .slice none 0 0])
  have h2 := h1.ext hx0
  have c1 := h2.c1; have c2 := h2.c2; have c3 := h2.c3; have c4 := h2.c4
  have HC := Lib.hid (fun W (k : Ext w W) => copied_c st.m.nx st.m.ck st.m.sd ao st.m.L.length cp st.m.L W (hg.ext k) (fun i => by have := hb.2.2.1 i; omega) (by omega))
  have HX0 := Lib.hid hx0
  clear h1 h2 hg hok hb hx0
  go_enter Tryz.func16, Tryz.ntmps16
  go_wp2_with fail
  refine (HN.out _ HX0.out).mono ?_
  rintro e w1 ⟨rfl, rfl⟩
  go_wp2_with fail
  refine (HC.out _ HX0.out).mono ?_
  rintro e w1 ⟨v, vs2, rfl, hog, hb⟩
  obtain ⟨av, kv, rfl⟩ := hog.own.slice
  have HOG := Lib.hid hog; have HB := Lib.hid hb
  have hbk := HBk.out.ext hb
  have k0 : w1.cell? ⟨w.heap.size, 0, none⟩ = some (.int .i64 0) := hbk.cell 0
  have k1 : w1.cell? ⟨w.heap.size, 1, none⟩ = some (.int .i64 0) := hbk.cell 1
  have k2 : w1.cell? ⟨w.heap.size, 2, none⟩ = some (.int .u64 0) := hbk.cell 2
  have k3 : w1.cell? ⟨w.heap.size, 3, none⟩ = some (.slice none 0 0) := hbk.cell 3
  have f0 : w1.frozen? ⟨w.heap.size, 0, none⟩ = false := hbk.free 0
  have f1 : w1.frozen? ⟨w.heap.size, 1, none⟩ = false := hbk.free 1
  have f2 : w1.frozen? ⟨w.heap.size, 2, none⟩ = false := hbk.free 2
  have f3 : w1.frozen? ⟨w.heap.size, 3, none⟩ = false := hbk.free 3
  have HF : Hid (∀ W, OffS (fun i => i = w.heap.size) w1 W → OGr W w.heap.size 88 3 (.slice av st.m.L.length kv) vs2 st.m.L ∧ Ext w W) := Lib.hid fun W hW => by
    rw [World.size_alloc] at hog
    refine ⟨ogr_same (ogr_base hog (Nat.le_succ _)) fun i hi => hW.block i (ogr_lt hog i hi).2 fun e => ?_, hW.ext (HX0.out.trans hb) fun i hi => by rw [hi]; exact Nat.le_refl _⟩
    have := (ogr_lt hog i hi).1
    omega
  clear hog hb hbk
  go_wp2_with fail
  ((try simp only [Exit.inBlock, Exit.then]); refine bodyPost_ret (v := .agg #[.int .i64 st.m.nx, .int .i64 st.m.ck, .int .u64 st.m.sd, .slice av st.m.L.length kv]) (by rw [results_cell1 rfl]; go_simp) rfl ?_)
  have hf := HF.out _ ((((OffS.set (F := fun i => i = w.heap.size) w1 rfl 0 (.int .i64 st.m.nx)).trans (OffS.set (F := fun i => i = w.heap.size) _ rfl 1 (.int .i64 st.m.ck))).trans (OffS.set (F := fun i => i = w.heap.size) _ rfl 2 (.int .u64 st.m.sd))).trans (OffS.set (F := fun i => i = w.heap.size) _ rfl 3 (.slice av st.m.L.length kv)))
  exact ⟨_, vs2, rfl, hf.1, hf.2⟩
theorem iadd_c (h : IxK wb w g gx st σ K) {e : En} (he : okEn e = true) (hl : st.w.length < 50000) :
    Calls Tryz.prog 17 #[.pointer (some ⟨gx, 0, none⟩), enV e] w fun r w' => r = .returned (.int .i64 0) ∧ IxK wb w' g gx { st with w := addE e st.w } σ K ∧ Stay K w w' := by
  obtain ⟨F, gm, gt, Y, h1⟩ := h
  have HF := Lib.hid h1
  obtain ⟨e1, e2, e3⟩ := e
  show Calls _ _ #[_, .agg #[.int .u64 e1, .int .i64 e2, .int .i64 e3]] _ _
  have hx1 := ext_a1 w (.cells #[.int .u64 e1, .int .i64 e2, .int .i64 e3] 44)
  have HX1 := Lib.hid hx1
  have HN := Lib.hid (inone_c (h1.i.x.ext hx1))
  have hbk := Blk.new w 44 #[.int .u64 e1, .int .i64 e2, .int .i64 e3]
  have k0 : (w.alloc (.cells #[.int .u64 e1, .int .i64 e2, .int .i64 e3] 44)).cell? ⟨w.heap.size, 0, none⟩ = some (.int .u64 e1) := hbk.cell 0
  have k1 : (w.alloc (.cells #[.int .u64 e1, .int .i64 e2, .int .i64 e3] 44)).cell? ⟨w.heap.size, 1, none⟩ = some (.int .i64 e2) := hbk.cell 1
  have k2 : (w.alloc (.cells #[.int .u64 e1, .int .i64 e2, .int .i64 e3] 44)).cell? ⟨w.heap.size, 2, none⟩ = some (.int .i64 e3) := hbk.cell 2
  have HPe : Hid (∃ b0 B, ∀ W, Calls Tryz.prog 62 #[.agg #[.int .u64 e1, .int .i64 e2, .int .i64 e3]] W fun r w' => r = .returned (.string ⟨(b0 :: B : List UInt8).toArray⟩) ∧ Ext W w') := Lib.hid (by
    obtain ⟨b0, B, hB⟩ : ∃ b0 B, entB (e1, e2, e3) = b0 :: B := by
      have := entB_length (e1, e2, e3)
      cases h : entB (e1, e2, e3) with
      | nil => rw [h] at this; cases this
      | cons a l => exact ⟨a, l, rfl⟩
    exact ⟨b0, B, fun W => hB ▸ putent_c (e1, e2, e3) W he⟩)
  obtain ⟨b0, B, hP⟩ := HPe.out
  have HP := Lib.hid hP
  obtain ⟨hok, v, vs, vm, D, nn, hi⟩ := h1.i.x
  have HI := Lib.hid hi
  have HOk := Lib.hid hok
  have HMa := Lib.hid (fun W (k : Ext w W) => madd_c (hi.mem.ext k) hok.mem he hl)
  have HOkM := Lib.hid (hok.mem.add he hl)
  clear h1 hx1 hbk HPe hP hi hok hl he
  go_enter Tryz.func17, Tryz.ntmps17
  go_wp2_with fail
  refine HN.out.mono ?_
  rintro e w1 ⟨rfl, rfl⟩
  go_wp2_with fail
  refine (HP.out _).mono ?_
  rintro e w1 ⟨rfl, hb⟩
  have HB := Lib.hid (HX1.out.trans hb)
  have p0 := cell_ext hb k0; have p1 := cell_ext hb k1; have p2 := cell_ext hb k2
  have c6 := (HI.out.ext HB.out).c6
  clear hb k0 k1 k2
  go_wp2_with fail
  go_still_tail 5, (by kernel_rfl)
  go_wp2_with fail
  refine (HMa.out _ HB.out.drew).mono ?_
  rintro e w2 ⟨vm2, rfl, hm, hv, hoff⟩
  have HX2 : Hid (IxY w2 gx g gm gt { st with w := addE (e1, e2, e3) st.w } (fun i => Y i ∨ vm2.ownBlock = some i)) := Lib.hid ⟨⟨HOk.out.man, HOkM.out, HOk.out.c⟩, v, vs, vm2, D, nn, (HI.out.ext HB.out.drew).memTurn hm hoff hv⟩
  have HT := Lib.hid ((HF.out.grow HB.out.drew).turn HX2.out (hoff.mono fun i _ hi => .inr (.inl hi)) (fun i hi => by
    rcases hi with hi | hi
    · exact .inl hi
    · rcases hv with e | e
      · exact .inl (HI.out.inY i (.inr (.inr (e ▸ hi))))
      · exact .inr (e i hi)))
  have HSt := Lib.hid (HF.out.kExt HB.out.drew)
  clear hm hv hoff
  go_wp2_with fail
  go_ret
  exact ⟨rfl, ⟨_, _, _, _, HT.out.1⟩, HSt.out.trans HT.out.2⟩
theorem putent_no (e : En) (w : World) (h : e.2.1 < 0 ∨ e.2.2 < 0) : Calls Tryz.prog 62 #[enV e] w fun r w' => r = .returned (.string ⟨#[]⟩) ∧ Ext w w' := by
  obtain ⟨x, y, z⟩ := e
  show Calls _ _ #[.agg #[.int .u64 x, .int .i64 y, .int .i64 z]] _ _
  have hx1 := ext_a1 w (.cells #[.int .u64 x, .int .i64 y, .int .i64 z] 44)
  have HX := Lib.hid hx1
  have hbk := Blk.new w 44 #[.int .u64 x, .int .i64 y, .int .i64 z]
  have k1 : (w.alloc (.cells #[.int .u64 x, .int .i64 y, .int .i64 z] 44)).cell? ⟨w.heap.size, 1, none⟩ = some (.int .i64 y) := hbk.cell 1
  have k2 : (w.alloc (.cells #[.int .u64 x, .int .i64 y, .int .i64 z] 44)).cell? ⟨w.heap.size, 2, none⟩ = some (.int .i64 z) := hbk.cell 2
  have h3 : decide (y < 0) = true ∨ (decide (y < 0) = false ∧ decide (z < 0) = true) := by
    simp only at h
    by_cases hy : y < 0
    · exact .inl (decide_eq_true hy)
    · exact .inr ⟨decide_eq_false hy, decide_eq_true (by omega)⟩
  clear hx1 hbk h
  rcases h3 with h3 | ⟨h3, h4⟩
  all_goals
    go_enter Tryz.func62, Tryz.ntmps62
    go_wp2_with fail
    go_ret
    exact ⟨rfl, HX.out⟩
theorem iadd_bad (h : IxY w gx g gm gt st Y) {e : En} (he : e.2.1 < 0 ∨ e.2.2 < 0) :
    Calls Tryz.prog 17 #[.pointer (some ⟨gx, 0, none⟩), enV e] w fun r w' => r = .returned (.int .i64 2) ∧ Ext w w' := by
  obtain ⟨e1, e2, e3⟩ := e
  show Calls _ _ #[_, .agg #[.int .u64 e1, .int .i64 e2, .int .i64 e3]] _ _
  have hx1 := ext_a1 w (.cells #[.int .u64 e1, .int .i64 e2, .int .i64 e3] 44)
  have HX1 := Lib.hid hx1
  have HN := Lib.hid (inone_c (h.ext hx1))
  have hbk := Blk.new w 44 #[.int .u64 e1, .int .i64 e2, .int .i64 e3]
  have k0 : (w.alloc (.cells #[.int .u64 e1, .int .i64 e2, .int .i64 e3] 44)).cell? ⟨w.heap.size, 0, none⟩ = some (.int .u64 e1) := hbk.cell 0
  have k1 : (w.alloc (.cells #[.int .u64 e1, .int .i64 e2, .int .i64 e3] 44)).cell? ⟨w.heap.size, 1, none⟩ = some (.int .i64 e2) := hbk.cell 1
  have k2 : (w.alloc (.cells #[.int .u64 e1, .int .i64 e2, .int .i64 e3] 44)).cell? ⟨w.heap.size, 2, none⟩ = some (.int .i64 e3) := hbk.cell 2
  have HP := Lib.hid (fun W => putent_no (e1, e2, e3) W he)
  clear h hx1 hbk he
  go_enter Tryz.func17, Tryz.ntmps17
  go_wp2_with fail
  refine HN.out.mono ?_
  rintro e w1 ⟨rfl, rfl⟩
  go_wp2_with fail
  refine (HP.out _).mono ?_
  rintro e w1 ⟨rfl, hb⟩
  have HB := Lib.hid (HX1.out.trans hb)
  clear hb
  go_wp2_with fail
  go_ret
  exact ⟨rfl, HB.out⟩
end
end Go.Proofs.YtmgpffknmmoggaaGreatDoor
namespace Go.Proofs.YtmgpffknmmoggaaGreatDoor
open Go.RowKit
theorem lastM_ok {σ : DM} {n : Int} {L : List En} {may : Int → Bool} (h : Wl σ n L) (hs : sortE L) (ho : ∀ e ∈ L, okEn e = true) (ht : ∀ x ∈ L, may x.1 = true) (x u : Int) :
    ∃ k, k ≤ 5 ∧ (tbMay L may x = false → k = 0) ∧ lastM σ n L may x u = match (if u < 0 then none else lastE L x (min u 1073741824)) with
      | none => (en0, false, 0, tellN k σ)
      | some y => (y, true, 0, tellN k σ) := by
  unfold lastM
  by_cases hc : min u 1073741824 < 0 ∨ tbMay L may x = false
  · rw [if_pos hc]
    refine ⟨0, by omega, fun _ => rfl, ?_⟩
    by_cases hu : u < 0
    · rw [if_pos hu]; rfl
    · rw [if_neg hu]
      have hm : tbMay L may x = false := by rcases hc with hc | hc; omega; exact hc
      have e : lastE L x (min u 1073741824) = none := by
        unfold lastE
        rw [List.filter_eq_nil_iff.2 fun y hy => ?_]
        · rfl
        · unfold inE
          rw [decide_eq_false (no_hash ht hm y hy)]
          simp
      rw [e]; rfl
  · rw [if_neg hc]
    have hu : ¬ u < 0 := fun h => hc (.inl (by omega))
    rw [if_neg hu]
    obtain ⟨k, hk, e⟩ := findM_ok h hs ho (x, min u 1073741824 + 1, 0)
    have hla := last_at (l := L) (h := x) (t := min u 1073741824) hs ho
    have hle := lbE_le L (x, min u 1073741824 + 1, 0)
    rw [e]
    simp only
    generalize lbE L (x, min u 1073741824 + 1, 0) = lb at *
    by_cases hl0 : lb = 0
    · rw [if_pos hl0] at hla
      rw [if_pos (.inr hl0), hla]
      exact ⟨k, by omega, fun hm => absurd (.inr hm) hc, rfl⟩
    · rw [if_neg hl0] at hla
      rw [if_neg (by simp [hl0])]
      have hi : lb - 1 < L.length := by omega
      rw [List.getElem?_eq_getElem hi] at hla
      rw [entryM_ok (h.tellN k) ho hi]
      simp only at hla ⊢
      by_cases hx : L[lb - 1].1 = x
      · rw [if_pos hx] at hla
        rw [if_neg (by simp [hx]), hla]
        exact ⟨k + 1, by omega, fun hm => absurd (.inr hm) hc, by simp only; rw [tellN_one]⟩
      · rw [if_neg hx] at hla
        rw [if_pos (.inr hx), hla]
        exact ⟨k + 1, by omega, fun hm => absurd (.inr hm) hc, by simp only; rw [tellN_one]⟩
theorem wholeM_ok {σ : DM} {nm : List UInt8} {f : FM} (hup : σ.down = false) (hf : findN FM.nm nm σ.L = some f) : wholeM σ nm = (f.da, 0, tellM σ) := by
  have hs : sizeM σ nm = ((f.da.length : Int), 0) := by unfold sizeM; rw [if_neg (by rw [hup]; decide), hf]
  unfold wholeM
  rw [hs]
  simp only
  rw [if_neg (fun h => h rfl)]
  unfold readM
  rw [if_neg (by rw [hup]; decide), hf]
  simp only
  rw [if_pos (by omega)]
  have e1 : ((f.da.length : Int)).toNat = f.da.length := by omega
  rw [e1]
  simp
theorem wholeM_no {σ : DM} {nm : List UInt8} (hup : σ.down = false) (hf : findN FM.nm nm σ.L = none) : wholeM σ nm = ([], 4, σ) := by
  have hs : sizeM σ nm = (0, 4) := by unfold sizeM; rw [if_neg (by rw [hup]; decide), hf]
  unfold wholeM
  rw [hs]
  simp only
  rw [if_pos (by decide)]
theorem wholeM_up {σ : DM} (nm : List UInt8) (hup : σ.down = false) : ∃ s c k, wholeM σ nm = (s, c, tellN k σ) ∧ c ≠ 61 ∧ k ≤ 1 := by
  cases hf : findN FM.nm nm σ.L with
  | none => exact ⟨_, _, 0, wholeM_no hup hf, by decide, by omega⟩
  | some f => exact ⟨_, _, 1, wholeM_ok hup hf, by decide, by omega⟩
theorem openM_ok {σ : DM} {n : Int} {L : List En} (h : Wl σ n L) (hs : sortE L) (ho : ∀ e ∈ L, okEn e = true) (hl : L.length < 4294967296) : ∃ k, k ≤ 2 ∧ openM σ n = (some L, 0, tellN k σ) := by
  obtain ⟨f, hf, hd⟩ := h.file
  unfold openM
  rw [wholeM_ok h.up hf]
  simp only
  rw [if_neg (fun h => h rfl), hd, getT_tab hs ho hl]
  obtain ⟨s, c, k, e, hc, hk⟩ := wholeM_up (σ := tellM σ) (nameS 98 n) h.up
  rw [e]
  simp only
  rw [if_neg hc]
  exact ⟨k + 1, by omega, by rw [tellN_succ]⟩
theorem allM_ok {σ : DM} {n : Int} {L : List En} (h : Wl σ n L) (hs : sortE L) (ho : ∀ e ∈ L, okEn e = true) (hl : L.length < 4294967296) : allM σ n = (L, 0, tellM σ) := by
  obtain ⟨f, hf, hd⟩ := h.file
  unfold allM
  rw [wholeM_ok h.up hf]
  simp only
  rw [if_neg (fun h => h rfl), hd, getT_tab hs ho hl]
theorem updN_ins {nm t : List UInt8} : ∀ {l : List (List UInt8 × List UInt8)}, (∀ y ∈ l, y.1 ≠ nm) → updN Prod.fst nm (fun x => (x.1, x.2 ++ t)) (insN Prod.fst (nm, []) l) = insN Prod.fst (nm, t) l
  | [], _ => by simp [insN, updN]
  | y :: r, h => by
    have hy : (y.1 == nm) = false := by simpa using h y (by simp)
    unfold insN
    split
    · rw [updN, List.map_cons, if_pos (by simp)]
      have := updN_other (k := Prod.fst) (f := fun x : List UInt8 × List UInt8 => (x.1, x.2 ++ t)) (nm := nm) (l := y :: r) h
      rw [updN] at this
      rw [this]; rfl
    · rw [updN, List.map_cons, if_neg (by rw [hy]; decide), ← updN, updN_ins fun z hz => h z (by simp [hz])]
theorem Pl.lay {σ : DM} {c s : Int} {l : List (List UInt8 × List UInt8)} {nm t : List UInt8} (h : Pl σ c s l) (hf : findN Prod.fst nm l = none) (hk : okName nm = true) (hm : l.length < 400) (hr : (t.length : Int) ≤ c - (usedP l : Int)) : ∃ σ', tlayM σ nm t = (0, σ') ∧ Pl σ' c s (insN Prod.fst (nm, t) l) := by
  obtain ⟨σ1, e1, p1⟩ := h.create hf hk hm
  have hne := findN_none hf
  have hf1 : ∃ x, findN Prod.fst nm (insN Prod.fst (nm, []) l) = some x := by
    cases hh : findN Prod.fst nm (insN Prod.fst (nm, []) l) with
    | some x => exact ⟨x, rfl⟩
    | none => exact absurd rfl (findN_none hh (nm, []) (mem_insN.2 (.inl rfl)))
  obtain ⟨x1, hx1⟩ := hf1
  have hu : usedP (insN Prod.fst (nm, ([] : List UInt8)) l) = usedP l := by
    unfold usedP sumN
    rw [((insN_perm (k := Prod.fst) (nm, ([] : List UInt8)) l).map _).sum_nat]
    simp
  obtain ⟨σ2, e2, p2⟩ := p1.append (t := t) hx1 (by rw [hu]; exact hr)
  rw [updN_ins hne] at p2
  have hf2 : ∃ x, findN Prod.fst nm (insN Prod.fst (nm, t) l) = some x := by
    cases hh : findN Prod.fst nm (insN Prod.fst (nm, t) l) with
    | some x => exact ⟨x, rfl⟩
    | none => exact absurd rfl (findN_none hh (nm, t) (mem_insN.2 (.inl rfl)))
  obtain ⟨x2, hx2⟩ := hf2
  obtain ⟨σ3, e3, p3⟩ := p2.sync hx2
  refine ⟨σ3, ?_, p3⟩
  unfold tlayM
  rw [e1]
  simp only
  rw [if_neg (fun h => h rfl), e2]
  simp only
  rw [if_neg (fun h => h rfl), e3]
theorem name_tb (n m : Int) (hn : 0 ≤ n ∧ n ≤ 999999) (hm : 0 ≤ m ∧ m ≤ 999999) : nameS 116 n ≠ nameS 98 m := by
  rw [nameS_yes hn, nameS_yes hm]
  intro h
  cases (List.cons.inj h).1
theorem okName_S (c : UInt8) {n : Int} (hn : 0 ≤ n ∧ n ≤ 999999) : okName (nameS c n) = true := by rw [nameS_yes hn]; simp [okName, digs_length]
theorem findN_ins {α : Type} {k : α → List UInt8} {x : α} : ∀ {l : List α}, (∀ y ∈ l, k y ≠ k x) → findN k (k x) (insN k x l) = some x
  | [], _ => by simp [insN, findN]
  | y :: r, h => by
    unfold insN
    split
    · simp [findN]
    · have hy : (k y == k x) = false := by simpa using h y (by simp)
      have := findN_ins (k := k) (x := x) (l := r) fun z hz => h z (by simp [hz])
      unfold findN at this ⊢
      rw [List.find?_cons, hy, this]
theorem findN_ins_other {α : Type} {k : α → List UInt8} {x : α} {nm : List UInt8} (hne : k x ≠ nm) : ∀ {l : List α}, findN k nm (insN k x l) = findN k nm l
  | [] => by
    have : (k x == nm) = false := by simpa using hne
    simp [insN, findN, this]
  | y :: r => by
    have hx : (k x == nm) = false := by simpa using hne
    unfold insN
    split
    · simp [findN, hx]
    · have := findN_ins_other (k := k) (x := x) (nm := nm) hne (l := r)
      unfold findN at this ⊢
      rw [List.find?_cons, List.find?_cons, this]
theorem usedP_ins (x : List UInt8 × List UInt8) (l : List (List UInt8 × List UInt8)) : usedP (insN Prod.fst x l) = usedP l + x.2.length := by
  unfold usedP sumN
  rw [((insN_perm (k := Prod.fst) x l).map _).sum_nat]
  simp; omega
theorem Pl.write {σ : DM} {c s : Int} {l : List (List UInt8 × List UInt8)} (h : Pl σ c s l) {n : Int} (hn : 0 ≤ n ∧ n ≤ 999999) {L : List En} (hs : sortB L = true) {f : List UInt8}
    (h1 : findN Prod.fst (nameS 116 n) l = none) (h2 : findN Prod.fst (nameS 98 n) l = none) (hm : l.length < 398) (hr : 6000 ≤ c - (usedP l : Int) - ((tabB L).length : Int) - (f.length : Int)) :
    ∃ σ', pwriteM σ n L f = (0, σ') ∧ Pl σ' c s (insN Prod.fst (nameS 116 n, tabB L) (insN Prod.fst (nameS 98 n, f) l)) := by
  obtain ⟨σ1, e1, p1⟩ := h.lay (t := f) h2 (okName_S 98 hn) (by omega) (by omega)
  obtain ⟨σ2, e2, p2⟩ := p1.lay (t := tabB L) (nm := nameS 116 n) (by rw [findN_ins_other (by exact (name_tb n n hn hn).symm)]; exact h1) (okName_S 116 hn) (by rw [insN_length]; omega) (by rw [usedP_ins]; simp only; omega)
  refine ⟨σ2, ?_, p2⟩
  unfold pwriteM
  rw [if_neg (by rw [hs]; simp; omega), if_neg (by rw [h.up]; decide), h.free, if_neg (by omega), e1]
  simp only
  rw [if_neg (fun h => h rfl), e2]
theorem Pl.wl {σ : DM} {c s : Int} {l : List (List UInt8 × List UInt8)} {n : Int} {L : List En} {x : List UInt8} (h : Pl σ c s l) (hf : findN Prod.fst (nameS 116 n) l = some (x, tabB L)) : Wl σ n L := by
  obtain ⟨f, h1, h2⟩ := h.find_some hf
  refine ⟨h.up, f, h1, ?_⟩
  have := congrArg Prod.snd h2
  exact this
end Go.Proofs.YtmgpffknmmoggaaGreatDoor
