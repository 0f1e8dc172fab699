/- Walks: the document's step of a state. Plain laws: the document's step is the program's. Walks: the document's Fold. -/
import Derived.Test.YtmopfhkppjcgbaaG16PFoldsTell
import Derived.Test.YtmopfhkppjcgbaaG11PFoldsTell
import Derived.Test.YtmopfhkppjcgbaaG8PFoldsTell
import Derived.Test.YtmopfhkppjcgbaaG9PFoldsTell
import Derived.Test.YtmopfhkppjcgbaaG17PFoldsTell
import Derived.Deep.CutRange
set_option linter.unusedVariables false
set_option linter.unusedSimpArgs false
namespace Go.Proofs.Ytmopfhkppjcgbaa
open Go.RowKit

set_option maxRecDepth 100000
set_option linter.unusedVariables false
set_option maxHeartbeats 12800000

theorem run_store_floatM (P : Program) (w : World) (a : Addr) (m : Mode) (k : FloatKind) (b : Nat) : (store a (.float k b) m).run P w = stored P w a (.float k b) m := run_store P w a _ m rfl
attribute [local go_sem] run_store_floatM

def aL (P : List Kd) (t : List UInt8) : List Kd := P.filter fun k => Op.bytesLess k.t t
def bL (P : List Kd) (t : List UInt8) : List Kd := P.filter fun k => !Op.bytesLess k.t t && !decide (k.t = t)
def kL (P : List Kd) (t : List UInt8) : Kd := P.foldl (fun acc k => if !Op.bytesLess k.t t && decide (k.t = t) then k else acc) ⟨t, 0, 0⟩
theorem kL_snoc (P : List Kd) (t : List UInt8) (k : Kd) : kL (P ++ [k]) t = if !Op.bytesLess k.t t && decide (k.t = t) then k else kL P t := by unfold kL; rw [List.foldl_append]; rfl
theorem aL_snoc (P : List Kd) (t : List UInt8) (k : Kd) : aL (P ++ [k]) t = if Op.bytesLess k.t t then aL P t ++ [k] else aL P t := by
  unfold aL; rw [List.filter_append]; cases h : Op.bytesLess k.t t <;> simp [h]
theorem bL_snoc (P : List Kd) (t : List UInt8) (k : Kd) : bL (P ++ [k]) t = if !Op.bytesLess k.t t && !decide (k.t = t) then bL P t ++ [k] else bL P t := by
  unfold bL; rw [List.filter_append]; cases h : (!Op.bytesLess k.t t && !decide (k.t = t)) <;> simp_all
theorem kL_t (t : List UInt8) : ∀ (P : List Kd) (acc : Kd), acc.t = t → (P.foldl (fun acc k => if !Op.bytesLess k.t t && decide (k.t = t) then k else acc) acc).t = t
  | [], acc, h => h
  | k :: r, acc, h => by
    rw [List.foldl_cons]
    refine kL_t t r _ ?_
    split
    · rename_i h2
      rw [Bool.and_eq_true, decide_eq_true_eq] at h2
      exact h2.2
    · exact h

theorem kL_mem (t : List UInt8) : ∀ (P : List Kd) (acc : Kd), P.foldl (fun acc k => if !Op.bytesLess k.t t && decide (k.t = t) then k else acc) acc = acc ∨ P.foldl (fun acc k => if !Op.bytesLess k.t t && decide (k.t = t) then k else acc) acc ∈ P
  | [], acc => .inl rfl
  | k :: r, acc => by
    rw [List.foldl_cons]
    rcases kL_mem t r (if !Op.bytesLess k.t t && decide (k.t = t) then k else acc) with h | h
    · rw [h]
      split
      · exact .inr (by simp)
      · exact .inl rfl
    · exact .inr (List.mem_cons_of_mem _ h)
theorem kL_bounds {K : List Kd} {t : List UInt8} (h : ∀ k ∈ K, 0 ≤ k.m ∧ k.m ≤ 1073741824 ∧ 0 ≤ k.b ∧ k.b ≤ 214748364800) : 0 ≤ (kL K t).m ∧ (kL K t).m ≤ 1073741824 ∧ 0 ≤ (kL K t).b ∧ (kL K t).b ≤ 214748364800 := by
  rcases kL_mem t K ⟨t, 0, 0⟩ with h1 | h1
  · unfold kL; rw [h1]; exact ⟨Int.le_refl 0, by show (0 : Int) ≤ 1073741824; decide, Int.le_refl 0, by show (0 : Int) ≤ 214748364800; decide⟩
  · exact h _ h1

theorem kcs_one (K : List Kd) : ∀ u ∈ kcs K, u.oneCell' = true := fun u hu => by
  unfold kcs at hu
  obtain ⟨f, _, hf⟩ := List.mem_flatMap.1 hu
  exact kc_one f u hf
theorem row_caps2 {w : World} {B size n n' vc : Nat} {e : TypeId} {va : Option Addr} {cs : List Value} (h : w.ownsRow B e size (.slice va n' vc) n cs) : va = none → vc = 0 := fun e => by
  subst e
  rcases h.2 with ⟨h1, h2⟩ | ⟨g, cap, cur, h1, _⟩
  · cases h1; rfl
  · cases h1
theorem row_rd {w : World} {B size n n' vc : Nat} {e : TypeId} {va : Option Addr} {cs : List Value} (h : w.ownsRow B e size (.slice va n' vc) n cs) : Rd w va cs := by
  obtain ⟨ao, cap, h1, _, _, _, h4⟩ := (Own.of_row h).rd
  cases h1
  exact h4

/-- what the document's loop holds -/
structure DocSt (wB W : World) (kq : Nat) (t : List UInt8) (P : List Kd) (va vb : Value) : Prop where
  off : Off kq wB W
  blk : Blk W kq 55 #[.string ⟨(kL P t).t.toArray⟩, .int .i64 (kL P t).m, .int .i64 (kL P t).b]
  ra : W.ownsRow wB.heap.size 55 3 va (aL P t).length (kcs (aL P t))
  rb : W.ownsRow wB.heap.size 55 3 vb (bL P t).length (kcs (bL P t))
  sep : ∀ q, va.ownBlock = some q → vb.ownBlock ≠ some q
  kq : kq < wB.heap.size

theorem DocSt.ext {wB W W' : World} {kq : Nat} {t : List UInt8} {P : List Kd} {va vb : Value} (h : DocSt wB W kq t P va vb) (k : Ext W W') : DocSt wB W' kq t P va vb :=
  ⟨h.off.trans (Off.of_ext k), h.blk.ext k, row_ext h.ra k, row_ext h.rb k, h.sep, h.kq⟩

theorem Off.grownP {g : Nat} {w0 w w' : World} {row : Option Nat} (h : Off g w0 w) (k : w.grownBy w' row) (hr : ∀ q, row = some q → w0.heap.size ≤ q) : Off g w0 w' :=
  ⟨k.os.trans h.os, k.tape.trans h.tape, k.output.trans h.output, Nat.le_trans h.size k.size, fun i hi hn => (k.block i (Nat.lt_of_lt_of_le hi h.size) (fun e => by have := hr i e.symm; omega)).trans (h.block i hi hn)⟩
theorem DocSt.appA {wB W w1 : World} {kq g c : Nat} {t : List UInt8} {P : List Kd} {va vb : Value} {k : Kd} (h : DocSt wB W kq t P va vb) (hk : Op.bytesLess k.t t = true)
    (hown : w1.ownsRow wB.heap.size 55 3 (.slice (some ⟨g, 0, none⟩) ((aL P t).length + 1) c) ((aL P t).length + 1) (kcs (aL P t) ++ kc k)) (hgr : W.grownBy w1 va.ownBlock) (hat : va.ownBlock = some g ∨ g = W.heap.size) :
    DocSt wB w1 kq t (P ++ [k]) (.slice (some ⟨g, 0, none⟩) ((aL P t).length + 1) c) vb := by
  have hra : ∀ q, va.ownBlock = some q → wB.heap.size ≤ q := fun q hq => (row_lt h.ra q hq).1
  have hkq : w1.heap[kq]? = W.heap[kq]? := hgr.block kq h.blk.lt (fun e => by have := hra kq e.symm; have := h.kq; omega)
  have ha : aL (P ++ [k]) t = aL P t ++ [k] := by rw [aL_snoc, hk, if_pos rfl]
  have hb : bL (P ++ [k]) t = bL P t := by rw [bL_snoc, hk]; rfl
  have hl : kL (P ++ [k]) t = kL P t := by rw [kL_snoc, hk]; rfl
  refine ⟨h.off.grownP hgr hra, by rw [hl]; exact h.blk.same hkq, ?_, ?_, ?_, h.kq⟩
  · rw [ha, List.length_append, List.length_singleton, kcs_snoc]; exact hown
  · rw [hb]
    refine row_same h.rb fun q hq => hgr.block q (row_lt h.rb q hq).2 (fun e => h.sep q e.symm hq)
  · intro q hq hq2
    cases hq
    rcases hat with he | he
    · exact h.sep g he hq2
    · have := (row_lt h.rb g hq2).2; omega
theorem DocSt.appB {wB W w1 : World} {kq g c : Nat} {t : List UInt8} {P : List Kd} {va vb : Value} {k : Kd} (h : DocSt wB W kq t P va vb) (hk : Op.bytesLess k.t t = false) (hk2 : k.t ≠ t)
    (hown : w1.ownsRow wB.heap.size 55 3 (.slice (some ⟨g, 0, none⟩) ((bL P t).length + 1) c) ((bL P t).length + 1) (kcs (bL P t) ++ kc k)) (hgr : W.grownBy w1 vb.ownBlock) (hat : vb.ownBlock = some g ∨ g = W.heap.size) :
    DocSt wB w1 kq t (P ++ [k]) va (.slice (some ⟨g, 0, none⟩) ((bL P t).length + 1) c) := by
  have hra : ∀ q, vb.ownBlock = some q → wB.heap.size ≤ q := fun q hq => (row_lt h.rb q hq).1
  have hkq : w1.heap[kq]? = W.heap[kq]? := hgr.block kq h.blk.lt (fun e => by have := hra kq e.symm; have := h.kq; omega)
  have ha : aL (P ++ [k]) t = aL P t := by rw [aL_snoc, hk, if_neg (by decide)]
  have hb : bL (P ++ [k]) t = bL P t ++ [k] := by rw [bL_snoc, hk, decide_eq_false hk2]; rfl
  have hl : kL (P ++ [k]) t = kL P t := by rw [kL_snoc, hk, decide_eq_false hk2]; rfl
  refine ⟨h.off.grownP hgr hra, by rw [hl]; exact h.blk.same hkq, ?_, ?_, ?_, h.kq⟩
  · rw [ha]
    refine row_same h.ra fun q hq => hgr.block q (row_lt h.ra q hq).2 (fun e => h.sep q hq e.symm)
  · rw [hb, List.length_append, List.length_singleton, kcs_snoc]; exact hown
  · intro q hq hq2
    cases hq2
    rcases hat with he | he
    · exact h.sep g hq he
    · have := (row_lt h.ra g hq).2; omega
theorem DocSt.put {wB W : World} {kq : Nat} {t : List UInt8} {P : List Kd} {va vb : Value} {k : Kd} (h : DocSt wB W kq t P va vb) (hk : Op.bytesLess k.t t = false) (hk2 : k.t = t) :
    DocSt wB (((W.setCell ⟨kq, 0, none⟩ (.string ⟨k.t.toArray⟩)).setCell ⟨kq, 1, none⟩ (.int .i64 k.m)).setCell ⟨kq, 2, none⟩ (.int .i64 k.b)) kq t (P ++ [k]) va vb := by
  have ha : aL (P ++ [k]) t = aL P t := by rw [aL_snoc, hk, if_neg (by decide)]
  have hb : bL (P ++ [k]) t = bL P t := by rw [bL_snoc, hk, decide_eq_true hk2]; rfl
  have hl : kL (P ++ [k]) t = k := by rw [kL_snoc, hk, decide_eq_true hk2]; rfl
  have hna : va.ownBlock ≠ some kq := fun e => by have := (row_lt h.ra kq e).1; have := h.kq; omega
  have hnb : vb.ownBlock ≠ some kq := fun e => by have := (row_lt h.rb kq e).1; have := h.kq; omega
  refine ⟨((h.off.trans (Off.set _ _ _)).trans (Off.set _ _ _)).trans (Off.set _ _ _), ?_, ?_, ?_, h.sep, h.kq⟩
  · rw [hl]
    exact ((h.blk.set 0 (.string ⟨k.t.toArray⟩)).set 1 (.int .i64 k.m)).set 2 (.int .i64 k.b)
  · rw [ha]; exact row_setOther (row_setOther (row_setOther h.ra _ hna) _ hna) _ hna
  · rw [hb]; exact row_setOther (row_setOther (row_setOther h.rb _ hnb) _ hnb) _ hnb

/-- what the document's step leads to -/
noncomputable def stepD (nx : Int) (K : List Kd) (x : Td) : Int × List Kd × Int :=
  if checkN nx K ≠ 0 then (0, [], 2) else if echeckN x.t x.d ≠ 0 then (0, [], echeckN x.t x.d) else if x.v ≠ nx then (0, [], 80)
  else if nx = 1073741824 ∨ (K.length = 256 ∧ (kL K x.t).m = 0) then (0, [], 60)
  else (nx + 1, aL K x.t ++ [⟨x.t, (kL K x.t).m + 1, (kL K x.t).b + x.d.length⟩] ++ bL K x.t, 0)
def DocR (w : World) (z : Int × List Kd × Int) (e : Ending) (w' : World) : Prop :=
  ∃ v, e = .returned (.tuple #[.agg #[.int .i64 z.1, v], .int .i64 z.2.2]) ∧ w'.ownsRow w.heap.size 55 3 v z.2.1.length (kcs z.2.1) ∧ Ext w w'

theorem dstep_c {ao : Option Addr} {n cap : Nat} {nx : Int} {K : List Kd} (x : Td) (w : World) (hx : Kds w ao n cap K) (hL : x.t.length ≤ 1000000 ∧ x.d.length ≤ 1000000) :
    Calls Try.prog 14 #[.agg #[.int .i64 nx, .slice ao n cap], tdV x] w (DocR w (stepD nx K x)) := by
  obtain ⟨s, v, t, d, fb⟩ := x
  obtain rfl : K.length = n := hx.len
  have f1 := hx.fits; have f2 := hx.bound
  have HCk := Lib.hid (fun W (k : Ext w W) => reffcheck_c nx ao K.length cap K W (hx.ext k))
  have HK := Lib.hid hx
  have hbs := (Blk.new w 31 #[.int .i64 nx, .slice ao K.length cap]).ext (ext_a2 _ (.cells (toldC s t d v .f64 fb) 44) (.cells #[.int .i64 0, .slice none 0 0] 31))
  have hbx := (Blk.new (w.alloc (.cells #[.int .i64 nx, .slice ao K.length cap] 31)) 44 (toldC s t d v .f64 fb)).ext (ext_a1 _ (.cells #[.int .i64 0, .slice none 0 0] 31))
  have hbr := Blk.new ((w.alloc (.cells #[.int .i64 nx, .slice ao K.length cap] 31)).alloc (.cells (toldC s t d v .f64 fb) 44)) 31 #[.int .i64 0, .slice none 0 0]
  have HE1 := Lib.hid ((ext_a1 w (.cells #[.int .i64 nx, .slice ao K.length cap] 31)).trans (ext_a2 _ (.cells (toldC s t d v .f64 fb) 44) (.cells #[.int .i64 0, .slice none 0 0] 31)))
  simp only [World.size_alloc] at hbx hbr
  unfold toldC at hbs hbx hbr HE1
  have HBs := Lib.hid hbs; have HBx := Lib.hid hbx; have HBr := Lib.hid hbr
  have s0 := hbs.cell 0
  have s1 := hbs.cell 1
  have HSd : Hid (stepD nx K ⟨s, v, t, d, fb⟩ = if checkN nx K ≠ 0 then (0, [], 2) else if echeckN t d ≠ 0 then (0, [], echeckN t d) else if v ≠ nx then (0, [], 80)
    else if nx = 1073741824 ∨ (K.length = 256 ∧ (kL K t).m = 0) then (0, [], 60) else (nx + 1, aL K t ++ [⟨t, (kL K t).m + 1, (kL K t).b + d.length⟩] ++ bL K t, 0)) := Lib.hid rfl
  have HEc := Lib.hid (fun W => refecheck_c t d .f64 fb W (Nat.le_trans hL.1 (by decide)) (Nat.le_trans hL.2 (by decide)))
  have hdl : d.length ≤ 1000000 := hL.2
  obtain ⟨z, hz⟩ : ∃ z, stepD nx K ⟨s, v, t, d, fb⟩ = z := ⟨_, rfl⟩
  rw [hz] at HSd ⊢
  clear hz hbs hbx hbr hL hx
  rcases check_cases nx K with hc | hc
  · rw [hc] at HCk HSd
    have hok := check_ok hc
    clear hc
    have HOk := Lib.hid hok
    have hc3 := echeck3 t d
    obtain ⟨c, hc⟩ : ∃ c, echeckN t d = c := ⟨_, rfl⟩
    rw [hc] at HEc HSd hc3
    rw [if_neg (by decide)] at HSd
    clear hc
    unfold tdV toldV
    go_enter Try.func14, Try.ntmps14
    go_wp2_with fail
    refine (HCk.out _ HE1.out).mono ?_
    rintro e w2 ⟨rfl, hw2⟩
    have HW2x := Lib.hid hw2
    have SX := Lib.hid (HBx.out.ext hw2)
    have x2 : w2.cell? ⟨w.heap.size + 1, 2, none⟩ = some (.string ⟨t.toArray⟩) := SX.out.cell 2
    have x3 : w2.cell? ⟨w.heap.size + 1, 3, none⟩ = some (.string ⟨d.toArray⟩) := SX.out.cell 3
    have x4 : w2.cell? ⟨w.heap.size + 1, 4, none⟩ = some (.float .f64 fb) := SX.out.cell 4
    clear hw2 s0 s1
    go_wp2_with fail
    refine (HEc.out _).mono ?_
    rintro e w3 ⟨rfl, hw3⟩
    have HW3 := Lib.hid (HW2x.out.trans hw3)
    clear SX x2 x3 x4 hw3 HW2x HCk
    have S1 := Lib.hid (HBr.out.ext HW3.out)
    have S0 := Lib.hid (HBs.out.ext HW3.out)
    have SX := Lib.hid (HBx.out.ext HW3.out)
    have r0 : w3.cell? ⟨w.heap.size + 1 + 1, 0, none⟩ = some (.int .i64 0) := S1.out.cell 0
    have r1 : w3.cell? ⟨w.heap.size + 1 + 1, 1, none⟩ = some (.slice none 0 0) := S1.out.cell 1
    have f0 := S1.out.free 0; have f1 := S1.out.free 1
    have s0 : w3.cell? ⟨w.heap.size, 0, none⟩ = some (.int .i64 nx) := S0.out.cell 0
    have s1 : w3.cell? ⟨w.heap.size, 1, none⟩ = some (.slice ao K.length cap) := S0.out.cell 1
    have x1 : w3.cell? ⟨w.heap.size + 1, 1, none⟩ = some (.int .i64 v) := SX.out.cell 1
    have x2 : w3.cell? ⟨w.heap.size + 1, 2, none⟩ = some (.string ⟨t.toArray⟩) := SX.out.cell 2
    have x3 : w3.cell? ⟨w.heap.size + 1, 3, none⟩ = some (.string ⟨d.toArray⟩) := SX.out.cell 3
    by_cases h0 : c = 0
    case neg =>
      have hzz : z = (0, [], c) := by rw [HSd.out, if_pos h0]
      subst hzz
      have hb : (c != 0) = true := by simpa using h0
      clear HSd h0 hc3
      go_wp2_with fail
      ((try simp only [Exit.inBlock, Exit.then]); refine bodyPost_ret (v := .tuple #[.agg #[_, _], _]) (by rw [results_cell_tmp rfl]; go_simp; exact ⟨⟨rfl, rfl⟩, rfl⟩) rfl ?_)
      exact ⟨_, rfl, World.ownsRow_nil _ _ _ _, ext_set2 (HE1.out.trans HW3.out) _ (by omega) _ _⟩
    case pos =>
    subst h0
    rw [if_neg (fun h => h rfl)] at HSd
    by_cases hv : v = nx
    case neg =>
      have hzz : z = (0, [], 80) := by rw [HSd.out, if_pos hv]
      subst hzz
      have hb : (v != nx) = true := by simpa using hv
      clear HSd hv hc3
      go_wp2_with fail
      ((try simp only [Exit.inBlock, Exit.then]); refine bodyPost_ret (v := .tuple #[.agg #[_, _], _]) (by rw [results_cell_tmp rfl]; go_simp; exact ⟨⟨rfl, rfl⟩, rfl⟩) rfl ?_)
      exact ⟨_, rfl, World.ownsRow_nil _ _ _ _, ext_set2 (HE1.out.trans HW3.out) _ (by omega) _ _⟩
    case pos =>
    rw [if_neg (fun h => h hv)] at HSd
    have hb : (v != nx) = false := by simpa using hv
    have hbd := hok.2.2.1
    clear hc3 hv hok
    have hsz3 : w.heap.size + 1 + 1 < w3.heap.size := S1.out.lt
    obtain ⟨KQ, hKQ⟩ : ∃ KQ, KQ = w3.heap.size := ⟨_, rfl⟩
    obtain ⟨wB, hwB⟩ : ∃ wB, wB = w3.alloc (.cells #[.string ⟨t.toArray⟩, .int .i64 0, .int .i64 0] 55) := ⟨_, rfl⟩
    have hd0 : DocSt wB wB KQ t [] (.slice none 0 0) (.slice none 0 0) := by
      rw [hwB, hKQ]
      exact ⟨Off.refl _ _, Blk.new w3 _ _, World.ownsRow_nil _ _ _ _, World.ownsRow_nil _ _ _ _, fun q h => by simp [Value.ownBlock] at h, by rw [World.size_alloc]; omega⟩
    have HD0 := Lib.hid hd0
    have hx3B : Ext w3 wB := by rw [hwB]; exact ext_a1 _ _
    have HXB := Lib.hid (HE1.out.trans (HW3.out.trans hx3B))
    have TB0 := Lib.hid (S0.out.ext hx3B); have TBX := Lib.hid (SX.out.ext hx3B); have TBR := Lib.hid (S1.out.ext hx3B)
    have HKQ := Lib.hid hKQ
    have hKQ0 : w.heap.size + 1 + 1 < KQ := by omega
    have HwB := Lib.hid hwB
    clear hd0 hx3B hKQ hwB
    go_wp2_with fail
    have hF : ∀ W P va vb, DocSt wB W KQ t P va vb → Ext w W ∧ Blk W w.heap.size 31 #[.int .i64 nx, .slice ao K.length cap] ∧ Blk W (w.heap.size + 1) 44 #[.string ⟨s.toArray⟩, .int .i64 v, .string ⟨t.toArray⟩, .string ⟨d.toArray⟩, .float .f64 fb] ∧
        Blk W (w.heap.size + 1 + 1) 31 #[.int .i64 0, .slice none 0 0] ∧ W.cell? ⟨KQ, 0, none⟩ = some (.string ⟨t.toArray⟩) := fun W P va vb h => by
      refine ⟨Off.ext HXB.out (by omega) h.off, Off.blk TB0.out (by omega) h.off, Off.blk TBX.out (by omega) h.off, Off.blk TBR.out (by omega) h.off, ?_⟩
      have h1 := h.blk.cell 0
      have h2 : (kL P t).t = t := kL_t t P _ rfl
      rw [h2] at h1
      exact h1
    have HF := Lib.hid hF
    clear hF r0 r1 f0 f1 s0 s1 x1 x2 x3 S0 S1 SX HEc
    obtain ⟨i1, hi1, hz1, hsize1, hby1⟩ := info_parts Try.infoKd
    have HI := Lib.hid hi1; have HZ := Lib.hid hz1; have HSz := Lib.hid hsize1; have HBy := Lib.hid hby1
    clear hi1 hz1 hsize1 hby1
    have HKs := Lib.hid HOk.out.sorted
    rw [← HwB.out, ← HKQ.out]
    go_loopw [8, 9, 10] (fun va vb i W => ∃ j : Nat, j ≤ K.length ∧ i = .int .i64 (j : Int) ∧ DocSt wB W KQ t (K.take j) va vb) (fun _ _ i _ => K.length - (intOf i).toNat)
    case atStart => exact ⟨0, Nat.zero_le _, rfl, HD0.out⟩
    case round =>
      obtain ⟨j, hj, rfl, hds⟩ := hrel
      obtain ⟨hXW, hS, hXx, hR, k0⟩ := HF.out _ _ _ _ hds
      have s1 : wr.cell? ⟨w.heap.size, 1, none⟩ = some (.slice ao K.length cap) := hS.cell 1
      by_cases hlt : j < K.length
      · have hd : decide ((j : Int) < (K.length : Int)) = true := decide_eq_true (by omega)
        have q1 : IntKind.i64.wrap ((j : Int) + 1) = (j : Int) + 1 := by rw [IntKind.wrap_i64]; omega
        have q5 : (j : Int) < (K.length : Int) := by omega
        obtain ⟨b, off, rfl, c0, c1, c2⟩ := (HK.out.ext hXW).at hlt
        have htk : K.take (j + 1) = K.take j ++ [K.getD j kd0] := take_succ_kd K j hlt
        have hds2 := hds.ext (Ext.refl wr).drew
        have hla : (aL (K.take j) t).length ≤ 256 := Nat.le_trans (List.length_filter_le _ _) (by rw [List.length_take]; omega)
        have hlb : (bL (K.take j) t).length ≤ 256 := Nat.le_trans (List.length_filter_le _ _) (by rw [List.length_take]; omega)
        have hkqw : KQ < wr.heap.size := hds.blk.lt
        generalize K.getD j kd0 = kk at *
        obtain ⟨kt, km, kb⟩ := kk
        have HTk := Lib.hid htk
        have HDs := Lib.hid hds; have HDs2 := Lib.hid hds2
        have s1d : wr.drew.cell? ⟨w.heap.size, 1, none⟩ = some (.slice (some ⟨b, off, none⟩) K.length cap) := s1
        have c0d : wr.drew.cell? ⟨b, off + j * 3, none⟩ = some (.string ⟨kt.toArray⟩) := c0
        have c1d : wr.drew.cell? ⟨b, off + j * 3 + 1, none⟩ = some (.int .i64 km) := c1
        have c2d : wr.drew.cell? ⟨b, off + j * 3 + 2, none⟩ = some (.int .i64 kb) := c2
        have k0d : wr.drew.cell? ⟨KQ, 0, none⟩ = some (.string ⟨t.toArray⟩) := k0
        clear hds hds2 htk hXW hS hXx hR
        cases hl : Op.bytesLess kt t with
        | true =>
          have HNews : Hid (∀ i u, (kc ⟨kt, km, kb⟩)[i]? = some u → ((wr.drew).alloc (.cells #[.string ⟨kt.toArray⟩, .int .i64 km, .int .i64 kb] 55)).cell? ((⟨wr.heap.size, 0, none⟩ : Addr).add i) = some u) := Lib.hid fun i u hi => by
            rw [Addr.add_lit, Nat.zero_add]
            have := (Blk.new wr.drew 55 #[.string ⟨kt.toArray⟩, .int .i64 km, .int .i64 kb]).cell i
            rw [show wr.drew.heap.size = wr.heap.size from rfl] at this
            rw [this]; simpa [kc] using hi
          have HD3 := Lib.hid (HDs2.out.ext (ext_a1 wr.drew (.cells #[.string ⟨kt.toArray⟩, .int .i64 km, .int .i64 kb] 55)))
          go_wp2_with fail
          go_region
          go_wp2_with (at_builtin; refine wpList_append_lies _ rfl _ _ 29 rfl wB.heap.size 55 i1 _ 3 32 Try.underlying29 HI.out HZ.out HSz.out HBy.out (by decide) (by decide) _ (aL (K.take j) t).length (kcs (aL (K.take j) t)) (by simp [Act.eval]) HD3.out.ra ⟨wr.heap.size, 0, none⟩ 1 1 (kc ⟨kt, km, kb⟩) (by simp [Act.eval]) rfl HNews.out (kc_one _) (by decide) (by unfold maxLen; omega) (by omega) HD3.out.off.size _ rfl ?_; intro g cap1 w1 hown hgrow hat hlt2; have HD4 := Lib.hid (HD3.out.appA hl hown hgrow hat); clear hown hgrow hat)
          go_roundw
          case rel => exact ⟨j + 1, by omega, by go_num, by rw [HTk.out]; exact HD4.out⟩
          case measure => simp [intOf]; omega
        | false =>
          have s1e : wr.drew.drew.cell? ⟨w.heap.size, 1, none⟩ = some (.slice (some ⟨b, off, none⟩) K.length cap) := s1
          have c0e : wr.drew.drew.cell? ⟨b, off + j * 3, none⟩ = some (.string ⟨kt.toArray⟩) := c0
          have c1e : wr.drew.drew.cell? ⟨b, off + j * 3 + 1, none⟩ = some (.int .i64 km) := c1
          have c2e : wr.drew.drew.cell? ⟨b, off + j * 3 + 2, none⟩ = some (.int .i64 kb) := c2
          have k0e : wr.drew.drew.cell? ⟨KQ, 0, none⟩ = some (.string ⟨t.toArray⟩) := k0
          have hds4 := HDs2.out.ext (Ext.refl wr.drew).drew
          have HDs4 := Lib.hid hds4
          have k1e : wr.drew.drew.cell? ⟨KQ, 1, none⟩ = some (.int .i64 (kL (K.take j) t).m) := hds4.blk.cell 1
          have k2e : wr.drew.drew.cell? ⟨KQ, 2, none⟩ = some (.int .i64 (kL (K.take j) t).b) := hds4.blk.cell 2
          have g0 := hds4.blk.free 0; have g1 := hds4.blk.free 1; have g2 := hds4.blk.free 2
          clear hds4
          by_cases he : kt = t
          · have he2 : (kt == t) = true := by simpa using he
            have HD4 := Lib.hid ((HDs.out.put (k := ⟨kt, km, kb⟩) hl he).ext (Ext.drew (Ext.drew (Ext.refl _))))
            have k1w : wr.cell? ⟨KQ, 1, none⟩ = some (.int .i64 (kL (K.take j) t).m) := HDs.out.blk.cell 1
            have k2w : wr.cell? ⟨KQ, 2, none⟩ = some (.int .i64 (kL (K.take j) t).b) := HDs.out.blk.cell 2
            have g0w := HDs.out.blk.free 0; have g1w := HDs.out.blk.free 1; have g2w := HDs.out.blk.free 2
            clear he
            go_wp2_with fail
            go_region
            go_wp2_with fail
            go_region
            go_wp2_with fail
            go_roundw
            case rel => exact ⟨j + 1, by omega, by go_num, by rw [HTk.out]; exact HD4.out⟩
            case measure => simp [intOf]; omega
          · have he2 : (kt == t) = false := by simpa using he
            have HNews : Hid (∀ i u, (kc ⟨kt, km, kb⟩)[i]? = some u → ((wr.drew.drew).alloc (.cells #[.string ⟨kt.toArray⟩, .int .i64 km, .int .i64 kb] 55)).cell? ((⟨wr.heap.size, 0, none⟩ : Addr).add i) = some u) := Lib.hid fun i u hi => by
              rw [Addr.add_lit, Nat.zero_add]
              have := (Blk.new wr.drew.drew 55 #[.string ⟨kt.toArray⟩, .int .i64 km, .int .i64 kb]).cell i
              rw [show wr.drew.drew.heap.size = wr.heap.size from rfl] at this
              rw [this]; simpa [kc] using hi
            have HD3 := Lib.hid (HDs4.out.ext (ext_a1 wr.drew.drew (.cells #[.string ⟨kt.toArray⟩, .int .i64 km, .int .i64 kb] 55)))
            have HNe := Lib.hid he
            clear he
            go_wp2_with fail
            go_region
            go_wp2_with fail
            go_region
            go_wp2_with (at_builtin; refine wpList_append_lies _ rfl _ _ 29 rfl wB.heap.size 55 i1 _ 3 32 Try.underlying29 HI.out HZ.out HSz.out HBy.out (by decide) (by decide) _ (bL (K.take j) t).length (kcs (bL (K.take j) t)) (by simp [Act.eval]) HD3.out.rb ⟨wr.heap.size, 0, none⟩ 1 1 (kc ⟨kt, km, kb⟩) (by simp [Act.eval]) rfl HNews.out (kc_one _) (by decide) (by unfold maxLen; omega) (by omega) HD3.out.off.size _ rfl ?_; intro g cap1 w1 hown hgrow hat hlt2; have HD4 := Lib.hid (HD3.out.appB hl HNe.out hown hgrow hat); clear hown hgrow hat)
            go_roundw
            case rel => exact ⟨j + 1, by omega, by go_num, by rw [HTk.out]; exact HD4.out⟩
            case measure => simp [intOf]; omega
      · have hd : decide ((j : Int) < (K.length : Int)) = false := decide_eq_false (by omega)
        have hjk : K.take j = K := List.take_of_length_le (by omega)
        rw [hjk] at hds
        have HDs := Lib.hid hds
        have s0 : wr.cell? ⟨w.heap.size, 0, none⟩ = some (.int .i64 nx) := hS.cell 0
        have k1 : wr.cell? ⟨KQ, 1, none⟩ = some (.int .i64 (kL K t).m) := hds.blk.cell 1
        clear hjk hS hXx hR
        have k2 : wr.cell? ⟨KQ, 2, none⟩ = some (.int .i64 (kL K t).b) := hds.blk.cell 2
        have g1 := hds.blk.free 1; have g2 := hds.blk.free 2
        have x3 : wr.cell? ⟨w.heap.size + 1, 3, none⟩ = some (.string ⟨d.toArray⟩) := (HF.out _ _ _ _ hds).2.2.1.cell 3
        have hRb := (HF.out _ _ _ _ hds).2.2.2.1
        have HRb := Lib.hid hRb
        have r0 : wr.cell? ⟨w.heap.size + 1 + 1, 0, none⟩ = some (.int .i64 0) := hRb.cell 0
        have r1 : wr.cell? ⟨w.heap.size + 1 + 1, 1, none⟩ = some (.slice none 0 0) := hRb.cell 1
        have f0 := hRb.free 0; have f1 := hRb.free 1
        have HXW := Lib.hid hXW
        clear hRb hds hXW
        by_cases hfull : nx = 1073741824 ∨ (K.length = 256 ∧ (kL K t).m = 0)
        · have hzz : z = (0, [], 60) := by rw [HSd.out, if_pos hfull]
          subst hzz
          have hcase : (nx == 1073741824) = true ∨ ((nx == 1073741824) = false ∧ ((K.length : Int) == 256) = true ∧ ((kL K t).m == 0) = true) := by
            by_cases h1 : nx = 1073741824
            · exact .inl (by simpa using h1)
            · rcases hfull with h | ⟨h, h2⟩
              · exact absurd h h1
              · exact .inr ⟨by simpa using h1, by simp; omega, by simpa using h2⟩
          clear hfull HSd
          rcases hcase with h1 | ⟨h1, h2, h3⟩
          all_goals
            go_wp2_with fail
            ((try simp only [Exit.inBlock, Exit.then]); refine bodyPost_ret (v := .tuple #[.agg #[_, _], _]) (by rw [results_cell_tmp rfl]; go_simp; exact ⟨⟨rfl, rfl⟩, rfl⟩) rfl ?_)
            exact ⟨_, rfl, World.ownsRow_nil _ _ _ _, ext_set2 HXW.out _ (by omega) _ _⟩
        · have hzz : z = (nx + 1, aL K t ++ [⟨t, (kL K t).m + 1, (kL K t).b + d.length⟩] ++ bL K t, 0) := by rw [HSd.out, if_neg hfull]
          have HZz := Lib.hid hzz
          have h1 : (nx == 1073741824) = false := by simp; exact fun h => hfull (.inl h)
          have hcase : ((K.length : Int) == 256) = false ∨ (((K.length : Int) == 256) = true ∧ ((kL K t).m == 0) = false) := by
            by_cases h2 : K.length = 256
            · exact .inr ⟨by simp; omega, by simp; exact fun h => hfull (.inr ⟨h2, h⟩)⟩
            · exact .inl (by simp; omega)
          clear hfull HSd hzz
          have hkb := kL_bounds (t := t) HOk.out.bounds
          have hna : (aL K t).length ≤ 256 := Nat.le_trans (List.length_filter_le _ _) hbd
          have hnb : (bL K t).length ≤ 256 := Nat.le_trans (List.length_filter_le _ _) hbd
          have hkt : (kL K t).t = t := kL_t t K _ rfl
          have hDb := HDs.out.blk
          rw [hkt] at hDb
          generalize (kL K t).m = m0 at *
          generalize (kL K t).b = b0 at *
          have q1 : IntKind.i64.wrap (m0 + 1) = m0 + 1 := by rw [IntKind.wrap_i64]; omega
          have q2 : IntKind.i64.wrap (b0 + (d.length : Int)) = b0 + (d.length : Int) := by rw [IntKind.wrap_i64]; omega
          have hnx := HOk.out.1; have hnx1 := HOk.out.2.1
          have q3 : IntKind.i64.wrap (nx + 1) = nx + 1 := by rw [IntKind.wrap_i64]; omega
          have hkq := HDs.out.kq
          have hna1 : u8.ownBlock ≠ some KQ := fun e => by have := (row_lt HDs.out.ra KQ e).1; omega
          have hnb1 : u9.ownBlock ≠ some KQ := fun e => by have := (row_lt HDs.out.rb KQ e).1; omega
          have hra := row_drew (row_setOther (row_setOther HDs.out.ra (a := ⟨KQ, 1, none⟩) (.int .i64 (m0 + 1)) hna1) (a := ⟨KQ, 2, none⟩) (.int .i64 (b0 + (d.length : Int))) hna1)
          have hrb := row_drew (row_setOther (row_setOther HDs.out.rb (a := ⟨KQ, 1, none⟩) (.int .i64 (m0 + 1)) hnb1) (a := ⟨KQ, 2, none⟩) (.int .i64 (b0 + (d.length : Int))) hnb1)
          have hbk := Blk.drew ((hDb.set 1 (.int .i64 (m0 + 1))).set 2 (.int .i64 (b0 + (d.length : Int))))
          have hof : Off KQ wB ((wr.setCell ⟨KQ, 1, none⟩ (.int .i64 (m0 + 1))).setCell ⟨KQ, 2, none⟩ (.int .i64 (b0 + (d.length : Int)))).drew := ((HDs.out.off.trans (Off.set _ _ _)).trans (Off.set _ _ _)).drew
          obtain ⟨va, vac, rfl⟩ := row_slice HDs.out.ra
          obtain ⟨vb, vbc, rfl⟩ := row_slice HDs.out.rb
          have HRa := Lib.hid hra; have HRbb := Lib.hid hrb; have HBk := Lib.hid hbk; have HOf := Lib.hid hof
          have HSep := Lib.hid HDs.out.sep
          clear hkb hkt hDb hna1 hnb1 hra hrb hbk hof
          rcases hcase with h2 | ⟨h2, h3⟩
          all_goals
            go_wp2_with fail
            go_region
            revert HRa HRbb HBk HOf
            generalize ((wr.setCell ⟨KQ, 1, none⟩ (.int .i64 (m0 + 1))).setCell ⟨KQ, 2, none⟩ (.int .i64 (b0 + (d.length : Int)))).drew = W5
            intro HRa HRbb HBk HOf
            have HX5 : Hid (Ext w W5) := Lib.hid (Off.ext HXB.out (by omega) HOf.out)
            have HRt : Hid (Blk W5 (w.heap.size + 1 + 1) 31 #[.int .i64 0, .slice none 0 0]) := Lib.hid (Off.blk TBR.out (by omega) HOf.out)
            have HSt : Hid (Blk W5 w.heap.size 31 #[.int .i64 nx, .slice ao K.length cap]) := Lib.hid (Off.blk TB0.out (by omega) HOf.out)
            have s0 : W5.cell? ⟨w.heap.size, 0, none⟩ = some (.int .i64 nx) := HSt.out.cell 0
            have k0 : W5.cell? ⟨KQ, 0, none⟩ = some (.string ⟨t.toArray⟩) := HBk.out.cell 0
            have k1 : W5.cell? ⟨KQ, 1, none⟩ = some (.int .i64 (m0 + 1)) := HBk.out.cell 1
            have k2 : W5.cell? ⟨KQ, 2, none⟩ = some (.int .i64 (b0 + (d.length : Int))) := HBk.out.cell 2
            have r0 : W5.cell? ⟨w.heap.size + 1 + 1, 0, none⟩ = some (.int .i64 0) := HRt.out.cell 0
            have r1 : W5.cell? ⟨w.heap.size + 1 + 1, 1, none⟩ = some (.slice none 0 0) := HRt.out.cell 1
            have f0 := HRt.out.free 0; have f1 := HRt.out.free 1
            have hal := ext_a1 W5 (.cells #[.string ⟨t.toArray⟩, .int .i64 (m0 + 1), .int .i64 (b0 + (d.length : Int))] 55)
            have HXa := Lib.hid (Ext.drew hal)
            have HNews : Hid (Rd ((W5.alloc (.cells #[.string ⟨t.toArray⟩, .int .i64 (m0 + 1), .int .i64 (b0 + (d.length : Int))] 55)).drew) (some ⟨W5.heap.size, 0, none⟩) (kc ⟨t, m0 + 1, b0 + (d.length : Int)⟩)) := Lib.hid fun i u hi => ⟨_, _, rfl, by
              have := (Blk.new W5 55 #[.string ⟨t.toArray⟩, .int .i64 (m0 + 1), .int .i64 (b0 + (d.length : Int))]).drew.cell i
              rw [Nat.zero_add, this]; simpa [kc] using hi⟩
            have HS5 : Hid (∀ W, Ext W5 W → W.cell? ⟨w.heap.size, 0, none⟩ = some (.int .i64 nx) ∧ W.cell? ⟨KQ, 0, none⟩ = some (.string ⟨t.toArray⟩) ∧ W.cell? ⟨KQ, 1, none⟩ = some (.int .i64 (m0 + 1)) ∧ W.cell? ⟨KQ, 2, none⟩ = some (.int .i64 (b0 + (d.length : Int)))) := Lib.hid fun W k => ⟨(HSt.out.ext k).cell 0, (HBk.out.ext k).cell 0, (HBk.out.ext k).cell 1, (HBk.out.ext k).cell 2⟩
            have HFo : Hid (∀ W, Off KQ wB W → W.cell? ⟨w.heap.size, 0, none⟩ = some (.int .i64 nx) ∧ W.cell? ⟨w.heap.size + 1 + 1, 0, none⟩ = some (.int .i64 0) ∧ W.cell? ⟨w.heap.size + 1 + 1, 1, none⟩ = some (.slice none 0 0) ∧ W.frozen? ⟨w.heap.size + 1 + 1, 0, none⟩ = false ∧ W.frozen? ⟨w.heap.size + 1 + 1, 1, none⟩ = false) := Lib.hid fun W h => by
              have a1 := Off.blk TB0.out (by omega) h
              have a2 := Off.blk TBR.out (by omega) h
              exact ⟨a1.cell 0, a2.cell 0, a2.cell 1, a2.free 0, a2.free 1⟩
            have hl5 : w.heap.size < W5.heap.size := HSt.out.lt
            have hn5 : w.heap.size ≠ W5.heap.size := Nat.ne_of_lt hl5
            clear hal
            go_wp2_with fail
            go_region_law (first
              | (refine step_append_own rfl (.tmp 108) (.tmp 110) 29 rfl wB.heap.size 55 _ 3 32 Try.underlying29 Try.infoKd (by decide) (by decide) (.slice va (aL K t).length vac) (aL K t).length (kcs (aL K t)) rfl (row_ext HRa.out HXa.out) (some ⟨W5.heap.size, 0, none⟩) 1 1 (kc ⟨t, m0 + 1, b0 + (d.length : Int)⟩) rfl rfl (fun h => by cases h) HNews.out (kc_one _) (by unfold maxLen; omega) (by omega) (Nat.le_trans HOf.out.size HXa.out.size) ?_; intro v1 w1 hown hgrow hat; have HOw1 := Lib.hid hown; have HO1 := Lib.hid ((HOf.out.trans (Off.of_ext HXa.out)).grownP hgrow (fun q hq => (row_lt HRa.out q hq).1)); have HRb1 := Lib.hid (row_same (row_ext HRbb.out HXa.out) (fun q hq => hgrow.block q (row_lt (row_ext HRbb.out HXa.out) q hq).2 (fun e => HSep.out q e.symm hq))); have s01 := (HFo.out _ HO1.out).1; clear hown hgrow hat)
              | (refine step_append_own rfl (.tmp 111) (.tmp 112) 29 rfl wB.heap.size 55 _ 3 32 Try.underlying29 Try.infoKd (by decide) (by decide) v1 ((aL K t).length + 1) (kcs (aL K t) ++ kc ⟨t, m0 + 1, b0 + (d.length : Int)⟩) rfl HOw1.out vb (bL K t).length vbc (kcs (bL K t)) rfl (kcs_length _) (row_caps2 HRb1.out) (row_rd HRb1.out) (kcs_one _) (by unfold maxLen; omega) (by omega) HO1.out.size ?_; intro v2 w2 hown hgrow hat; obtain ⟨v2a, v2c, rfl⟩ := row_slice hown; have HOw2 := Lib.hid hown; have HO2 := Lib.hid (HO1.out.grownP hgrow (fun q hq => (row_lt HOw1.out q hq).1)); obtain ⟨s02, r02, r12, f02, f12⟩ := HFo.out _ HO2.out; clear hown hgrow hat))
            all_goals
              have hne2 : (Value.slice v2a ((aL K t).length + 1 + (bL K t).length) v2c).ownBlock ≠ some (w.heap.size + 1 + 1) := fun e => by have := (row_lt HOw2.out _ e).1; omega
              have HNe2 := Lib.hid hne2
              clear hne2
              go_wp2_with fail
              ((try simp only [Exit.inBlock, Exit.then]); refine bodyPost_ret (v := .tuple #[.agg #[_, _], _]) (by rw [results_cell_tmp rfl]; go_simp; exact ⟨⟨rfl, rfl⟩, rfl⟩) rfl ?_)
              rw [HZz.out]
              refine ⟨_, rfl, ?_, ext_set2 (Off.ext HXB.out (by omega) HO2.out) _ (by omega) _ _⟩
              have h := row_setOther (row_setOther (row_base HOw2.out HXB.out.size) (a := ⟨w.heap.size + 1 + 1, 0, none⟩) (.int .i64 (nx + 1)) HNe2.out) (a := ⟨w.heap.size + 1 + 1, 1, none⟩) (.slice v2a ((aL K t).length + 1 + (bL K t).length) v2c) HNe2.out
              obtain ⟨kn, hkn⟩ : ∃ kn : Kd, kn = ⟨t, m0 + 1, b0 + (d.length : Int)⟩ := ⟨_, rfl⟩
              rw [← hkn] at h
              have e1 : (aL K t ++ [kn] ++ bL K t).length = (aL K t).length + 1 + (bL K t).length := by rw [List.length_append, List.length_append, List.length_singleton]
              have e2 : kcs (aL K t ++ [kn] ++ bL K t) = kcs (aL K t) ++ kc kn ++ kcs (bL K t) := by rw [kcs_append, kcs_snoc]
              simp only [← hkn]
              rw [e1, e2]
              exact h
  · rw [hc] at HCk HSd
    have hzz : z = (0, [], 2) := by rw [HSd.out, if_pos (by decide)]
    subst hzz
    clear hc HSd
    unfold tdV toldV
    go_enter Try.func14, Try.ntmps14
    go_wp2_with fail
    refine (HCk.out _ HE1.out).mono ?_
    rintro e w2 ⟨rfl, hw2⟩
    have HW2 := Lib.hid (HE1.out.trans hw2)
    have S1 := Lib.hid (HBr.out.ext hw2)
    have r0 : w2.cell? ⟨w.heap.size + 1 + 1, 0, none⟩ = some (.int .i64 0) := S1.out.cell 0
    have r1 : w2.cell? ⟨w.heap.size + 1 + 1, 1, none⟩ = some (.slice none 0 0) := S1.out.cell 1
    have f0 := S1.out.free 0; have f1 := S1.out.free 1
    clear hw2
    go_wp2_with fail
    ((try simp only [Exit.inBlock, Exit.then]); refine bodyPost_ret (v := .tuple #[.agg #[_, _], _]) (by rw [results_cell_tmp rfl]; go_simp; exact ⟨⟨rfl, rfl⟩, rfl⟩) rfl ?_)
    exact ⟨_, rfl, World.ownsRow_nil _ _ _ _, ext_set2 HW2.out _ (by omega) _ _⟩

end Go.Proofs.Ytmopfhkppjcgbaa
namespace Go.Proofs.Ytmopfhkppjcgbaa
open Go.RowKit

theorem kL_skip (t : List UInt8) : ∀ (P : List Kd) (acc : Kd), (∀ k ∈ P, (!Op.bytesLess k.t t && decide (k.t = t)) = false) → P.foldl (fun acc k => if !Op.bytesLess k.t t && decide (k.t = t) then k else acc) acc = acc
  | [], acc, _ => rfl
  | k :: r, acc, h => by
    rw [List.foldl_cons, h k (by simp), if_neg (by decide)]
    exact kL_skip t r acc fun x hx => h x (by simp [hx])
theorem skip_less {k : Kd} {t : List UInt8} (h : Op.bytesLess k.t t = true) : (!Op.bytesLess k.t t && decide (k.t = t)) = false := by rw [h]; rfl
theorem skip_more {k : Kd} {t : List UInt8} (h : Op.bytesLess t k.t = true) : (!Op.bytesLess k.t t && decide (k.t = t)) = false := by
  have hne : k.t ≠ t := fun e => by rw [e, bl_irrefl] at h; cases h
  rw [decide_eq_false hne]; simp
theorem bL_eq {K : List Kd} (t : List UInt8) : bL K t = K.filter fun k => Op.bytesLess t k.t := by
  unfold bL
  refine List.filter_congr fun k _ => ?_
  cases h1 : Op.bytesLess k.t t with
  | true => rw [bl_asymm h1]; rfl
  | false =>
    cases h2 : Op.bytesLess t k.t with
    | true =>
      have hne : k.t ≠ t := fun e => by rw [e, bl_irrefl] at h2; cases h2
      rw [decide_eq_false hne]; rfl
    | false => rw [decide_eq_true (bl_total h1 h2)]; rfl
theorem kL_has {K : List Kd} {t : List UInt8} (hs : sortK K) (hh : hasK K t = true) : kL K t = K.getD (lbK K t) kd0 := by
  have hd := behind_has hs hh
  have h1 : K = K.take (lbK K t) ++ K.getD (lbK K t) kd0 :: K.filter fun k => Op.bytesLess t k.t := by
    conv => lhs; rw [← List.take_append_drop (lbK K t) K, hd]
  have hkt : (K.getD (lbK K t) kd0).t = t := by
    unfold hasK at hh
    rw [Bool.and_eq_true, decide_eq_true_eq, decide_eq_true_eq] at hh
    exact hh.2
  unfold kL
  conv => lhs; rw [h1]
  rw [List.foldl_append, kL_skip t (K.take (lbK K t)) _ (fun k hk => by rw [take_lb t hs] at hk; exact skip_less (List.mem_filter.1 hk).2), List.foldl_cons, kL_skip t _ _ (fun k hk => skip_more (List.mem_filter.1 hk).2), hkt, bl_irrefl, decide_eq_true rfl]
  rfl
theorem kL_no {K : List Kd} {t : List UInt8} (hs : sortK K) (hh : hasK K t = false) : kL K t = ⟨t, 0, 0⟩ := by
  have hd := behind_no hs hh
  have h1 : K = K.take (lbK K t) ++ K.filter fun k => Op.bytesLess t k.t := by
    conv => lhs; rw [← List.take_append_drop (lbK K t) K, hd]
  unfold kL
  conv => lhs; rw [h1]
  rw [List.foldl_append, kL_skip t (K.take (lbK K t)) _ (fun k hk => by rw [take_lb t hs] at hk; exact skip_less (List.mem_filter.1 hk).2), kL_skip t _ _ (fun k hk => skip_more (List.mem_filter.1 hk).2)]

theorem stepD_eq {nx : Int} {K : List Kd} (h : okState nx K) (x : Td) : stepD nx K x = if stepE nx K x.v x.t x.d = 0 then (nx + 1, addK K x.t x.d.length, 0) else (0, [], stepE nx K x.v x.t x.d) := by
  obtain ⟨s, v, t, d, b⟩ := x
  have hs := h.sorted
  have hck : ¬ (checkN nx K ≠ 0) := by rw [checkN_yes h]; decide
  show stepD nx K ⟨s, v, t, d, b⟩ = if stepE nx K v t d = 0 then (nx + 1, addK K t d.length, 0) else (0, [], stepE nx K v t d)
  by_cases he : echeckN t d ≠ 0
  · have hE : stepE nx K v t d = echeckN t d := by unfold stepE; rw [if_pos he]
    have hD : stepD nx K ⟨s, v, t, d, b⟩ = (0, [], echeckN t d) := by unfold stepD; simp only; rw [if_neg hck, if_pos he]
    rw [hE, hD, if_neg he]
  · by_cases hv : v ≠ nx
    · have hE : stepE nx K v t d = 80 := by unfold stepE; rw [if_neg he, if_pos hv]
      have hD : stepD nx K ⟨s, v, t, d, b⟩ = (0, [], 80) := by unfold stepD; simp only; rw [if_neg hck, if_neg he, if_pos hv]
      rw [hE, hD, if_neg (by decide)]
    · have hE : stepE nx K v t d = if fullK nx K t then 60 else 0 := by unfold stepE; rw [if_neg he, if_neg hv]
      have hD : stepD nx K ⟨s, v, t, d, b⟩ = if nx = 1073741824 ∨ (K.length = 256 ∧ (kL K t).m = 0) then (0, [], 60)
          else (nx + 1, aL K t ++ [⟨t, (kL K t).m + 1, (kL K t).b + d.length⟩] ++ bL K t, 0) := by unfold stepD; simp only; rw [if_neg hck, if_neg he, if_neg hv]
      rw [hE, hD]
      have hb2 := h.2.1; have hb3 := h.2.2.1
      cases hh : hasK K t with
      | true =>
        have hk := kL_has hs hh
        have hl : lbK K t < K.length := by
          unfold hasK at hh
          rw [Bool.and_eq_true, decide_eq_true_eq] at hh
          exact hh.1
        have hm := (okState_iff.1 h).2.2.2.1 (K.getD (lbK K t) kd0) (by rw [List.getD_eq_getElem?_getD, List.getElem?_eq_getElem hl]; exact List.getElem_mem hl)
        have hf : fullK nx K t = decide (1073741824 ≤ nx) := by unfold fullK; rw [hh]; simp
        rw [hf, hk]
        by_cases hn : nx = 1073741824
        · rw [if_pos (show nx = 1073741824 ∨ _ from .inl hn), decide_eq_true (show 1073741824 ≤ nx by omega)]
          rfl
        · rw [if_neg (show ¬ (nx = 1073741824 ∨ (K.length = 256 ∧ (K.getD (lbK K t) kd0).m = 0)) by rintro (h1 | ⟨_, h1⟩); exact hn h1; omega), decide_eq_false (show ¬ 1073741824 ≤ nx by omega)]
          show _ = (nx + 1, addK K t d.length, 0)
          have ha : addK K t d.length = K.set (lbK K t) ⟨t, (K.getD (lbK K t) kd0).m + 1, (K.getD (lbK K t) kd0).b + d.length⟩ := by unfold addK; rw [hh, if_pos rfl]
          have hd := behind_has hs hh
          rw [ha, List.set_eq_take_append_cons_drop, if_pos hl, bL_eq]
          have hd2 : K.drop (lbK K t + 1) = K.filter fun k => Op.bytesLess t k.t := by
            rw [List.drop_eq_getElem_cons hl] at hd
            exact (List.cons.inj hd).2
          rw [hd2, take_lb t hs]
          unfold aL
          rw [List.append_assoc]
          rfl
      | false =>
        have hk := kL_no hs hh
        have hf : fullK nx K t = (decide (1073741824 ≤ nx) || decide (256 ≤ K.length)) := by unfold fullK; rw [hh]; simp
        rw [hf, hk]
        by_cases hn : nx = 1073741824 ∨ K.length = 256
        · have hd : (decide (1073741824 ≤ nx) || decide (256 ≤ K.length)) = true := by
            rcases hn with h1 | h1
            · rw [decide_eq_true (show 1073741824 ≤ nx by omega)]; rfl
            · rw [decide_eq_true (show 256 ≤ K.length by omega)]; simp
          rw [if_pos (show nx = 1073741824 ∨ (K.length = 256 ∧ (0 : Int) = 0) by rcases hn with h1 | h1; exact .inl h1; exact .inr ⟨h1, rfl⟩), hd]
          rfl
        · have hd : (decide (1073741824 ≤ nx) || decide (256 ≤ K.length)) = false := by
            rw [decide_eq_false (show ¬ 1073741824 ≤ nx by omega), decide_eq_false (show ¬ 256 ≤ K.length by omega)]; rfl
          rw [if_neg (show ¬ (nx = 1073741824 ∨ (K.length = 256 ∧ (0 : Int) = 0)) by rintro (h1 | ⟨h1, _⟩); exact hn (.inl h1); exact hn (.inr h1)), hd]
          show _ = (nx + 1, addK K t d.length, 0)
          have ha : addK K t d.length = K.take (lbK K t) ++ ⟨t, 1, d.length⟩ :: K.drop (lbK K t) := by unfold addK; rw [hh, if_neg (by decide)]
          rw [ha, bL_eq, behind_no hs hh, take_lb t hs]
          unfold aL
          rw [List.append_assoc]
          simp

end Go.Proofs.Ytmopfhkppjcgbaa
namespace Go.Proofs.Ytmopfhkppjcgbaa
open Go.RowKit

set_option maxRecDepth 100000
set_option linter.unusedVariables false
set_option maxHeartbeats 12800000

theorem run_store_floatO (P : Program) (w : World) (a : Addr) (m : Mode) (k : FloatKind) (b : Nat) : (store a (.float k b) m).run P w = stored P w a (.float k b) m := run_store P w a _ m rfl
attribute [local go_sem] run_store_floatO

/-- a state that lies in a box, its kinds elsewhere -/
structure BoxS (w W : World) (g : Nat) (nx : Int) (K : List Kd) (va : Option Addr) (vc : Nat) : Prop where
  off : Off g w W
  blk : Blk W g 31 #[.int .i64 nx, .slice va K.length vc]
  kds : Kds W va K.length vc K
  ne : ∀ q o p, va = some ⟨q, o, p⟩ → q ≠ g ∧ q ≠ g + 1

theorem Kds.of_row {w : World} {B : Nat} {e : TypeId} {v : Value} {K : List Kd} {va : Option Addr} {vc : Nat} (h : w.ownsRow B e 3 v K.length (kcs K)) (hv : v = .slice va K.length vc) : Kds w va K.length vc K := by
  obtain ⟨ao, cap, h1, h2⟩ := Kds.of_own (Own.of_row h)
  rw [hv] at h1
  cases h1
  exact h2
theorem Kds.same {w w' : World} {ao : Option Addr} {n cap : Nat} {K : List Kd} (h : Kds w ao n cap K) (k : ∀ q o p, ao = some ⟨q, o, p⟩ → w'.heap[q]? = w.heap[q]?) : Kds w' ao n cap K :=
  ⟨h.len, h.fits, h.bound, h.nil, fun j u hj => by
    obtain ⟨b, off, e, hc⟩ := h.rd j u hj
    refine ⟨b, off, e, ?_⟩
    have := k b off none e
    simpa only [World.cell?, this] using hc⟩

/-- a state as it is handed back: it reads so -/
def DocK (w : World) (z : Int × List Kd × Int) (e : Ending) (w' : World) : Prop :=
  ∃ va vc, e = .returned (.tuple #[.agg #[.int .i64 z.1, .slice va z.2.1.length vc], .int .i64 z.2.2]) ∧ Kds w' va z.2.1.length vc z.2.1 ∧ Ext w w'

theorem dfold_c {ao lo : Option Addr} {n cap m lcap : Nat} {nx : Int} {K : List Kd} {L : List Td} (w : World) (hx : Kds w ao n cap K) (hl : TDs w lo m lcap L) (hL : ∀ x ∈ L, x.t.length ≤ 1000000 ∧ x.d.length ≤ 1000000) (hlt : ∀ q o p, ao = some ⟨q, o, p⟩ → q < w.heap.size) :
    Calls Try.prog 17 #[.agg #[.int .i64 nx, .slice ao n cap], .slice lo m lcap] w (DocK w (if checkN nx K = 0 then foldS nx K L else (0, [], checkN nx K))) := by
  obtain rfl : K.length = n := hx.len
  have HCk := Lib.hid (fun W (k : Ext w W) => reffcheck_c nx ao K.length cap K W (hx.ext k))
  have HK := Lib.hid hx
  have HL := Lib.hid hl
  have hE1 := ext_a2 w (.cells #[.int .i64 nx, .slice ao K.length cap] 31) (.cells #[.int .i64 0, .slice none 0 0] 31)
  have HE1 := Lib.hid hE1
  have hB0 := (Blk.new w 31 #[.int .i64 nx, .slice ao K.length cap]).ext (ext_a1 _ (.cells #[.int .i64 0, .slice none 0 0] 31))
  have b1 := Blk.new (w.alloc (.cells #[.int .i64 nx, .slice ao K.length cap] 31)) 31 #[.int .i64 0, .slice none 0 0]
  simp only [World.size_alloc] at b1
  have HB0 := Lib.hid hB0; have HB1 := Lib.hid b1
  have c0 := hB0.cell 0
  have c1 := hB0.cell 1
  have f1 := hl.fits; have f2 := hl.bound
  have e1 := hx.fits; have e2 := hx.bound
  clear hx hl b1 hB0 hE1
  rcases check_cases nx K with hc | hc
  · have hok := check_ok hc
    have HOk := Lib.hid hok
    rw [hc, if_pos rfl]
    rw [hc] at HCk
    clear hc hok
    go_enter Try.func17, Try.ntmps17
    go_wp2_with fail
    refine (HCk.out _ HE1.out).mono ?_
    rintro e w2 ⟨rfl, hw2⟩
    have HX2 := Lib.hid (HE1.out.trans hw2)
    have HBR := Lib.hid (HB1.out.ext hw2)
    have hbox : BoxS w2 w2 w.heap.size nx K ao cap := ⟨Off.refl _ _, HB0.out.ext hw2, HK.out.ext HX2.out, fun q o p h => by have := hlt q o p h; exact ⟨by omega, by omega⟩⟩
    have HBox := Lib.hid hbox
    clear hw2 hbox c0 c1 HCk
    go_wp2_with fail
    have hLl := HL.out.len
    go_loopw [6] (fun i W => ∃ (j : Nat) (nx' : Int) (K' : List Kd) (va : Option Addr) (vc : Nat), j ≤ m ∧ i = .int .i64 (j : Int) ∧ BoxS w2 W w.heap.size nx' K' va vc ∧ okState nx' K' ∧ foldS nx K L = foldS nx' K' (L.drop j)) (fun i _ => m - (intOf i).toNat)
    case atStart => exact ⟨0, nx, K, ao, cap, Nat.zero_le _, rfl, HBox.out, HOk.out, rfl⟩
    case round =>
      obtain ⟨j, nx', K', va, vc, hj, rfl, hbx, hok, hfo⟩ := hrel
      have HBx := Lib.hid hbx; have HOk' := Lib.hid hok; have HFo := Lib.hid hfo
      have HXW : Hid (Ext w wr) := Lib.hid (Off.ext HX2.out (Nat.le_refl _) hbx.off)
      have a0 : wr.cell? ⟨w.heap.size, 0, none⟩ = some (.int .i64 nx') := hbx.blk.cell 0
      have a1 : wr.cell? ⟨w.heap.size, 1, none⟩ = some (.slice va K'.length vc) := hbx.blk.cell 1
      have HR : Hid (Blk wr (w.heap.size + 1) 31 #[.int .i64 0, .slice none 0 0]) := Lib.hid (Off.blk HBR.out (by omega) hbx.off)
      have r0 : wr.cell? ⟨w.heap.size + 1, 0, none⟩ = some (.int .i64 0) := HR.out.cell 0
      have r1 : wr.cell? ⟨w.heap.size + 1, 1, none⟩ = some (.slice none 0 0) := HR.out.cell 1
      have g0 := HR.out.free 0; have g1 := HR.out.free 1
      have z0 := hbx.blk.free 0; have z1 := hbx.blk.free 1
      have hlw : w.heap.size + 1 < wr.heap.size := HR.out.lt
      clear hbx hok hfo
      by_cases hlt' : j < m
      · have hd : decide ((j : Int) < (m : Int)) = true := decide_eq_true (by omega)
        have q1 : IntKind.i64.wrap ((j : Int) + 1) = (j : Int) + 1 := by rw [IntKind.wrap_i64]; omega
        have q5 : (j : Int) < (m : Int) := by omega
        obtain ⟨b, off, rfl, c0, c1, c2, c3, c4⟩ := (HL.out.ext HXW.out).at hlt'
        have hjL : j < L.length := by omega
        have hg : L.getD j td0 = L[j] := by rw [List.getD_eq_getElem?_getD, List.getElem?_eq_getElem hjL]; rfl
        have hdr : L.drop j = L[j] :: L.drop (j + 1) := List.drop_eq_getElem_cons hjL
        have hLx := hL _ (List.getElem_mem hjL)
        rw [hg] at c0 c1 c2 c3 c4
        have HDr := Lib.hid hdr
        generalize L[j] = x at *
        obtain ⟨s, v, t, d, fb⟩ := x
        have hsd := stepD_eq HOk'.out ⟨s, v, t, d, fb⟩
        have hfs : foldS nx' K' (L.drop j) = if stepE nx' K' v t d = 0 then foldS (nx' + 1) (addK K' t d.length) (L.drop (j + 1)) else (0, [], stepE nx' K' v t d) := by rw [HDr.out]; rfl
        have hos : stepE nx' K' v t d = 0 → okState (nx' + 1) (addK K' t d.length) := HOk'.out.step
        simp only at hsd
        have HSp := Lib.hid (fun W (k : Ext wr W) => dstep_c (nx := nx') ⟨s, v, t, d, fb⟩ W (HBx.out.kds.ext k) hLx)
        rw [hsd] at HSp
        obtain ⟨ec, hec⟩ : ∃ ec, stepE nx' K' v t d = ec := ⟨_, rfl⟩
        rw [hec] at HSp hfs hos
        clear hg hdr hLx hec hsd
        have hn1 : w.heap.size ≠ wr.heap.size := by omega
        have hlw1 : w.heap.size < wr.heap.size := by omega
        have HXA := Lib.hid (Ext.drew (ext_a1 wr (.cells #[.int .i64 0, .slice none 0 0] 31)))
        have HXB := Lib.hid (Ext.refl wr).drew
        obtain ⟨z, hz⟩ : ∃ z : Int × List Kd × Int, (if ec = 0 then (nx' + 1, addK K' t d.length, 0) else (0, [], ec)) = z := ⟨_, rfl⟩
        rw [hz] at HSp
        have HZ := Lib.hid hz
        obtain ⟨zn, zK, ze⟩ := z
        clear hz
        have hbl : b < wr.heap.size := World.block_lt_of_cell? (h := c0)
        have hbn : b ≠ wr.heap.size := Nat.ne_of_lt hbl
        go_upto_region 6 with fail
        go_cut [7, 8] from 13 to 32 (fun s7 s8 wc => s8 = .int .i64 ze ∧ ∃ (T : Nat) (ya : Option Addr) (yc : Nat), s7 = .pointer (some ⟨T, 0, none⟩) ∧ Ext wr wc ∧ wr.heap.size ≤ T ∧ Blk wc T 31 #[.int .i64 zn, .slice ya zK.length yc] ∧ Kds wc ya zK.length yc zK ∧ ∀ q o p, ya = some ⟨q, o, p⟩ → wr.heap.size ≤ q)
        case first =>
          go_wp2_with fail
          go_region_law (go_simp; go_at_call 14; first
            | (refine (HSp.out _ HXA.out).mono ?_; rintro e w3 ⟨v3, rfl, hrow3, hw3⟩; obtain ⟨ya, yc, rfl⟩ := row_slice hrow3; have HR3 := Lib.hid hrow3; have HLt := Lib.hid (fun q hq => row_lt hrow3 q hq); have HAF := Lib.hid (((Blk.new wr 31 #[.int .i64 0, .slice none 0 0]).drew).ext hw3); have HW3 := Lib.hid (HXA.out.trans hw3); have y0 : w3.cell? ⟨wr.heap.size, 0, none⟩ = some (.int .i64 0) := HAF.out.cell 0; have y1 : w3.cell? ⟨wr.heap.size, 1, none⟩ = some (.slice none 0 0) := HAF.out.cell 1; have y2 := HAF.out.free 0; have y3 := HAF.out.free 1; clear hw3 hrow3)
            | (refine (HSp.out _ HXB.out).mono ?_; rintro e w3 ⟨v3, rfl, hrow3, hw3⟩; obtain ⟨ya, yc, rfl⟩ := row_slice hrow3; have HR3 := Lib.hid hrow3; have HLt := Lib.hid (fun q hq => row_lt hrow3 q hq); have HW3 := Lib.hid (HXB.out.trans hw3); have HSz := Lib.hid (Nat.le_refl w3.heap.size); clear hw3 hrow3))
          all_goals
            go_wp2_with fail
            go_meet
            case rel =>
              first
              | (have hne : (Value.slice ya zK.length yc).ownBlock ≠ some wr.heap.size := fun e => by
                   have h1 := (HLt.out _ e).1
                   rw [show ((wr.alloc (.cells #[.int .i64 0, .slice none 0 0] 31)).drew).heap.size = wr.heap.size + 1 from World.size_alloc _ _] at h1
                   omega
                 refine ⟨rfl, _, ya, yc, rfl, ext_set2 HW3.out wr.heap.size (Nat.le_refl _) _ _, Nat.le_refl _, (HAF.out.set 0 (.int .i64 zn)).set 1 (.slice ya zK.length yc), Kds.of_row (row_setOther (row_setOther HR3.out _ hne) _ hne) rfl, fun q o p h => ?_⟩
                 have h1 := (HLt.out q (by rw [h]; rfl)).1
                 rw [show ((wr.alloc (.cells #[.int .i64 0, .slice none 0 0] 31)).drew).heap.size = wr.heap.size + 1 from World.size_alloc _ _] at h1
                 omega)
              | (have hs3 := HW3.out.size
                 refine ⟨rfl, _, ya, yc, rfl, HW3.out.trans (ext_a1 w3 _), hs3, Blk.new w3 _ _, (Kds.of_row HR3.out rfl).ext (ext_a1 w3 _), fun q o p h => ?_⟩
                 exact (HLt.out q (by rw [h]; rfl)).1)
        case rest =>
        obtain ⟨rfl, T, ya, yc, rfl, hXc, hT, hbT, hkT, hyT⟩ := hcut
        have HXc := Lib.hid hXc; have HbT := Lib.hid hbT; have HkT := Lib.hid hkT; have HyT := Lib.hid hyT
        have t0 : wc.cell? ⟨T, 0, none⟩ = some (.int .i64 zn) := hbT.cell 0
        have t1 : wc.cell? ⟨T, 1, none⟩ = some (.slice ya zK.length yc) := hbT.cell 1
        have HR2 := Lib.hid (HR.out.ext hXc)
        have a0 : wc.cell? ⟨w.heap.size, 0, none⟩ = some (.int .i64 nx') := (HBx.out.blk.ext hXc).cell 0
        have a1 : wc.cell? ⟨w.heap.size, 1, none⟩ = some (.slice va K'.length vc) := (HBx.out.blk.ext hXc).cell 1
        have z0 := (HBx.out.blk.ext hXc).free 0; have z1 := (HBx.out.blk.ext hXc).free 1
        have r0 : wc.cell? ⟨w.heap.size + 1, 0, none⟩ = some (.int .i64 0) := HR2.out.cell 0
        have r1 : wc.cell? ⟨w.heap.size + 1, 1, none⟩ = some (.slice none 0 0) := HR2.out.cell 1
        have g0 := HR2.out.free 0; have g1 := HR2.out.free 1
        clear hXc hbT hkT hyT
        by_cases h0 : ec = 0
        · subst h0
          have hz := HZ.out
          rw [if_pos rfl] at hz
          obtain ⟨rfl, rfl, rfl⟩ : nx' + 1 = zn ∧ addK K' t d.length = zK ∧ 0 = ze := by simpa using hz
          rw [if_pos rfl] at hfs
          have HOs := Lib.hid (hos rfl); have HFs := Lib.hid hfs
          clear hos hfs hz HZ
          go_wp2_with fail
          go_roundw
          case rel =>
            have hne : ∀ q o p, ya = some ⟨q, o, p⟩ → q ≠ w.heap.size ∧ q ≠ w.heap.size + 1 := fun q o p h => by have := HyT.out q o p h; exact ⟨by omega, by omega⟩
            refine ⟨j + 1, nx' + 1, _, ya, yc, by omega, by go_num, ?_, HOs.out, HFo.out.trans HFs.out⟩
            exact ⟨((HBx.out.off.trans (Off.of_ext HXc.out)).trans (Off.set _ _ _)).trans (Off.set _ _ _), ((HBx.out.blk.ext HXc.out).set 0 (.int .i64 (nx' + 1))).set 1 (.slice ya (addK K' t d.length).length yc), (HkT.out.same fun q o p h => Below.heap_setCell _ _ _ _ (hne q o p h).1).same fun q o p h => Below.heap_setCell _ _ _ _ (hne q o p h).1, hne⟩
          case measure => simp [intOf]; omega
        · have hz := HZ.out
          rw [if_neg h0] at hz
          obtain ⟨rfl, rfl, rfl⟩ : 0 = zn ∧ [] = zK ∧ ec = ze := by simpa using hz
          rw [if_neg h0] at hfs
          have hb : (ec != 0) = true := by simpa using h0
          have HFs := Lib.hid (HFo.out.trans hfs)
          clear hos hfs hz HZ h0
          go_wp2_with fail
          ((try simp only [Exit.inBlock, Exit.then]); refine bodyPost_ret (v := .tuple #[.agg #[_, _], _]) (by rw [results_cell_tmp rfl]; go_simp; exact ⟨⟨rfl, rfl⟩, rfl⟩) rfl ?_)
          rw [HFs.out]
          exact ⟨none, 0, rfl, Kds.empty _, ext_set2 (HXW.out.trans HXc.out) _ (by omega) _ _⟩
      · have hd : decide ((j : Int) < (m : Int)) = false := decide_eq_false (by omega)
        have hjm : j = L.length := by omega
        have hfs : foldS nx K L = (nx', K', 0) := by rw [HFo.out, hjm, List.drop_length]; rfl
        have HFs := Lib.hid hfs
        clear hfs hjm
        go_wp2_with fail
        ((try simp only [Exit.inBlock, Exit.then]); refine bodyPost_ret (v := .tuple #[.agg #[_, _], _]) (by rw [results_cell_tmp rfl]; go_simp; exact ⟨⟨rfl, rfl⟩, rfl⟩) rfl ?_)
        rw [HFs.out]
        exact ⟨va, vc, rfl, (HBx.out.kds.same fun q o p h => Below.heap_setCell _ _ _ _ (HBx.out.ne q o p h).2).same fun q o p h => Below.heap_setCell _ _ _ _ (HBx.out.ne q o p h).2, ext_set2 HXW.out _ (by omega) _ _⟩
  · rw [hc, if_neg (by decide)]
    rw [hc] at HCk
    clear hc
    go_enter Try.func17, Try.ntmps17
    go_wp2_with fail
    refine (HCk.out _ HE1.out).mono ?_
    rintro e w2 ⟨rfl, hw2⟩
    have HW2 := Lib.hid (HE1.out.trans hw2)
    have S1 := Lib.hid (HB1.out.ext hw2)
    have r0 : w2.cell? ⟨w.heap.size + 1, 0, none⟩ = some (.int .i64 0) := S1.out.cell 0
    have r1 : w2.cell? ⟨w.heap.size + 1, 1, none⟩ = some (.slice none 0 0) := S1.out.cell 1
    have f0 := S1.out.free 0; have f1 := S1.out.free 1
    clear hw2
    go_wp2_with fail
    ((try simp only [Exit.inBlock, Exit.then]); refine bodyPost_ret (v := .tuple #[.agg #[_, _], _]) (by rw [results_cell_tmp rfl]; go_simp; exact ⟨⟨rfl, rfl⟩, rfl⟩) rfl ?_)
    exact ⟨none, 0, rfl, Kds.empty _, ext_set2 HW2.out _ (by omega) _ _⟩

end Go.Proofs.Ytmopfhkppjcgbaa
