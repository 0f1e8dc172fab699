/- Walks: the chapter's states. Walks: slices.BinarySearchFunc over kinds, by their types. Walks: the chapter's states, on. Walks: the chapter's states, to their end. Walks: the chapter's states, to their end. Walks: an event of another version. Walks: one step, and the chapter's states. -/
import Derived.Test.YtmopfhkppjcgbaaChecked
import Derived.Test.YtmopfhkppjcgbaaG11PFoldsTell
import Derived.WalkSpells
import Derived.Test.YtmopfhkppjcgbaaG5PFoldsTell
import Derived.Laws.ResultCell
import Derived.Test.YtmopfhkppjcgbaaG8PFoldsTell
set_option linter.unusedVariables false
set_option linter.unusedSimpArgs false
namespace Go.Proofs.Ytmopfhkppjcgbaa
open Go.RowKit

/-- what is wrong with an event -/
def echeckN (t d : List UInt8) : Int := if t = [] then 2 else if 16 < t.length then 3 else if 200 < d.length then 3 else 0

set_option maxRecDepth 100000 in
set_option maxHeartbeats 1600000 in
theorem echeck_c (t d : List UInt8) (k : FloatKind) (b : Nat) (w : World) (_ht : t.length ≤ 4611686018427387903) (_hd : d.length ≤ 4611686018427387903) :
    Calls Try.prog 31 #[.agg #[.string ⟨t.toArray⟩, .string ⟨d.toArray⟩, .float k b]] w fun e w' => e = .returned (.int .i64 (echeckN t d)) ∧ Ext w w' := by
  have HE := Lib.hid (ext_a1 w (.cells #[.string ⟨t.toArray⟩, .string ⟨d.toArray⟩, .float k b] 42))
  by_cases h0 : t = []
  · subst h0
    have HN : Hid (echeckN [] d = 2) := Lib.hid (by unfold echeckN; rw [if_pos rfl])
    go_enter Try.func31, Try.ntmps31
    go_wp2_with fail
    go_ret
    exact ⟨rn HN.out, HE.out⟩
  have h0b : (t == []) = false := beq_eq_false_iff_ne.2 h0
  by_cases h1 : 16 < (t.length : Int)
  · have HN : Hid (echeckN t d = 3) := Lib.hid (by unfold echeckN; rw [if_neg h0, if_pos (by omega)])
    clear h0
    go_enter Try.func31, Try.ntmps31
    go_wp2_with fail
    go_ret
    exact ⟨rn HN.out, HE.out⟩
  by_cases h2 : 200 < (d.length : Int)
  · have HN : Hid (echeckN t d = 3) := Lib.hid (by unfold echeckN; rw [if_neg h0, if_neg (by omega), if_pos (by omega)])
    clear h0
    go_enter Try.func31, Try.ntmps31
    go_wp2_with fail
    go_ret
    exact ⟨rn HN.out, HE.out⟩
  · have HN : Hid (echeckN t d = 0) := Lib.hid (by unfold echeckN; rw [if_neg h0, if_neg (by omega), if_neg (by omega)])
    clear h0
    go_enter Try.func31, Try.ntmps31
    go_wp2_with fail
    go_ret
    exact ⟨rn HN.out, HE.out⟩

set_option maxRecDepth 100000 in
set_option maxHeartbeats 1600000 in
theorem clone0_c (w : World) : Calls Try.prog 26 #[.slice none 0 0] w fun e w' => e = .returned (.slice none 0 0) ∧ Ext w w' := by
  have hq := fun (w : World) (a : Option Addr) (n c n' c' : Nat) => Lib.run_eql_slice_nil (P := Try.prog) w 22 54 a n c n' c' Try.underlying22
  go_enter Try.func26, Try.ntmps26
  go_wp2_with fail
  go_ret
  exact ⟨rfl, Ext.refl _⟩

set_option maxRecDepth 100000 in
set_option maxHeartbeats 1600000 in
theorem bsearch0_c (s : ByteArray) (f : Value) (w : World) : Calls Try.prog 35 #[.slice none 0 0, .string s, f] w fun e w' => e = .returned (.tuple #[.int .i64 0, .bool false]) ∧ Ext w w' := by
  go_enter Try.func35, Try.ntmps35
  go_wp2_with fail
  refine wp_loop_rounds 1 ?_
  rw [rounds_succ]
  go_wp2_with fail
  go_ret2
  exact ⟨rfl, Ext.refl _⟩

set_option maxRecDepth 100000 in
set_option maxHeartbeats 1600000 in
theorem insert0_c (b : Nat) (k : Kd) (w : World) (hb : Blk w b 54 #[.string ⟨k.t.toArray⟩, .int .i64 k.m, .int .i64 k.b]) : Calls Try.prog 38 #[.slice none 0 0, .int .i64 0, .slice (some ⟨b, 0, none⟩) 1 1] w fun e w' => ∃ g c, e = .returned (.slice (some ⟨g, 0, none⟩) 1 c) ∧ w'.ownsRow w.heap.size 54 3 (.slice (some ⟨g, 0, none⟩) 1 c) 1 (kc k) ∧ Ext w w' := by
  obtain ⟨i, hi, hz, hsize, hby⟩ := info_parts Try.infoKi
  have HI := Lib.hid hi; have HZ := Lib.hid hz; have HSz := Lib.hid hsize; have HBy := Lib.hid hby
  have HB := Lib.hid hb
  have HNews : Hid (∀ j u, (kc k)[j]? = some u → w.cell? ((⟨b, 0, none⟩ : Addr).add j) = some u) := Lib.hid (fun j u hj => by
    rw [Addr.add_lit, Nat.zero_add, hb.cell j]
    simpa [kc] using hj)
  clear hi hz hsize hby hb
  go_enter Try.func38, Try.ntmps38
  go_wp2_with (at_builtin; refine wpList_append_lies _ rfl _ _ 22 rfl w.heap.size 54 i _ 3 32 Try.underlying22 HI.out HZ.out HSz.out HBy.out (by decide) (by decide) _ 0 [] (by simp [Act.eval]) (World.ownsRow_nil _ _ _ _) ⟨b, 0, none⟩ 1 1 (kc k) (by simp [Act.eval]) rfl HNews.out (kc_one' _) (by decide) (by decide) (by decide) (Nat.le_refl _) _ rfl ?_; intro g cap1 w1 hown hgrow hat hlt2; have HOw := Lib.hid hown; have HGr := Lib.hid hgrow; clear hown hgrow hat)
  go_wp2_with fail
  go_ret
  exact ⟨g, cap1, rfl, by have := HOw.out; simpa using this, (Ext.refl w).grown HGr.out (Nat.le_refl _) (fun q hq => by simp [Value.ownBlock] at hq)⟩

end Go.Proofs.Ytmopfhkppjcgbaa
namespace Go.Proofs.Ytmopfhkppjcgbaa
open Go.RowKit

set_option maxRecDepth 100000
set_option linter.unusedVariables false
set_option maxHeartbeats 12800000

def cmpN (s t : List UInt8) : Int := if Op.bytesLess s t then -1 else if s = t then 0 else 1

theorem isnan_c (s : List UInt8) (w : World) : Calls Try.prog 41 #[.string ⟨s.toArray⟩] w fun e w' => e = .returned (.bool false) ∧ Ext w w' := by
  have HX := Lib.hid (Ext.refl w)
  go_enter Try.func41, Try.ntmps41
  go_wp2_with fail
  go_ret
  exact ⟨rfl, HX.out⟩
theorem compare_c (s t : List UInt8) (w : World) : Calls Try.prog 37 #[.string ⟨s.toArray⟩, .string ⟨t.toArray⟩] w fun e w' => e = .returned (.int .i64 (cmpN s t)) ∧ Ext w w' := by
  have HA := Lib.hid (fun W => isnan_c s W)
  have HB := Lib.hid (fun W => isnan_c t W)
  obtain ⟨c, hc⟩ : ∃ c, cmpN s t = c := ⟨_, rfl⟩
  rw [hc]
  have h3 : (Op.bytesLess s t = true ∧ c = -1) ∨ (Op.bytesLess s t = false ∧ ((s = t ∧ c = 0) ∨ ((s == t) = false ∧ c = 1))) := by
    unfold cmpN at hc
    cases hl : Op.bytesLess s t with
    | true => rw [hl, if_pos rfl] at hc; exact .inl ⟨rfl, hc.symm⟩
    | false =>
      rw [hl, if_neg (by decide)] at hc
      by_cases he : s = t
      · rw [if_pos he] at hc; exact .inr ⟨rfl, .inl ⟨he, hc.symm⟩⟩
      · rw [if_neg he] at hc; exact .inr ⟨rfl, .inr ⟨by simpa using he, hc.symm⟩⟩
  clear hc
  rcases h3 with ⟨h1, rfl⟩ | ⟨h1, ⟨rfl, rfl⟩ | ⟨h2, rfl⟩⟩
  all_goals
    go_enter Try.func37, Try.ntmps37
    go_wp2_with fail
    refine (HA.out _).mono ?_
    rintro e w1 ⟨rfl, hb⟩
    have HX1 := Lib.hid hb; clear hb
    go_wp2_with fail
    refine (HB.out _).mono ?_
    rintro e w2 ⟨rfl, hb⟩
    have HX2 := Lib.hid (HX1.out.trans hb); clear hb
    go_wp2_with fail
    go_ret
    exact ⟨rfl, HX2.out⟩
theorem cmpkind_c (k : Kd) (t : List UInt8) (w : World) : Calls Try.prog 36 #[.agg #[.string ⟨k.t.toArray⟩, .int .i64 k.m, .int .i64 k.b], .string ⟨t.toArray⟩] w fun e w' => e = .returned (.int .i64 (cmpN k.t t)) ∧ Ext w w' := by
  obtain ⟨kt, km, kb⟩ := k
  have HC := Lib.hid (fun W => compare_c kt t W)
  have hbk := Blk.new w 54 #[.string ⟨kt.toArray⟩, .int .i64 km, .int .i64 kb]
  have HX := Lib.hid (ext_a1 w (.cells #[.string ⟨kt.toArray⟩, .int .i64 km, .int .i64 kb] 54))
  have c0 : (w.alloc (.cells #[.string ⟨kt.toArray⟩, .int .i64 km, .int .i64 kb] 54)).cell? ⟨w.heap.size, 0, none⟩ = some (.string ⟨kt.toArray⟩) := hbk.cell 0
  clear hbk
  generalize cmpN kt t = c at *
  go_enter Try.func36, Try.ntmps36
  go_wp2_with fail
  refine (HC.out _).mono ?_
  rintro e w1 ⟨rfl, hb⟩
  have HX1 := Lib.hid (HX.out.trans hb); clear hb
  go_wp2_with fail
  go_ret
  exact ⟨rfl, HX1.out⟩

theorem bsearch_c {ao : Option Addr} {n cap : Nat} {K : List Kd} (t : List UInt8) (cb : Nat) (w : World) (hx : Kds w ao n cap K) (hn : n ≤ 1000) (hs : sortK K) :
    Calls Try.prog 35 #[.slice ao n cap, .string ⟨t.toArray⟩, .func (.func 36) #[] #[]] w fun e w' => e = .returned (.tuple #[.int .i64 (lbK K t : Int), .bool (hasK K t)]) ∧ Ext w w' := by
  have HC := Lib.hid (fun k W => cmpkind_c k t W)
  have Hx := Lib.hid hx
  have HX0 := Lib.hid (Ext.refl w)
  have hlen := hx.len
  have HAt : Hid (∀ i, i < n → ∃ e, K[i]? = some e ∧ K.getD i kd0 = e ∧ (decide (cmpN e.t t < 0) = decide (i < lbK K t)) ∧ (cmpN e.t t == 0) = decide (e.t = t)) := Lib.hid fun i hi => by
    have hi' : i < K.length := by omega
    refine ⟨K[i], List.getElem?_eq_getElem hi', by rw [List.getD_eq_getElem?_getD, List.getElem?_eq_getElem hi']; rfl, ?_, ?_⟩
    · rw [← lbK_at t hs (List.getElem?_eq_getElem hi')]
      unfold cmpN
      cases Op.bytesLess K[i].t t with
      | true => rw [if_pos rfl]; rfl
      | false => rw [if_neg (by decide)]; split <;> rfl
    · unfold cmpN
      by_cases he : K[i].t = t
      · rw [if_neg (by rw [he, bl_irrefl]; decide), if_pos he, decide_eq_true he]; rfl
      · rw [decide_eq_false he]; split <;> rfl
  have hlb := lbK_le K t
  have HHas : Hid (hasK K t = (decide (lbK K t < K.length) && decide ((K.getD (lbK K t) kd0).t = t))) := Lib.hid rfl
  obtain ⟨lb, hlb'⟩ : ∃ lb, lbK K t = lb := ⟨_, rfl⟩
  rw [hlb'] at HAt hlb HHas ⊢
  obtain ⟨has, hhas⟩ : ∃ b, hasK K t = b := ⟨_, rfl⟩
  rw [hhas] at HHas ⊢
  have HLen := Lib.hid hlen
  rw [hlen] at hlb
  clear hx hs hhas hlb' hlen
  go_enter Try.func35, Try.ntmps35
  go_wp2_with fail
  go_loopw [9, 10] (fun i j W => ∃ lo hi : Nat, i = .int .i64 (lo : Int) ∧ j = .int .i64 (hi : Int) ∧ lo ≤ lb ∧ lb ≤ hi ∧ hi ≤ n ∧ Ext w W) (fun i j _ => (intOf j).toNat - (intOf i).toNat)
  case atStart => exact ⟨0, n, rfl, rfl, Nat.zero_le _, hlb, Nat.le_refl _, HX0.out⟩
  case round =>
    obtain ⟨lo, hi, rfl, rfl, h1, h2, h3, hX⟩ := hrel
    have HX := Lib.hid hX
    clear hX
    by_cases hlt : lo < hi
    · have hd : decide ((lo : Int) < (hi : Int)) = true := decide_eq_true (by omega)
      obtain ⟨m, hm⟩ : ∃ m, (lo + hi) / 2 = m := ⟨_, rfl⟩
      obtain ⟨b, off, rfl, c0, c1, c2⟩ := (Hx.out.ext HX.out).at (show m < n by omega)
      obtain ⟨e, he1, he2, he3, _⟩ := HAt.out m (by omega)
      rw [he2] at c0 c1 c2
      obtain ⟨et, em, eb⟩ := e
      have HCm := Lib.hid (HC.out ⟨et, em, eb⟩)
      have q1 : IntKind.i64.wrap ((lo : Int) + (hi : Int)) = (lo : Int) + (hi : Int) := by rw [IntKind.wrap_i64]; omega
      have q2 : IntKind.u64.wrap ((lo : Int) + (hi : Int)) = (lo : Int) + (hi : Int) := by rw [IntKind.wrap_u64]; omega
      have q3 : ((lo : Int) + (hi : Int)) / 2 = (m : Int) := by omega
      have q4 : IntKind.i64.wrap (m : Int) = (m : Int) := by rw [IntKind.wrap_i64]; omega
      have q5 : (m : Int) < (n : Int) := by omega
      have q6 : IntKind.u64.wrap (m : Int) = (m : Int) := by rw [IntKind.wrap_u64]; omega
      obtain ⟨cn, hcn⟩ : ∃ cn, cmpN et t = cn := ⟨_, rfl⟩
      rw [hcn] at HCm
      simp only at he3
      rw [hcn] at he3
      clear hcn he1 he2
      by_cases hml : m < lb
      · rw [decide_eq_true hml] at he3
        have q7 : IntKind.i64.wrap ((m : Int) + 1) = (m : Int) + 1 := by rw [IntKind.wrap_i64]; omega
        go_wp2_with fail
        refine (HCm.out _).mono ?_
        rintro e w1 ⟨rfl, hb⟩
        have HX1 := Lib.hid (HX.out.trans hb); clear hb
        go_wp2_with fail
        go_roundw
        case rel => exact ⟨m + 1, hi, by go_num, rfl, hml, h2, h3, HX1.out⟩
        case measure => simp [intOf]; omega
      · rw [decide_eq_false hml] at he3
        go_wp2_with fail
        refine (HCm.out _).mono ?_
        rintro e w1 ⟨rfl, hb⟩
        have HX1 := Lib.hid (HX.out.trans hb); clear hb
        go_wp2_with fail
        go_roundw
        case rel => exact ⟨lo, m, rfl, rfl, h1, by omega, by omega, HX1.out⟩
        case measure => simp [intOf]; omega
    · have hd : decide ((lo : Int) < (hi : Int)) = false := decide_eq_false (by omega)
      have e1 : lo = lb := by omega
      subst e1
      by_cases hl : lo < n
      · have hd2 : decide ((lo : Int) < (n : Int)) = true := decide_eq_true (by omega)
        have q5 : (lo : Int) < (n : Int) := by omega
        obtain ⟨b, off, rfl, c0, c1, c2⟩ := (Hx.out.ext HX.out).at hl
        obtain ⟨e, he1, he2, _, he4⟩ := HAt.out lo hl
        rw [he2] at c0 c1 c2
        have hhas := HHas.out
        rw [HLen.out, decide_eq_true hl, Bool.true_and, he2, ← he4] at hhas
        obtain ⟨et, em, eb⟩ := e
        have HCm := Lib.hid (HC.out ⟨et, em, eb⟩)
        obtain ⟨cn, hcn⟩ : ∃ cn, cmpN et t = cn := ⟨_, rfl⟩
        simp only at hhas
        rw [hcn] at HCm hhas
        have HHs := Lib.hid hhas
        clear hcn he1 he2 he4 hhas
        go_wp2_with fail
        refine (HCm.out _).mono ?_
        rintro e w1 ⟨rfl, hb⟩
        have HX1 := Lib.hid (HX.out.trans hb); clear hb
        go_wp2_with fail
        go_ret2
        exact ⟨by rw [HHs.out]; rfl, HX1.out⟩
      · have hd2 : decide ((lo : Int) < (n : Int)) = false := decide_eq_false (by omega)
        have hhas := HHas.out
        rw [HLen.out, decide_eq_false hl, Bool.false_and] at hhas
        subst hhas
        go_wp2_with fail
        go_ret2
        exact ⟨rfl, HX.out⟩

end Go.Proofs.Ytmopfhkppjcgbaa
namespace Go.Proofs.Ytmopfhkppjcgbaa
open Go.RowKit

theorem Off.setNew {g : Nat} {w w' : World} (h : Off g w w') {q : Nat} (hq : w.heap.size ≤ q) (i : Nat) (u : Value) : Off g w (w'.setCell ⟨q, i, none⟩ u) :=
  ⟨h.os, h.tape, h.output, by have := h.size; simp [World.setCell]; omega, fun j hj hn => (Below.heap_setCell _ _ _ _ (by show j ≠ q; omega)).trans (h.block j hj hn)⟩

set_option maxRecDepth 100000 in
set_option maxHeartbeats 6400000 in
theorem add0_c (t d : List UInt8) (k : FloatKind) (b : Nat) (g : Nat) (w : World) (h : Blk w g 24 #[.int .i64 0, .slice none 0 0]) (_ht : t.length ≤ 1000000) (_hd : (d.length : Int) ≤ 1000000) :
    Calls Try.prog 32 #[.pointer (some ⟨g, 0, none⟩), .agg #[.string ⟨t.toArray⟩, .string ⟨d.toArray⟩, .float k b]] w fun e w' => e = .returned (.int .i64 0) ∧ (∃ q c, Blk w' g 24 #[.int .i64 1, .slice (some ⟨q, 0, none⟩) 1 c] ∧ w'.ownsRow w.heap.size 54 3 (.slice (some ⟨q, 0, none⟩) 1 c) 1 (kc ⟨t, 1, d.length⟩)) ∧ Off g w w' := by
  have hg := h.lt
  have h1 := h.ext (ext_a1 w (.cells #[.string ⟨t.toArray⟩, .string ⟨d.toArray⟩, .float k b] 42))
  have e1 := (Blk.new w 42 #[.string ⟨t.toArray⟩, .string ⟨d.toArray⟩, .float k b])
  have H1 := Lib.hid h1; have HEv := Lib.hid e1
  have g0 : (w.alloc (.cells #[.string ⟨t.toArray⟩, .string ⟨d.toArray⟩, .float k b] 42)).cell? ⟨g, 0, none⟩ = some (.int .i64 0) := h1.cell 0
  have g1 : (w.alloc (.cells #[.string ⟨t.toArray⟩, .string ⟨d.toArray⟩, .float k b] 42)).cell? ⟨g, 1, none⟩ = some (.slice none 0 0) := h1.cell 1
  have HE1 := Lib.hid (ext_a1 w (.cells #[.string ⟨t.toArray⟩, .string ⟨d.toArray⟩, .float k b] 42))
  have v0 : (w.alloc (.cells #[.string ⟨t.toArray⟩, .string ⟨d.toArray⟩, .float k b] 42)).cell? ⟨w.heap.size, 0, none⟩ = some (.string ⟨t.toArray⟩) := e1.cell 0
  have cc1 := cell_of g1
  have cc2 := cell_of v0
  clear h h1 e1
  have HC := Lib.hid (fun (f : Value) (wx : World) => bsearch0_c ⟨t.toArray⟩ f wx)
  go_enter Try.func32, Try.ntmps32
  go_wp2_with fail
  refine wp_region_ext (by kernel_rfl) (by kernel_rfl) ?_
  repeat (go_big_quiet_step (fail))
  go_big_quiet_step (exact Calls.quiet_ext (HC.out _ _))
  repeat (go_big_quiet_step (fail))
  refine wpQuiet_nil ?_
  intro w2 hw2
  have HW2 := Lib.hid hw2
  have S2 := Lib.hid (H1.out.ext hw2); have V2 := Lib.hid (HEv.out.ext hw2)
  have a0 : w2.cell? ⟨g, 0, none⟩ = some (.int .i64 0) := S2.out.cell 0
  have a1 : w2.cell? ⟨g, 1, none⟩ = some (.slice none 0 0) := S2.out.cell 1
  clear hw2 cc1 cc2 g0 g1 v0
  have z1 := S2.out.free 1
  have w0 : w2.cell? ⟨w.heap.size, 0, none⟩ = some (.string ⟨t.toArray⟩) := V2.out.cell 0
  have HIn := Lib.hid (insert0_c w2.heap.size ⟨t, 0, 0⟩ ((w2.alloc (.cells #[.string ⟨t.toArray⟩, .int .i64 0, .int .i64 0] 54)).drew) (Blk.new _ _ _).drew)
  have hl2 : g < w2.heap.size := S2.out.lt
  have hn2 : g ≠ w2.heap.size := Nat.ne_of_lt hl2
  have hsz2 : w.heap.size < w2.heap.size := V2.out.lt
  go_wp2_with fail
  go_region_law (go_simp; go_at_call 38; refine HIn.out.mono ?_; rintro e w3 ⟨q, c, rfl, hrow3, hw3⟩; have HR3 := Lib.hid hrow3; have HW3 := Lib.hid ((Ext.drew (ext_a1 w2 (.cells #[.string ⟨t.toArray⟩, .int .i64 0, .int .i64 0] 54))).trans hw3); have S3 := Lib.hid (S2.out.ext HW3.out); have c31 : w3.cell? ⟨g, 1, none⟩ = some (.slice none 0 0) := S3.out.cell 1; have z31 := S3.out.free 1; clear hrow3 hw3)
  all_goals
    have hqb : w2.heap.size + 1 ≤ q := by have h := (row_lt HR3.out q rfl).1; rwa [show ((w2.alloc (.cells #[.string ⟨t.toArray⟩, .int .i64 0, .int .i64 0] 54)).drew).heap.size = w2.heap.size + 1 from World.size_alloc _ _] at h
    have hgq : g ≠ q := by omega
    have hqg : q ≠ g := by omega
    have hq3 : q < w3.heap.size := (row_lt HR3.out q rfl).2
    have r1 : w3.cell? ⟨q, 1, none⟩ = some (.int .i64 0) := (World.ownsRow.cellAt HR3.out 1 (by decide))
    have r2 : w3.cell? ⟨q, 2, none⟩ = some (.int .i64 0) := (World.ownsRow.cellAt HR3.out 2 (by decide))
    have f1 := World.ownsRow.frozenAt HR3.out 1
    have f2 := World.ownsRow.frozenAt HR3.out 2
    have c30 : w3.cell? ⟨g, 0, none⟩ = some (.int .i64 0) := S3.out.cell 0
    have z30 := S3.out.free 0
    have d1 : w3.cell? ⟨w.heap.size, 1, none⟩ = some (.string ⟨d.toArray⟩) := (V2.out.ext HW3.out).cell 1
    have hwq : w.heap.size ≠ q := by omega
    have hwg : w.heap.size ≠ g := by omega
    go_wp2_with fail
    go_region
    all_goals
      go_wp2_with fail
      go_ret
      have hsb : w.heap.size ≤ ((w2.alloc (.cells #[.string ⟨t.toArray⟩, .int .i64 0, .int .i64 0] 54)).drew).heap.size := by
        rw [show ((w2.alloc (.cells #[.string ⟨t.toArray⟩, .int .i64 0, .int .i64 0] 54)).drew).heap.size = w2.heap.size + 1 from World.size_alloc _ _]; omega
      have hne : (Value.slice (some ⟨q, 0, none⟩) 1 c).ownBlock ≠ some g := by rintro ⟨⟩; exact hgq rfl
      refine ⟨rfl, ⟨q, c, ?_, ?_⟩, ?_⟩
      · refine Blk.drew ?_
        refine (Blk.same ?_ (Below.heap_setCell _ _ _ _ hgq))
        refine (Blk.same ?_ (Below.heap_setCell _ _ _ _ hgq))
        exact (S3.out.set 1 (.slice (some ⟨q, 0, none⟩) 1 c)).set 0 (.int .i64 1)
      · have h0 := row_setOther (row_setOther (row_base HR3.out hsb) (a := ⟨g, 1, none⟩) (.slice (some ⟨q, 0, none⟩) 1 c) hne) (a := ⟨g, 0, none⟩) (.int .i64 1) hne
        have h1 := (World.ownsRow.stored (World.ownsRow.stored h0 1 (.int .i64 1)).1 2 (.int .i64 d.length)).1
        exact row_drew h1
      · exact Off.drew (Off.setNew (Off.setNew (((Off.of_ext ((HE1.out.trans HW2.out).trans HW3.out)).trans (Off.set w3 1 _)).trans (Off.set _ 0 _)) (by omega) 1 _) (by omega) 2 _)

end Go.Proofs.Ytmopfhkppjcgbaa
namespace Go.Proofs.Ytmopfhkppjcgbaa
open Go.RowKit

def toldV (s t d : List UInt8) (v : Int) (k : FloatKind) (b : Nat) : Value := .agg #[.string ⟨s.toArray⟩, .int .i64 v, .string ⟨t.toArray⟩, .string ⟨d.toArray⟩, .float k b]
def toldC (s t d : List UInt8) (v : Int) (k : FloatKind) (b : Nat) : Array Value := #[.string ⟨s.toArray⟩, .int .i64 v, .string ⟨t.toArray⟩, .string ⟨d.toArray⟩, .float k b]

set_option maxRecDepth 100000 in
set_option maxHeartbeats 6400000 in
theorem step0_c (s t d : List UInt8) (k : FloatKind) (b : Nat) (g : Nat) (w : World) (h : Blk w g 24 #[.int .i64 0, .slice none 0 0]) (_ht : t.length ≤ 1000000) (_hd : (d.length : Int) ≤ 1000000) (hok : echeckN t d = 0) :
    Calls Try.prog 27 #[.pointer (some ⟨g, 0, none⟩), toldV s t d 0 k b] w fun e w' => e = .returned (.int .i64 0) ∧ (∃ q c, Blk w' g 24 #[.int .i64 1, .slice (some ⟨q, 0, none⟩) 1 c] ∧ w'.ownsRow w.heap.size 54 3 (.slice (some ⟨q, 0, none⟩) 1 c) 1 (kc ⟨t, 1, d.length⟩)) ∧ Off g w w' := by
  have hg := h.lt
  have HE1 := Lib.hid (ext_a1 w (.cells (toldC s t d 0 k b) 44))
  have H1 := Lib.hid (h.ext HE1.out)
  have HEv := Lib.hid (Blk.new w 44 (toldC s t d 0 k b))
  have HOk := Lib.hid hok
  clear h hok
  unfold toldV
  unfold toldC at HE1 H1 HEv
  go_enter Try.func27, Try.ntmps27
  go_wp2_with fail
  refine (echeck_c t d k b _ (by omega) (by omega)).mono ?_
  rw [HOk.out]
  rintro e w2 ⟨rfl, hw2⟩
  have HW2 := Lib.hid hw2
  have S2 := Lib.hid (H1.out.ext hw2); have V2 := Lib.hid (HEv.out.ext hw2)
  have a0 : w2.cell? ⟨g, 0, none⟩ = some (.int .i64 0) := S2.out.cell 0
  have a1 : w2.cell? ⟨g, 1, none⟩ = some (.slice none 0 0) := S2.out.cell 1
  have u1 : w2.cell? ⟨w.heap.size, 1, none⟩ = some (.int .i64 0) := V2.out.cell 1
  clear hw2
  go_wp2_with fail
  go_region
  all_goals
    have S3 := Lib.hid S2.out.drew; have V3 := Lib.hid V2.out.drew
    have u2 : w2.drew.cell? ⟨w.heap.size, 2, none⟩ = some (.string ⟨t.toArray⟩) := V3.out.cell 2
    have u3 : w2.drew.cell? ⟨w.heap.size, 3, none⟩ = some (.string ⟨d.toArray⟩) := V3.out.cell 3
    have u4 : w2.drew.cell? ⟨w.heap.size, 4, none⟩ = some (.float k b) := V3.out.cell 4
    go_wp2_with fail
    refine (add0_c t d k b g _ S3.out (by omega) (by omega)).mono ?_
    rintro e w3 ⟨rfl, ⟨q, c, hq, hrow⟩, hof⟩
    have HQ := Lib.hid hq; have HR := Lib.hid hrow; have HO := Lib.hid hof
    clear hq hrow hof
    go_wp2_with fail
    go_ret
    refine ⟨rfl, ⟨q, c, HQ.out, row_base HR.out (HE1.out.trans HW2.out).size⟩, (Off.of_ext (HE1.out.trans HW2.out)).drew.trans HO.out⟩

set_option maxRecDepth 100000 in
set_option maxHeartbeats 6400000 in
theorem step1_c (s t d : List UInt8) (v : Int) (k : FloatKind) (b : Nat) (g : Nat) (w : World) (h : Blk w g 24 #[.int .i64 0, .slice none 0 0]) (_ht : t.length ≤ 1000000) (_hd : (d.length : Int) ≤ 1000000) (hok : echeckN t d = 0) (hv : (v == 0) = false) :
    Calls Try.prog 27 #[.pointer (some ⟨g, 0, none⟩), toldV s t d v k b] w fun e w' => e = .returned (.int .i64 80) ∧ Ext w w' := by
  have hg := h.lt
  have HE1 := Lib.hid (ext_a1 w (.cells (toldC s t d v k b) 44))
  have H1 := Lib.hid (h.ext HE1.out)
  have HEv := Lib.hid (Blk.new w 44 (toldC s t d v k b))
  have HOk := Lib.hid hok
  clear h hok
  unfold toldV
  unfold toldC at HE1 H1 HEv
  go_enter Try.func27, Try.ntmps27
  go_wp2_with fail
  refine (echeck_c t d k b _ (by omega) (by omega)).mono ?_
  rw [HOk.out]
  rintro e w2 ⟨rfl, hw2⟩
  have HW2 := Lib.hid hw2
  have S2 := Lib.hid (H1.out.ext hw2); have V2 := Lib.hid (HEv.out.ext hw2)
  have a0 : w2.cell? ⟨g, 0, none⟩ = some (.int .i64 0) := S2.out.cell 0
  have a1 : w2.cell? ⟨g, 1, none⟩ = some (.slice none 0 0) := S2.out.cell 1
  have u1 : w2.cell? ⟨w.heap.size, 1, none⟩ = some (.int .i64 v) := V2.out.cell 1
  clear hw2
  go_wp2_with fail
  go_region
  all_goals
    go_wp2_with fail
    go_ret
    exact ⟨rfl, Ext.drew (HE1.out.trans HW2.out)⟩

end Go.Proofs.Ytmopfhkppjcgbaa
namespace Go.Proofs.Ytmopfhkppjcgbaa
open Go.RowKit

theorem run_store_float (P : Program) (w : World) (a : Addr) (m : Mode) (k : FloatKind) (b : Nat) : (store a (.float k b) m).run P w = stored P w a (.float k b) m := run_store P w a _ m rfl
attribute [local go_sem] run_store_float

theorem check0 : checkN 0 [] = 0 := checkN_yes ⟨by decide, by decide, by decide, fun i hi => by simp at hi, rfl⟩

set_option maxRecDepth 100000 in
set_option maxHeartbeats 6400000 in
theorem fold0_c (s t d : List UInt8) (b : Nat) (a : Nat) (w : World) (h : Blk w a 44 (toldC s t d 0 .f64 b)) (_ht : t.length ≤ 1000000) (_hd : (d.length : Int) ≤ 1000000) (hok : echeckN t d = 0) :
    Calls Try.prog 16 #[.agg #[.int .i64 0, .slice none 0 0], .slice (some ⟨a, 0, none⟩) 1 1] w fun e w' => ∃ q c, e = .returned (.tuple #[.agg #[.int .i64 1, .slice (some ⟨q, 0, none⟩) 1 c], .int .i64 0]) ∧ w'.ownsRow w.heap.size 54 3 (.slice (some ⟨q, 0, none⟩) 1 c) 1 (kc ⟨t, 1, d.length⟩) ∧ Ext w w' := by
  have HE1 := Lib.hid (ext_a2 w (.cells #[.int .i64 0, .slice none 0 0] 24) (.cells #[.int .i64 0, .slice none 0 0] 24))
  have H1 := Lib.hid (h.ext HE1.out)
  have B0 := Lib.hid ((Blk.new w 24 #[.int .i64 0, .slice none 0 0]).ext (ext_a1 _ (.cells #[.int .i64 0, .slice none 0 0] 24)))
  have b1 := Blk.new (w.alloc (.cells #[.int .i64 0, .slice none 0 0] 24)) 24 #[.int .i64 0, .slice none 0 0]
  simp only [World.size_alloc] at b1
  have B1 := Lib.hid b1
  have HOk := Lib.hid hok
  have ha := h.lt
  clear h hok b1
  unfold toldC at H1
  go_enter Try.func16, Try.ntmps16
  go_wp2_with fail
  refine (fcheck_c 0 none 0 0 [] _ (Kds.empty _)).mono ?_
  rw [check0]
  rintro e w2 ⟨rfl, hw2⟩
  have HW2 := Lib.hid hw2
  have S0 := Lib.hid (B0.out.ext hw2); have S1 := Lib.hid (B1.out.ext hw2); have V2 := Lib.hid (H1.out.ext hw2)
  have a0 : w2.cell? ⟨w.heap.size, 0, none⟩ = some (.int .i64 0) := S0.out.cell 0
  have a1 : w2.cell? ⟨w.heap.size, 1, none⟩ = some (.slice none 0 0) := S0.out.cell 1
  have hsz : w.heap.size + 1 < w2.heap.size := S1.out.lt
  have hlw : w.heap.size < w2.heap.size := by omega
  have hnw : w.heap.size ≠ w2.heap.size := by omega
  clear hw2
  go_wp2_with fail
  go_region_law (go_simp; go_at_call 26; refine (clone0_c _).mono ?_; rintro e w3 ⟨rfl, hw3⟩; first | (have HAF := Lib.hid (((Blk.new w2 24 #[.int .i64 0, .slice none 0 0]).drew).ext hw3); have HW3 := Lib.hid (Ext.trans (Ext.drew (ext_a1 w2 (.cells #[.int .i64 0, .slice none 0 0] 24))) hw3); have T0 := Lib.hid (S0.out.ext HW3.out); have b0 : w3.cell? ⟨w.heap.size, 0, none⟩ = some (.int .i64 0) := T0.out.cell 0; have b1 : w3.cell? ⟨w.heap.size, 1, none⟩ = some (.slice none 0 0) := T0.out.cell 1; have q0 : w3.cell? ⟨w2.heap.size, 0, none⟩ = some (.int .i64 0) := HAF.out.cell 0; have q1 : w3.cell? ⟨w2.heap.size, 1, none⟩ = some (.slice none 0 0) := HAF.out.cell 1; have q2 := HAF.out.free 0; have q3 := HAF.out.free 1; clear hw3) | (have HW3 := Lib.hid (Ext.trans (Ext.drew (Ext.refl w2)) hw3); have T0 := Lib.hid (S0.out.ext HW3.out); have b0 : w3.cell? ⟨w.heap.size, 0, none⟩ = some (.int .i64 0) := T0.out.cell 0; have b1 : w3.cell? ⟨w.heap.size, 1, none⟩ = some (.slice none 0 0) := T0.out.cell 1; have hl3 : w.heap.size < w3.heap.size := T0.out.lt; have hn3 : w.heap.size ≠ w3.heap.size := Nat.ne_of_lt hl3; clear hw3))
  all_goals
    first
    | (have hb : Blk ((w3.setCell ⟨w2.heap.size, 0, none⟩ (.int .i64 0)).setCell ⟨w2.heap.size, 1, none⟩ (.slice none 0 0)) w2.heap.size 24 #[.int .i64 0, .slice none 0 0] := (HAF.out.set 0 (.int .i64 0)).set 1 (.slice none 0 0)
       have hx : Ext w2 ((w3.setCell ⟨w2.heap.size, 0, none⟩ (.int .i64 0)).setCell ⟨w2.heap.size, 1, none⟩ (.slice none 0 0)) := Below.setCell (Below.setCell HW3.out (p := ⟨w2.heap.size, 0, none⟩) (Nat.le_refl _) _) (p := ⟨w2.heap.size, 1, none⟩) (Nat.le_refl _) _
       generalize hWX : ((w3.setCell ⟨w2.heap.size, 0, none⟩ (.int .i64 0)).setCell ⟨w2.heap.size, 1, none⟩ (.slice none 0 0)) = WX at hb hx ⊢
       generalize hGG : (w2.heap.size : Nat) = G at hb ⊢
       have hle := Nat.le_of_eq hGG
       clear HAF q0 q1 q2 q3 hWX hGG)
    | (have hb := Blk.new w3 24 #[.int .i64 0, .slice none 0 0]
       have hx : Ext w2 (w3.alloc (.cells #[.int .i64 0, .slice none 0 0] 24)) := HW3.out.trans (ext_a1 _ _)
       have hle : w2.heap.size ≤ w3.heap.size := HW3.out.size
       generalize hWX : (w3.alloc (.cells #[.int .i64 0, .slice none 0 0] 24)) = WX at hb hx ⊢
       generalize hGG : (w3.heap.size : Nat) = G at hb hle ⊢
       clear hWX hGG)
    have HB := Lib.hid hb; have HX := Lib.hid hx
    have hglt : G < WX.heap.size := hb.lt
    clear hb hx b0 b1 T0 HW3
    have V3 := Lib.hid (V2.out.ext HX.out); have R3 := Lib.hid (S1.out.ext HX.out)
    have v0 : WX.cell? ⟨a, 0, none⟩ = some (.string ⟨s.toArray⟩) := V3.out.cell 0
    have v1 : WX.cell? ⟨a, 1, none⟩ = some (.int .i64 0) := V3.out.cell 1
    have v2 : WX.cell? ⟨a, 2, none⟩ = some (.string ⟨t.toArray⟩) := V3.out.cell 2
    have v3 : WX.cell? ⟨a, 3, none⟩ = some (.string ⟨d.toArray⟩) := V3.out.cell 3
    have v4 : WX.cell? ⟨a, 4, none⟩ = some (.float .f64 b) := V3.out.cell 4
    go_wp2_with fail
    refine wp_loop_rounds 2 ?_
    rw [rounds_succ]
    go_wp2_with fail
    refine (step0_c s t d .f64 b G _ (HB.out.ext (ext_a1 _ _)) _ht _hd HOk.out).mono ?_
    rintro e w5 ⟨rfl, ⟨q, c, hq, hrow⟩, hof⟩
    have HQ := Lib.hid hq; have HR := Lib.hid hrow
    have HRB := Lib.hid (Off.blk (R3.out.ext (ext_a1 WX (.cells (toldC s t d 0 .f64 b) 44))) (show w.heap.size + 1 ≠ G by omega) hof)
    have HX5 : Hid (Ext w w5) := Lib.hid (Off.ext (HE1.out.trans (HW2.out.trans (HX.out.trans (ext_a1 WX (.cells (toldC s t d 0 .f64 b) 44))))) (by omega) hof)
    have HBs : Hid (w.heap.size ≤ (WX.alloc (.cells (toldC s t d 0 .f64 b) 44)).heap.size) := Lib.hid (HE1.out.trans (HW2.out.trans (HX.out.trans (ext_a1 WX (.cells (toldC s t d 0 .f64 b) 44))))).size
    have hqb : q ≠ w.heap.size + 1 := fun h => by
      have h1 := (row_lt hrow q rfl).1
      have h2 := (R3.out.ext (ext_a1 WX (.cells (toldC s t d 0 .f64 b) 44))).lt
      have h3 := Nat.lt_of_lt_of_le h2 h1
      omega
    have g0 : w5.cell? ⟨G, 0, none⟩ = some (.int .i64 1) := hq.cell 0
    have g1 : w5.cell? ⟨G, 1, none⟩ = some (.slice (some ⟨q, 0, none⟩) 1 c) := hq.cell 1
    have r0 : w5.cell? ⟨w.heap.size + 1, 0, none⟩ = some (.int .i64 0) := HRB.out.cell 0
    have r1 : w5.cell? ⟨w.heap.size + 1, 1, none⟩ = some (.slice none 0 0) := HRB.out.cell 1
    have f0 := HRB.out.free 0; have f1 := HRB.out.free 1
    clear hq hrow hof v0 v1 v2 v3 v4
    go_wp2_with fail
    rw [rounds_succ]
    go_wp2_with fail
    ((try simp only [Exit.inBlock, Exit.then]); refine bodyPost_ret (v := .tuple #[.agg #[_, _], _]) (by rw [results_cell_tmp rfl]; go_simp; exact ⟨⟨rfl, rfl⟩, rfl⟩) rfl ?_)
    have hne : (Value.slice (some ⟨q, 0, none⟩) 1 c).ownBlock ≠ some (w.heap.size + 1) := by rintro h; exact hqb (Option.some.inj h)
    exact ⟨q, c, rfl, row_setOther (row_setOther (row_base HR.out HBs.out) _ hne) _ hne, ext_set2 HX5.out _ (by omega) _ _⟩

end Go.Proofs.Ytmopfhkppjcgbaa
namespace Go.Proofs.Ytmopfhkppjcgbaa
open Go.RowKit

attribute [local go_sem] run_store_float

set_option maxRecDepth 100000 in
set_option maxHeartbeats 6400000 in
theorem fold1_c (s t d : List UInt8) (v : Int) (b : Nat) (a : Nat) (w : World) (h : Blk w a 44 (toldC s t d v .f64 b)) (_ht : t.length ≤ 1000000) (_hd : (d.length : Int) ≤ 1000000) (hok : echeckN t d = 0) (hv : (v == 0) = false) :
    Calls Try.prog 16 #[.agg #[.int .i64 0, .slice none 0 0], .slice (some ⟨a, 0, none⟩) 1 1] w fun e w' => e = .returned (.tuple #[.agg #[.int .i64 0, .slice none 0 0], .int .i64 80]) ∧ Ext w w' := by
  have HE1 := Lib.hid (ext_a2 w (.cells #[.int .i64 0, .slice none 0 0] 24) (.cells #[.int .i64 0, .slice none 0 0] 24))
  have H1 := Lib.hid (h.ext HE1.out)
  have B0 := Lib.hid ((Blk.new w 24 #[.int .i64 0, .slice none 0 0]).ext (ext_a1 _ (.cells #[.int .i64 0, .slice none 0 0] 24)))
  have b1 := Blk.new (w.alloc (.cells #[.int .i64 0, .slice none 0 0] 24)) 24 #[.int .i64 0, .slice none 0 0]
  simp only [World.size_alloc] at b1
  have B1 := Lib.hid b1
  have HOk := Lib.hid hok
  have ha := h.lt
  clear h hok b1
  unfold toldC at H1
  go_enter Try.func16, Try.ntmps16
  go_wp2_with fail
  refine (fcheck_c 0 none 0 0 [] _ (Kds.empty _)).mono ?_
  rw [check0]
  rintro e w2 ⟨rfl, hw2⟩
  have HW2 := Lib.hid hw2
  have S0 := Lib.hid (B0.out.ext hw2); have S1 := Lib.hid (B1.out.ext hw2); have V2 := Lib.hid (H1.out.ext hw2)
  have a0 : w2.cell? ⟨w.heap.size, 0, none⟩ = some (.int .i64 0) := S0.out.cell 0
  have a1 : w2.cell? ⟨w.heap.size, 1, none⟩ = some (.slice none 0 0) := S0.out.cell 1
  have hsz : w.heap.size + 1 < w2.heap.size := S1.out.lt
  have hlw : w.heap.size < w2.heap.size := by omega
  have hnw : w.heap.size ≠ w2.heap.size := by omega
  clear hw2
  go_wp2_with fail
  go_region_law (go_simp; go_at_call 26; refine (clone0_c _).mono ?_; rintro e w3 ⟨rfl, hw3⟩; first | (have HAF := Lib.hid (((Blk.new w2 24 #[.int .i64 0, .slice none 0 0]).drew).ext hw3); have HW3 := Lib.hid (Ext.trans (Ext.drew (ext_a1 w2 (.cells #[.int .i64 0, .slice none 0 0] 24))) hw3); have T0 := Lib.hid (S0.out.ext HW3.out); have b0 : w3.cell? ⟨w.heap.size, 0, none⟩ = some (.int .i64 0) := T0.out.cell 0; have b1 : w3.cell? ⟨w.heap.size, 1, none⟩ = some (.slice none 0 0) := T0.out.cell 1; have q0 : w3.cell? ⟨w2.heap.size, 0, none⟩ = some (.int .i64 0) := HAF.out.cell 0; have q1 : w3.cell? ⟨w2.heap.size, 1, none⟩ = some (.slice none 0 0) := HAF.out.cell 1; have q2 := HAF.out.free 0; have q3 := HAF.out.free 1; clear hw3) | (have HW3 := Lib.hid (Ext.trans (Ext.drew (Ext.refl w2)) hw3); have T0 := Lib.hid (S0.out.ext HW3.out); have b0 : w3.cell? ⟨w.heap.size, 0, none⟩ = some (.int .i64 0) := T0.out.cell 0; have b1 : w3.cell? ⟨w.heap.size, 1, none⟩ = some (.slice none 0 0) := T0.out.cell 1; have hl3 : w.heap.size < w3.heap.size := T0.out.lt; have hn3 : w.heap.size ≠ w3.heap.size := Nat.ne_of_lt hl3; clear hw3))
  all_goals
    first
    | (have hb : Blk ((w3.setCell ⟨w2.heap.size, 0, none⟩ (.int .i64 0)).setCell ⟨w2.heap.size, 1, none⟩ (.slice none 0 0)) w2.heap.size 24 #[.int .i64 0, .slice none 0 0] := (HAF.out.set 0 (.int .i64 0)).set 1 (.slice none 0 0)
       have hx : Ext w2 ((w3.setCell ⟨w2.heap.size, 0, none⟩ (.int .i64 0)).setCell ⟨w2.heap.size, 1, none⟩ (.slice none 0 0)) := Below.setCell (Below.setCell HW3.out (p := ⟨w2.heap.size, 0, none⟩) (Nat.le_refl _) _) (p := ⟨w2.heap.size, 1, none⟩) (Nat.le_refl _) _
       generalize hWX : ((w3.setCell ⟨w2.heap.size, 0, none⟩ (.int .i64 0)).setCell ⟨w2.heap.size, 1, none⟩ (.slice none 0 0)) = WX at hb hx ⊢
       generalize hGG : (w2.heap.size : Nat) = G at hb ⊢
       have hle := Nat.le_of_eq hGG
       clear HAF q0 q1 q2 q3 hWX hGG)
    | (have hb := Blk.new w3 24 #[.int .i64 0, .slice none 0 0]
       have hx : Ext w2 (w3.alloc (.cells #[.int .i64 0, .slice none 0 0] 24)) := HW3.out.trans (ext_a1 _ _)
       have hle : w2.heap.size ≤ w3.heap.size := HW3.out.size
       generalize hWX : (w3.alloc (.cells #[.int .i64 0, .slice none 0 0] 24)) = WX at hb hx ⊢
       generalize hGG : (w3.heap.size : Nat) = G at hb hle ⊢
       clear hWX hGG)
    have HB := Lib.hid hb; have HX := Lib.hid hx
    have hglt : G < WX.heap.size := hb.lt
    clear hb hx b0 b1 T0 HW3
    have V3 := Lib.hid (V2.out.ext HX.out); have R3 := Lib.hid (S1.out.ext HX.out)
    have v0 : WX.cell? ⟨a, 0, none⟩ = some (.string ⟨s.toArray⟩) := V3.out.cell 0
    have v1 : WX.cell? ⟨a, 1, none⟩ = some (.int .i64 v) := V3.out.cell 1
    have v2 : WX.cell? ⟨a, 2, none⟩ = some (.string ⟨t.toArray⟩) := V3.out.cell 2
    have v3 : WX.cell? ⟨a, 3, none⟩ = some (.string ⟨d.toArray⟩) := V3.out.cell 3
    have v4 : WX.cell? ⟨a, 4, none⟩ = some (.float .f64 b) := V3.out.cell 4
    go_wp2_with fail
    refine wp_loop_rounds 2 ?_
    rw [rounds_succ]
    go_wp2_with fail
    refine (step1_c s t d v .f64 b G _ (HB.out.ext (ext_a1 _ _)) _ht _hd HOk.out hv).mono ?_
    rintro e w5 ⟨rfl, hw5⟩
    have HRB := Lib.hid ((R3.out.ext (ext_a1 WX (.cells (toldC s t d v .f64 b) 44))).ext hw5)
    have HX5 : Hid (Ext w w5) := Lib.hid ((HE1.out.trans (HW2.out.trans (HX.out.trans (ext_a1 WX (.cells (toldC s t d v .f64 b) 44))))).trans hw5)
    have r0 : w5.cell? ⟨w.heap.size + 1, 0, none⟩ = some (.int .i64 0) := HRB.out.cell 0
    have r1 : w5.cell? ⟨w.heap.size + 1, 1, none⟩ = some (.slice none 0 0) := HRB.out.cell 1
    have f0 := HRB.out.free 0; have f1 := HRB.out.free 1
    clear hw5 v0 v1 v2 v3 v4
    go_wp2_with fail
    ((try simp only [Exit.inBlock, Exit.then]); refine bodyPost_ret (v := .tuple #[.agg #[_, _], _]) (by rw [results_cell_tmp rfl]; go_simp; exact ⟨⟨rfl, rfl⟩, rfl⟩) rfl ?_)
    exact ⟨rfl, ext_set2 HX5.out _ (by omega) _ _⟩

end Go.Proofs.Ytmopfhkppjcgbaa
namespace Go.Proofs.Ytmopfhkppjcgbaa
open Go.RowKit
attribute [local go_sem] run_store_float

set_option maxRecDepth 100000 in
set_option maxHeartbeats 1600000 in
theorem fstep0_c (s t d : List UInt8) (b : Nat) (w : World) (_ht : t.length ≤ 1000000) (_hd : (d.length : Int) ≤ 1000000) (hok : echeckN t d = 0) :
    Calls Try.prog 13 #[.agg #[.int .i64 0, .slice none 0 0], toldV s t d 0 .f64 b] w fun e w' => ∃ q c, e = .returned (.tuple #[.agg #[.int .i64 1, .slice (some ⟨q, 0, none⟩) 1 c], .int .i64 0]) ∧ w'.ownsRow w.heap.size 54 3 (.slice (some ⟨q, 0, none⟩) 1 c) 1 (kc ⟨t, 1, d.length⟩) ∧ Ext w w' := by
  have HOk := Lib.hid hok; clear hok
  have r0 := (Blk.new ((w.alloc (.cells #[.int .i64 0, .slice none 0 0] 24)).alloc (.cells (toldC s t d 0 .f64 b) 44)) 24 #[.int .i64 0, .slice none 0 0]).ext (ext_a1 _ (.cells (toldC s t d 0 .f64 b) 44))
  have l0 := Blk.new (((w.alloc (.cells #[.int .i64 0, .slice none 0 0] 24)).alloc (.cells (toldC s t d 0 .f64 b) 44)).alloc (.cells #[.int .i64 0, .slice none 0 0] 24)) 44 (toldC s t d 0 .f64 b)
  have HE := Lib.hid ((ext_a2 w (.cells #[.int .i64 0, .slice none 0 0] 24) (.cells (toldC s t d 0 .f64 b) 44)).trans (ext_a2 _ (.cells #[.int .i64 0, .slice none 0 0] 24) (.cells (toldC s t d 0 .f64 b) 44)))
  simp only [World.size_alloc] at r0 l0
  have R0 := Lib.hid r0; have L0 := Lib.hid l0
  clear r0 l0
  unfold toldV
  go_enter Try.func13, Try.ntmps13
  go_wp2_with fail
  refine (fold0_c s t d b _ _ L0.out _ht _hd HOk.out).mono ?_
  rintro e w5 ⟨q, c, rfl, hrow, hw5⟩
  have HR := Lib.hid hrow
  have RB := Lib.hid (R0.out.ext hw5)
  have HX := Lib.hid (HE.out.trans hw5)
  have hqb : q ≠ w.heap.size + 1 + 1 := fun h => by
    have h3 := Nat.lt_of_lt_of_le R0.out.lt (row_lt hrow q rfl).1
    omega
  have r0 : w5.cell? ⟨w.heap.size + 1 + 1, 0, none⟩ = some (.int .i64 0) := RB.out.cell 0
  have r1 : w5.cell? ⟨w.heap.size + 1 + 1, 1, none⟩ = some (.slice none 0 0) := RB.out.cell 1
  have f0 := RB.out.free 0; have f1 := RB.out.free 1
  clear hrow hw5
  go_wp2_with fail
  ((try simp only [Exit.inBlock, Exit.then]); refine bodyPost_ret (v := .tuple #[.agg #[_, _], _]) (by rw [results_cell_tmp rfl]; go_simp; exact ⟨⟨rfl, rfl⟩, rfl⟩) rfl ?_)
  have hne : (Value.slice (some ⟨q, 0, none⟩) 1 c).ownBlock ≠ some (w.heap.size + 1 + 1) := by rintro h; exact hqb (Option.some.inj h)
  exact ⟨q, c, rfl, row_setOther (row_setOther (row_base HR.out HE.out.size) _ hne) _ hne, ext_set2 HX.out _ (by omega) _ _⟩

set_option maxRecDepth 100000 in
set_option maxHeartbeats 1600000 in
theorem fstep1_c (s t d : List UInt8) (v : Int) (b : Nat) (w : World) (_ht : t.length ≤ 1000000) (_hd : (d.length : Int) ≤ 1000000) (hok : echeckN t d = 0) (hv : (v == 0) = false) :
    Calls Try.prog 13 #[.agg #[.int .i64 0, .slice none 0 0], toldV s t d v .f64 b] w fun e w' => e = .returned (.tuple #[.agg #[.int .i64 0, .slice none 0 0], .int .i64 80]) ∧ Ext w w' := by
  have HOk := Lib.hid hok; clear hok
  have r0 := (Blk.new ((w.alloc (.cells #[.int .i64 0, .slice none 0 0] 24)).alloc (.cells (toldC s t d v .f64 b) 44)) 24 #[.int .i64 0, .slice none 0 0]).ext (ext_a1 _ (.cells (toldC s t d v .f64 b) 44))
  have l0 := Blk.new (((w.alloc (.cells #[.int .i64 0, .slice none 0 0] 24)).alloc (.cells (toldC s t d v .f64 b) 44)).alloc (.cells #[.int .i64 0, .slice none 0 0] 24)) 44 (toldC s t d v .f64 b)
  have HE := Lib.hid ((ext_a2 w (.cells #[.int .i64 0, .slice none 0 0] 24) (.cells (toldC s t d v .f64 b) 44)).trans (ext_a2 _ (.cells #[.int .i64 0, .slice none 0 0] 24) (.cells (toldC s t d v .f64 b) 44)))
  simp only [World.size_alloc] at r0 l0
  have R0 := Lib.hid r0; have L0 := Lib.hid l0
  clear r0 l0
  unfold toldV
  go_enter Try.func13, Try.ntmps13
  go_wp2_with fail
  refine (fold1_c s t d v b _ _ L0.out _ht _hd HOk.out hv).mono ?_
  rintro e w5 ⟨rfl, hw5⟩
  have RB := Lib.hid (R0.out.ext hw5)
  have HX := Lib.hid (HE.out.trans hw5)
  have r0 : w5.cell? ⟨w.heap.size + 1 + 1, 0, none⟩ = some (.int .i64 0) := RB.out.cell 0
  have r1 : w5.cell? ⟨w.heap.size + 1 + 1, 1, none⟩ = some (.slice none 0 0) := RB.out.cell 1
  have f0 := RB.out.free 0; have f1 := RB.out.free 1
  clear hw5
  go_wp2_with fail
  ((try simp only [Exit.inBlock, Exit.then]); refine bodyPost_ret (v := .tuple #[.agg #[_, _], _]) (by rw [results_cell_tmp rfl]; go_simp; exact ⟨⟨rfl, rfl⟩, rfl⟩) rfl ?_)
  exact ⟨rfl, ext_set2 HX.out _ (by omega) _ _⟩

theorem echeck1 : echeckN [97] [120, 121] = 0 := by decide
theorem fput0 : ∃ P : List UInt8, fputS 0 [] = (P, 0) ∧ 7 ≤ P.length := ⟨_, fputS_yes check0, by rw [sealS_length]; decide⟩

set_option maxRecDepth 100000 in
set_option maxHeartbeats 6400000 in
theorem folded_c (w : World) : Calls Try.prog 6 #[] w fun e w' => e = .returned (.bool true) ∧ Ext w w' := by
  obtain ⟨P, hP, hPl⟩ := fput0
  have HP := Lib.hid hP; clear hP
  have hPl' : (6 : Int) < (P.length : Int) := by omega
  have t1 := Blk.new w 44 (toldC [115] [97] [120, 121] 0 .f64 0)
  have T1 := Lib.hid t1
  have HE1 := Lib.hid (ext_a1 w (.cells (toldC [115] [97] [120, 121] 0 .f64 0) 44))
  clear t1
  go_enter Try.func6, Try.ntmps6
  go_wp2_with fail
  refine (fstep0_c [115] [97] [120, 121] 0 _ (by decide) (by decide) echeck1).mono ?_
  rintro e w2 ⟨q, c, rfl, hrow, hw2⟩
  have T2 := Lib.hid (T1.out.ext hw2)
  have E2 := Lib.hid (HE1.out.trans hw2)
  have hl2 : w.heap.size < w2.heap.size := T2.out.lt
  have hn2 : w.heap.size ≠ w2.heap.size := Nat.ne_of_lt hl2
  have hq1 : w.heap.size + 1 ≤ q := by have h := (row_lt hrow q rfl).1; rwa [World.size_alloc] at h
  have hqw : q ≠ w.heap.size := by omega
  have hq2 : q < w2.heap.size := (row_lt hrow q rfl).2
  have t0 : w2.cell? ⟨w.heap.size, 0, none⟩ = some (.string ⟨#[115]⟩) := T2.out.cell 0
  have t1 : w2.cell? ⟨w.heap.size, 1, none⟩ = some (.int .i64 0) := T2.out.cell 1
  have t2 : w2.cell? ⟨w.heap.size, 2, none⟩ = some (.string ⟨#[97]⟩) := T2.out.cell 2
  have t3 : w2.cell? ⟨w.heap.size, 3, none⟩ = some (.string ⟨#[120, 121]⟩) := T2.out.cell 3
  have t4 : w2.cell? ⟨w.heap.size, 4, none⟩ = some (.float .f64 0) := T2.out.cell 4
  have y1 := T2.out.free 1
  have hne : (Value.slice (some ⟨q, 0, none⟩) 1 c).ownBlock ≠ some w.heap.size := by rintro h; exact hqw (Option.some.inj h)
  have HR2 := Lib.hid (row_ext (row_setOther (a := ⟨w.heap.size, 1, none⟩) hrow (.int .i64 1) hne) (ext_a1 _ (.cells #[.int .i64 1, .slice (some ⟨q, 0, none⟩) 1 c] 24)))
  have sb := Blk.new (w2.setCell ⟨w.heap.size, 1, none⟩ (.int .i64 1)) 24 #[.int .i64 1, .slice (some ⟨q, 0, none⟩) 1 c]
  have hsz : (w2.setCell ⟨w.heap.size, 1, none⟩ (.int .i64 1)).heap.size = w2.heap.size := by simp [World.setCell]
  rw [hsz] at sb
  have SB2 := Lib.hid sb
  have E3 := Lib.hid (Ext.trans (Below.setCell E2.out (p := ⟨w.heap.size, 1, none⟩) (Nat.le_refl _) (.int .i64 1)) (ext_a1 _ (.cells #[.int .i64 1, .slice (some ⟨q, 0, none⟩) 1 c] 24)))
  clear hsz sb
  clear hrow hw2 hne
  go_wp2_with fail
  refine (fstep1_c [115] [97] [120, 121] 1 0 _ (by decide) (by decide) echeck1 (by decide)).mono ?_
  rintro e w3 ⟨rfl, hw3⟩
  have HR3 := Lib.hid (row_ext HR2.out (hw3.trans (ext_a1 w3 (.cells #[.int .i64 0, .slice none 0 0] 24))))
  have SB3 := Lib.hid (SB2.out.ext (hw3.trans (ext_a1 w3 (.cells #[.int .i64 0, .slice none 0 0] 24))))
  have E4 := Lib.hid (Ext.trans E3.out (hw3.trans (ext_a1 w3 (.cells #[.int .i64 0, .slice none 0 0] 24))))
  clear hw3 t0 t1 t2 t3 t4 y1
  go_wp2_with fail
  refine (fput_c 0 none 0 0 [] _ (Kds.empty _)).mono ?_
  rw [HP.out]
  rintro e w4 ⟨rfl, hw4⟩
  have HR4 := Lib.hid (row_ext HR3.out hw4)
  have SB4 := Lib.hid (SB3.out.ext hw4)
  have E5 := Lib.hid (Ext.trans E4.out hw4)
  have s0 : w4.cell? ⟨w2.heap.size, 0, none⟩ = some (.int .i64 1) := SB4.out.cell 0
  have s1 : w4.cell? ⟨w2.heap.size, 1, none⟩ = some (.slice (some ⟨q, 0, none⟩) 1 c) := SB4.out.cell 1
  have k0 : w4.cell? ⟨q, 0, none⟩ = some (.string ⟨#[97]⟩) := World.ownsRow.cellAt HR4.out 0 (by decide)
  have k1 : w4.cell? ⟨q, 1, none⟩ = some (.int .i64 1) := World.ownsRow.cellAt HR4.out 1 (by decide)
  have k2 : w4.cell? ⟨q, 2, none⟩ = some (.int .i64 2) := World.ownsRow.cellAt HR4.out 2 (by decide)
  clear hw4
  go_wp2_with fail
  go_ret
  exact ⟨rfl, E5.out⟩

end Go.Proofs.Ytmopfhkppjcgbaa
