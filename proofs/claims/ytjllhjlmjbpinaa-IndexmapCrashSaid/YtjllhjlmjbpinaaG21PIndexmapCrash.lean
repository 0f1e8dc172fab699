/- Walks: the manifest of some bytes. Walks: the document's manifest of some bytes. Walks: the document's manifest of some bytes. -/
import Derived.Test.YtjllhjlmjbpinaaChecked
import Derived.Test.YtjllhjlmjbpinaaG20PIndexmapCrash
import Derived.Test.YtjllhjlmjbpinaaG19PIndexmapCrash
import Derived.Test.YtjllhjlmjbpinaaG18PIndexmapCrash
import Derived.Laws.ResultCell
set_option linter.unusedVariables false
set_option linter.unusedSimpArgs false
namespace Go.Proofs.Ytjllhjlmjbpinaa
open Go.RowKit

def levG : Nat → List UInt8 → Bool → List Int → List Int × List UInt8 × Bool
  | 0, s, ok, acc => (acc, s, ok)
  | i + 1, s, ok, acc => if ok then levG i (takeR 4 s) (takeO 4 s ok) (acc ++ [(takeV 4 s : Int)]) else (acc, s, ok)

def levsG : Nat → List UInt8 → Bool → List (List Int) → List (List Int) × List UInt8 × Bool
  | 0, s, ok, acc => (acc, s, ok)
  | k + 1, s, ok, acc => if ok then levsG k (levG (takeV 1 s) (takeR 1 s) (takeO 1 s ok) []).2.1 (levG (takeV 1 s) (takeR 1 s) (takeO 1 s ok) []).2.2 (acc ++ [(levG (takeV 1 s) (takeR 1 s) (takeO 1 s ok) []).1]) else (acc, s, ok)

theorem takeV_lt (k : Nat) (s : List UInt8) : takeV k s < 256 ^ k := by
  unfold takeV
  split
  · exact Nat.pow_pos (by decide)
  · have := unbe_lt (s.take k)
    rwa [List.length_take, Nat.min_eq_left (by omega)] at this
theorem takeR_le (k : Nat) (s : List UInt8) : (takeR k s).length ≤ s.length := by unfold takeR; split <;> simp

/-- what is read from the front of the opened bytes -/
structure Parsed where
  nx : Int
  ck : Int
  sd : Int
  L : List (List Int)
  r : List UInt8
  ok : Bool

def parseG (s : List UInt8) : Parsed :=
  let r0 := s.drop 4
  let r1 := takeR 4 r0; let o1 := takeO 4 r0 true
  let r2 := takeR 4 r1; let o2 := takeO 4 r1 o1
  let r3 := takeR 8 r2; let o3 := takeO 8 r2 o2
  let r4 := takeR 1 r3; let o4 := takeO 1 r3 o3
  let p := levsG (takeV 1 r3) r4 o4 []
  ⟨takeV 4 r0, takeV 4 r1, takeV 8 r2, p.1, p.2.1, p.2.2⟩

/-- the inner loop's state: the row so far, the bytes, what is still to do -/
theorem levG_len : ∀ i s ok acc, (levG i s ok acc).1.length ≤ acc.length + i ∧ (levG i s ok acc).2.1.length ≤ s.length
  | 0, s, ok, acc => ⟨Nat.le_refl _, Nat.le_refl _⟩
  | i + 1, s, ok, acc => by
    rw [levG]
    split
    · have h := levG_len i (takeR 4 s) (takeO 4 s ok) (acc ++ [(takeV 4 s : Int)])
      have h2 := takeR_le 4 s
      simp at h; omega
    · simp

def okInt (x : Int) : Prop := 0 ≤ x ∧ x < 4294967296
theorem levG_ok : ∀ i s ok acc, (∀ x ∈ acc, okInt x) → ∀ x ∈ (levG i s ok acc).1, okInt x
  | 0, s, ok, acc, h => h
  | i + 1, s, ok, acc, h => by
    rw [levG]
    split
    · refine levG_ok i _ _ _ fun x hx => ?_
      rw [List.mem_append, List.mem_singleton] at hx
      rcases hx with hx | rfl
      · exact h x hx
      · have := takeV_lt 4 s; unfold okInt; omega
    · exact h

structure Got where
  nx : Int
  ck : Int
  sd : Int
  L : List (List Int)
  en : Int

def badM : Got := ⟨0, 0, 0, [], 90⟩
def frontOk (t : List UInt8) : Bool := decide (4 ≤ t.length) && decide (t.take 4 = [105, 109, 97, 112])
def parseOk (p : Parsed) (s : List UInt8) : Bool := p.ok && decide (p.r = []) && mvalid p.nx p.ck p.L && decide ((mputS p.nx p.ck p.sd p.L).1 = s)
def mgetS (s : List UInt8) : Got :=
  if openB s && frontOk (openT s) then (if parseOk (parseG (openT s)) s then ⟨(parseG (openT s)).nx, (parseG (openT s)).ck, (parseG (openT s)).sd, (parseG (openT s)).L, 0⟩ else badM) else badM

/-- hands back this manifest, and this error's number -/
def RetM (w : World) (g : Got) (e : Ending) (w' : World) : Prop :=
  ∃ v vs, e = .returned (.tuple #[.agg #[.int .i64 g.nx, .int .i64 g.ck, .int .u64 g.sd, v], .int .i64 g.en]) ∧ OGr w' w.heap.size 32 3 v vs g.L ∧ Ext w w'

theorem ext_set4 {w w1 : World} (h : Ext w w1) (g : Nat) (hg : w.heap.size ≤ g) (a b c d : Value) : Ext w ((((w1.setCell ⟨g, 0, none⟩ a).setCell ⟨g, 1, none⟩ b).setCell ⟨g, 2, none⟩ c).setCell ⟨g, 3, none⟩ d) :=
  Below.setCell (Below.setCell (Below.setCell (Below.setCell h hg a) hg b) hg c) hg d

theorem RetM.bad {w w1 : World} (h : Ext w w1) (g : Nat) (hg : w.heap.size ≤ g) (s : List UInt8) (hs : mgetS s = badM) (a b c d : Value) :
    RetM w (mgetS s) (.returned (.tuple #[.agg #[.int .i64 0, .int .i64 0, .int .u64 0, .slice none 0 0], .int .i64 90])) ((((w1.setCell ⟨g, 0, none⟩ a).setCell ⟨g, 1, none⟩ b).setCell ⟨g, 2, none⟩ c).setCell ⟨g, 3, none⟩ d) := by
  rw [hs]; exact ⟨_, _, rfl, OGr.nil _ _ _ _, ext_set4 h g hg a b c d⟩

theorem box4z {w w1 : World} {a b c d : Value} {t : TypeId} (h : Ext (w.alloc (.cells #[a, b, c, d] t)) w1) :
    w1.frozen? ⟨w.heap.size, 0, none⟩ = false ∧ w1.frozen? ⟨w.heap.size, 1, none⟩ = false ∧ w1.frozen? ⟨w.heap.size, 2, none⟩ = false ∧ w1.frozen? ⟨w.heap.size, 3, none⟩ = false := by
  have k := box4 (w := w) (Ext.refl (w.alloc (.cells #[a, b, c, d] t)))
  exact ⟨frozen_ext h k.1 (by simp), frozen_ext h k.2.1 (by simp), frozen_ext h k.2.2.1 (by simp), frozen_ext h k.2.2.2 (by simp)⟩

theorem front_no {t : List UInt8} (h : frontOk t = false) : (decide ((t.length : Int) < 4) || !(t.take 4 == [105, 109, 97, 112])) = true := by
  unfold frontOk at h
  rw [Bool.and_eq_false_iff, decide_eq_false_iff_not, decide_eq_false_iff_not] at h
  rw [Bool.or_eq_true, decide_eq_true_iff]
  rcases h with h | h
  · left; omega
  · right; simpa using h

theorem flatten_le (m : Nat) : ∀ L : List (List Int), (∀ r ∈ L, r.length ≤ m) → L.flatten.length ≤ m * L.length
  | [], _ => by simp
  | r :: L, h => by
    have h1 := h r (by simp)
    have h2 := flatten_le m L fun x hx => h x (by simp [hx])
    simp only [List.flatten_cons, List.length_append, List.length_cons, Nat.mul_add]; omega

/-- the manifest that is being read lies in block g -/
def Mbx (w : World) (g : Nat) (a b c : Int) (v : Value) : Prop := w.heap[g]? = some (.cells #[.int .i64 a, .int .i64 b, .int .u64 c, v] 45 (0, 0))
theorem Mbx.cs {w : World} {g : Nat} {a b c : Int} {v : Value} (h : Mbx w g a b c v) : w.cell? ⟨g, 0, none⟩ = some (.int .i64 a) ∧ w.cell? ⟨g, 1, none⟩ = some (.int .i64 b) ∧ w.cell? ⟨g, 2, none⟩ = some (.int .u64 c) ∧ w.cell? ⟨g, 3, none⟩ = some v ∧ w.frozen? ⟨g, 3, none⟩ = false := by
  unfold Mbx at h; simp [World.cell?, World.frozen?, h]
theorem Mbx.same {w w' : World} {g : Nat} {a b c : Int} {v : Value} (h : Mbx w g a b c v) (k : w'.heap[g]? = w.heap[g]?) : Mbx w' g a b c v := k.trans h
theorem Mbx.lt {w : World} {g : Nat} {a b c : Int} {v : Value} (h : Mbx w g a b c v) : g < w.heap.size := World.block_lt_of_cell? (h := h.cs.1)
theorem Mbx.set {w : World} {g : Nat} {a b c : Int} {v : Value} (h : Mbx w g a b c v) (u : Value) : Mbx (w.setCell ⟨g, 3, none⟩ u) g a b c u := by
  unfold Mbx at h ⊢; simp [World.setCell, Array.getElem?_modify, h]

theorem wf_ok {x : Int} (h : okInt x) : (Lit.int .i64 x).wf = true := by
  obtain ⟨h1, h2⟩ := h
  have e1 : IntKind.i64.min = -9223372036854775808 := rfl
  have e2 : IntKind.i64.max = 9223372036854775807 := rfl
  simp [Lit.wf]; omega

def okRow (r : List Int) : Prop := r.length ≤ 255 ∧ ∀ x ∈ r, okInt x

theorem levsG_step {m a : Nat} {s s2 : List UInt8} {ok2 : Bool} {acc : List (List Int)} {row : List Int} (ha : takeV 1 s = a) (hd : levG a (takeR 1 s) (takeO 1 s true) [] = (row, s2, ok2)) :
    levsG (m + 1) s true acc = levsG m s2 ok2 (acc ++ [row]) := by rw [levsG, if_pos rfl, ha, hd]
theorem levsG_no {m : Nat} {s : List UInt8} {acc : List (List Int)} : levsG m s false acc = (acc, s, false) := by
  cases m with
  | zero => rfl
  | succ m => rw [levsG]; simp
theorem levG_no {m : Nat} {s : List UInt8} {acc : List Int} : levG m s false acc = (acc, s, false) := by
  cases m with
  | zero => rfl
  | succ m => rw [levG]; simp

theorem parseOk_ok {p : Parsed} {s : List UInt8} (h : p.ok = false) : parseOk p s = false := by unfold parseOk; rw [h]; rfl
theorem parseOk_r {p : Parsed} {s : List UInt8} (h : p.r ≠ []) : parseOk p s = false := by unfold parseOk; rw [decide_eq_false h, Bool.and_false]; rfl
theorem parseOk_v {p : Parsed} {s : List UInt8} (h : mvalid p.nx p.ck p.L = false) : parseOk p s = false := by unfold parseOk; rw [h, Bool.and_false]; rfl
theorem parseOk_p {p : Parsed} {s : List UInt8} (h : (mputS p.nx p.ck p.sd p.L).1 ≠ s) : parseOk p s = false := by unfold parseOk; rw [decide_eq_false h, Bool.and_false]
theorem parseOk_y {p : Parsed} {s : List UInt8} (h1 : p.ok = true) (h2 : p.r = []) (h3 : mvalid p.nx p.ck p.L = true) (h4 : (mputS p.nx p.ck p.sd p.L).1 = s) : parseOk p s = true := by unfold parseOk; rw [h1, h3, decide_eq_true h2, decide_eq_true h4]; rfl

structure Front (r0 : List UInt8) (a1 a2 a3 a4 : Nat) (r1 r2 r3 r4 : List UInt8) (o1 o2 o3 o4 : Bool) : Prop where
  A1 : takeV 4 r0 = a1
  R1 : takeR 4 r0 = r1
  O1 : takeO 4 r0 true = o1
  A2 : takeV 4 r1 = a2
  R2 : takeR 4 r1 = r2
  O2 : takeO 4 r1 o1 = o2
  A3 : takeV 8 r2 = a3
  R3 : takeR 8 r2 = r3
  O3 : takeO 8 r2 o2 = o3
  A4 : takeV 1 r3 = a4
  R4 : takeR 1 r3 = r4
  O4 : takeO 1 r3 o3 = o4
theorem Front.made (r0 : List UInt8) : ∃ a1 a2 a3 a4 r1 r2 r3 r4 o1 o2 o3 o4, Front r0 a1 a2 a3 a4 r1 r2 r3 r4 o1 o2 o3 o4 := ⟨_, _, _, _, _, _, _, _, _, _, _, _, ⟨rfl, rfl, rfl, rfl, rfl, rfl, rfl, rfl, rfl, rfl, rfl, rfl⟩⟩
theorem Front.parse {t : List UInt8} {a1 a2 a3 a4 : Nat} {r1 r2 r3 r4 : List UInt8} {o1 o2 o3 o4 : Bool} (h : Front (t.drop 4) a1 a2 a3 a4 r1 r2 r3 r4 o1 o2 o3 o4) :
    parseG t = ⟨a1, a2, a3, (levsG a4 r4 o4 []).1, (levsG a4 r4 o4 []).2.1, (levsG a4 r4 o4 []).2.2⟩ := by
  obtain ⟨rfl, rfl, rfl, rfl, rfl, rfl, rfl, rfl, rfl, rfl, rfl, rfl⟩ := h; rfl
theorem Front.b {r0 : List UInt8} {a1 a2 a3 a4 : Nat} {r1 r2 r3 r4 : List UInt8} {o1 o2 o3 o4 : Bool} (h : Front r0 a1 a2 a3 a4 r1 r2 r3 r4 o1 o2 o3 o4) :
    (a1 : Int) < 4294967296 ∧ (a2 : Int) < 4294967296 ∧ (a3 : Int) < 18446744073709551616 ∧ (a4 : Int) < 256 ∧ r1.length ≤ r0.length ∧ r2.length ≤ r0.length ∧ r3.length ≤ r0.length ∧ r4.length ≤ r0.length := by
  obtain ⟨rfl, rfl, rfl, rfl, rfl, rfl, rfl, rfl, rfl, rfl, rfl, rfl⟩ := h
  have l1 := takeR_le 4 r0; have l2 := takeR_le 4 (takeR 4 r0); have l3 := takeR_le 8 (takeR 4 (takeR 4 r0)); have l4 := takeR_le 1 (takeR 8 (takeR 4 (takeR 4 r0)))
  refine ⟨Int.ofNat_lt.2 (takeV_lt 4 _), Int.ofNat_lt.2 (takeV_lt 4 _), Int.ofNat_lt.2 (takeV_lt 8 _), Int.ofNat_lt.2 (takeV_lt 1 _), ?_, ?_, ?_, ?_⟩ <;> omega

set_option maxRecDepth 100000 in
set_option maxHeartbeats 3200000 in
theorem mget_c (s : List UInt8) (w : World) (hl : s.length ≤ 4611686018427387903) :
    Calls Try.prog 53 #[.string ⟨s.toArray⟩] w (RetM w (mgetS s)) := by
  have HBad1 : Hid (openB s = false → mgetS s = badM) := Lib.hid (fun h => by unfold mgetS; rw [h]; rfl)
  have HBad2 : Hid (frontOk (openT s) = false → mgetS s = badM) := Lib.hid (fun h => by unfold mgetS; rw [h, Bool.and_false]; rfl)
  have HBad3 : Hid (parseOk (parseG (openT s)) s = false → mgetS s = badM) := Lib.hid (fun h => by unfold mgetS; rw [h]; split <;> rfl)
  have HGood : Hid (openB s = true → frontOk (openT s) = true → parseOk (parseG (openT s)) s = true → mgetS s = ⟨(parseG (openT s)).nx, (parseG (openT s)).ck, (parseG (openT s)).sd, (parseG (openT s)).L, 0⟩) := Lib.hid (fun h1 h2 h3 => by unfold mgetS; rw [h1, h2, h3]; rfl)
  have hot : (openT s).length ≤ s.length := by unfold openT; split <;> simp
  generalize hOT : openT s = t at *
  have HOT := Lib.hid hOT; clear hOT
  go_enter Try.func53, Try.ntmps53
  go_wp2_with fail
  refine (open_c s _ hl).mono ?_
  rw [HOT.out]
  rintro e w1 ⟨rfl, hb⟩
  obtain ⟨d0, d1, d2, d3⟩ := box4 hb
  obtain ⟨z0, z1, z2, z3⟩ := box4z hb
  have HB := Lib.hid hb; clear hb
  by_cases ho : openB s = false
  · have HS := Lib.hid (HBad1.out ho)
    rw [ho]
    go_wp2_with fail
    ((try simp only [Exit.inBlock, Exit.then]); refine bodyPost_ret (v := .tuple #[.agg #[_, _, _, _], _]) (by rw [results_cell_tmp rfl]; go_simp; exact ⟨⟨rfl, rfl, rfl, rfl⟩, rfl⟩) rfl ?_)
    exact RetM.bad ((ext_a1 _ _).trans HB.out) _ (Nat.le_refl _) s HS.out _ _ _ _
  have ho : openB s = true := by simpa using ho
  have HO := Lib.hid ho
  rw [ho]; clear ho
  by_cases hf : frontOk t = false
  · have HS := Lib.hid (HBad2.out hf)
    have hf2 := front_no hf
    clear hf
    by_cases h4 : t.length < 4
    · clear hf2
      go_wp2_with fail
      ((try simp only [Exit.inBlock, Exit.then]); refine bodyPost_ret (v := .tuple #[.agg #[_, _, _, _], _]) (by rw [results_cell_tmp rfl]; go_simp; exact ⟨⟨rfl, rfl, rfl, rfl⟩, rfl⟩) rfl ?_)
      exact RetM.bad ((ext_a1 _ _).trans HB.out) _ (Nat.le_refl _) s HS.out _ _ _ _
    · have hf3 : (List.take 4 t == [105, 109, 97, 112]) = false := by
        rw [Bool.or_eq_true, decide_eq_true_iff] at hf2
        rcases hf2 with h | h
        · omega
        · simpa using h
      clear hf2
      go_wp2_with fail
      ((try simp only [Exit.inBlock, Exit.then]); refine bodyPost_ret (v := .tuple #[.agg #[_, _, _, _], _]) (by rw [results_cell_tmp rfl]; go_simp; exact ⟨⟨rfl, rfl, rfl, rfl⟩, rfl⟩) rfl ?_)
      exact RetM.bad ((ext_a1 _ _).trans HB.out) _ (Nat.le_refl _) s HS.out _ _ _ _
  have hf : frontOk t = true := by simpa using hf
  have HF := Lib.hid hf
  have ⟨h4, hf4⟩ : 4 ≤ t.length ∧ t.take 4 = [105, 109, 97, 112] := by
    unfold frontOk at hf; rw [Bool.and_eq_true, decide_eq_true_iff, decide_eq_true_iff] at hf; exact hf
  have HGood' := Lib.hid (HGood.out HO.out HF.out)
  have HT4 : Hid ((t.drop 4).length ≤ 4611686018427387903) := Lib.hid (by rw [List.length_drop]; omega)
  obtain ⟨a1, a2, a3, a4, r1, r2, r3, r4, o1, o2, o3, o4, hfr⟩ := Front.made (t.drop 4)
  have HFr := Lib.hid hfr; clear hfr
  have HBad3' := Lib.hid (fun h => HBad3.out h)
  have htl : t.length ≤ 4611686018427387903 := by omega
  clear hf HGood HBad1 HBad2 HBad3 hot
  have hG : (w.alloc (.cells #[.int .i64 0, .int .i64 0, .int .u64 0, .slice none 0 0] 45)).heap.size ≤ w1.heap.size := HB.out.size
  have HG := Lib.hid hG; clear hG
  go_wp2_with fail
  have hrd : Rdr (w1.alloc (.cells #[.string ⟨(t.drop 4).toArray⟩, .bool true] 102)) w1.heap.size (t.drop 4) true := heap_alloc_new _ _
  refine (take_c (t.drop 4) true _ 4 4 _ rfl hrd (by have := HT4.out; omega) (by decide)).mono ?_
  rw [HFr.out.A1, HFr.out.R1, HFr.out.O1]
  rintro e w2 ⟨rfl, hrd2, hof2⟩
  have HRd2 := Lib.hid hrd2
  have HX2 := Lib.hid (Off.ext (HB.out.trans (ext_a1 _ _)) HG.out hof2)
  clear hrd hrd2 hof2
  have b1 := HFr.out.b.1; have b2 := HFr.out.b.2.1
  go_wp2_with fail
  refine (take_c r1 o1 _ 4 4 _ rfl HRd2.out (by have := HFr.out.b; have := HT4.out; omega) (by decide)).mono ?_
  rw [HFr.out.A2, HFr.out.R2, HFr.out.O2]
  rintro e w3 ⟨rfl, hrd3, hof3⟩
  have HRd3 := Lib.hid hrd3
  have HX3 := Lib.hid (Off.ext HX2.out HG.out hof3)
  clear hrd3 hof3
  go_wp2_with fail
  refine (take_c r2 o2 _ 8 8 _ rfl HRd3.out (by have := HFr.out.b; have := HT4.out; omega) (by decide)).mono ?_
  rw [HFr.out.A3, HFr.out.R3, HFr.out.O3]
  rintro e w4 ⟨rfl, hrd4, hof4⟩
  have HRd4 := Lib.hid hrd4
  have HX4 := Lib.hid (Off.ext HX3.out HG.out hof4)
  have hlt4 := hrd4.lt
  clear hrd4 hof4
  go_wp2_with fail
  have hmb5 : Mbx (w4.alloc (.cells #[.int .i64 a1, .int .i64 a2, .int .u64 a3, .slice none 0 0] 45)) w4.heap.size a1 a2 a3 (.slice none 0 0) := heap_alloc_new _ _
  refine (take_c r3 o3 _ 1 1 _ rfl (HRd4.out.ext (ext_a1 _ _)) (by have := HFr.out.b; have := HT4.out; omega) (by decide)).mono ?_
  rw [HFr.out.A4, HFr.out.R4, HFr.out.O4]
  rintro e w5 ⟨rfl, hrd5, hof5⟩
  have HMb5 := Lib.hid (hmb5.same (hof5.block _ hmb5.lt (by omega)))
  have HRd5 := Lib.hid hrd5
  have HX5 := Lib.hid (Off.ext (HX4.out.trans (ext_a1 _ _)) HG.out hof5)
  have hlt5 : w4.heap.size < w5.heap.size := HMb5.out.lt
  have b4 := HFr.out.b.2.2.2.1
  have HRL : Hid (r4.length ≤ 4611686018427387903) := Lib.hid (by have := HFr.out.b; have := HT4.out; omega)
  clear hrd5 hof5 hmb5 HX2 HX3 HX4 HRd2 HRd3 HRd4 HOT hf4 w2 w3
  go_wp2_with fail
  go_loopw [9] (fun i w' => ∃ (k : Nat) (s' : List UInt8) (ok' : Bool) (acc : List (List Int)) (v : Value) (vs : List Value), k ≤ a4 ∧ i = .int .i64 k ∧ Rdr w' w1.heap.size s' ok' ∧ levsG (a4 - k) s' ok' acc = levsG a4 r4 o4 [] ∧ Mbx w' w4.heap.size a1 a2 a3 v ∧ OGr w' w5.heap.size 32 3 v vs acc ∧ acc.length = k ∧ (∀ r ∈ acc, okRow r) ∧ s'.length ≤ 4611686018427387903 ∧ w5.heap.size ≤ w'.heap.size ∧ Ext (w.alloc (.cells #[.int .i64 0, .int .i64 0, .int .u64 0, .slice none 0 0] 45)) w') (fun i _ => a4 - (intOf i).toNat)
  case atStart => exact ⟨0, r4, o4, [], _, [], Nat.zero_le _, rfl, HRd5.out, rfl, HMb5.out, OGr.nil _ _ _ _, rfl, by simp, HRL.out, Nat.le_refl _, HX5.out⟩
  case round =>
    obtain ⟨k, s', ok', acc, v, vs, hk, rfl, hrd, hlev, hmb, hog, hal, hrows, hsl, hw5, hx⟩ := hrel
    obtain ⟨ao, co, rfl⟩ := hog.own.slice
    have hc1 := hrd.c1
    have HRd := Lib.hid hrd; have HLev := Lib.hid hlev; have HMb := Lib.hid hmb; have HOg := Lib.hid hog; have HAl := Lib.hid hal; have HRows := Lib.hid hrows; have HSl := Lib.hid hsl; have HX := Lib.hid hx
    have HW5 := Lib.hid hw5
    clear HRd5 HMb5 HX5 HRL
    clear hrd hlev hmb hog hal hrows hsl hw5 hx
    by_cases hkl : k < a4
    · cases ok' with
      | false =>
        have HS : Hid (mgetS s = badM) := Lib.hid (HBad3'.out (parseOk_ok (by rw [HFr.out.parse, ← HLev.out, levsG_no])))
        clear d0 d1 d2 d3 z0 z1 z2 z3 b1 b2
        obtain ⟨d0, d1, d2, d3⟩ := box4 HX.out
        obtain ⟨z0, z1, z2, z3⟩ := box4z HX.out
        go_wp2_with fail
        ((try simp only [Exit.inBlock, Exit.then]); refine bodyPost_ret (v := .tuple #[.agg #[_, _, _, _], _]) (by rw [results_cell_tmp rfl]; go_simp; exact ⟨⟨rfl, rfl, rfl, rfl⟩, rfl⟩) rfl ?_)
        exact RetM.bad ((ext_a1 _ _).trans HX.out) _ (Nat.le_refl _) s HS.out _ _ _ _
      | true =>
        go_wp2_with fail
        refine (take_c s' true _ 1 1 _ rfl HRd.out (by have := HSl.out; omega) (by decide)).mono ?_
        obtain ⟨a, ha⟩ : ∃ x, takeV 1 s' = x := ⟨_, rfl⟩
        have ba : (a : Int) < 256 := by have := takeV_lt 1 s'; rw [ha] at this; exact Int.ofNat_lt.2 this
        have HA := Lib.hid ha
        rw [ha]; clear ha
        rintro e w6 ⟨rfl, hrd6, hof6⟩
        have HRd6 := Lib.hid hrd6; have HOf6 := Lib.hid hof6
        have HTL : Hid ((takeR 1 s').length ≤ 4611686018427387903) := Lib.hid (by have := takeR_le 1 s'; have := HSl.out; omega)
        have hlt6 : w1.heap.size < w6.heap.size := hrd6.lt
        have HS6 := Lib.hid hof6.size
        have HW6 : Hid (w5.heap.size ≤ w6.heap.size) := Lib.hid (by have := HW5.out; have := hof6.size; omega)
        clear hrd6 hof6
        go_wp2_with fail
        go_loopw [10, 11] (fun v10 i w' => ∃ (j : Nat) (s2 : List UInt8) (ok2 : Bool) (row : List Int), j ≤ a ∧ i = .int .i64 j ∧ Rdr w' w1.heap.size s2 ok2 ∧ levG j s2 ok2 row = levG a (takeR 1 s') (takeO 1 s' true) [] ∧ Own w' w6.heap.size 3 1 v10 row.length (row.map (Value.int .i64)) ∧ row.length + j = a ∧ (∀ x ∈ row, okInt x) ∧ s2.length ≤ 4611686018427387903 ∧ Off w1.heap.size w6 w') (fun _ i _ => (intOf i).toNat)
        case atStart => exact ⟨a, _, _, [], Nat.le_refl _, rfl, HRd6.out, rfl, Own.nil _ _ _ _, by simp, by simp, HTL.out, Off.refl _ _⟩
        case round =>
          obtain ⟨j, s2, ok2, row, hj, rfl, hrd7, hlev7, hown7, hrl, hok7, hsl7, hof7⟩ := hrel
          have hc7 := hrd7.c1
          have HRd7 := Lib.hid hrd7; have HLev7 := Lib.hid hlev7; have HOwn7 := Lib.hid hown7; have HOk7 := Lib.hid hok7; have HSl7 := Lib.hid hsl7; have HOf7 := Lib.hid hof7
          clear hrd7 hlev7 hown7 hok7 hsl7 hof7
          cases j with
          | zero =>
            have HD : Hid (levG a (takeR 1 s') (takeO 1 s' true) [] = (row, s2, ok2)) := Lib.hid (by rw [← HLev7.out]; rfl)
            have HOf := Lib.hid (HOf6.out.trans HOf7.out)
            obtain ⟨ai, ci, rfl⟩ := HOwn7.out.slice
            have HMb7 := Lib.hid (HMb.out.same (HOf.out.block _ HMb.out.lt (by omega)))
            have m1 := HMb7.out.cs
            obtain ⟨_, _, _, m3, _⟩ := m1
            have hout := (Off.ogr HOg.out (show w1.heap.size < w5.heap.size by omega) HOf.out).ext (ext_a1 _ (.cells #[.slice ai row.length ci] 32))
            have HOut := Lib.hid hout; clear hout
            have hk255 : acc.length ≤ 255 := by have := HAl.out; omega
            have HOwnR := Lib.hid HOwn7.out
            have HRdR := Lib.hid HRd7.out
            clear HOwn7 HRd7 HLev7 HTL HOf7 HRd6 HOf6 d0 d1 d2 d3 z0 z1 z2 z3 b1 b2 hc7 hc1
            have hbz : w5.heap.size ≤ wr.heap.size := by have := HW5.out; have := HOf.out.size; omega
            go_wp2_with (at_builtin; refine wpList_append_any rfl _ _ 43 rfl w5.heap.size 32 _ 1 24 Try.underlying43 Try.infoInts rfl (by decide) _ _ _ rfl HOut.out.own _ _ _ [.slice ai row.length ci] rfl rfl (fun h => by cases h) (Rd.lit _ _ _) (by intro u hu; rw [List.mem_singleton.1 hu]; rfl) (by omega) (by omega) (by simp; omega) ?_; intro v' w8 hown' hg _; obtain ⟨ap, cp, rfl⟩ := hown'.slice; have HMb8 := Lib.hid ((HMb7.out.same ((ext_a1 _ _).block _ HMb7.out.lt)).same (hg.block _ (by have := HMb7.out.lt; simp; omega) (by intro e; have := (HOut.out.own.lt _ e.symm).1; omega))); have ⟨_, _, _, m4, m5⟩ := HMb8.out.cs)
            have hrd8 : Rdr w8 w1.heap.size s2 ok2 := (HRdR.out.ext (ext_a1 _ _)).same (hg.block _ (by have := HRdR.out.lt; simp; omega) (by intro e; have := (HOut.out.own.lt _ e.symm).1; omega))
            have hb8 := below_own ((Off.below HX.out HG.out HX.out.size HOf.out).alloc (Nat.le_trans HX.out.size HOf.out.size) (.cells #[.slice ai row.length ci] 32)) (HOut.out.own.base (by have := HG.out; omega)) hg (Nat.le_trans HX.out.size (Nat.le_trans HOf.out.size (ext_a1 _ _).size))
            have hgr := HOut.out.push (l := row) (by decide) (HOwnR.out.ext ((Ext.refl _).alloc _)) (show w5.heap.size ≤ w6.heap.size from HW6.out) (fun j g hh => Nat.lt_of_lt_of_le (HOg.out.lt j g hh) HS6.out) hown' hg
            have HRd8 := Lib.hid hrd8; have HB8 := Lib.hid (Below.setCell hb8 (p := ⟨w4.heap.size, 3, none⟩) (by have := HG.out; show _ ≤ w4.heap.size; omega) (.slice ap (acc.length + 1) cp)); have HGr := Lib.hid hgr
            have hs8 := hg.size
            have HS8 : Hid (w5.heap.size ≤ w8.heap.size) := Lib.hid (by simp at hs8; omega)
            clear hrd8 hb8 hgr hown' hg hs8
            go_wp2_with fail
            go_roundw
            case rel =>
              refine ⟨k + 1, s2, ok2, acc ++ [row], .slice ap (acc.length + 1) cp, vs ++ [.slice ai row.length ci], by omega, by go_num, HRd8.out.same (Below.heap_setCell _ _ _ _ (show w1.heap.size ≠ w4.heap.size by omega)), ?_, HMb8.out.set _, HGr.out.setBelow (by omega) _ _, by rw [List.length_append, HAl.out]; rfl, ?_, HSl7.out, Nat.le_trans HS8.out (Off.set (g := w4.heap.size) w8 3 _).size, HB8.out⟩
              · rw [← HLev.out]
                have e : a4 - k = (a4 - (k + 1)) + 1 := by omega
                rw [e, levsG_step HA.out HD.out]
              · intro r hr
                rw [List.mem_append, List.mem_singleton] at hr
                rcases hr with hr | rfl
                · exact HRows.out r hr
                · exact ⟨by omega, HOk7.out⟩
            case measure => simp [intOf]; omega
          | succ j =>
            cases ok2 with
            | false =>
                have HD : Hid (levG a (takeR 1 s') (takeO 1 s' true) [] = (row, s2, false)) := Lib.hid (by rw [← HLev7.out]; exact levG_no)
                have HOf := Lib.hid (HOf6.out.trans HOf7.out)
                obtain ⟨ai, ci, rfl⟩ := HOwn7.out.slice
                have HMb7 := Lib.hid (HMb.out.same (HOf.out.block _ HMb.out.lt (by omega)))
                have m1 := HMb7.out.cs
                obtain ⟨_, _, _, m3, _⟩ := m1
                have hout := (Off.ogr HOg.out (show w1.heap.size < w5.heap.size by omega) HOf.out).ext (ext_a1 _ (.cells #[.slice ai row.length ci] 32))
                have HOut := Lib.hid hout; clear hout
                have hk255 : acc.length ≤ 255 := by have := HAl.out; omega
                have HOwnR := Lib.hid HOwn7.out
                have HRdR := Lib.hid HRd7.out
                clear HOwn7 HRd7 HLev7 HTL HOf7 HRd6 HOf6 d0 d1 d2 d3 z0 z1 z2 z3 b1 b2 hc1
                have hj0 : (0 : Int) < (j : Int) + 1 := by omega
                have hbz : w5.heap.size ≤ wr.heap.size := by have := HW5.out; have := HOf.out.size; omega
                go_wp2_with (at_builtin; refine wpList_append_any rfl _ _ 43 rfl w5.heap.size 32 _ 1 24 Try.underlying43 Try.infoInts rfl (by decide) _ _ _ rfl HOut.out.own _ _ _ [.slice ai row.length ci] rfl rfl (fun h => by cases h) (Rd.lit _ _ _) (by intro u hu; rw [List.mem_singleton.1 hu]; rfl) (by omega) (by omega) (by simp; omega) ?_; intro v' w8 hown' hg _; obtain ⟨ap, cp, rfl⟩ := hown'.slice; have HMb8 := Lib.hid ((HMb7.out.same ((ext_a1 _ _).block _ HMb7.out.lt)).same (hg.block _ (by have := HMb7.out.lt; simp; omega) (by intro e; have := (HOut.out.own.lt _ e.symm).1; omega))); have ⟨_, _, _, m4, m5⟩ := HMb8.out.cs)
                have hrd8 : Rdr w8 w1.heap.size s2 false := (HRdR.out.ext (ext_a1 _ _)).same (hg.block _ (by have := HRdR.out.lt; simp; omega) (by intro e; have := (HOut.out.own.lt _ e.symm).1; omega))
                have hb8 := below_own ((Off.below HX.out HG.out HX.out.size HOf.out).alloc (Nat.le_trans HX.out.size HOf.out.size) (.cells #[.slice ai row.length ci] 32)) (HOut.out.own.base (by have := HG.out; omega)) hg (Nat.le_trans HX.out.size (Nat.le_trans HOf.out.size (ext_a1 _ _).size))
                have hgr := HOut.out.push (l := row) (by decide) (HOwnR.out.ext ((Ext.refl _).alloc _)) (show w5.heap.size ≤ w6.heap.size from HW6.out) (fun j g hh => Nat.lt_of_lt_of_le (HOg.out.lt j g hh) HS6.out) hown' hg
                have HRd8 := Lib.hid hrd8; have HB8 := Lib.hid (Below.setCell hb8 (p := ⟨w4.heap.size, 3, none⟩) (by have := HG.out; show _ ≤ w4.heap.size; omega) (.slice ap (acc.length + 1) cp)); have HGr := Lib.hid hgr
                have hs8 := hg.size
                have HS8 : Hid (w5.heap.size ≤ w8.heap.size) := Lib.hid (by simp at hs8; omega)
                clear hrd8 hb8 hgr hown' hg hs8
                go_wp2_with fail
                go_roundw
                case rel =>
                  refine ⟨k + 1, s2, false, acc ++ [row], .slice ap (acc.length + 1) cp, vs ++ [.slice ai row.length ci], by omega, by go_num, HRd8.out.same (Below.heap_setCell _ _ _ _ (show w1.heap.size ≠ w4.heap.size by omega)), ?_, HMb8.out.set _, HGr.out.setBelow (by omega) _ _, by rw [List.length_append, HAl.out]; rfl, ?_, HSl7.out, Nat.le_trans HS8.out (Off.set (g := w4.heap.size) w8 3 _).size, HB8.out⟩
                  · rw [← HLev.out]
                    have e : a4 - k = (a4 - (k + 1)) + 1 := by omega
                    rw [e, levsG_step HA.out HD.out]
                  · intro r hr
                    rw [List.mem_append, List.mem_singleton] at hr
                    rcases hr with hr | rfl
                    · exact HRows.out r hr
                    · exact ⟨by omega, HOk7.out⟩
                case measure => simp [intOf]; omega
            | true =>
              obtain ⟨ai, ci, rfl⟩ := HOwn7.out.slice
              have hrow : row.length ≤ 255 := by omega
              have hj0 : (0 : Int) < (j : Int) + 1 := by omega
              clear HRd6 HTL HS6 HW6 HMb HOg HRd HRows d0 d1 d2 d3 z0 z1 z2 z3 b1 b2 hc1
              go_wp2_with fail
              refine (take_c s2 true _ 4 4 _ rfl HRd7.out (by have := HSl7.out; omega) (by decide)).mono ?_
              obtain ⟨x, hxx⟩ : ∃ x, takeV 4 s2 = x := ⟨_, rfl⟩
              have bx : (x : Int) < 4294967296 := by have := takeV_lt 4 s2; rw [hxx] at this; exact Int.ofNat_lt.2 this
              have HXX := Lib.hid hxx
              rw [hxx]; clear hxx
              rintro e w8 ⟨rfl, hrd8, hof8⟩
              have HRd8 := Lib.hid hrd8; have HOf8 := Lib.hid (HOf7.out.trans hof8)
              have HOwnA := Lib.hid ((Off.own HOwn7.out hlt6 hof8).ext (ext_a1 _ (.cells #[.int .i64 x] 3)))
              have hs8 := HOf8.out.size
              clear hrd8 hof8 HRd7 HOwn7 hc7
              go_wp2_with (at_builtin; refine wpList_append_any rfl _ _ 32 rfl w6.heap.size 3 _ 1 8 Try.underlying32 Try.infoInt rfl (by decide) _ _ _ rfl HOwnA.out _ _ _ [.int .i64 x] rfl rfl (fun h => by cases h) (Rd.lit _ _ _) (by intro u hu; rw [List.mem_singleton.1 hu]; rfl) (by omega) (by omega) (Nat.le_trans hs8 (ext_a1 _ _).size) ?_; intro v' w9 hown9 hg9 _)
              have hrd9 : Rdr w9 w1.heap.size (takeR 4 s2) (takeO 4 s2 true) := (HRd8.out.ext (ext_a1 _ _)).same (hg9.block _ (by have := HRd8.out.lt; simp; omega) (by intro e; have := (HOwnA.out.lt _ e.symm).1; omega))
              have hof9 := Off.grown (HOf8.out.trans (Off.of_ext (ext_a1 _ _))) HOwnA.out hg9 (Nat.le_refl _)
              have hown9' : Own w9 w6.heap.size 3 1 v' (row ++ [(x : Int)]).length ((row ++ [(x : Int)]).map (Value.int .i64)) := by rw [List.length_append, List.map_append]; exact hown9
              have HRd9 := Lib.hid hrd9; have HOf9 := Lib.hid hof9; have HOwn9 := Lib.hid hown9'
              clear hrd9 hof9 hown9' hown9 hg9 hs8
              go_wp2_with fail
              go_roundw
              case rel =>
                refine ⟨j, takeR 4 s2, takeO 4 s2 true, row ++ [(x : Int)], by omega, by go_num, HRd9.out, ?_, HOwn9.out, by simp; omega, ?_, by have := takeR_le 4 s2; have := HSl7.out; omega, HOf9.out⟩
                · rw [← HLev7.out, levG, if_pos rfl, HXX.out]
                · intro y hy
                  rw [List.mem_append, List.mem_singleton] at hy
                  rcases hy with hy | rfl
                  · exact HOk7.out y hy
                  · exact ⟨by omega, bx⟩
              case measure => simp [intOf]
    · have hk' : k = a4 := by omega
      have HE : Hid (parseG t = ⟨a1, a2, a3, acc, s', ok'⟩) := Lib.hid (by rw [HFr.out.parse, ← HLev.out, hk', Nat.sub_self]; rfl)
      clear hk'
      clear d0 d1 d2 d3 z0 z1 z2 z3 b1 b2
      cases ok' with
      | false =>
        have HS : Hid (mgetS s = badM) := Lib.hid (HBad3'.out (parseOk_ok (by rw [HE.out])))
        obtain ⟨d0, d1, d2, d3⟩ := box4 HX.out
        obtain ⟨z0, z1, z2, z3⟩ := box4z HX.out
        go_wp2_with fail
        ((try simp only [Exit.inBlock, Exit.then]); refine bodyPost_ret (v := .tuple #[.agg #[_, _, _, _], _]) (by rw [results_cell_tmp rfl]; go_simp; exact ⟨⟨rfl, rfl, rfl, rfl⟩, rfl⟩) rfl ?_)
        exact RetM.bad ((ext_a1 _ _).trans HX.out) _ (Nat.le_refl _) s HS.out _ _ _ _
      | true =>
        have hc0 := HRd.out.c0
        obtain ⟨m0, m1, m2, m3, _⟩ := HMb.out.cs
        by_cases hs : s' = []
        · subst hs
          obtain ⟨ao', co', he, hgr⟩ := HOg.out.grid
          cases he
          have hsum : acc.flatten.length ≤ 17592186044416 := by have := flatten_le 255 acc fun r hr => (HRows.out r hr).1; have := HAl.out; omega
          have hoki : ∀ x ∈ acc.flatten, okInt x := fun x hx => by obtain ⟨r, h1, h2⟩ := List.mem_flatten.1 hx; exact (HRows.out r h1).2 x h2
          have HGr := Lib.hid hgr; have HSum := Lib.hid hsum; have HOki := Lib.hid hoki
          have B3 := Lib.hid HFr.out.b.2.2.1
          clear HLev HAl hgr hsum hoki
          go_wp2_with fail
          refine (mvalid_c a1 a2 a3 _ _ _ acc _ HGr.out HSum.out (fun x hx => wf_ok (HOki.out x hx))).mono ?_
          rintro e w8 ⟨rfl, hb8⟩
          have HX8 := Lib.hid (HX.out.trans hb8)
          have HG8 := Lib.hid (HGr.out.ext hb8)
          have HB8 := Lib.hid hb8
          have m0' := cell_ext hb8 m0; have m1' := cell_ext hb8 m1; have m2' := cell_ext hb8 m2; have m3' := cell_ext hb8 m3
          clear hb8 m0 m1 m2 m3 hc0 hc1
          by_cases hv : mvalid a1 a2 acc = false
          · have HS : Hid (mgetS s = badM) := Lib.hid (HBad3'.out (parseOk_v (by rw [HE.out]; exact hv)))
            rw [hv]
            obtain ⟨d0, d1, d2, d3⟩ := box4 HX8.out
            obtain ⟨z0, z1, z2, z3⟩ := box4z HX8.out
            go_wp2_with fail
            ((try simp only [Exit.inBlock, Exit.then]); refine bodyPost_ret (v := .tuple #[.agg #[_, _, _, _], _]) (by rw [results_cell_tmp rfl]; go_simp; exact ⟨⟨rfl, rfl, rfl, rfl⟩, rfl⟩) rfl ?_)
            exact RetM.bad ((ext_a1 _ _).trans HX8.out) _ (Nat.le_refl _) s HS.out _ _ _ _
          have hv : mvalid a1 a2 acc = true := by simpa using hv
          have HV := Lib.hid hv
          rw [hv]; clear hv
          go_wp2_with fail
          refine (mput_c a1 a2 a3 _ _ _ acc _ HG8.out HSum.out (fun x hx => wf_ok (HOki.out x hx)) (by omega) B3.out).mono ?_
          obtain ⟨P, hP⟩ : ∃ P, mputS a1 a2 a3 acc = (P, 0) := ⟨_, by unfold mputS; rw [HV.out]; rfl⟩
          have HP := Lib.hid hP
          rw [hP]; clear hP
          rintro e w9 ⟨rfl, hb9⟩
          have HX9 := Lib.hid (HX8.out.trans hb9)
          have HB9 := Lib.hid (HB8.out.trans hb9)
          have n0 := cell_ext hb9 m0'; have n1 := cell_ext hb9 m1'; have n2 := cell_ext hb9 m2'; have n3 := cell_ext hb9 m3'
          obtain ⟨d0, d1, d2, d3⟩ := box4 HX9.out
          obtain ⟨z0, z1, z2, z3⟩ := box4z HX9.out
          clear hb9 m0' m1' m2' m3' HG8 HX8
          by_cases hps : P = s
          · have HS : Hid (mgetS s = ⟨a1, a2, a3, acc, 0⟩) := Lib.hid (by rw [HGood'.out (parseOk_y (by rw [HE.out]) (by rw [HE.out]) (by rw [HE.out]; exact HV.out) (by rw [HE.out]; show (mputS a1 a2 a3 acc).1 = s; rw [HP.out]; exact hps)), HE.out])
            subst hps
            go_wp2_with fail
            ((try simp only [Exit.inBlock, Exit.then]); refine bodyPost_ret (v := .tuple #[.agg #[_, _, _, _], _]) (by rw [results_cell_tmp rfl]; go_simp; exact ⟨⟨rfl, rfl, rfl, rfl⟩, rfl⟩) rfl ?_)
            have hw : w.heap.size < w5.heap.size := by have := HG.out; simp at this; omega
            rw [HS.out]
            exact ⟨.slice ao acc.length co, vs, rfl, ((((HOg.out.ext HB9.out).setBelow hw _ _).setBelow hw _ _).setBelow hw _ _ |>.setBelow hw _ _).base (by omega), ext_set4 ((ext_a1 _ _).trans HX9.out) _ (Nat.le_refl _) _ _ _ _⟩
          · have HS : Hid (mgetS s = badM) := Lib.hid (HBad3'.out (parseOk_p (by rw [HE.out]; show (mputS a1 a2 a3 acc).1 ≠ s; rw [HP.out]; exact hps)))
            have hps' : (P == s) = false := by simpa using hps
            go_wp2_with fail
            ((try simp only [Exit.inBlock, Exit.then]); refine bodyPost_ret (v := .tuple #[.agg #[_, _, _, _], _]) (by rw [results_cell_tmp rfl]; go_simp; exact ⟨⟨rfl, rfl, rfl, rfl⟩, rfl⟩) rfl ?_)
            exact RetM.bad ((ext_a1 _ _).trans HX9.out) _ (Nat.le_refl _) s HS.out _ _ _ _
        · have HS : Hid (mgetS s = badM) := Lib.hid (HBad3'.out (parseOk_r (by rw [HE.out]; exact hs)))
          have hs' : (s' == []) = false := by simpa using hs
          obtain ⟨d0, d1, d2, d3⟩ := box4 HX.out
          obtain ⟨z0, z1, z2, z3⟩ := box4z HX.out
          go_wp2_with fail
          ((try simp only [Exit.inBlock, Exit.then]); refine bodyPost_ret (v := .tuple #[.agg #[_, _, _, _], _]) (by rw [results_cell_tmp rfl]; go_simp; exact ⟨⟨rfl, rfl, rfl, rfl⟩, rfl⟩) rfl ?_)
          exact RetM.bad ((ext_a1 _ _).trans HX.out) _ (Nat.le_refl _) s HS.out _ _ _ _

end Go.Proofs.Ytjllhjlmjbpinaa
namespace Go.Proofs.Ytjllhjlmjbpinaa
open Go.RowKit

/-- the number of n bytes at a place; 0 behind the end -/
def numV (s : List UInt8) (at_ n : Nat) : Nat := if s.length < at_ + n then 0 else unbe ((s.take (at_ + n)).drop at_)

theorem numV_lt (s : List UInt8) (at_ n : Nat) : numV s at_ n < 256 ^ n := by
  unfold numV
  split
  · exact Nat.pow_pos (by decide)
  · have := unbe_lt ((s.take (at_ + n)).drop at_)
    rwa [List.length_drop, List.length_take, Nat.min_eq_left (by omega), Nat.add_sub_cancel_left] at this

set_option maxRecDepth 100000 in
set_option maxHeartbeats 800000 in
theorem refnumber_c (s : List UInt8) (at_ n : Nat) (AT N : Int) (w : World) (hA : AT = (at_ : Int)) (hN : N = (n : Int)) (hl : s.length ≤ 4611686018427387903) (ha : at_ ≤ 4611686018427387903) (h8 : n ≤ 8) :
    Calls Try.prog 59 #[.string ⟨s.toArray⟩, .int .i64 AT, .int .i64 N] w fun e w' => e = .returned (.int .u64 (numV s at_ n)) ∧ Ext w w' := by
  subst hA hN
  by_cases hk : s.length < at_ + n
  · have hk' : (s.length : Int) < (at_ : Int) + (n : Int) := by omega
    have HV : Hid (numV s at_ n = 0) := Lib.hid (by unfold numV; rw [if_pos hk])
    go_enter Try.func59, Try.ntmps59
    go_wp2_with fail
    go_ret
    exact ⟨by rw [HV.out]; rfl, Ext.refl _⟩
  · have HV : Hid (numV s at_ n = unbe ((s.take (at_ + n)).drop at_)) := Lib.hid (by unfold numV; rw [if_neg hk])
    have hlt : ((s.take (at_ + n)).drop at_).length ≤ 9223372036854775807 := by simp; omega
    have ht : ((s.take (at_ + n)).drop at_).take 8 = (s.take (at_ + n)).drop at_ := List.take_of_length_le (by simp; omega)
    have HT := Lib.hid ht; clear ht
    obtain ⟨m, hm⟩ : ∃ m : Nat, m = at_ + n := ⟨_, rfl⟩
    have hmi : (at_ : Int) + (n : Int) = (m : Int) := by omega
    rw [← hm] at hk HV hlt HT
    have hms : m ≤ s.length := by omega
    have ham : at_ ≤ m := by omega
    clear hm hk
    go_enter Try.func59, Try.ntmps59
    go_wp2_with fail
    refine (refget_c _ _ hlt).mono ?_
    rw [HT.out]
    rintro e w1 ⟨rfl, hb⟩
    have HB := Lib.hid hb; clear hb
    go_wp2_with fail
    go_ret
    exact ⟨by rw [HV.out]; rfl, HB.out⟩

/-- the document's loops: a level's numbers, and levels -/
def rlevG : Nat → List UInt8 → Nat → List Int → List Int × Nat
  | 0, _, at_, acc => (acc, at_)
  | i + 1, s, at_, acc => if at_ + 4 ≤ s.length then rlevG i s (at_ + 4) (acc ++ [(numV s at_ 4 : Int)]) else (acc, at_)

def rlevsG : Nat → List UInt8 → Nat → List (List Int) → List (List Int)
  | 0, _, _, acc => acc
  | k + 1, s, at_, acc => if at_ < s.length then rlevsG k s (rlevG (numV s at_ 1) s (at_ + 1) []).2 (acc ++ [(rlevG (numV s at_ 1) s (at_ + 1) []).1]) else acc

structure RParsed where
  nx : Int
  ck : Int
  sd : Int
  L : List (List Int)

def rparseG (s : List UInt8) : RParsed := ⟨numV s 4 4, numV s 8 4, numV s 12 8, rlevsG (numV s 20 1) s 21 []⟩

/-- the document's answer: the manifest that has these bytes -/
def rgetS (s : List UInt8) : Got :=
  if mputS (rparseG s).nx (rparseG s).ck (rparseG s).sd (rparseG s).L = (s, 0) then ⟨(rparseG s).nx, (rparseG s).ck, (rparseG s).sd, (rparseG s).L, 0⟩ else badM

end Go.Proofs.Ytjllhjlmjbpinaa
namespace Go.Proofs.Ytjllhjlmjbpinaa
open Go.RowKit

theorem RetM.bad' {w w1 : World} (h : Ext w w1) (g : Nat) (hg : w.heap.size ≤ g) (s : List UInt8) (hs : rgetS s = badM) (a b c d : Value) :
    RetM w (rgetS s) (.returned (.tuple #[.agg #[.int .i64 0, .int .i64 0, .int .u64 0, .slice none 0 0], .int .i64 90])) ((((w1.setCell ⟨g, 0, none⟩ a).setCell ⟨g, 1, none⟩ b).setCell ⟨g, 2, none⟩ c).setCell ⟨g, 3, none⟩ d) := by
  rw [hs]; exact ⟨_, _, rfl, OGr.nil _ _ _ _, ext_set4 h g hg a b c d⟩

set_option maxRecDepth 100000 in
set_option maxHeartbeats 6400000 in
theorem refmget_c (s : List UInt8) (w : World) (hl : s.length ≤ 1000000000) :
    Calls Try.prog 20 #[.string ⟨s.toArray⟩] w (RetM w (rgetS s)) := by
  obtain ⟨a1, h1⟩ : ∃ a, numV s 4 4 = a := ⟨_, rfl⟩
  obtain ⟨a2, h2⟩ : ∃ a, numV s 8 4 = a := ⟨_, rfl⟩
  obtain ⟨a3, h3⟩ : ∃ a, numV s 12 8 = a := ⟨_, rfl⟩
  obtain ⟨a4, h4⟩ : ∃ a, numV s 20 1 = a := ⟨_, rfl⟩
  have b1 : (a1 : Int) < 4294967296 := by have := numV_lt s 4 4; rw [h1] at this; exact Int.ofNat_lt.2 this
  have b2 : (a2 : Int) < 4294967296 := by have := numV_lt s 8 4; rw [h2] at this; exact Int.ofNat_lt.2 this
  have B3 : Hid ((a3 : Int) < 18446744073709551616) := Lib.hid (by have := numV_lt s 12 8; rw [h3] at this; exact Int.ofNat_lt.2 this)
  have b4 : (a4 : Int) < 256 := by have := numV_lt s 20 1; rw [h4] at this; exact Int.ofNat_lt.2 this
  have HP : Hid (rparseG s = ⟨a1, a2, a3, rlevsG a4 s 21 []⟩) := Lib.hid (by unfold rparseG; rw [h1, h2, h3, h4])
  have H1 := Lib.hid h1; have H2 := Lib.hid h2; have H3 := Lib.hid h3; have H4 := Lib.hid h4
  clear h1 h2 h3 h4
  go_enter Try.func20, Try.ntmps20
  go_wp2_with fail
  refine (refnumber_c s 4 4 4 4 _ rfl rfl (by omega) (by omega) (by decide)).mono ?_
  rw [H1.out]
  rintro e w1 ⟨rfl, hb1⟩
  go_wp2_with fail
  refine (refnumber_c s 8 4 8 4 _ rfl rfl (by omega) (by omega) (by decide)).mono ?_
  rw [H2.out]
  rintro e w2 ⟨rfl, hb2⟩
  go_wp2_with fail
  refine (refnumber_c s 12 8 12 8 _ rfl rfl (by omega) (by omega) (by decide)).mono ?_
  rw [H3.out]
  rintro e w3 ⟨rfl, hb3⟩
  have HB := Lib.hid ((hb1.trans hb2).trans hb3)
  have HB' := HB
  clear hb1 hb2 hb3
  go_wp2_with fail
  have hmb : Mbx (w3.alloc (.cells #[.int .i64 a1, .int .i64 a2, .int .u64 a3, .slice none 0 0] 45)) w3.heap.size a1 a2 a3 (.slice none 0 0) := heap_alloc_new _ _
  have HMb0 := Lib.hid hmb; clear hmb
  go_loopw [5, 6] (fun p i w' => ∃ (k at_ : Nat) (acc : List (List Int)) (v : Value) (vs : List Value), k ≤ a4 ∧ p = .int .i64 at_ ∧ i = .int .i64 k ∧ rlevsG (a4 - k) s at_ acc = rlevsG a4 s 21 [] ∧ Mbx w' w3.heap.size a1 a2 a3 v ∧ OGr w' (w3.heap.size + 1) 32 3 v vs acc ∧ acc.length = k ∧ (∀ r ∈ acc, okRow r) ∧ at_ ≤ 1000000100 ∧ w3.heap.size + 1 ≤ w'.heap.size ∧ Ext (w.alloc (.cells #[.int .i64 0, .int .i64 0, .int .u64 0, .slice none 0 0] 45)) w') (fun _ i _ => a4 - (intOf i).toNat)
  case atStart => exact ⟨0, 21, [], _, [], Nat.zero_le _, rfl, rfl, rfl, HMb0.out, OGr.nil _ _ _ _, rfl, by simp, by omega, by simp, HB.out.trans (ext_a1 _ _)⟩
  case round =>
    obtain ⟨k, at_, acc, v, vs, hk, rfl, rfl, hlev, hmb, hog, hal, hrows, hat, hw5, hx⟩ := hrel
    obtain ⟨ao, co, rfl⟩ := hog.own.slice
    have HLev := Lib.hid hlev; have HMb := Lib.hid hmb; have HOg := Lib.hid hog; have HAl := Lib.hid hal; have HRows := Lib.hid hrows; have HX := Lib.hid hx; have HW5 := Lib.hid hw5
    clear hlev hmb hog hal hrows hx hw5 HMb0
    go_wp2_with fail
    refine (refnumber_c s 20 1 20 1 _ rfl rfl (by omega) (by omega) (by decide)).mono ?_
    rw [H4.out]
    rintro e w6 ⟨rfl, hb6⟩
    have HB6 := Lib.hid hb6; clear hb6
    by_cases hin : k < a4 ∧ at_ < s.length
    · obtain ⟨hkl, hlt⟩ := hin
      · go_wp2_with fail
        refine (refnumber_c s at_ 1 at_ 1 _ rfl rfl (by omega) (by omega) (by decide)).mono ?_
        obtain ⟨a, ha⟩ : ∃ x, numV s at_ 1 = x := ⟨_, rfl⟩
        have ba : (a : Int) < 256 := by have := numV_lt s at_ 1; rw [ha] at this; exact Int.ofNat_lt.2 this
        have HA := Lib.hid ha
        rw [ha]; clear ha
        rintro e w7 ⟨rfl, hb7⟩
        have HB7 := Lib.hid (HB6.out.trans hb7); clear hb7 HB6
        go_wp2_with fail
        go_loopw [5, 8, 9] (fun p v8 i w' => ∃ (j at2 : Nat) (row : List Int), j ≤ a ∧ p = .int .i64 at2 ∧ i = .int .i64 j ∧ rlevG (a - j) s at2 row = rlevG a s (at_ + 1) [] ∧ Own w' w7.heap.size 3 1 v8 row.length (row.map (Value.int .i64)) ∧ row.length = j ∧ (∀ x ∈ row, okInt x) ∧ at2 ≤ 1000000020 ∧ Ext w7 w') (fun _ _ i _ => a - (intOf i).toNat)
        case atStart => exact ⟨0, at_ + 1, [], Nat.zero_le _, by go_num, rfl, rfl, Own.nil _ _ _ _, rfl, by simp, by omega, Ext.refl _⟩
        case round =>
          obtain ⟨j, at2, row, hj, rfl, rfl, hlev7, hown7, hrl, hok7, hat7, hx7⟩ := hrel
          obtain ⟨ai, ci, rfl⟩ := hown7.slice
          have HLev7 := Lib.hid hlev7; have HOwn7 := Lib.hid hown7; have HOk7 := Lib.hid hok7; have HX7 := Lib.hid hx7
          clear hlev7 hown7 hok7 hx7
          by_cases hjf : j < a ∧ at2 + 4 ≤ s.length
          · obtain ⟨hjl, hfit⟩ := hjf
            · clear HLev HMb HOg HRows HX HW5 HP H1 H2 H3 H4 B3 HB HAl HB7 HA b1 b2
              have hrow : row.length ≤ 255 := by omega
              have HRL := Lib.hid hrl; clear hrl
              go_wp2_with fail
              refine (refnumber_c s at2 4 at2 4 _ rfl rfl (by omega) (by omega) (by decide)).mono ?_
              obtain ⟨x, hxx⟩ : ∃ x, numV s at2 4 = x := ⟨_, rfl⟩
              have bx : (x : Int) < 4294967296 := by have := numV_lt s at2 4; rw [hxx] at this; exact Int.ofNat_lt.2 this
              have HXX := Lib.hid hxx
              rw [hxx]; clear hxx
              rintro e w8 ⟨rfl, hb8⟩
              have HX8 := Lib.hid (HX7.out.trans hb8)
              have HOwnA := Lib.hid ((HOwn7.out.ext hb8).ext (ext_a1 _ (.cells #[.int .i64 x] 3)))
              have hs8 := HX8.out.size
              have hat8 : (at2 : Int) + 4 ≤ 1000000000 := by omega
              have HFit := Lib.hid hfit; have HAt7 := Lib.hid hat7; have HAt := Lib.hid hat; have HL := Lib.hid hl; have HJL := Lib.hid hjl; have HS8' := Lib.hid hs8
              clear hb8 HX7 HOwn7 hfit hat7 hat hl hlt hkl hk
              go_wp2_with (at_builtin; refine wpList_append_any rfl _ _ 32 rfl w7.heap.size 3 _ 1 8 Try.underlying32 Try.infoInt rfl (by decide) _ _ _ rfl HOwnA.out _ _ _ [.int .i64 x] rfl rfl (fun h => by cases h) (Rd.lit _ _ _) (by intro u hu; rw [List.mem_singleton.1 hu]; rfl) (by omega) (by omega) (Nat.le_trans hs8 (ext_a1 _ _).size) ?_; intro v' w9 hown9 hg9 _)
              have hx9 := below_own (HX8.out.trans (ext_a1 _ _)) HOwnA.out hg9 (Nat.le_trans hs8 (ext_a1 _ _).size)
              have hown9' : Own w9 w7.heap.size 3 1 v' (row ++ [(x : Int)]).length ((row ++ [(x : Int)]).map (Value.int .i64)) := by rw [List.length_append, List.map_append]; exact hown9
              have HX9 := Lib.hid hx9; have HOwn9 := Lib.hid hown9'
              clear hx9 hown9' hown9 hg9 hs8
              go_wp2_with fail
              go_roundw
              case rel =>
                refine ⟨j + 1, at2 + 4, row ++ [(x : Int)], by omega, by (have := HFit.out; have := HL.out; go_num), by go_num, ?_, HOwn9.out, by have := HRL.out; simp; omega, ?_, by have := HFit.out; have := HL.out; omega, HX9.out⟩
                · rw [← HLev7.out]
                  have e : a - j = (a - (j + 1)) + 1 := by omega
                  rw [e, rlevG, if_pos HFit.out, HXX.out]
                · intro y hy
                  rw [List.mem_append, List.mem_singleton] at hy
                  rcases hy with hy | rfl
                  · exact HOk7.out y hy
                  · exact ⟨by omega, bx⟩
              case measure => simp [intOf]; omega
          · have HD : Hid (rlevG a s (at_ + 1) [] = (row, at2)) := Lib.hid (by
              rw [← HLev7.out]
              by_cases hja : j < a
              · have e : a - j = (a - (j + 1)) + 1 := by omega
                rw [e, rlevG, if_neg (by omega)]
              · have e : a - j = 0 := by omega
                rw [e]; rfl)
            have hra : row.length ≤ 255 := by omega
            have HRL := Lib.hid hrl
            have HXX := Lib.hid (HB7.out.trans HX7.out)
            have HMb7 := Lib.hid (HMb.out.same (HXX.out.block _ HMb.out.lt))
            have m1 := HMb7.out.cs
            obtain ⟨_, _, _, m3, _⟩ := m1
            have hout := (HOg.out.ext HXX.out).ext (ext_a1 _ (.cells #[.slice ai row.length ci] 32))
            have HOut := Lib.hid hout; clear hout
            have hk255 : acc.length ≤ 255 := by have := HAl.out; omega
            have hbz : w3.heap.size + 1 ≤ wr.heap.size := by have := HW5.out; have := HXX.out.size; omega
            have HAt := Lib.hid hat; have HAt7 := Lib.hid hat7; have HLt := Lib.hid hlt; have HKl := Lib.hid hkl; have HL := Lib.hid hl; have HK := Lib.hid hk
            have hcases : (j < a ∧ s.length < at2 + 4) ∨ ¬ j < a := by omega
            clear hrl HLev7 H1 H2 H3 H4 HB b1 b2 hat hat7 hjf hlt
            have hcases2 : (j < a ∧ decide ((at2 : Int) + 4 ≤ (s.length : Int)) = false) ∨ ¬ j < a := by
              rcases hcases with ⟨h1, h2⟩ | h
              · exact .inl ⟨h1, by rw [decide_eq_false_iff_not]; omega⟩
              · exact .inr h
            have hat8 : (at2 : Int) + 4 ≤ 1000000100 := by have := HAt7.out; omega
            clear hcases
            rcases hcases2 with ⟨hja, hft⟩ | hja
            all_goals
              go_wp2_with (at_builtin; refine wpList_append_any rfl _ _ 43 rfl (w3.heap.size + 1) 32 _ 1 24 Try.underlying43 Try.infoInts rfl (by decide) _ _ _ rfl HOut.out.own _ _ _ [.slice ai row.length ci] rfl rfl (fun h => by cases h) (Rd.lit _ _ _) (by intro u hu; rw [List.mem_singleton.1 hu]; rfl) (by omega) (by omega) (by simp; omega) ?_; intro v' w8 hown' hg _; obtain ⟨ap, cp, rfl⟩ := hown'.slice; have HMb8 := Lib.hid ((HMb7.out.same ((ext_a1 _ _).block _ HMb7.out.lt)).same (hg.block _ (by have := HMb7.out.lt; simp; omega) (by intro e; have := (HOut.out.own.lt _ e.symm).1; omega))); have ⟨_, _, _, m4, m5⟩ := HMb8.out.cs)
              have hb8 := below_own ((HX.out.trans HXX.out).alloc (.cells #[.slice ai row.length ci] 32)) (HOut.out.own.base (by have := HB'.out.size; simp at this ⊢; omega)) hg (Nat.le_trans (HX.out.trans HXX.out).size (ext_a1 _ _).size)
              have hgr := HOut.out.push (l := row) (by decide) (HOwn7.out.ext ((Ext.refl _).alloc _)) (show w3.heap.size + 1 ≤ w7.heap.size by have := HW5.out; have := HB7.out.size; omega) (fun j g hh => Nat.lt_of_lt_of_le (HOg.out.lt j g hh) HB7.out.size) hown' hg
              have HB8 := Lib.hid (Below.setCell hb8 (p := ⟨w3.heap.size, 3, none⟩) (by have := HB'.out.size; simp at this ⊢; omega) (.slice ap (acc.length + 1) cp)); have HGr := Lib.hid hgr
              have hs8 := hg.size
              have HS8 : Hid (w3.heap.size + 1 ≤ w8.heap.size) := Lib.hid (by simp at hs8; omega)
              clear hb8 hgr hown' hg hs8
              go_wp2_with fail
              go_roundw
              case rel =>
                refine ⟨k + 1, at2, acc ++ [row], .slice ap (acc.length + 1) cp, vs ++ [.slice ai row.length ci], by have := HKl.out; omega, rfl, by go_num, ?_, HMb8.out.set _, HGr.out.setBelow (by omega) _ _, by rw [List.length_append, HAl.out]; rfl, ?_, by have := HAt7.out; omega, Nat.le_trans HS8.out (Off.set (g := w3.heap.size) w8 3 _).size, HB8.out⟩
                · rw [← HLev.out]
                  have e : a4 - k = (a4 - (k + 1)) + 1 := by have := HKl.out; omega
                  rw [e, rlevsG, if_pos HLt.out, HA.out, HD.out]
                · intro r hr
                  rw [List.mem_append, List.mem_singleton] at hr
                  rcases hr with hr | rfl
                  · exact HRows.out r hr
                  · exact ⟨by omega, HOk7.out⟩
              case measure => have := HKl.out; simp [intOf]; omega
    · have HE : Hid (rparseG s = ⟨a1, a2, a3, acc⟩) := Lib.hid (by
        rw [HP.out, ← HLev.out]
        by_cases hka : k < a4
        · have e : a4 - k = (a4 - (k + 1)) + 1 := by omega
          rw [e, rlevsG, if_neg (by omega)]
        · have e : a4 - k = 0 := by omega
          rw [e]; rfl)
      have HX6 := Lib.hid (HX.out.trans HB6.out)
      obtain ⟨m0, m1, m2, m3, _⟩ := (HMb.out.same (HB6.out.block _ HMb.out.lt)).cs
      obtain ⟨ao', co', he, hgr⟩ := (HOg.out.ext HB6.out).grid
      cases he
      have hsum : acc.flatten.length ≤ 17592186044416 := by have := flatten_le 255 acc fun r hr => (HRows.out r hr).1; have := HAl.out; omega
      have HGr := Lib.hid hgr; have HSum := Lib.hid hsum
      have hcases : (k < a4 ∧ s.length ≤ at_) ∨ ¬ k < a4 := by omega
      clear hgr hsum HLev HAl H1 H2 H3 H4 hin
      have hcases2 : (k < a4 ∧ decide (at_ < s.length) = false) ∨ ¬ k < a4 := by
        rcases hcases with ⟨h1, h2⟩ | h
        · exact .inl ⟨h1, by rw [decide_eq_false_iff_not]; omega⟩
        · exact .inr h
      clear hcases
      rcases hcases2 with ⟨hka, hft⟩ | hka
      all_goals
        go_wp2_with fail
        refine (refmput_c a1 a2 a3 _ _ _ acc _ HGr.out HSum.out (by omega) B3.out).mono ?_
        obtain ⟨P, hP⟩ : ∃ P, mputS a1 a2 a3 acc = P := ⟨_, rfl⟩
        have HPP := Lib.hid hP
        rw [hP]; clear hP
        rintro e w9 ⟨rfl, hb9⟩
        have HX9 := Lib.hid (HX6.out.trans hb9)
        have HB9 := Lib.hid (HB6.out.trans hb9)
        have n0 := cell_ext hb9 m0; have n1 := cell_ext hb9 m1; have n2 := cell_ext hb9 m2; have n3 := cell_ext hb9 m3
        obtain ⟨d0, d1, d2, d3⟩ := box4 HX9.out
        obtain ⟨z0, z1, z2, z3⟩ := box4z HX9.out
        clear hb9 m0 m1 m2 m3
        obtain ⟨P1, P2⟩ := P
        by_cases hps : P1 = s ∧ P2 = 0
        · obtain ⟨hps1, hps2⟩ := hps
          subst hps1 hps2
          have HS : Hid (rgetS P1 = ⟨a1, a2, a3, acc, 0⟩) := Lib.hid (by unfold rgetS; rw [HE.out]; rw [if_pos HPP.out])
          go_wp2_with fail
          ((try simp only [Exit.inBlock, Exit.then]); refine bodyPost_ret (v := .tuple #[.agg #[_, _, _, _], _]) (by rw [results_cell_tmp rfl]; go_simp; exact ⟨⟨rfl, rfl, rfl, rfl⟩, rfl⟩) rfl ?_)
          rw [HS.out]
          have hw : w.heap.size < w3.heap.size + 1 := by have := HB.out.size; simp at this; omega
          exact ⟨.slice ao acc.length co, vs, rfl, ((((HOg.out.ext HB9.out).setBelow hw _ _).setBelow hw _ _).setBelow hw _ _ |>.setBelow hw _ _).base (by omega), ext_set4 ((ext_a1 _ _).trans HX9.out) _ (Nat.le_refl _) _ _ _ _⟩
        · have HS : Hid (rgetS s = badM) := Lib.hid (by
            unfold rgetS; rw [HE.out, if_neg]
            show ¬ mputS a1 a2 a3 acc = (s, 0)
            rw [HPP.out]; intro e; cases e; exact hps ⟨rfl, rfl⟩)
          by_cases hp2 : P2 = 0
          · subst hp2
            have hps' : (P1 == s) = false := by simpa using hps
            clear hps
            go_wp2_with fail
            ((try simp only [Exit.inBlock, Exit.then]); refine bodyPost_ret (v := .tuple #[.agg #[_, _, _, _], _]) (by rw [results_cell_tmp rfl]; go_simp; exact ⟨⟨rfl, rfl, rfl, rfl⟩, rfl⟩) rfl ?_)
            exact RetM.bad' ((ext_a1 _ _).trans HX9.out) _ (Nat.le_refl _) s HS.out _ _ _ _
          · have hp2' : (P2 == 0) = false := by simpa using hp2
            clear hps
            go_wp2_with fail
            ((try simp only [Exit.inBlock, Exit.then]); refine bodyPost_ret (v := .tuple #[.agg #[_, _, _, _], _]) (by rw [results_cell_tmp rfl]; go_simp; exact ⟨⟨rfl, rfl, rfl, rfl⟩, rfl⟩) rfl ?_)
            exact RetM.bad' ((ext_a1 _ _).trans HX9.out) _ (Nat.le_refl _) s HS.out _ _ _ _

end Go.Proofs.Ytjllhjlmjbpinaa
