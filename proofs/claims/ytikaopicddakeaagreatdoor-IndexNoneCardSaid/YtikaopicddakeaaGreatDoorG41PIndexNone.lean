/- Walks: the manifest of some bytes. Walks: the document's manifest of some bytes. Walks: the document's manifest of some bytes. Plain laws: the bytes of a manifest, read, give it back; and no such bytes begin others. Plain laws: the document's parse of a manifest's bytes, and that both parses say the same of any bytes. -/
import Derived.Test.YtikaopicddakeaaGreatDoorChecked
import Derived.Test.YtikaopicddakeaaGreatDoorG40PIndexNone
import Derived.Test.YtikaopicddakeaaGreatDoorG5PIndexNone
import Derived.Test.YtikaopicddakeaaGreatDoorG22PIndexNone
import Derived.Laws.ResultCell
set_option linter.unusedVariables false
set_option linter.unusedSimpArgs false
namespace Go.Proofs.YtikaopicddakeaaGreatDoor
open Go.RowKit

def levG : Nat → List UInt8 → Bool → List Int → List Int × List UInt8 × Bool
  | 0, s, ok, acc => (acc, s, ok)
  | i + 1, s, ok, acc => if ok then levG i (takeR 4 s) (takeO 4 s ok) (acc ++ [(takeV 4 s : Int)]) else (acc, s, ok)

def levsG : Nat → List UInt8 → Bool → List (List Int) → List (List Int) × List UInt8 × Bool
  | 0, s, ok, acc => (acc, s, ok)
  | k + 1, s, ok, acc => if ok then levsG k (levG (takeV 1 s) (takeR 1 s) (takeO 1 s ok) []).2.1 (levG (takeV 1 s) (takeR 1 s) (takeO 1 s ok) []).2.2 (acc ++ [(levG (takeV 1 s) (takeR 1 s) (takeO 1 s ok) []).1]) else (acc, s, ok)

theorem takeV_lt (k : Nat) (s : List UInt8) : takeV k s < 256 ^ k := by
  unfold takeV
  split
  · exact Nat.pow_pos (by decide)
  · have := unbe_lt (s.take k)
    rwa [List.length_take, Nat.min_eq_left (by omega)] at this
theorem takeR_le (k : Nat) (s : List UInt8) : (takeR k s).length ≤ s.length := by unfold takeR; split <;> simp

/-- what is read from the front of the opened bytes -/
structure Parsed where
  nx : Int
  ck : Int
  sd : Int
  L : List (List Int)
  r : List UInt8
  ok : Bool

def parseG (s : List UInt8) : Parsed :=
  let r0 := s.drop 4
  let r1 := takeR 4 r0; let o1 := takeO 4 r0 true
  let r2 := takeR 4 r1; let o2 := takeO 4 r1 o1
  let r3 := takeR 8 r2; let o3 := takeO 8 r2 o2
  let r4 := takeR 1 r3; let o4 := takeO 1 r3 o3
  let p := levsG (takeV 1 r3) r4 o4 []
  ⟨takeV 4 r0, takeV 4 r1, takeV 8 r2, p.1, p.2.1, p.2.2⟩

/-- the inner loop's state: the row so far, the bytes, what is still to do -/
theorem levG_len : ∀ i s ok acc, (levG i s ok acc).1.length ≤ acc.length + i ∧ (levG i s ok acc).2.1.length ≤ s.length
  | 0, s, ok, acc => ⟨Nat.le_refl _, Nat.le_refl _⟩
  | i + 1, s, ok, acc => by
    rw [levG]
    split
    · have h := levG_len i (takeR 4 s) (takeO 4 s ok) (acc ++ [(takeV 4 s : Int)])
      have h2 := takeR_le 4 s
      simp at h; omega
    · simp

def okInt (x : Int) : Prop := 0 ≤ x ∧ x < 4294967296
theorem levG_ok : ∀ i s ok acc, (∀ x ∈ acc, okInt x) → ∀ x ∈ (levG i s ok acc).1, okInt x
  | 0, s, ok, acc, h => h
  | i + 1, s, ok, acc, h => by
    rw [levG]
    split
    · refine levG_ok i _ _ _ fun x hx => ?_
      rw [List.mem_append, List.mem_singleton] at hx
      rcases hx with hx | rfl
      · exact h x hx
      · have := takeV_lt 4 s; unfold okInt; omega
    · exact h

structure Got where
  nx : Int
  ck : Int
  sd : Int
  L : List (List Int)
  en : Int

def badM : Got := ⟨0, 0, 0, [], 90⟩
def frontOk (t : List UInt8) : Bool := decide (4 ≤ t.length) && decide (t.take 4 = [105, 109, 97, 112])
def parseOk (p : Parsed) (s : List UInt8) : Bool := p.ok && decide (p.r = []) && mvalid p.nx p.ck p.L && decide ((mputS p.nx p.ck p.sd p.L).1 = s)
def mgetS (s : List UInt8) : Got :=
  if openB s && frontOk (openT s) then (if parseOk (parseG (openT s)) s then ⟨(parseG (openT s)).nx, (parseG (openT s)).ck, (parseG (openT s)).sd, (parseG (openT s)).L, 0⟩ else badM) else badM

/-- hands back this manifest, and this error's number -/
def RetM (w : World) (g : Got) (e : Ending) (w' : World) : Prop :=
  ∃ v vs, e = .returned (.tuple #[.agg #[.int .i64 g.nx, .int .i64 g.ck, .int .u64 g.sd, v], .int .i64 g.en]) ∧ OGr w' w.heap.size 51 3 v vs g.L ∧ Ext w w'

theorem ext_set4 {w w1 : World} (h : Ext w w1) (g : Nat) (hg : w.heap.size ≤ g) (a b c d : Value) : Ext w ((((w1.setCell ⟨g, 0, none⟩ a).setCell ⟨g, 1, none⟩ b).setCell ⟨g, 2, none⟩ c).setCell ⟨g, 3, none⟩ d) :=
  Below.setCell (Below.setCell (Below.setCell (Below.setCell h hg a) hg b) hg c) hg d

theorem RetM.bad {w w1 : World} (h : Ext w w1) (g : Nat) (hg : w.heap.size ≤ g) (s : List UInt8) (hs : mgetS s = badM) (a b c d : Value) :
    RetM w (mgetS s) (.returned (.tuple #[.agg #[.int .i64 0, .int .i64 0, .int .u64 0, .slice none 0 0], .int .i64 90])) ((((w1.setCell ⟨g, 0, none⟩ a).setCell ⟨g, 1, none⟩ b).setCell ⟨g, 2, none⟩ c).setCell ⟨g, 3, none⟩ d) := by
  rw [hs]; exact ⟨_, _, rfl, OGr.nil _ _ _ _, ext_set4 h g hg a b c d⟩

theorem box4z {w w1 : World} {a b c d : Value} {t : TypeId} (h : Ext (w.alloc (.cells #[a, b, c, d] t)) w1) :
    w1.frozen? ⟨w.heap.size, 0, none⟩ = false ∧ w1.frozen? ⟨w.heap.size, 1, none⟩ = false ∧ w1.frozen? ⟨w.heap.size, 2, none⟩ = false ∧ w1.frozen? ⟨w.heap.size, 3, none⟩ = false := by
  have k := box4 (w := w) (Ext.refl (w.alloc (.cells #[a, b, c, d] t)))
  exact ⟨frozen_ext h k.1 (by simp), frozen_ext h k.2.1 (by simp), frozen_ext h k.2.2.1 (by simp), frozen_ext h k.2.2.2 (by simp)⟩

theorem front_no {t : List UInt8} (h : frontOk t = false) : (decide ((t.length : Int) < 4) || !(t.take 4 == [105, 109, 97, 112])) = true := by
  unfold frontOk at h
  rw [Bool.and_eq_false_iff, decide_eq_false_iff_not, decide_eq_false_iff_not] at h
  rw [Bool.or_eq_true, decide_eq_true_iff]
  rcases h with h | h
  · left; omega
  · right; simpa using h

theorem flatten_le (m : Nat) : ∀ L : List (List Int), (∀ r ∈ L, r.length ≤ m) → L.flatten.length ≤ m * L.length
  | [], _ => by simp
  | r :: L, h => by
    have h1 := h r (by simp)
    have h2 := flatten_le m L fun x hx => h x (by simp [hx])
    simp only [List.flatten_cons, List.length_append, List.length_cons, Nat.mul_add]; omega

/-- the manifest that is being read lies in block g -/
def Mbx (w : World) (g : Nat) (a b c : Int) (v : Value) : Prop := w.heap[g]? = some (.cells #[.int .i64 a, .int .i64 b, .int .u64 c, v] 25 (0, 0))
theorem Mbx.cs {w : World} {g : Nat} {a b c : Int} {v : Value} (h : Mbx w g a b c v) : w.cell? ⟨g, 0, none⟩ = some (.int .i64 a) ∧ w.cell? ⟨g, 1, none⟩ = some (.int .i64 b) ∧ w.cell? ⟨g, 2, none⟩ = some (.int .u64 c) ∧ w.cell? ⟨g, 3, none⟩ = some v ∧ w.frozen? ⟨g, 3, none⟩ = false := by
  unfold Mbx at h; simp [World.cell?, World.frozen?, h]
theorem Mbx.same {w w' : World} {g : Nat} {a b c : Int} {v : Value} (h : Mbx w g a b c v) (k : w'.heap[g]? = w.heap[g]?) : Mbx w' g a b c v := k.trans h
theorem Mbx.lt {w : World} {g : Nat} {a b c : Int} {v : Value} (h : Mbx w g a b c v) : g < w.heap.size := World.block_lt_of_cell? (h := h.cs.1)
theorem Mbx.set {w : World} {g : Nat} {a b c : Int} {v : Value} (h : Mbx w g a b c v) (u : Value) : Mbx (w.setCell ⟨g, 3, none⟩ u) g a b c u := by
  unfold Mbx at h ⊢; simp [World.setCell, Array.getElem?_modify, h]

theorem wf_ok {x : Int} (h : okInt x) : (Lit.int .i64 x).wf = true := by
  obtain ⟨h1, h2⟩ := h
  have e1 : IntKind.i64.min = -9223372036854775808 := rfl
  have e2 : IntKind.i64.max = 9223372036854775807 := rfl
  simp [Lit.wf]; omega

def okRow (r : List Int) : Prop := r.length ≤ 255 ∧ ∀ x ∈ r, okInt x

theorem levsG_step {m a : Nat} {s s2 : List UInt8} {ok2 : Bool} {acc : List (List Int)} {row : List Int} (ha : takeV 1 s = a) (hd : levG a (takeR 1 s) (takeO 1 s true) [] = (row, s2, ok2)) :
    levsG (m + 1) s true acc = levsG m s2 ok2 (acc ++ [row]) := by rw [levsG, if_pos rfl, ha, hd]
theorem levsG_no {m : Nat} {s : List UInt8} {acc : List (List Int)} : levsG m s false acc = (acc, s, false) := by
  cases m with
  | zero => rfl
  | succ m => rw [levsG]; simp
theorem levG_no {m : Nat} {s : List UInt8} {acc : List Int} : levG m s false acc = (acc, s, false) := by
  cases m with
  | zero => rfl
  | succ m => rw [levG]; simp

theorem parseOk_ok {p : Parsed} {s : List UInt8} (h : p.ok = false) : parseOk p s = false := by unfold parseOk; rw [h]; rfl
theorem parseOk_r {p : Parsed} {s : List UInt8} (h : p.r ≠ []) : parseOk p s = false := by unfold parseOk; rw [decide_eq_false h, Bool.and_false]; rfl
theorem parseOk_v {p : Parsed} {s : List UInt8} (h : mvalid p.nx p.ck p.L = false) : parseOk p s = false := by unfold parseOk; rw [h, Bool.and_false]; rfl
theorem parseOk_p {p : Parsed} {s : List UInt8} (h : (mputS p.nx p.ck p.sd p.L).1 ≠ s) : parseOk p s = false := by unfold parseOk; rw [decide_eq_false h, Bool.and_false]
theorem parseOk_y {p : Parsed} {s : List UInt8} (h1 : p.ok = true) (h2 : p.r = []) (h3 : mvalid p.nx p.ck p.L = true) (h4 : (mputS p.nx p.ck p.sd p.L).1 = s) : parseOk p s = true := by unfold parseOk; rw [h1, h3, decide_eq_true h2, decide_eq_true h4]; rfl

structure Front (r0 : List UInt8) (a1 a2 a3 a4 : Nat) (r1 r2 r3 r4 : List UInt8) (o1 o2 o3 o4 : Bool) : Prop where
  A1 : takeV 4 r0 = a1
  R1 : takeR 4 r0 = r1
  O1 : takeO 4 r0 true = o1
  A2 : takeV 4 r1 = a2
  R2 : takeR 4 r1 = r2
  O2 : takeO 4 r1 o1 = o2
  A3 : takeV 8 r2 = a3
  R3 : takeR 8 r2 = r3
  O3 : takeO 8 r2 o2 = o3
  A4 : takeV 1 r3 = a4
  R4 : takeR 1 r3 = r4
  O4 : takeO 1 r3 o3 = o4
theorem Front.made (r0 : List UInt8) : ∃ a1 a2 a3 a4 r1 r2 r3 r4 o1 o2 o3 o4, Front r0 a1 a2 a3 a4 r1 r2 r3 r4 o1 o2 o3 o4 := ⟨_, _, _, _, _, _, _, _, _, _, _, _, ⟨rfl, rfl, rfl, rfl, rfl, rfl, rfl, rfl, rfl, rfl, rfl, rfl⟩⟩
theorem Front.parse {t : List UInt8} {a1 a2 a3 a4 : Nat} {r1 r2 r3 r4 : List UInt8} {o1 o2 o3 o4 : Bool} (h : Front (t.drop 4) a1 a2 a3 a4 r1 r2 r3 r4 o1 o2 o3 o4) :
    parseG t = ⟨a1, a2, a3, (levsG a4 r4 o4 []).1, (levsG a4 r4 o4 []).2.1, (levsG a4 r4 o4 []).2.2⟩ := by
  obtain ⟨rfl, rfl, rfl, rfl, rfl, rfl, rfl, rfl, rfl, rfl, rfl, rfl⟩ := h; rfl
theorem Front.b {r0 : List UInt8} {a1 a2 a3 a4 : Nat} {r1 r2 r3 r4 : List UInt8} {o1 o2 o3 o4 : Bool} (h : Front r0 a1 a2 a3 a4 r1 r2 r3 r4 o1 o2 o3 o4) :
    (a1 : Int) < 4294967296 ∧ (a2 : Int) < 4294967296 ∧ (a3 : Int) < 18446744073709551616 ∧ (a4 : Int) < 256 ∧ r1.length ≤ r0.length ∧ r2.length ≤ r0.length ∧ r3.length ≤ r0.length ∧ r4.length ≤ r0.length := by
  obtain ⟨rfl, rfl, rfl, rfl, rfl, rfl, rfl, rfl, rfl, rfl, rfl, rfl⟩ := h
  have l1 := takeR_le 4 r0; have l2 := takeR_le 4 (takeR 4 r0); have l3 := takeR_le 8 (takeR 4 (takeR 4 r0)); have l4 := takeR_le 1 (takeR 8 (takeR 4 (takeR 4 r0)))
  refine ⟨Int.ofNat_lt.2 (takeV_lt 4 _), Int.ofNat_lt.2 (takeV_lt 4 _), Int.ofNat_lt.2 (takeV_lt 8 _), Int.ofNat_lt.2 (takeV_lt 1 _), ?_, ?_, ?_, ?_⟩ <;> omega

end Go.Proofs.YtikaopicddakeaaGreatDoor
namespace Go.Proofs.YtikaopicddakeaaGreatDoor
open Go.RowKit

/-- the number of n bytes at a place; 0 behind the end -/
def numV (s : List UInt8) (at_ n : Nat) : Nat := if s.length < at_ + n then 0 else unbe ((s.take (at_ + n)).drop at_)

theorem numV_lt (s : List UInt8) (at_ n : Nat) : numV s at_ n < 256 ^ n := by
  unfold numV
  split
  · exact Nat.pow_pos (by decide)
  · have := unbe_lt ((s.take (at_ + n)).drop at_)
    rwa [List.length_drop, List.length_take, Nat.min_eq_left (by omega), Nat.add_sub_cancel_left] at this

/-- the document's loops: a level's numbers, and levels -/
def rlevG : Nat → List UInt8 → Nat → List Int → List Int × Nat
  | 0, _, at_, acc => (acc, at_)
  | i + 1, s, at_, acc => if at_ + 4 ≤ s.length then rlevG i s (at_ + 4) (acc ++ [(numV s at_ 4 : Int)]) else (acc, at_)

def rlevsG : Nat → List UInt8 → Nat → List (List Int) → List (List Int)
  | 0, _, _, acc => acc
  | k + 1, s, at_, acc => if at_ < s.length then rlevsG k s (rlevG (numV s at_ 1) s (at_ + 1) []).2 (acc ++ [(rlevG (numV s at_ 1) s (at_ + 1) []).1]) else acc

structure RParsed where
  nx : Int
  ck : Int
  sd : Int
  L : List (List Int)

def rparseG (s : List UInt8) : RParsed := ⟨numV s 4 4, numV s 8 4, numV s 12 8, rlevsG (numV s 20 1) s 21 []⟩

/-- the document's answer: the manifest that has these bytes -/
def rgetS (s : List UInt8) : Got :=
  if mputS (rparseG s).nx (rparseG s).ck (rparseG s).sd (rparseG s).L = (s, 0) then ⟨(rparseG s).nx, (rparseG s).ck, (rparseG s).sd, (rparseG s).L, 0⟩ else badM

end Go.Proofs.YtikaopicddakeaaGreatDoor
namespace Go.Proofs.YtikaopicddakeaaGreatDoor
open Go.RowKit

theorem RetM.bad' {w w1 : World} (h : Ext w w1) (g : Nat) (hg : w.heap.size ≤ g) (s : List UInt8) (hs : rgetS s = badM) (a b c d : Value) :
    RetM w (rgetS s) (.returned (.tuple #[.agg #[.int .i64 0, .int .i64 0, .int .u64 0, .slice none 0 0], .int .i64 90])) ((((w1.setCell ⟨g, 0, none⟩ a).setCell ⟨g, 1, none⟩ b).setCell ⟨g, 2, none⟩ c).setCell ⟨g, 3, none⟩ d) := by
  rw [hs]; exact ⟨_, _, rfl, OGr.nil _ _ _ _, ext_set4 h g hg a b c d⟩

end Go.Proofs.YtikaopicddakeaaGreatDoor
namespace Go.Proofs.YtikaopicddakeaaGreatDoor

theorem take_be (k x : Nat) (r : List UInt8) (h : x < 256 ^ k) : takeV k (be k x ++ r) = x ∧ takeR k (be k x ++ r) = r ∧ ∀ ok, takeO k (be k x ++ r) ok = ok := by
  have hl : ¬ (be k x ++ r).length < k := by simp [be_length]
  refine ⟨?_, ?_, fun ok => ?_⟩
  · unfold takeV
    rw [if_neg hl, List.take_left' (be_length k x), unbe_be, Nat.mod_eq_of_lt h]
  · unfold takeR
    rw [if_neg hl, List.drop_left' (be_length k x)]
  · unfold takeO
    rw [if_neg hl]

def b4 (x : Int) : List UInt8 := be 4 x.toNat

theorem levG_put : ∀ (l : List Int) (r : List UInt8) (acc : List Int), (∀ x ∈ l, okInt x) → levG l.length ((l.map b4).flatten ++ r) true acc = (acc ++ l, r, true)
  | [], r, acc, _ => by simp [levG]
  | x :: l, r, acc, h => by
    have hx := h x (by simp)
    obtain ⟨h1, h2⟩ := hx
    have ht := take_be 4 x.toNat ((l.map b4).flatten ++ r) (by omega)
    have e : ((x :: l).map b4).flatten ++ r = be 4 x.toNat ++ ((l.map b4).flatten ++ r) := by simp [b4]
    rw [List.length_cons, levG, if_pos rfl, e, ht.1, ht.2.1, ht.2.2, levG_put l r _ fun y hy => h y (by simp [hy]), List.append_assoc, Int.toNat_of_nonneg h1]
    rfl

theorem levsG_put : ∀ (T : List (List Int)) (r : List UInt8) (acc : List (List Int)), (∀ l ∈ T, okRow l) → levsG T.length ((T.map levBytes).flatten ++ r) true acc = (acc ++ T, r, true)
  | [], r, acc, _ => by simp [levsG]
  | l :: T, r, acc, h => by
    have hl := h l (by simp)
    have ht := take_be 1 l.length ((l.map b4).flatten ++ ((T.map levBytes).flatten ++ r)) (by have := hl.1; omega)
    have e : ((l :: T).map levBytes).flatten ++ r = be 1 l.length ++ ((l.map b4).flatten ++ ((T.map levBytes).flatten ++ r)) := by
      simp [levBytes, List.append_assoc]; rfl
    rw [List.length_cons, levsG, if_pos rfl, e, ht.1, ht.2.1, ht.2.2, levG_put l _ [] hl.2]
    simp only [List.nil_append]
    rw [levsG_put T r _ fun y hy => h y (by simp [hy]), List.append_assoc]
    rfl

theorem trimL_len_le (L : List (List Int)) : (trimL L).length ≤ L.length := by rw [trimL_length]; exact trimN_le _ _

theorem trimL_trimL (L : List (List Int)) : trimL (trimL L) = trimL L := by
  apply trimL_fix
  rcases Nat.eq_zero_or_pos (trimL L).length with h | h
  · exact .inl (List.eq_nil_of_length_eq_zero h)
  · exact .inr (trimL_last L _ (by omega))

theorem validB_trim {L : List (List Int)} (h : validB L = true) : validB (trimL L) = true := by
  have hp := validB_parts h
  have hf := trimL_flatten L
  exact validB_ok _ (Nat.le_trans (trimL_len_le L) hp.1) (by rw [hf]; exact hp.2.1) (by rw [hf]; exact hp.2.2.1) (by rw [hf]; exact hp.2.2.2)

theorem mvalid_trim {nx ck : Int} {L : List (List Int)} (h : mvalid nx ck L = true) : mvalid nx ck (trimL L) = true := by
  have hp := mvalid_parts h
  rw [mvalid_all hp.1 (validB_trim hp.2.1), trimL_flatten, List.all_eq_true]
  intro x hx
  simpa using hp.2.2 x hx

theorem mput_trim {nx ck sd : Int} {L : List (List Int)} (h : mvalid nx ck L = true) : mputS nx ck sd (trimL L) = mputS nx ck sd L := by
  unfold mputS manBody
  rw [if_pos (mvalid_trim h), if_pos h, trimL_trimL]

/-- rows of a manifest that may be -/
theorem rows_ok {nx ck : Int} {L : List (List Int)} (h : mvalid nx ck L = true) : (trimL L).length ≤ 5 ∧ ∀ l ∈ trimL L, okRow l := by
  have hp := mvalid_parts h
  have hv := validB_parts (validB_trim hp.2.1)
  refine ⟨hv.1, fun l hl => ⟨?_, fun x hx => ?_⟩⟩
  · have : l.length ≤ (trimL L).flatten.length := (List.sublist_flatten_of_mem hl).length_le
    omega
  · have hm : x ∈ (trimL L).flatten := List.mem_flatten.2 ⟨l, hl, hx⟩
    have h0 := hv.2.2.1 x hm
    rw [trimL_flatten] at hm
    have h1 := hp.2.2 x hm
    exact ⟨h0, by omega⟩

theorem mput_bytes {nx ck sd : Int} {L : List (List Int)} (h : mvalid nx ck L = true) : mputS nx ck sd L = (sealS (manBody nx ck sd L), 0) := by unfold mputS; rw [if_pos h]

theorem body_parts (nx ck sd : Int) (L : List (List Int)) (r : List UInt8) :
    manBody nx ck sd L ++ r = [105, 109, 97, 112] ++ (be 4 nx.toNat ++ (be 4 ck.toNat ++ (be 8 sd.toNat ++ (be 1 (trimL L).length ++ (((trimL L).map levBytes).flatten ++ r))))) := by
  simp [manBody, manHead, List.append_assoc]

/-- the numbers in front -/
structure FrontOf (u : List UInt8) (a1 a2 a3 a4 : Nat) (r4 : List UInt8) : Prop where
  f : u = [105, 109, 97, 112] ++ (be 4 a1 ++ (be 4 a2 ++ (be 8 a3 ++ (be 1 a4 ++ r4))))
  b1 : a1 < 256 ^ 4
  b2 : a2 < 256 ^ 4
  b3 : a3 < 256 ^ 8
  b4 : a4 < 256 ^ 1

theorem parse_front {u : List UInt8} {a1 a2 a3 a4 : Nat} {r4 : List UInt8} (h : FrontOf u a1 a2 a3 a4 r4) :
    parseG u = ⟨a1, a2, a3, (levsG a4 r4 true []).1, (levsG a4 r4 true []).2.1, (levsG a4 r4 true []).2.2⟩ := by
  obtain ⟨rfl, b1, b2, b3, b4⟩ := h
  unfold parseG
  have t1 := take_be 4 a1 (be 4 a2 ++ (be 8 a3 ++ (be 1 a4 ++ r4))) b1
  have t2 := take_be 4 a2 (be 8 a3 ++ (be 1 a4 ++ r4)) b2
  have t3 := take_be 8 a3 (be 1 a4 ++ r4) b3
  have t4 := take_be 1 a4 r4 b4
  have e : ([105, 109, 97, 112] ++ (be 4 a1 ++ (be 4 a2 ++ (be 8 a3 ++ (be 1 a4 ++ r4))))).drop 4 = be 4 a1 ++ (be 4 a2 ++ (be 8 a3 ++ (be 1 a4 ++ r4))) := rfl
  simp only [e, t1.1, t1.2.1, t1.2.2, t2.1, t2.2.1, t2.2.2, t3.1, t3.2.1, t3.2.2, t4.1, t4.2.1, t4.2.2]

theorem body_front {nx ck sd : Int} {L : List (List Int)} (h : mvalid nx ck L = true) (h1 : sd < 18446744073709551616) (r : List UInt8) :
    FrontOf (manBody nx ck sd L ++ r) nx.toNat ck.toNat sd.toNat (trimL L).length (((trimL L).map levBytes).flatten ++ r) := by
  have hp := mvalid_parts h
  have hr := rows_ok h
  exact ⟨body_parts _ _ _ _ _, by omega, by omega, by omega, by omega⟩

theorem parse_body {nx ck sd : Int} {L : List (List Int)} (h : mvalid nx ck L = true) (h0 : 0 ≤ sd) (h1 : sd < 18446744073709551616) (r : List UInt8) :
    parseG (manBody nx ck sd L ++ r) = ⟨nx, ck, sd, trimL L, r, true⟩ := by
  have hp := mvalid_parts h
  have hr := rows_ok h
  rw [parse_front (body_front h h1 r), levsG_put _ _ _ hr.2]
  simp only [List.nil_append, Int.toNat_of_nonneg hp.1.1, Int.toNat_of_nonneg hp.1.2.2.1, Int.toNat_of_nonneg h0]

theorem open_seal (l : List UInt8) : openB (sealS l) = true ∧ openT (sealS l) = l := by
  have hl := sealS_length l
  have ht : (sealS l).take ((sealS l).length - 4) = l := by
    rw [hl, Nat.add_sub_cancel]; unfold sealS; exact List.take_left
  have hb : openB (sealS l) = true := by
    unfold openB
    rw [ht, decide_eq_true (show 4 ≤ (sealS l).length by omega), decide_eq_true rfl]; rfl
  exact ⟨hb, by unfold openT; rw [if_pos hb, ht]⟩

theorem mget_put {nx ck sd : Int} {L : List (List Int)} (h : mvalid nx ck L = true) (h0 : 0 ≤ sd) (h1 : sd < 18446744073709551616) :
    mgetS (sealS (manBody nx ck sd L)) = ⟨nx, ck, sd, trimL L, 0⟩ := by
  obtain ⟨o1, o2⟩ := open_seal (manBody nx ck sd L)
  have hp := parse_body h h0 h1 []
  rw [List.append_nil] at hp
  have hf : frontOk (manBody nx ck sd L) = true := by
    have e := body_parts nx ck sd L []
    rw [List.append_nil] at e
    unfold frontOk
    rw [e, Bool.and_eq_true]
    exact ⟨by simp, by simp⟩
  unfold mgetS
  rw [o1, o2, hf, if_pos (by rfl), hp]
  have hk : parseOk ⟨nx, ck, sd, trimL L, [], true⟩ (sealS (manBody nx ck sd L)) = true :=
    parseOk_y rfl rfl (mvalid_trim h) (by show (mputS nx ck sd (trimL L)).1 = _; rw [mput_trim h, mput_bytes h])
  rw [hk, if_pos rfl]

theorem parseOk_parts {p : Parsed} {s : List UInt8} (h : parseOk p s = true) : mvalid p.nx p.ck p.L = true ∧ (mputS p.nx p.ck p.sd p.L).1 = s := by
  unfold parseOk at h
  rw [Bool.and_eq_true, Bool.and_eq_true] at h
  exact ⟨h.1.2, of_decide_eq_true h.2⟩

theorem parse_sd (t : List UInt8) : 0 ≤ (parseG t).sd ∧ (parseG t).sd < 18446744073709551616 := by
  have e : (parseG t).sd = ((takeV 8 (takeR 4 (takeR 4 (t.drop 4))) : Nat) : Int) := rfl
  have h8 := takeV_lt 8 (takeR 4 (takeR 4 (t.drop 4)))
  generalize takeV 8 (takeR 4 (takeR 4 (t.drop 4))) = z at e h8
  rw [e]
  omega

theorem mget_cases (s : List UInt8) : mgetS s = badM ∨ ∃ p : Parsed, parseOk p s = true ∧ (0 ≤ p.sd ∧ p.sd < 18446744073709551616) ∧ mgetS s = ⟨p.nx, p.ck, p.sd, p.L, 0⟩ := by
  have hsd := parse_sd (openT s)
  unfold mgetS
  generalize parseG (openT s) = p at hsd
  split
  · split
    · rename_i h; exact .inr ⟨p, h, hsd, rfl⟩
    · exact .inl rfl
  · exact .inl rfl

/-- what is got has these bytes -/
theorem mget_ok {s : List UInt8} (h : (mgetS s).en = 0) : mvalid (mgetS s).nx (mgetS s).ck (mgetS s).L = true ∧ sealS (manBody (mgetS s).nx (mgetS s).ck (mgetS s).sd (mgetS s).L) = s ∧ 0 ≤ (mgetS s).sd ∧ (mgetS s).sd < 18446744073709551616 := by
  rcases mget_cases s with e | ⟨p, hp, hsd, e⟩
  · rw [e] at h; simp [badM] at h
  · obtain ⟨hv, hs⟩ := parseOk_parts hp
    rw [e]
    rw [mput_bytes hv] at hs
    exact ⟨hv, hs, hsd⟩

theorem mget_bad {s : List UInt8} (h : (mgetS s).en ≠ 0) : mgetS s = badM := by
  unfold mgetS at h ⊢
  split at h <;> rename_i hc
  · rw [if_pos hc]
    split at h <;> rename_i hk
    · simp at h
    · rw [if_neg hk]
  · rw [if_neg hc]

/-- more bytes behind: what was read stays -/
theorem take_more {k : Nat} {s : List UInt8} (v : List UInt8) (h : takeO k s true = true) : takeV k (s ++ v) = takeV k s ∧ takeR k (s ++ v) = takeR k s ++ v ∧ takeO k (s ++ v) true = true := by
  have hl : ¬ s.length < k := by
    intro hh; unfold takeO at h; rw [if_pos hh] at h; cases h
  have hl2 : ¬ (s ++ v).length < k := by simp; omega
  unfold takeV takeR takeO
  rw [if_neg hl, if_neg hl, if_neg hl2, if_neg hl2, if_neg hl2, List.take_append_of_le_length (by omega), List.drop_append_of_le_length (by omega)]
  exact ⟨rfl, rfl, rfl⟩

theorem takeO_dec (k : Nat) (s : List UInt8) : takeO k s true = true ∨ takeO k s true = false := by cases takeO k s true <;> simp

theorem levG_more (v : List UInt8) : ∀ i s acc, (levG i s true acc).2.2 = true → levG i (s ++ v) true acc = ((levG i s true acc).1, (levG i s true acc).2.1 ++ v, true)
  | 0, s, acc, h => by simp [levG]
  | i + 1, s, acc, h => by
    rw [levG, if_pos rfl] at h
    rcases takeO_dec 4 s with e | e
    · have ht := take_more v e
      rw [e] at h
      rw [levG, if_pos rfl, ht.1, ht.2.1, ht.2.2, levG_more v i _ _ h]
      rw [levG.eq_2, if_pos rfl, e]
    · rw [e, levG_no] at h; cases h

theorem levsG_more (v : List UInt8) : ∀ i s acc, (levsG i s true acc).2.2 = true → levsG i (s ++ v) true acc = ((levsG i s true acc).1, (levsG i s true acc).2.1 ++ v, true)
  | 0, s, acc, h => by simp [levsG]
  | i + 1, s, acc, h => by
    rw [levsG, if_pos rfl] at h
    rcases takeO_dec 1 s with e | e
    · have ht := take_more v e
      rw [e] at h
      rcases hb : (levG (takeV 1 s) (takeR 1 s) true []).2.2 with _ | _
      · rw [hb, levsG_no] at h; cases h
      · have hm := levG_more v _ _ _ hb
        rw [hb] at h
        rw [levsG, if_pos rfl, ht.1, ht.2.1, ht.2.2, hm, levsG_more v i _ _ h]
        rw [levsG.eq_2, if_pos rfl, e, hb]
    · rw [e, levG_no, levsG_no] at h; cases h

/-- no manifest's bytes begin another's -/
theorem put_prefix {nx ck sd nx' ck' sd' : Int} {L L' : List (List Int)} {v : List UInt8} (h : mvalid nx ck L = true) (h0 : 0 ≤ sd) (h1 : sd < 18446744073709551616)
    (h' : mvalid nx' ck' L' = true) (h0' : 0 ≤ sd') (h1' : sd' < 18446744073709551616) (he : sealS (manBody nx' ck' sd' L') = sealS (manBody nx ck sd L) ++ v) : v = [] := by
  have hfr' := body_front h' h1' (lowS (crcSum (manBody nx' ck' sd' L')))
  have hfr := body_front h h1 (lowS (crcSum (manBody nx ck sd L)) ++ v)
  rw [← List.append_assoc] at hfr
  have hp' := parse_body h' h0' h1' (lowS (crcSum (manBody nx' ck' sd' L')))
  have hp := parse_body h h0 h1 (lowS (crcSum (manBody nx ck sd L)) ++ v)
  rw [← List.append_assoc] at hp
  change parseG (sealS (manBody nx' ck' sd' L')) = _ at hp'
  change parseG (sealS (manBody nx ck sd L) ++ v) = _ at hp
  rw [he, hp] at hp'
  have hr := congrArg Parsed.r hp'
  have hl := congrArg List.length hr
  simp [lowS_length] at hl
  exact hl

theorem mget_cut {nx ck sd : Int} {L : List (List Int)} (h : mvalid nx ck L = true) (h0 : 0 ≤ sd) (h1 : sd < 18446744073709551616) (k : Nat) (hk : k < (sealS (manBody nx ck sd L)).length) :
    mgetS ((sealS (manBody nx ck sd L)).take k) = badM := by
  by_cases hz : (mgetS ((sealS (manBody nx ck sd L)).take k)).en = 0
  · obtain ⟨hv, hs, a0, a1⟩ := mget_ok hz
    have hx := put_prefix (v := (sealS (manBody nx ck sd L)).drop k) hv a0 a1 h h0 h1 (by rw [hs, List.take_append_drop])
    have := congrArg List.length hx
    simp at this
    omega
  · exact mget_bad hz

theorem mget_more {nx ck sd : Int} {L : List (List Int)} (h : mvalid nx ck L = true) (h0 : 0 ≤ sd) (h1 : sd < 18446744073709551616) (v : List UInt8) (hv : v ≠ []) :
    mgetS (sealS (manBody nx ck sd L) ++ v) = badM := by
  by_cases hz : (mgetS (sealS (manBody nx ck sd L) ++ v)).en = 0
  · obtain ⟨hv', hs, a0, a1⟩ := mget_ok hz
    exact absurd (put_prefix h h0 h1 hv' a0 a1 hs) hv
  · exact mget_bad hz

theorem be_inj {k x y : Nat} (hx : x < 256 ^ k) (hy : y < 256 ^ k) (h : be k x = be k y) : x = y := by
  have := congrArg unbe h
  rwa [unbe_be, unbe_be, Nat.mod_eq_of_lt hx, Nat.mod_eq_of_lt hy] at this

theorem lowS_inj {s t : BitVec 32} (h : lowS s = lowS t) : s = t := by
  unfold lowS at h
  have h2 := List.reverse_inj.1 h
  exact BitVec.eq_of_toNat_eq (be_inj (by have := s.isLt; simpa using this) (by have := t.isLt; simpa using this) h2)

/-- one byte turned: no seal -/
theorem open_spoilt (l : List UInt8) (k : Nat) (u d : UInt8) (hu : (sealS l)[k]? = some u) (hd : d ≠ u) : openB ((sealS l).set k d) = false := by
  have hl := sealS_length l
  have hk : k < (sealS l).length := (List.getElem?_eq_some_iff.1 hu).1
  have hlen : ((sealS l).set k d).length - 4 = l.length := by simp; omega
  rw [openB_eq _ (by simp; omega), decide_eq_false_iff_not, hlen]
  intro hx
  have e0 : (sealS l).take l.length = l := by unfold sealS; exact List.take_left
  have e9 : (sealS l).drop l.length = lowS (crcSum l) := by unfold sealS; exact List.drop_left
  rw [List.take_set, e0] at hx
  by_cases hkl : k < l.length
  · rw [List.drop_set_of_lt hkl, e9] at hx
    have hs := lowS_inj hx
    have hsk : l[k]? = some u := by
      rw [← hu]; unfold sealS; rw [List.getElem?_append_left hkl]
    have hlk : l[k] = u := by rw [List.getElem?_eq_getElem hkl] at hsk; exact Option.some.inj hsk
    have ea : l.set k d = l.take k ++ d :: l.drop (k + 1) := by rw [List.set_eq_take_append_cons_drop, if_pos hkl]
    have eb : l = l.take k ++ u :: l.drop (k + 1) := by
      rw [← hlk, List.getElem_cons_drop, List.take_append_drop]
    have hs2 : crcSum (l.take k ++ d :: l.drop (k + 1)) = crcSum (l.take k ++ u :: l.drop (k + 1)) := by rw [← ea, ← eb]; exact hs
    exact hd (crcSum_byte _ _ _ _ hs2)
  · rw [List.set_eq_of_length_le (by omega), List.drop_set, if_neg hkl, e9] at hx
    have hj : k - l.length < (lowS (crcSum l)).length := by rw [lowS_length]; omega
    have h1 : (lowS (crcSum l))[k - l.length]? = some u := by
      rw [← hu]; unfold sealS; rw [List.getElem?_append_right (by omega)]
    have h2 : ((lowS (crcSum l)).set (k - l.length) d)[k - l.length]? = some d := List.getElem?_set_self hj
    rw [← hx, h1] at h2
    exact hd (Option.some.inj h2).symm

theorem mget_spoilt (l : List UInt8) (k : Nat) (u d : UInt8) (hu : (sealS l)[k]? = some u) (hd : d ≠ u) : mgetS ((sealS l).set k d) = badM := by
  unfold mgetS
  rw [open_spoilt l k u d hu hd]
  rfl

end Go.Proofs.YtikaopicddakeaaGreatDoor
namespace Go.Proofs.YtikaopicddakeaaGreatDoor

theorem numV_at (a : List UInt8) (k x : Nat) (r : List UInt8) (h : x < 256 ^ k) : numV (a ++ (be k x ++ r)) a.length k = x := by
  unfold numV
  rw [if_neg (by simp [be_length])]
  have e : ((a ++ (be k x ++ r)).take (a.length + k)).drop a.length = be k x := by
    rw [List.take_length_add_append, List.drop_left, List.take_left' (be_length k x)]
  rw [e, unbe_be, Nat.mod_eq_of_lt h]

theorem numV_of {s a : List UInt8} {k x at_ : Nat} {r : List UInt8} (hs : s = a ++ (be k x ++ r)) (ha : a.length = at_) (h : x < 256 ^ k) : numV s at_ k = x := by
  subst hs ha; exact numV_at a k x r h

theorem rlevG_put : ∀ (l : List Int) (s a r : List UInt8) (at_ : Nat) (acc : List Int), s = a ++ ((l.map b4).flatten ++ r) → a.length = at_ → (∀ x ∈ l, okInt x) →
    rlevG l.length s at_ acc = (acc ++ l, at_ + 4 * l.length)
  | [], s, a, r, at_, acc, _, _, _ => by simp [rlevG]
  | x :: l, s, a, r, at_, acc, hs, ha, h => by
    obtain ⟨h1, h2⟩ := h x (by simp)
    have e : s = a ++ (be 4 x.toNat ++ ((l.map b4).flatten ++ r)) := by rw [hs]; simp [b4]
    have e2 : s = (a ++ be 4 x.toNat) ++ ((l.map b4).flatten ++ r) := by rw [e, List.append_assoc]
    rw [List.length_cons, rlevG, if_pos (by rw [e]; simp [be_length, ha]), numV_of e ha (by omega),
      rlevG_put l s _ r (at_ + 4) _ e2 (by simp [be_length, ha]) fun y hy => h y (by simp [hy]), List.append_assoc, Int.toNat_of_nonneg h1]
    simp; omega

theorem levBytes_b4 (l : List Int) : levBytes l = be 1 l.length ++ (l.map b4).flatten := rfl

theorem rlevsG_put : ∀ (T : List (List Int)) (s a r : List UInt8) (at_ : Nat) (acc : List (List Int)), s = a ++ ((T.map levBytes).flatten ++ r) → a.length = at_ → (∀ l ∈ T, okRow l) →
    rlevsG T.length s at_ acc = acc ++ T
  | [], s, a, r, at_, acc, _, _, _ => by simp [rlevsG]
  | l :: T, s, a, r, at_, acc, hs, ha, h => by
    have hl := h l (by simp)
    have e : s = a ++ (be 1 l.length ++ ((l.map b4).flatten ++ ((T.map levBytes).flatten ++ r))) := by rw [hs]; simp [levBytes_b4]
    have e2 : s = (a ++ be 1 l.length) ++ ((l.map b4).flatten ++ ((T.map levBytes).flatten ++ r)) := by rw [e, List.append_assoc]
    have e3 : s = (a ++ (be 1 l.length ++ (l.map b4).flatten)) ++ ((T.map levBytes).flatten ++ r) := by rw [e]; simp only [List.append_assoc]
    have hb4 : (l.map b4).flatten.length = 4 * l.length := flat4_length l
    rw [List.length_cons, rlevsG, if_pos (by rw [e]; simp [be_length, ha]; omega), numV_of e ha (by have := hl.1; omega),
      rlevG_put l s _ _ (at_ + 1) [] e2 (by simp [be_length, ha]) hl.2]
    simp only [List.nil_append]
    rw [rlevsG_put T s _ r _ _ e3 (by simp only [List.length_append, be_length, hb4, ha]; omega) fun y hy => h y (by simp [hy]), List.append_assoc]
    rfl

theorem rparse_put {nx ck sd : Int} {L : List (List Int)} (h : mvalid nx ck L = true) (h0 : 0 ≤ sd) (h1 : sd < 18446744073709551616) :
    rparseG (sealS (manBody nx ck sd L)) = ⟨nx, ck, sd, trimL L⟩ := by
  have hp := mvalid_parts h
  have hr := rows_ok h
  have e := body_parts nx ck sd L (lowS (crcSum (manBody nx ck sd L)))
  change sealS (manBody nx ck sd L) = _ at e
  generalize lowS (crcSum (manBody nx ck sd L)) = low at e
  have e1 : sealS (manBody nx ck sd L) = [105, 109, 97, 112] ++ (be 4 nx.toNat ++ (be 4 ck.toNat ++ (be 8 sd.toNat ++ (be 1 (trimL L).length ++ (((trimL L).map levBytes).flatten ++ low))))) := e
  have e2 : sealS (manBody nx ck sd L) = ([105, 109, 97, 112] ++ be 4 nx.toNat) ++ (be 4 ck.toNat ++ (be 8 sd.toNat ++ (be 1 (trimL L).length ++ (((trimL L).map levBytes).flatten ++ low)))) := by rw [e]; simp only [List.append_assoc]
  have e3 : sealS (manBody nx ck sd L) = ([105, 109, 97, 112] ++ be 4 nx.toNat ++ be 4 ck.toNat) ++ (be 8 sd.toNat ++ (be 1 (trimL L).length ++ (((trimL L).map levBytes).flatten ++ low))) := by rw [e]; simp only [List.append_assoc]
  have e4 : sealS (manBody nx ck sd L) = ([105, 109, 97, 112] ++ be 4 nx.toNat ++ be 4 ck.toNat ++ be 8 sd.toNat) ++ (be 1 (trimL L).length ++ (((trimL L).map levBytes).flatten ++ low)) := by rw [e]; simp only [List.append_assoc]
  have e5 : sealS (manBody nx ck sd L) = ([105, 109, 97, 112] ++ be 4 nx.toNat ++ be 4 ck.toNat ++ be 8 sd.toNat ++ be 1 (trimL L).length) ++ (((trimL L).map levBytes).flatten ++ low) := by rw [e]; simp only [List.append_assoc]
  unfold rparseG
  rw [numV_of (at_ := 4) e1 rfl (by omega), numV_of (at_ := 8) e2 (by simp [be_length]) (by omega), numV_of (at_ := 12) e3 (by simp [be_length]) (by omega), numV_of (at_ := 20) e4 (by simp [be_length]) (by omega),
    rlevsG_put (trimL L) _ _ _ 21 [] e5 (by simp [be_length]) hr.2, List.nil_append, Int.toNat_of_nonneg hp.1.1, Int.toNat_of_nonneg hp.1.2.2.1, Int.toNat_of_nonneg h0]

theorem rget_put {nx ck sd : Int} {L : List (List Int)} (h : mvalid nx ck L = true) (h0 : 0 ≤ sd) (h1 : sd < 18446744073709551616) :
    rgetS (sealS (manBody nx ck sd L)) = ⟨nx, ck, sd, trimL L, 0⟩ := by
  unfold rgetS
  rw [rparse_put h h0 h1]
  rw [if_pos (by rw [mput_trim h, mput_bytes h])]

/-- both say the same of any bytes -/
theorem mget_rget (s : List UInt8) : mgetS s = rgetS s := by
  by_cases hz : (mgetS s).en = 0
  · obtain ⟨hv, hs, a0, a1⟩ := mget_ok hz
    rw [← hs, mget_put hv a0 a1, rget_put hv a0 a1]
  · rw [mget_bad hz]
    unfold rgetS
    split
    · rename_i he
      exfalso
      have hv : mvalid (rparseG s).nx (rparseG s).ck (rparseG s).L = true := by
        unfold mputS at he
        split at he
        · assumption
        · cases he
      rw [mput_bytes hv] at he
      have hs := congrArg Prod.fst he
      have a1 : (rparseG s).sd < 18446744073709551616 := by
        have := numV_lt s 12 8
        show ((numV s 12 8 : Nat) : Int) < _
        omega
      have a0 : 0 ≤ (rparseG s).sd := by show (0 : Int) ≤ ((numV s 12 8 : Nat) : Int); omega
      have := mget_put hv a0 a1
      change sealS (manBody (rparseG s).nx (rparseG s).ck (rparseG s).sd (rparseG s).L) = s at hs
      rw [hs] at this
      rw [this] at hz
      exact hz rfl
    · rfl

end Go.Proofs.YtikaopicddakeaaGreatDoor
