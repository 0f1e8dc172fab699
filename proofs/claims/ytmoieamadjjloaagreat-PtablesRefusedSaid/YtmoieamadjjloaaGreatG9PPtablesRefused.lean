/- Plain laws: records and chunks of a log, as bytes. Walks: records, and what a chunk begins with. Walks: the record at a place. Walks: a chunk's head; does a record find room; does a text begin with another one. -/
import Derived.Test.YtmoieamadjjloaaGreatG5PPtablesRefused
import Derived.Test.YtmoieamadjjloaaGreatG7PPtablesRefused
import Derived.Test.YtmoieamadjjloaaGreatG8PPtablesRefused
import Derived.Test.YtmoieamadjjloaaGreatChecked
set_option linter.unusedVariables false
set_option linter.unusedSimpArgs false
namespace Go.Proofs.YtmoieamadjjloaaGreat
open Go.RowKit

theorem cat_mk (a b : List UInt8) : (⟨a.toArray⟩ : ByteArray) ++ ⟨b.toArray⟩ = ⟨(a ++ b).toArray⟩ := by rw [ByteArray.mk_append_mk]; first | done | simp
/-- a payload's record -/
def putR (p : List UInt8) : List UInt8 := sealS (be 4 p.length ++ p) ++ be 4 p.length
/-- the number ahead of a place -/
def longR (s : List UInt8) (a : Nat) : Nat := unbe ((s.drop a).take 4)
/-- is there a record at a place? -/
def isR (s : List UInt8) (a : Nat) : Bool :=
  decide (a + 12 ≤ s.length) && decide (longR s a ≤ 2000) && decide (a + longR s a + 12 ≤ s.length)
  && openB ((s.drop a).take (longR s a + 8)) && decide ((s.drop (a + longR s a + 8)).take 4 = (s.drop a).take 4)
/-- the payload of the record at a place, and the place behind it -/
def getR (s : List UInt8) (a : Nat) : Option (List UInt8 × Nat) :=
  if isR s a then some ((s.drop (a + 4)).take (longR s a), a + longR s a + 12) else none
/-- the records from a place on: where each stands, and where it ends -/
def eachR : Nat → List UInt8 → Nat → List (Nat × Nat)
  | 0, _, _ => []
  | f + 1, s, a => match getR s a with
    | none => []
    | some (_, b) => (a, b) :: eachR f s b
def wholeR (s : List UInt8) (a : Nat) : List (Nat × Nat) := eachR (s.length + 1) s a
/-- where they end -/
def endR (a : Nat) (l : List (Nat × Nat)) : Nat := (l.getLast?.map Prod.snd).getD a
/-- what a chunk begins with -/
def ckHead (n : Nat) : List UInt8 := sealS ([99, 104, 110, 107] ++ be 4 n)
/-- a chunk's bytes -/
def bodyC (ps : List (List UInt8)) : List UInt8 := (ps.map putR).flatten
def chunkB (n : Nat) (ps : List (List UInt8)) : List UInt8 := ckHead n ++ bodyC ps
def sizeC (ps : List (List UInt8)) : Nat := 12 + (ps.map fun p => p.length + 12).sum
/-- where records stand, and end -/
def placesC : Nat → List (List UInt8) → List (Nat × Nat)
  | _, [] => []
  | a, p :: r => (a, a + p.length + 12) :: placesC (a + p.length + 12) r

theorem putR_length (p : List UInt8) : (putR p).length = p.length + 12 := by
  simp only [putR, List.length_append, sealS_length, be_length]; omega
theorem ckHead_length (n : Nat) : (ckHead n).length = 12 := by simp [ckHead, sealS_length, be_length]
theorem bodyC_length (ps : List (List UInt8)) : (bodyC ps).length = (ps.map fun p => p.length + 12).sum := by
  unfold bodyC
  induction ps with
  | nil => rfl
  | cons p r ih => simp [putR_length, ih]
theorem chunkB_length (n : Nat) (ps : List (List UInt8)) : (chunkB n ps).length = sizeC ps := by
  simp [chunkB, sizeC, ckHead_length, bodyC_length]
theorem bodyC_snoc (ps : List (List UInt8)) (p : List UInt8) : bodyC (ps ++ [p]) = bodyC ps ++ putR p := by simp [bodyC]
theorem chunkB_snoc (n : Nat) (ps : List (List UInt8)) (p : List UInt8) : chunkB n (ps ++ [p]) = chunkB n ps ++ putR p := by simp [chunkB, bodyC_snoc]
theorem chunkB_one (n : Nat) (p : List UInt8) : chunkB n [p] = ckHead n ++ putR p := by simp [chunkB, bodyC]
theorem sizeC_snoc (ps : List (List UInt8)) (p : List UInt8) : sizeC (ps ++ [p]) = sizeC ps + (p.length + 12) := by simp [sizeC, List.sum_append]; omega
theorem sizeC_one (p : List UInt8) : sizeC [p] = 12 + (p.length + 12) := by simp [sizeC]

theorem getR_some {s : List UInt8} {a b : Nat} {p : List UInt8} (h : getR s a = some (p, b)) :
    p.length ≤ 2000 ∧ b = a + p.length + 12 ∧ b ≤ s.length ∧ p = (s.drop (a + 4)).take p.length ∧ longR s a = p.length := by
  unfold getR at h
  split at h
  case isFalse => cases h
  case isTrue hi =>
    unfold isR at hi
    simp only [Bool.and_eq_true, decide_eq_true_eq] at hi
    obtain ⟨⟨⟨⟨h1, h2⟩, h3⟩, h4⟩, h5⟩ := hi
    simp only [Option.some.injEq, Prod.mk.injEq] at h
    obtain ⟨rfl, rfl⟩ := h
    have hl : ((s.drop (a + 4)).take (longR s a)).length = longR s a := by simp; omega
    rw [hl]
    exact ⟨h2, rfl, h3, rfl, rfl⟩

theorem drop_at {α : Type} (pre m post : List α) {a : Nat} (h : a = pre.length) : (pre ++ m ++ post).drop a = m ++ post := by
  subst h; rw [List.append_assoc, List.drop_left]

/-- what was put is got -/
theorem getR_put (pre p post : List UInt8) (hp : p.length ≤ 2000) {a : Nat} (ha : a = pre.length) : getR (pre ++ putR p ++ post) a = some (p, a + p.length + 12) := by
  have hd : (pre ++ putR p ++ post).drop a = be 4 p.length ++ (p ++ (lowS (crcSum (be 4 p.length ++ p)) ++ (be 4 p.length ++ post))) := by
    rw [drop_at _ _ _ ha]; simp [putR, sealS]
  have hb : (be 4 p.length).length = 4 := be_length 4 _
  have hlow := lowS_length (crcSum (be 4 p.length ++ p))
  have hlong : longR (pre ++ putR p ++ post) a = p.length := by
    unfold longR
    rw [hd, List.take_left' hb, unbe_be]
    omega
  have hlen : (pre ++ putR p ++ post).length = a + (p.length + 12) + post.length := by simp [putR_length, ha]; omega
  have hi : isR (pre ++ putR p ++ post) a = true := by
    unfold isR
    rw [hlong]
    simp only [Bool.and_eq_true, decide_eq_true_eq]
    refine ⟨⟨⟨⟨by omega, hp⟩, by omega⟩, ?_⟩, ?_⟩
    · have e : ((pre ++ putR p ++ post).drop a).take (p.length + 8) = sealS (be 4 p.length ++ p) := by
        rw [hd]
        have : be 4 p.length ++ (p ++ (lowS (crcSum (be 4 p.length ++ p)) ++ (be 4 p.length ++ post))) = sealS (be 4 p.length ++ p) ++ (be 4 p.length ++ post) := by simp [sealS]
        rw [this]
        exact List.take_left' (by simp [sealS_length, hb]; omega)
      rw [e]
      unfold openB
      simp only [Bool.and_eq_true, decide_eq_true_eq, sealS_length]
      refine ⟨by omega, ?_⟩
      have e2 : (sealS (be 4 p.length ++ p)).take ((be 4 p.length ++ p).length + 4 - 4) = be 4 p.length ++ p := by
        unfold sealS; exact List.take_left' (by omega)
      rw [e2]
    · have e : (pre ++ putR p ++ post).drop (a + p.length + 8) = be 4 p.length ++ post := by
        have : a + p.length + 8 = a + (p.length + 8) := by omega
        rw [this, ← List.drop_drop, hd]
        have : be 4 p.length ++ (p ++ (lowS (crcSum (be 4 p.length ++ p)) ++ (be 4 p.length ++ post))) = (be 4 p.length ++ (p ++ lowS (crcSum (be 4 p.length ++ p)))) ++ (be 4 p.length ++ post) := by simp
        rw [this]
        exact List.drop_left' (by simp [hb, hlow]; omega)
      rw [e, hd, List.take_left' hb, List.take_left' hb]
  unfold getR
  rw [if_pos hi, hlong]
  congr 2
  rw [← List.drop_drop, hd]
  have e3 : (be 4 p.length ++ (p ++ (lowS (crcSum (be 4 p.length ++ p)) ++ (be 4 p.length ++ post)))).drop 4 = p ++ (lowS (crcSum (be 4 p.length ++ p)) ++ (be 4 p.length ++ post)) := List.drop_left' hb
  rw [e3]
  exact List.take_left' rfl

theorem isR_end (s : List UInt8) (a : Nat) (h : s.length < a + 12) : getR s a = none := by
  unfold getR isR
  rw [decide_eq_false (by omega)]
  simp

theorem eachR_body : ∀ (ps : List (List UInt8)) (pre : List UInt8) (f a : Nat), (∀ p ∈ ps, p.length ≤ 2000) → a = pre.length → ps.length < f → eachR f (pre ++ bodyC ps) a = placesC a ps
  | [], pre, 0, a, _, _, hf => by simp at hf
  | [], pre, f + 1, a, _, ha, _ => by
    unfold eachR
    rw [isR_end _ _ (by simp [bodyC, ha])]
    rfl
  | p :: r, pre, 0, a, _, _, hf => by simp at hf
  | p :: r, pre, f + 1, a, hp, ha, hf => by
    have e : pre ++ bodyC (p :: r) = pre ++ putR p ++ bodyC r := by simp [bodyC]
    rw [e]
    unfold eachR
    rw [getR_put pre p (bodyC r) (hp p (List.mem_cons_self)) ha]
    show _ :: eachR f (pre ++ putR p ++ bodyC r) (a + p.length + 12) = _
    rw [eachR_body r (pre ++ putR p) f _ (fun q hq => hp q (List.mem_cons_of_mem _ hq)) (by simp [putR_length, ha]; omega) (by simp at hf; omega)]
    rfl

theorem sum_ge (ps : List (List UInt8)) : 12 * ps.length ≤ (ps.map fun p => p.length + 12).sum := by
  induction ps with
  | nil => simp
  | cons p r ih => simp only [List.map_cons, List.sum_cons, List.length_cons]; omega
theorem whole_chunk (n : Nat) (ps : List (List UInt8)) (hp : ∀ p ∈ ps, p.length ≤ 2000) : wholeR (chunkB n ps) 12 = placesC 12 ps := by
  unfold wholeR
  refine eachR_body ps (ckHead n) _ 12 hp (ckHead_length n).symm ?_
  have := sum_ge ps
  show _ < (chunkB n ps).length + 1
  rw [chunkB_length]; unfold sizeC; omega

theorem placesC_snoc : ∀ (ps : List (List UInt8)) (p : List UInt8) (a : Nat), placesC a (ps ++ [p]) = placesC a ps ++ [(a + (ps.map fun p => p.length + 12).sum, a + (ps.map fun p => p.length + 12).sum + p.length + 12)]
  | [], p, a => by simp [placesC]
  | q :: r, p, a => by
    rw [List.cons_append, placesC, placesC_snoc r p, placesC, List.cons_append]
    simp only [List.map_cons, List.sum_cons]
    congr 4 <;> omega
theorem placesC_end : ∀ (ps : List (List UInt8)) (a : Nat), endR a (placesC a ps) = a + (ps.map fun p => p.length + 12).sum := fun ps a => by
  rcases List.eq_nil_or_concat ps with rfl | ⟨r, p, rfl⟩
  · rfl
  · rw [List.concat_eq_append, placesC_snoc]
    unfold endR
    simp only [List.getLast?_append, List.getLast?_singleton, Option.some_or, Option.map_some, Option.getD_some, List.map_append, List.map_cons, List.map_nil, List.sum_append, List.sum_cons, List.sum_nil]
    omega
theorem end_chunk (n : Nat) (ps : List (List UInt8)) (hp : ∀ p ∈ ps, p.length ≤ 2000) : endR 12 (wholeR (chunkB n ps) 12) = (chunkB n ps).length := by
  rw [whole_chunk n ps hp, placesC_end, chunkB_length]; rfl

theorem placesC_length : ∀ (ps : List (List UInt8)) (a : Nat), (placesC a ps).length = ps.length
  | [], _ => rfl
  | p :: r, a => by simp [placesC, placesC_length r]

/-- the record of one payload among them -/
theorem get_chunk (n : Nat) (l : List (List UInt8)) (p : List UInt8) (r : List (List UInt8)) (hp : p.length ≤ 2000) : getR (chunkB n (l ++ p :: r)) (sizeC l) = some (p, sizeC l + p.length + 12) := by
  have e : chunkB n (l ++ p :: r) = chunkB n l ++ putR p ++ bodyC r := by simp [chunkB, bodyC]
  rw [e]
  exact getR_put _ _ _ hp (chunkB_length n l).symm

end Go.Proofs.YtmoieamadjjloaaGreat
namespace Go.Proofs.YtmoieamadjjloaaGreat
open Go.RowKit

set_option maxRecDepth 100000
set_option linter.unusedVariables false
set_option maxHeartbeats 1600000

theorem slice_str (s : List UInt8) (lo hi : Int) (a b : Nat) (hlo : lo = (a : Int)) (hhi : hi = (b : Int)) (h : a ≤ b) (h2 : b ≤ s.length) {X : List UInt8} (hX : (s.take b).drop a = X) :
    ∀ w, (Instr.slice 9 (.string ⟨s.toArray⟩) (some (.int .i64 lo)) (some (.int .i64 hi)) none).run Tryz.prog w = .ok (.string ⟨X.toArray⟩) w := fun w => by
  have h3 := run_slice_string (P := Tryz.prog) w 9 ⟨s.toArray⟩ .i64 .i64 lo hi Tryz.underlying9 (by omega) (by omega) (by simp [ByteArray.size]; omega)
  rw [h3, hlo, hhi, ← hX]
  show _ = Result.ok (Value.string ⟨((s.take b).drop a).toArray⟩) w
  rw [← extract_mk]; rfl

theorem slice_to (s : List UInt8) (hi : Int) (b : Nat) (hhi : hi = (b : Int)) (h2 : b ≤ s.length) :
    ∀ w, (Instr.slice 9 (.string ⟨s.toArray⟩) none (some (.int .i64 hi)) none).run Tryz.prog w = .ok (.string ⟨(s.take b).toArray⟩) w := fun w => by
  have h3 := run_slice_string_to_if (P := Tryz.prog) w 9 ⟨s.toArray⟩ .i64 hi Tryz.underlying9
  have hs : (ByteArray.size ⟨s.toArray⟩) = s.length := by simp [ByteArray.size]
  rw [h3, hs, if_pos (by omega), hhi]
  show Result.ok (Value.string ((⟨s.toArray⟩ : ByteArray).extract 0 b)) w = _
  rw [extract_mk]; rfl
theorem slice_from (s : List UInt8) (lo : Int) (a : Nat) (hlo : lo = (a : Int)) (h2 : a ≤ s.length) :
    ∀ w, (Instr.slice 9 (.string ⟨s.toArray⟩) (some (.int .i64 lo)) none none).run Tryz.prog w = .ok (.string ⟨(s.drop a).toArray⟩) w := fun w => by
  have h3 := run_slice_string_from_if (P := Tryz.prog) w 9 ⟨s.toArray⟩ .i64 lo Tryz.underlying9
  have hs : (ByteArray.size ⟨s.toArray⟩) = s.length := by simp [ByteArray.size]
  rw [h3, hs, if_pos (by omega), hlo]
  show Result.ok (Value.string ((⟨s.toArray⟩ : ByteArray).extract a s.length)) w = _
  rw [extract_mk, List.take_length]

end Go.Proofs.YtmoieamadjjloaaGreat
namespace Go.Proofs.YtmoieamadjjloaaGreat
open Go.RowKit

set_option maxRecDepth 100000
set_option linter.unusedVariables false
set_option maxHeartbeats 1600000

/-- what 'Get' tells -/
def getV (s : List UInt8) (a : Nat) : Value := match getR s a with
  | none => .tuple #[.string ⟨#[]⟩, .int .i64 0, .bool false]
  | some (p, b) => .tuple #[.string ⟨p.toArray⟩, .int .i64 b, .bool true]
theorem getV_no {s : List UInt8} {a : Nat} (h : isR s a = false) : getV s a = .tuple #[.string ⟨#[]⟩, .int .i64 0, .bool false] := by unfold getV getR; rw [h]; rfl
theorem cut_drop (s : List UInt8) (a k : Nat) : (s.take (a + k)).drop a = (s.drop a).take k := by rw [List.drop_take]; congr 1; omega

end Go.Proofs.YtmoieamadjjloaaGreat
namespace Go.Proofs.YtmoieamadjjloaaGreat
open Go.RowKit

set_option maxRecDepth 100000
set_option linter.unusedVariables false
set_option maxHeartbeats 1600000

/-- does a text begin with another one? -/
def preB (s p : List UInt8) : Bool := decide (p.length ≤ s.length) && (s.take p.length == p)
theorem liteprefix_c (s p : List UInt8) (w : World) (hl : s.length ≤ 9223372036854775807) (hp : p.length ≤ 9223372036854775807) :
    Calls Tryz.prog 123 #[.string ⟨s.toArray⟩, .string ⟨p.toArray⟩] w fun e w' => e = .returned (.bool (preB s p)) ∧ w = w' := by
  by_cases h : p.length ≤ s.length
  · have HM : Hid (preB s p = (s.take p.length == p)) := Lib.hid (by unfold preB; rw [decide_eq_true h, Bool.true_and])
    have hd1 : decide ((p.length : Int) ≤ (s.length : Int)) = true := by simp; omega
    go_enter Tryz.func123, Tryz.ntmps123
    go_wp2_with fail
    go_ret
    rw [HM.out]
    exact ⟨rfl, rfl⟩
  · have HM : Hid (preB s p = false) := Lib.hid (by unfold preB; rw [decide_eq_false h, Bool.false_and])
    have hd1 : decide ((p.length : Int) ≤ (s.length : Int)) = false := by simp; omega
    go_enter Tryz.func123, Tryz.ntmps123
    go_wp2_with fail
    go_ret
    rw [HM.out]
    exact ⟨rfl, rfl⟩
theorem hasprefix_c (s p : List UInt8) (w : World) (hl : s.length ≤ 9223372036854775807) (hp : p.length ≤ 9223372036854775807) :
    Calls Tryz.prog 109 #[.string ⟨s.toArray⟩, .string ⟨p.toArray⟩] w fun e w' => e = .returned (.bool (preB s p)) ∧ w = w' := by
  go_enter Tryz.func109, Tryz.ntmps109
  go_wp2_with fail
  refine (liteprefix_c s p _ hl hp).mono ?_
  rintro e w1 ⟨rfl, rfl⟩
  go_wp2_with fail
  go_ret
  exact ⟨rfl, rfl⟩

end Go.Proofs.YtmoieamadjjloaaGreat
