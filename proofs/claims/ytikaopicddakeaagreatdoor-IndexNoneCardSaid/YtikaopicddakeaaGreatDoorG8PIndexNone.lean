/- Plain laws: records and chunks of a log, as bytes. Walks: records, and what a chunk begins with. Walks: the record at a place. Walks: a chunk's head; does a record find room; does a text begin with another one. Plain laws: a log in chunks on a disk that is well. Plain laws: the records of a log, in order. -/
import Derived.Test.YtikaopicddakeaaGreatDoorG5PIndexNone
import Derived.Test.YtikaopicddakeaaGreatDoorG6PIndexNone
import Derived.Test.YtikaopicddakeaaGreatDoorG7PIndexNone
import Derived.Test.YtikaopicddakeaaGreatDoorChecked
set_option linter.unusedVariables false
set_option linter.unusedSimpArgs false
namespace Go.Proofs.YtikaopicddakeaaGreatDoor
open Go.RowKit

theorem cat_mk (a b : List UInt8) : (⟨a.toArray⟩ : ByteArray) ++ ⟨b.toArray⟩ = ⟨(a ++ b).toArray⟩ := by rw [ByteArray.mk_append_mk]; first | done | simp
/-- a payload's record -/
def putR (p : List UInt8) : List UInt8 := sealS (be 4 p.length ++ p) ++ be 4 p.length
/-- the number ahead of a place -/
def longR (s : List UInt8) (a : Nat) : Nat := unbe ((s.drop a).take 4)
/-- is there a record at a place? -/
def isR (s : List UInt8) (a : Nat) : Bool :=
  decide (a + 12 ≤ s.length) && decide (longR s a ≤ 2000) && decide (a + longR s a + 12 ≤ s.length)
  && openB ((s.drop a).take (longR s a + 8)) && decide ((s.drop (a + longR s a + 8)).take 4 = (s.drop a).take 4)
/-- the payload of the record at a place, and the place behind it -/
def getR (s : List UInt8) (a : Nat) : Option (List UInt8 × Nat) :=
  if isR s a then some ((s.drop (a + 4)).take (longR s a), a + longR s a + 12) else none
/-- the records from a place on: where each stands, and where it ends -/
def eachR : Nat → List UInt8 → Nat → List (Nat × Nat)
  | 0, _, _ => []
  | f + 1, s, a => match getR s a with
    | none => []
    | some (_, b) => (a, b) :: eachR f s b
def wholeR (s : List UInt8) (a : Nat) : List (Nat × Nat) := eachR (s.length + 1) s a
/-- where they end -/
def endR (a : Nat) (l : List (Nat × Nat)) : Nat := (l.getLast?.map Prod.snd).getD a
/-- what a chunk begins with -/
def ckHead (n : Nat) : List UInt8 := sealS ([99, 104, 110, 107] ++ be 4 n)
/-- a chunk's bytes -/
def bodyC (ps : List (List UInt8)) : List UInt8 := (ps.map putR).flatten
def chunkB (n : Nat) (ps : List (List UInt8)) : List UInt8 := ckHead n ++ bodyC ps
def sizeC (ps : List (List UInt8)) : Nat := 12 + (ps.map fun p => p.length + 12).sum
/-- where records stand, and end -/
def placesC : Nat → List (List UInt8) → List (Nat × Nat)
  | _, [] => []
  | a, p :: r => (a, a + p.length + 12) :: placesC (a + p.length + 12) r

theorem putR_length (p : List UInt8) : (putR p).length = p.length + 12 := by
  simp only [putR, List.length_append, sealS_length, be_length]; omega
theorem ckHead_length (n : Nat) : (ckHead n).length = 12 := by simp [ckHead, sealS_length, be_length]
theorem bodyC_length (ps : List (List UInt8)) : (bodyC ps).length = (ps.map fun p => p.length + 12).sum := by
  unfold bodyC
  induction ps with
  | nil => rfl
  | cons p r ih => simp [putR_length, ih]
theorem chunkB_length (n : Nat) (ps : List (List UInt8)) : (chunkB n ps).length = sizeC ps := by
  simp [chunkB, sizeC, ckHead_length, bodyC_length]
theorem bodyC_snoc (ps : List (List UInt8)) (p : List UInt8) : bodyC (ps ++ [p]) = bodyC ps ++ putR p := by simp [bodyC]
theorem chunkB_snoc (n : Nat) (ps : List (List UInt8)) (p : List UInt8) : chunkB n (ps ++ [p]) = chunkB n ps ++ putR p := by simp [chunkB, bodyC_snoc]
theorem chunkB_one (n : Nat) (p : List UInt8) : chunkB n [p] = ckHead n ++ putR p := by simp [chunkB, bodyC]
theorem sizeC_snoc (ps : List (List UInt8)) (p : List UInt8) : sizeC (ps ++ [p]) = sizeC ps + (p.length + 12) := by simp [sizeC, List.sum_append]; omega
theorem sizeC_one (p : List UInt8) : sizeC [p] = 12 + (p.length + 12) := by simp [sizeC]

theorem getR_some {s : List UInt8} {a b : Nat} {p : List UInt8} (h : getR s a = some (p, b)) :
    p.length ≤ 2000 ∧ b = a + p.length + 12 ∧ b ≤ s.length ∧ p = (s.drop (a + 4)).take p.length ∧ longR s a = p.length := by
  unfold getR at h
  split at h
  case isFalse => cases h
  case isTrue hi =>
    unfold isR at hi
    simp only [Bool.and_eq_true, decide_eq_true_eq] at hi
    obtain ⟨⟨⟨⟨h1, h2⟩, h3⟩, h4⟩, h5⟩ := hi
    simp only [Option.some.injEq, Prod.mk.injEq] at h
    obtain ⟨rfl, rfl⟩ := h
    have hl : ((s.drop (a + 4)).take (longR s a)).length = longR s a := by simp; omega
    rw [hl]
    exact ⟨h2, rfl, h3, rfl, rfl⟩

theorem drop_at {α : Type} (pre m post : List α) {a : Nat} (h : a = pre.length) : (pre ++ m ++ post).drop a = m ++ post := by
  subst h; rw [List.append_assoc, List.drop_left]

/-- what was put is got -/
theorem getR_put (pre p post : List UInt8) (hp : p.length ≤ 2000) {a : Nat} (ha : a = pre.length) : getR (pre ++ putR p ++ post) a = some (p, a + p.length + 12) := by
  have hd : (pre ++ putR p ++ post).drop a = be 4 p.length ++ (p ++ (lowS (crcSum (be 4 p.length ++ p)) ++ (be 4 p.length ++ post))) := by
    rw [drop_at _ _ _ ha]; simp [putR, sealS]
  have hb : (be 4 p.length).length = 4 := be_length 4 _
  have hlow := lowS_length (crcSum (be 4 p.length ++ p))
  have hlong : longR (pre ++ putR p ++ post) a = p.length := by
    unfold longR
    rw [hd, List.take_left' hb, unbe_be]
    omega
  have hlen : (pre ++ putR p ++ post).length = a + (p.length + 12) + post.length := by simp [putR_length, ha]; omega
  have hi : isR (pre ++ putR p ++ post) a = true := by
    unfold isR
    rw [hlong]
    simp only [Bool.and_eq_true, decide_eq_true_eq]
    refine ⟨⟨⟨⟨by omega, hp⟩, by omega⟩, ?_⟩, ?_⟩
    · have e : ((pre ++ putR p ++ post).drop a).take (p.length + 8) = sealS (be 4 p.length ++ p) := by
        rw [hd]
        have : be 4 p.length ++ (p ++ (lowS (crcSum (be 4 p.length ++ p)) ++ (be 4 p.length ++ post))) = sealS (be 4 p.length ++ p) ++ (be 4 p.length ++ post) := by simp [sealS]
        rw [this]
        exact List.take_left' (by simp [sealS_length, hb]; omega)
      rw [e]
      unfold openB
      simp only [Bool.and_eq_true, decide_eq_true_eq, sealS_length]
      refine ⟨by omega, ?_⟩
      have e2 : (sealS (be 4 p.length ++ p)).take ((be 4 p.length ++ p).length + 4 - 4) = be 4 p.length ++ p := by
        unfold sealS; exact List.take_left' (by omega)
      rw [e2]
    · have e : (pre ++ putR p ++ post).drop (a + p.length + 8) = be 4 p.length ++ post := by
        have : a + p.length + 8 = a + (p.length + 8) := by omega
        rw [this, ← List.drop_drop, hd]
        have : be 4 p.length ++ (p ++ (lowS (crcSum (be 4 p.length ++ p)) ++ (be 4 p.length ++ post))) = (be 4 p.length ++ (p ++ lowS (crcSum (be 4 p.length ++ p)))) ++ (be 4 p.length ++ post) := by simp
        rw [this]
        exact List.drop_left' (by simp [hb, hlow]; omega)
      rw [e, hd, List.take_left' hb, List.take_left' hb]
  unfold getR
  rw [if_pos hi, hlong]
  congr 2
  rw [← List.drop_drop, hd]
  have e3 : (be 4 p.length ++ (p ++ (lowS (crcSum (be 4 p.length ++ p)) ++ (be 4 p.length ++ post)))).drop 4 = p ++ (lowS (crcSum (be 4 p.length ++ p)) ++ (be 4 p.length ++ post)) := List.drop_left' hb
  rw [e3]
  exact List.take_left' rfl

theorem isR_end (s : List UInt8) (a : Nat) (h : s.length < a + 12) : getR s a = none := by
  unfold getR isR
  rw [decide_eq_false (by omega)]
  simp

theorem eachR_body : ∀ (ps : List (List UInt8)) (pre : List UInt8) (f a : Nat), (∀ p ∈ ps, p.length ≤ 2000) → a = pre.length → ps.length < f → eachR f (pre ++ bodyC ps) a = placesC a ps
  | [], pre, 0, a, _, _, hf => by simp at hf
  | [], pre, f + 1, a, _, ha, _ => by
    unfold eachR
    rw [isR_end _ _ (by simp [bodyC, ha])]
    rfl
  | p :: r, pre, 0, a, _, _, hf => by simp at hf
  | p :: r, pre, f + 1, a, hp, ha, hf => by
    have e : pre ++ bodyC (p :: r) = pre ++ putR p ++ bodyC r := by simp [bodyC]
    rw [e]
    unfold eachR
    rw [getR_put pre p (bodyC r) (hp p (List.mem_cons_self)) ha]
    show _ :: eachR f (pre ++ putR p ++ bodyC r) (a + p.length + 12) = _
    rw [eachR_body r (pre ++ putR p) f _ (fun q hq => hp q (List.mem_cons_of_mem _ hq)) (by simp [putR_length, ha]; omega) (by simp at hf; omega)]
    rfl

theorem sum_ge (ps : List (List UInt8)) : 12 * ps.length ≤ (ps.map fun p => p.length + 12).sum := by
  induction ps with
  | nil => simp
  | cons p r ih => simp only [List.map_cons, List.sum_cons, List.length_cons]; omega
theorem whole_chunk (n : Nat) (ps : List (List UInt8)) (hp : ∀ p ∈ ps, p.length ≤ 2000) : wholeR (chunkB n ps) 12 = placesC 12 ps := by
  unfold wholeR
  refine eachR_body ps (ckHead n) _ 12 hp (ckHead_length n).symm ?_
  have := sum_ge ps
  show _ < (chunkB n ps).length + 1
  rw [chunkB_length]; unfold sizeC; omega

theorem placesC_snoc : ∀ (ps : List (List UInt8)) (p : List UInt8) (a : Nat), placesC a (ps ++ [p]) = placesC a ps ++ [(a + (ps.map fun p => p.length + 12).sum, a + (ps.map fun p => p.length + 12).sum + p.length + 12)]
  | [], p, a => by simp [placesC]
  | q :: r, p, a => by
    rw [List.cons_append, placesC, placesC_snoc r p, placesC, List.cons_append]
    simp only [List.map_cons, List.sum_cons]
    congr 4 <;> omega
theorem placesC_end : ∀ (ps : List (List UInt8)) (a : Nat), endR a (placesC a ps) = a + (ps.map fun p => p.length + 12).sum := fun ps a => by
  rcases List.eq_nil_or_concat ps with rfl | ⟨r, p, rfl⟩
  · rfl
  · rw [List.concat_eq_append, placesC_snoc]
    unfold endR
    simp only [List.getLast?_append, List.getLast?_singleton, Option.some_or, Option.map_some, Option.getD_some, List.map_append, List.map_cons, List.map_nil, List.sum_append, List.sum_cons, List.sum_nil]
    omega
theorem end_chunk (n : Nat) (ps : List (List UInt8)) (hp : ∀ p ∈ ps, p.length ≤ 2000) : endR 12 (wholeR (chunkB n ps) 12) = (chunkB n ps).length := by
  rw [whole_chunk n ps hp, placesC_end, chunkB_length]; rfl

theorem placesC_length : ∀ (ps : List (List UInt8)) (a : Nat), (placesC a ps).length = ps.length
  | [], _ => rfl
  | p :: r, a => by simp [placesC, placesC_length r]

/-- the record of one payload among them -/
theorem get_chunk (n : Nat) (l : List (List UInt8)) (p : List UInt8) (r : List (List UInt8)) (hp : p.length ≤ 2000) : getR (chunkB n (l ++ p :: r)) (sizeC l) = some (p, sizeC l + p.length + 12) := by
  have e : chunkB n (l ++ p :: r) = chunkB n l ++ putR p ++ bodyC r := by simp [chunkB, bodyC]
  rw [e]
  exact getR_put _ _ _ hp (chunkB_length n l).symm

end Go.Proofs.YtikaopicddakeaaGreatDoor
namespace Go.Proofs.YtikaopicddakeaaGreatDoor
open Go.RowKit

set_option maxRecDepth 100000
set_option linter.unusedVariables false
set_option maxHeartbeats 1600000

theorem slice_str (s : List UInt8) (lo hi : Int) (a b : Nat) (hlo : lo = (a : Int)) (hhi : hi = (b : Int)) (h : a ≤ b) (h2 : b ≤ s.length) {X : List UInt8} (hX : (s.take b).drop a = X) :
    ∀ w, (Instr.slice 9 (.string ⟨s.toArray⟩) (some (.int .i64 lo)) (some (.int .i64 hi)) none).run Tryz.prog w = .ok (.string ⟨X.toArray⟩) w := fun w => by
  have h3 := run_slice_string (P := Tryz.prog) w 9 ⟨s.toArray⟩ .i64 .i64 lo hi Tryz.underlying9 (by omega) (by omega) (by simp [ByteArray.size]; omega)
  rw [h3, hlo, hhi, ← hX]
  show _ = Result.ok (Value.string ⟨((s.take b).drop a).toArray⟩) w
  rw [← extract_mk]; rfl

theorem slice_to (s : List UInt8) (hi : Int) (b : Nat) (hhi : hi = (b : Int)) (h2 : b ≤ s.length) :
    ∀ w, (Instr.slice 9 (.string ⟨s.toArray⟩) none (some (.int .i64 hi)) none).run Tryz.prog w = .ok (.string ⟨(s.take b).toArray⟩) w := fun w => by
  have h3 := run_slice_string_to_if (P := Tryz.prog) w 9 ⟨s.toArray⟩ .i64 hi Tryz.underlying9
  have hs : (ByteArray.size ⟨s.toArray⟩) = s.length := by simp [ByteArray.size]
  rw [h3, hs, if_pos (by omega), hhi]
  show Result.ok (Value.string ((⟨s.toArray⟩ : ByteArray).extract 0 b)) w = _
  rw [extract_mk]; rfl
theorem slice_from (s : List UInt8) (lo : Int) (a : Nat) (hlo : lo = (a : Int)) (h2 : a ≤ s.length) :
    ∀ w, (Instr.slice 9 (.string ⟨s.toArray⟩) (some (.int .i64 lo)) none none).run Tryz.prog w = .ok (.string ⟨(s.drop a).toArray⟩) w := fun w => by
  have h3 := run_slice_string_from_if (P := Tryz.prog) w 9 ⟨s.toArray⟩ .i64 lo Tryz.underlying9
  have hs : (ByteArray.size ⟨s.toArray⟩) = s.length := by simp [ByteArray.size]
  rw [h3, hs, if_pos (by omega), hlo]
  show Result.ok (Value.string ((⟨s.toArray⟩ : ByteArray).extract a s.length)) w = _
  rw [extract_mk, List.take_length]

end Go.Proofs.YtikaopicddakeaaGreatDoor
namespace Go.Proofs.YtikaopicddakeaaGreatDoor
open Go.RowKit

set_option maxRecDepth 100000
set_option linter.unusedVariables false
set_option maxHeartbeats 1600000

/-- what 'Get' tells -/
def getV (s : List UInt8) (a : Nat) : Value := match getR s a with
  | none => .tuple #[.string ⟨#[]⟩, .int .i64 0, .bool false]
  | some (p, b) => .tuple #[.string ⟨p.toArray⟩, .int .i64 b, .bool true]
theorem getV_no {s : List UInt8} {a : Nat} (h : isR s a = false) : getV s a = .tuple #[.string ⟨#[]⟩, .int .i64 0, .bool false] := by unfold getV getR; rw [h]; rfl
theorem cut_drop (s : List UInt8) (a k : Nat) : (s.take (a + k)).drop a = (s.drop a).take k := by rw [List.drop_take]; congr 1; omega

theorem getrec_c (s : List UInt8) (a : Nat) (w : World) (hl : s.length ≤ 4611686018427387903) (ha : a ≤ 4611686018427387903) :
    Calls Tryz.prog 220 #[.string ⟨s.toArray⟩, .int .i64 (a : Int)] w fun e w' => e = .returned (getV s a) ∧ Ext w w' := by
  by_cases h1 : s.length < a + 12
  · have HM : Hid (getV s a = .tuple #[.string ⟨#[]⟩, .int .i64 0, .bool false]) := Lib.hid (getV_no (by unfold isR; rw [decide_eq_false (by omega)]; rfl))
    have hd : decide (((s.length : Int) - 12) < (a : Int)) = true := by simp; omega
    go_enter Tryz.func220, Tryz.ntmps220
    go_wp2_with fail
    go_ret3
    rw [HM.out]
    exact ⟨rfl, Ext.refl _⟩
  have hd1 : decide (((s.length : Int) - 12) < (a : Int)) = false := by simp; omega
  obtain ⟨X, hX⟩ : ∃ X, (s.drop a).take 4 = X := ⟨_, rfl⟩
  have hXl : X.length = 4 := by rw [← hX]; simp; omega
  have hsX := slice_str s (a : Int) ((a : Int) + 4) a (a + 4) rfl (by omega) (by omega) (by omega) (by rw [cut_drop, hX])
  obtain ⟨n, hn⟩ : ∃ n, longR s a = n := ⟨_, rfl⟩
  have hnX : unbe (X.take 8) = n := by rw [List.take_of_length_le (by omega), ← hX, ← hn]; rfl
  have hn4 : n < 4294967296 := by rw [← hnX]; have := unbe_lt (X.take 8); rw [List.length_take, hXl] at this; exact this
  have HG := Lib.hid (fun W => get_c X W (by omega))
  rw [hnX] at HG
  by_cases h2 : 2000 < n ∨ s.length < a + n + 12
  · have HM : Hid (getV s a = .tuple #[.string ⟨#[]⟩, .int .i64 0, .bool false]) := Lib.hid (getV_no (by
      unfold isR; rw [hn]
      rcases h2 with h | h
      · rw [decide_eq_false (p := n ≤ 2000) (by omega)]; simp
      · rw [decide_eq_false (p := a + n + 12 ≤ s.length) (by omega)]; simp))
    clear hX hn hnX hXl
    by_cases h3 : 2000 < n
    · have hd2 : decide ((2000 : Int) < (n : Int)) = true := by simp; omega
      go_enter Tryz.func220, Tryz.ntmps220
      go_wp2_with fail
      refine (HG.out _).mono ?_
      rintro e w1 ⟨rfl, hb⟩
      have HB := Lib.hid hb; clear hb
      go_wp2_with fail
      go_ret3
      rw [HM.out]
      exact ⟨rfl, HB.out⟩
    · have h4 : s.length < a + n + 12 := by omega
      have hd2 : decide ((2000 : Int) < (n : Int)) = false := by simp; omega
      have hd3 : decide ((s.length : Int) - 12 - (a : Int) < (n : Int)) = true := by simp; omega
      go_enter Tryz.func220, Tryz.ntmps220
      go_wp2_with fail
      refine (HG.out _).mono ?_
      rintro e w1 ⟨rfl, hb⟩
      have HB := Lib.hid hb; clear hb
      go_wp2_with fail
      go_ret3
      rw [HM.out]
      exact ⟨rfl, HB.out⟩
  have h5 : n ≤ 2000 := by omega
  have h6 : a + n + 12 ≤ s.length := by omega
  have hd2 : decide ((2000 : Int) < (n : Int)) = false := by simp; omega
  have hd3 : decide ((s.length : Int) - 12 - (a : Int) < (n : Int)) = false := by simp; omega
  obtain ⟨Y, hY⟩ : ∃ Y, (s.drop a).take (n + 8) = Y := ⟨_, rfl⟩
  have hYl : Y.length = n + 8 := by rw [← hY]; simp; omega
  have hsY := slice_str s (a : Int) ((a : Int) + (n : Int) + 12 - 4) a (a + (n + 8)) rfl (by omega) (by omega) (by omega) (by rw [cut_drop, hY])
  obtain ⟨Z, hZ⟩ : ∃ Z, (s.drop (a + n + 8)).take 4 = Z := ⟨_, rfl⟩
  have hsZ := slice_str s ((a : Int) + (n : Int) + 12 - 4) ((a : Int) + (n : Int) + 12) (a + n + 8) (a + n + 8 + 4) (by omega) (by omega) (by omega) (by omega) (by rw [cut_drop, hZ])
  have HO := Lib.hid (fun W => open_c Y W (by omega))
  have hi : isR s a = (openB Y && decide (Z = X)) := by
    unfold isR; rw [hn, decide_eq_true (p := a + 12 ≤ s.length) (by omega), decide_eq_true h5, decide_eq_true h6, hY, hZ, hX]; simp
  have hpay : openB Y = true → (openT Y).drop 4 = (s.drop (a + 4)).take n := fun h => by
    unfold openT; rw [if_pos h, hYl, ← hY, List.take_take, List.drop_take, List.drop_drop]
    congr 1; omega
  have hTl : openB Y = true → (openT Y).length = n + 4 := fun h => by
    unfold openT; rw [if_pos h, List.length_take, hYl]; omega
  have hS : getR s a = if isR s a then some ((s.drop (a + 4)).take n, a + n + 12) else none := by unfold getR; rw [hn]
  have HI := Lib.hid hi; have HP := Lib.hid hpay; have HTl := Lib.hid hTl; have HS := Lib.hid hS
  clear hX hn hnX hZ hY hYl hi hpay hTl hS h2 h1
  generalize openT Y = T at *
  cases hb : openB Y with
  | false =>
    have HM : Hid (getV s a = .tuple #[.string ⟨#[]⟩, .int .i64 0, .bool false]) := Lib.hid (getV_no (by rw [HI.out, hb]; rfl))
    rw [hb] at HO
    go_enter Tryz.func220, Tryz.ntmps220
    go_wp2_with fail
    refine (HG.out _).mono ?_
    rintro e w1 ⟨rfl, hb1⟩
    have HB := Lib.hid hb1; clear hb1
    go_wp2_with fail
    refine (HO.out _).mono ?_
    rintro e w2 ⟨rfl, hb2⟩
    have HB2 := Lib.hid (HB.out.trans hb2); clear hb2
    go_wp2_with fail
    refine wp_region_ext (by kernel_rfl) (by kernel_rfl) ?_
    repeat (go_big_quiet_step (fail))
    refine wpQuiet_nil ?_
    intro w3 hw3
    have HB3 := Lib.hid (HB2.out.trans hw3); clear hw3
    go_wp2_with fail
    go_ret3
    rw [HM.out]
    exact ⟨rfl, HB3.out⟩
  | true =>
    by_cases hzx : Z = X
    · have HM : Hid (getV s a = .tuple #[.string ⟨(T.drop 4).toArray⟩, .int .i64 ((a : Int) + (n : Int) + 12), .bool true]) := Lib.hid (by
        unfold getV
        rw [HS.out, HI.out, hb, hzx, HP.out hb]
        simp)
      have hTlen := HTl.out hb
      have hsT : ∀ w, (Instr.slice 9 (.string ⟨T.toArray⟩) (some (.int .i64 4)) none none).run Tryz.prog w = .ok (.string ⟨(T.drop 4).toArray⟩) w := fun w => by
        exact slice_from T 4 4 rfl (by omega) w
      rw [hb] at HO
      generalize T.drop 4 = T4 at *
      subst hzx
      go_enter Tryz.func220, Tryz.ntmps220
      go_wp2_with fail
      refine (HG.out _).mono ?_
      rintro e w1 ⟨rfl, hb1⟩
      have HB := Lib.hid hb1; clear hb1
      go_wp2_with fail
      refine (HO.out _).mono ?_
      rintro e w2 ⟨rfl, hb2⟩
      have HB2 := Lib.hid (HB.out.trans hb2); clear hb2
      go_wp2_with fail
      refine wp_region_ext (by kernel_rfl) (by kernel_rfl) ?_
      repeat (go_big_quiet_step (fail))
      refine wpQuiet_nil ?_
      intro w3 hw3
      have HB3 := Lib.hid (HB2.out.trans hw3); clear hw3
      go_wp2_with fail
      go_ret3
      rw [HM.out]
      exact ⟨rfl, HB3.out⟩
    · have HM : Hid (getV s a = .tuple #[.string ⟨#[]⟩, .int .i64 0, .bool false]) := Lib.hid (getV_no (by rw [HI.out, decide_eq_false hzx, Bool.and_false]))
      have hne : (Z == X) = false := by simpa using hzx
      have hne' : (Z != X) = true := by simpa using hzx
      rw [hb] at HO
      go_enter Tryz.func220, Tryz.ntmps220
      go_wp2_with fail
      refine (HG.out _).mono ?_
      rintro e w1 ⟨rfl, hb1⟩
      have HB := Lib.hid hb1; clear hb1
      go_wp2_with fail
      refine (HO.out _).mono ?_
      rintro e w2 ⟨rfl, hb2⟩
      have HB2 := Lib.hid (HB.out.trans hb2); clear hb2
      go_wp2_with fail
      refine wp_region_ext (by kernel_rfl) (by kernel_rfl) ?_
      repeat (go_big_quiet_step (fail))
      refine wpQuiet_nil ?_
      intro w3 hw3
      have HB3 := Lib.hid (HB2.out.trans hw3); clear hw3
      go_wp2_with fail
      go_ret3
      rw [HM.out]
      exact ⟨rfl, HB3.out⟩

end Go.Proofs.YtikaopicddakeaaGreatDoor
namespace Go.Proofs.YtikaopicddakeaaGreatDoor
open Go.RowKit

set_option maxRecDepth 100000
set_option linter.unusedVariables false
set_option maxHeartbeats 1600000

theorem ckhead_c (n : Nat) (w : World) (hn : n < 200) :
    Calls Tryz.prog 179 #[.int .i64 (n : Int)] w fun e w' => e = .returned (.string ⟨(ckHead n).toArray⟩) ∧ Ext w w' := by
  have hd : decide ((200 : Int) ≤ (n : Int)) = false := by simp; omega
  have HR : Hid (ckHead n = sealS ([99, 104, 110, 107] ++ be 4 n)) := Lib.hid rfl
  have HP := Lib.hid (fun W => put_c (n : Int) 4 W (by omega) (by omega) (by omega) (by omega))
  have HS := Lib.hid (fun W => seal_c ([99, 104, 110, 107] ++ be 4 n) W (by simp [be_length]))
  have hb4 : (be 4 n).length = 4 := be_length 4 _
  rw [Int.toNat_natCast] at HP
  generalize sealS ([99, 104, 110, 107] ++ be 4 n) = Y at *
  generalize be 4 n = X at *
  go_enter Tryz.func179, Tryz.ntmps179
  go_wp2_with fail
  refine (HP.out _).mono ?_
  rintro e w1 ⟨rfl, hb⟩
  have HB := Lib.hid hb; clear hb
  go_wp2_with fail
  have hcat := cat_mk [99, 104, 110, 107] X
  have hcat2 : ({ data := #[99, 104, 110, 107] } : ByteArray) ++ { data := X.toArray } = ⟨([99, 104, 110, 107] ++ X).toArray⟩ := hcat
  rw [hcat2]
  refine (HS.out _).mono ?_
  rintro e w2 ⟨rfl, hb⟩
  have HB2 := Lib.hid (HB.out.trans hb); clear hb
  go_wp2_with fail
  go_ret
  exact ⟨by rw [HR.out]; rfl, HB2.out⟩

/-- does a text begin with another one? -/
def preB (s p : List UInt8) : Bool := decide (p.length ≤ s.length) && (s.take p.length == p)
theorem liteprefix_c (s p : List UInt8) (w : World) (hl : s.length ≤ 9223372036854775807) (hp : p.length ≤ 9223372036854775807) :
    Calls Tryz.prog 206 #[.string ⟨s.toArray⟩, .string ⟨p.toArray⟩] w fun e w' => e = .returned (.bool (preB s p)) ∧ w = w' := by
  by_cases h : p.length ≤ s.length
  · have HM : Hid (preB s p = (s.take p.length == p)) := Lib.hid (by unfold preB; rw [decide_eq_true h, Bool.true_and])
    have hd1 : decide ((p.length : Int) ≤ (s.length : Int)) = true := by simp; omega
    go_enter Tryz.func206, Tryz.ntmps206
    go_wp2_with fail
    go_ret
    rw [HM.out]
    exact ⟨rfl, rfl⟩
  · have HM : Hid (preB s p = false) := Lib.hid (by unfold preB; rw [decide_eq_false h, Bool.false_and])
    have hd1 : decide ((p.length : Int) ≤ (s.length : Int)) = false := by simp; omega
    go_enter Tryz.func206, Tryz.ntmps206
    go_wp2_with fail
    go_ret
    rw [HM.out]
    exact ⟨rfl, rfl⟩
theorem hasprefix_c (s p : List UInt8) (w : World) (hl : s.length ≤ 9223372036854775807) (hp : p.length ≤ 9223372036854775807) :
    Calls Tryz.prog 180 #[.string ⟨s.toArray⟩, .string ⟨p.toArray⟩] w fun e w' => e = .returned (.bool (preB s p)) ∧ w = w' := by
  go_enter Tryz.func180, Tryz.ntmps180
  go_wp2_with fail
  refine (liteprefix_c s p _ hl hp).mono ?_
  rintro e w1 ⟨rfl, rfl⟩
  go_wp2_with fail
  go_ret
  exact ⟨rfl, rfl⟩

end Go.Proofs.YtikaopicddakeaaGreatDoor
namespace Go.Proofs.YtikaopicddakeaaGreatDoor
open Go.RowKit

theorem bytesLess_before : ∀ a b : List UInt8, Op.bytesLess a b = bytesBefore a b
  | [], [] => rfl
  | [], _ :: _ => rfl
  | _ :: _, [] => rfl
  | a :: x, b :: y => by unfold Op.bytesLess bytesBefore; rw [bytesLess_before x y]

abbrev Cks := List (List (List UInt8))
/-- the chunks' files, from the i-th one on -/
def cksF : Nat → Cks → List (List UInt8 × List UInt8)
  | _, [] => []
  | i, ps :: r => (nameS 99 (i : Int), chunkB i ps) :: cksF (i + 1) r

theorem cksF_length : ∀ (C : Cks) (i : Nat), (cksF i C).length = C.length
  | [], _ => rfl
  | ps :: r, i => by simp [cksF, cksF_length r]
theorem cksF_append : ∀ (C D : Cks) (i : Nat), cksF i (C ++ D) = cksF i C ++ cksF (i + C.length) D
  | [], D, i => rfl
  | ps :: r, D, i => by
    rw [List.cons_append, cksF, cksF_append r D (i + 1), cksF, List.cons_append, List.length_cons]
    congr 3; omega
theorem cksF_mem : ∀ {C : Cks} {i : Nat} {x : List UInt8 × List UInt8}, x ∈ cksF i C → ∃ k, i ≤ k ∧ k < i + C.length ∧ x.1 = nameS 99 (k : Int)
  | [], _, _, h => by cases h
  | ps :: r, i, x, h => by
    rcases List.mem_cons.1 h with rfl | h
    · exact ⟨i, Nat.le_refl _, by simp, rfl⟩
    · obtain ⟨k, h1, h2, h3⟩ := cksF_mem h
      exact ⟨k, by omega, by simp; omega, h3⟩
theorem cname_le (n : Int) : (nameS 99 n).length ≤ 9223372036854775807 := by
  by_cases h : 0 ≤ n ∧ n ≤ 999999
  · rw [nameS_yes h, List.length_cons, digs_length]; decide
  · rw [nameS_no h]; decide
theorem cname_ne {i k : Nat} (hi : i ≤ 999999) (hk : k ≤ 999999) (h : i ≠ k) : nameS 99 (i : Int) ≠ nameS 99 (k : Int) := fun e => by
  have := nameS_eq 99 (i : Int) (k : Int) (by omega) (by omega)
  rw [e, beq_self_eq_true] at this
  have := of_decide_eq_true this.symm
  omega
theorem cname_before {i k : Nat} (hi : i ≤ 999999) (hk : k ≤ 999999) (h : i < k) : bytesBefore (nameS 99 (i : Int)) (nameS 99 (k : Int)) = true := by
  have h1 := nameS_less 99 (i : Int) (k : Int) (by omega) (by omega)
  have h2 : decide ((i : Int) < (k : Int)) = true := by simp; omega
  rw [h2] at h1
  rw [← bytesLess_before]; exact h1
theorem cksF_not {C : Cks} {i k : Nat} (hk : k ≤ 999999) (hC : i + C.length ≤ 999999) (h : ∀ j, i ≤ j → j < i + C.length → j ≠ k) : ∀ y ∈ cksF i C, Prod.fst y ≠ nameS 99 (k : Int) := fun y hy => by
  obtain ⟨j, h1, h2, h3⟩ := cksF_mem hy
  rw [h3]
  exact cname_ne (by omega) hk (h j h1 h2)
theorem cksF_find {C : Cks} {k : Nat} {ps : List (List UInt8)} (hC : C.length ≤ 200) (hk : C[k]? = some ps) : findN Prod.fst (nameS 99 (k : Int)) (cksF 0 C) = some (nameS 99 (k : Int), chunkB k ps) := by
  obtain ⟨hlt, rfl⟩ := List.getElem?_eq_some_iff.1 hk
  have e : C = C.take k ++ C[k] :: C.drop (k + 1) := by
    rw [List.getElem_cons_drop]; exact (List.take_append_drop _ _).symm
  have hl : (C.take k).length = k := by simp; omega
  conv => lhs; rw [e]
  rw [cksF_append, hl, Nat.zero_add, findN_append_right]
  · rw [cksF]; unfold findN; rw [List.find?_cons_of_pos (by simp)]
  · exact cksF_not (by omega) (by rw [hl]; omega) fun j _ h2 => by rw [hl] at h2; omega
theorem cksF_none {C : Cks} {k : Nat} (hC : C.length ≤ 200) (hk : C.length ≤ k) (hk2 : k ≤ 999999) : findN Prod.fst (nameS 99 (k : Int)) (cksF 0 C) = none :=
  findN_of_none (cksF_not hk2 (by omega) fun j _ h2 => by omega)
theorem cksF_new {C : Cks} (hC : C.length ≤ 200) : findN Prod.fst [110, 101, 119] (cksF 0 C) = none := findN_of_none fun y hy e => by
  obtain ⟨j, h1, h2, h3⟩ := cksF_mem hy
  rw [e] at h3
  have h4 : j < 200 := by omega
  rw [nameS_yes (by omega)] at h3
  have h5 := congrArg List.length h3
  have h6 : (99 :: digs 6 ((j : Int)).toNat).length = 7 := by simp [digs_length]
  rw [h6] at h5
  cases h5
theorem cksF_names : ∀ (C : Cks) (i : Nat), (cksF i C).map Prod.fst = (List.range' i C.length).map fun k : Nat => nameS 99 (k : Int)
  | [], _ => rfl
  | ps :: r, i => by rw [cksF, List.map_cons, cksF_names r, List.length_cons, List.range'_succ, List.map_cons]
theorem usedP_append (a b : List (List UInt8 × List UInt8)) : usedP (a ++ b) = usedP a + usedP b := by simp [usedP, sumN, List.sum_append]
theorem usedP_one (x : List UInt8 × List UInt8) : usedP [x] = x.2.length := by simp [usedP, sumN]
/-- a record more in the last chunk -/
theorem cksF_grow {D : Cks} {ps : List (List UInt8)} (p : List UInt8) (hD : D.length ≤ 200) : updN Prod.fst (nameS 99 (D.length : Int)) (fun x => (x.1, x.2 ++ putR p)) (cksF 0 (D ++ [ps])) = cksF 0 (D ++ [ps ++ [p]]) := by
  rw [cksF_append, cksF_append, updN_app, updN_other, Nat.zero_add]
  · congr 1
    show updN Prod.fst (nameS 99 (D.length : Int)) _ [(nameS 99 (D.length : Int), chunkB D.length ps)] = [(nameS 99 (D.length : Int), chunkB D.length (ps ++ [p]))]
    rw [chunkB_snoc]
    unfold updN
    simp
  · exact cksF_not (by omega) (by omega) fun j _ h2 => by omega
theorem cksF_ins {C : Cks} (hC : C.length ≤ 200) : insN Prod.fst (nameS 99 (C.length : Int), []) (cksF 0 C) = cksF 0 C ++ [(nameS 99 (C.length : Int), [])] := insN_last fun y hy => by
  obtain ⟨j, h1, h2, h3⟩ := cksF_mem hy
  rw [h3]
  exact cname_before (by omega) (by omega) (by omega)
theorem cksF_first {C : Cks} (p : List UInt8) (hC : C.length ≤ 200) : updN Prod.fst (nameS 99 (C.length : Int)) (fun x => (x.1, x.2 ++ (ckHead C.length ++ putR p))) (cksF 0 C ++ [(nameS 99 (C.length : Int), [])]) = cksF 0 (C ++ [[p]]) := by
  rw [cksF_append, updN_app, updN_other, Nat.zero_add]
  · congr 1
    show updN Prod.fst (nameS 99 (C.length : Int)) _ [(nameS 99 (C.length : Int), [])] = [(nameS 99 (C.length : Int), chunkB C.length [p])]
    rw [chunkB_one]
    unfold updN
    simp
  · exact cksF_not (by omega) (by omega) fun j _ h2 => by omega

/-- the places of chunks' records are by their sizes -/
def usedK (C : Cks) : Nat := (C.map sizeC).sum
theorem cksF_used : ∀ (C : Cks) (i : Nat), usedP (cksF i C) = usedK C
  | [], _ => rfl
  | ps :: r, i => by
    have e : cksF i (ps :: r) = [(nameS 99 (i : Int), chunkB i ps)] ++ cksF (i + 1) r := rfl
    rw [e, usedP_append, usedP_one, cksF_used r]
    simp [usedK, chunkB_length]

/-- chunks that may be -/
structure okC (C : Cks) : Prop where
  few : C.length ≤ 200
  size : ∀ ps ∈ C, sizeC ps ≤ 4096
  pay : ∀ ps ∈ C, ∀ p ∈ ps, p.length ≤ 2000
  full : ∀ ps ∈ C, ps ≠ []
/-- a log on a disk that is well -/
structure Lgd (σ : DM) (c s : Int) (C : Cks) : Prop where
  pl : Pl σ c s (cksF 0 C)
  ok : okC C

theorem okC.nil : okC [] := ⟨Nat.zero_le _, (fun _ h => by cases h), (fun _ h => by cases h), (fun _ h => by cases h)⟩
theorem okC.grow {D : Cks} {ps : List (List UInt8)} {p : List UInt8} (h : okC (D ++ [ps])) (hp : p.length ≤ 2000) (hs : sizeC ps + (p.length + 12) ≤ 4096) : okC (D ++ [ps ++ [p]]) := by
  have m : ps ∈ D ++ [ps] := by simp
  refine ⟨by simpa using h.few, fun q hq => ?_, fun q hq => ?_, fun q hq => ?_⟩
  all_goals rcases List.mem_append.1 hq with h1 | h1
  · exact h.size q (List.mem_append_left _ h1)
  · obtain rfl := List.mem_singleton.1 h1; rw [sizeC_snoc]; exact hs
  · exact h.pay q (List.mem_append_left _ h1)
  · obtain rfl := List.mem_singleton.1 h1
    intro x hx
    rcases List.mem_append.1 hx with h2 | h2
    · exact h.pay ps m x h2
    · obtain rfl := List.mem_singleton.1 h2; exact hp
  · exact h.full q (List.mem_append_left _ h1)
  · obtain rfl := List.mem_singleton.1 h1; simp
theorem okC.more {C : Cks} {p : List UInt8} (h : okC C) (hp : p.length ≤ 2000) (hn : C.length < 200) : okC (C ++ [[p]]) := by
  refine ⟨by simp; omega, fun q hq => ?_, fun q hq => ?_, fun q hq => ?_⟩
  all_goals rcases List.mem_append.1 hq with h1 | h1
  · exact h.size q h1
  · obtain rfl := List.mem_singleton.1 h1; rw [sizeC_one]; omega
  · exact h.pay q h1
  · obtain rfl := List.mem_singleton.1 h1
    intro x hx
    obtain rfl := List.mem_singleton.1 hx; exact hp
  · exact h.full q h1
  · obtain rfl := List.mem_singleton.1 h1; simp

/-- where a log ends -/
def endL (C : Cks) : Int := match C.getLast? with | none => 0 | some ps => ((C.length : Int) - 1) * 4096 + (sizeC ps : Int)
theorem endL_nil : endL [] = 0 := rfl
theorem endL_snoc (D : Cks) (ps : List (List UInt8)) : endL (D ++ [ps]) = (D.length : Int) * 4096 + (sizeC ps : Int) := by
  unfold endL
  simp
/-- the sizes of the chunks -/
def sizesL (C : Cks) : List Int := C.map fun ps => (sizeC ps : Int)
theorem sizesL_snoc (D : Cks) (ps : List (List UInt8)) : sizesL (D ++ [ps]) = sizesL D ++ [(sizeC ps : Int)] := by simp [sizesL]

theorem sizesL_length (C : Cks) : (sizesL C).length = C.length := by simp [sizesL]
theorem sizesL_last (D : Cks) (ps : List (List UInt8)) : (sizesL (D ++ [ps])).getD D.length 0 = (sizeC ps : Int) := by
  rw [sizesL_snoc]
  have : D.length = (sizesL D).length := (sizesL_length D).symm
  rw [List.getD_eq_getElem?_getD, this, List.getElem?_append_right (Nat.le_refl _)]
  simp
theorem sizesL_set (D : Cks) (ps qs : List (List UInt8)) : (sizesL (D ++ [ps])).set D.length (sizeC qs : Int) = sizesL (D ++ [qs]) := by
  rw [sizesL_snoc, sizesL_snoc]
  have : D.length = (sizesL D).length := (sizesL_length D).symm
  rw [this]
  simp
theorem sizesL_getD (C : Cks) (i : Nat) {ps : List (List UInt8)} (h : C[i]? = some ps) : (sizesL C).getD i 0 = (sizeC ps : Int) := by
  unfold sizesL; rw [List.getD_eq_getElem?_getD, List.getElem?_map, h]; rfl

/-- does a payload find room in the last chunk? -/
def fitsL (C : Cks) (p : List UInt8) : Bool := match C.getLast? with | none => false | some ps => decide (sizeC ps + (p.length + 12) ≤ 4096)
/-- a record is put behind all others: the place, what is told, the chunks, is the last chunk made sure ahead of it? -/
def appendL (free : Int) (C : Cks) (p : List UInt8) : Int × Int × Cks :=
  if 2000 < p.length then (0, 3, C)
  else if fitsL C p then (if free - ((p.length : Int) + 12) < 6000 then (0, 60, C) else (endL C, 0, C.dropLast ++ [C.getLast?.getD [] ++ [p]]))
  else if 200 ≤ C.length ∨ free - ((p.length : Int) + 24) < 6000 then (0, 60, C) else ((C.length : Int) * 4096 + 12, 0, C ++ [[p]])
/-- up to where it is sure then -/
def appSure (free sure : Int) (C : Cks) (p : List UInt8) : Int :=
  if (appendL free C p).2.1 = 0 ∧ fitsL C p = false ∧ C ≠ [] then endL C else sure

/-- all records: their places, and payloads -/
def recsC : Nat → List (List UInt8) → List (Nat × List UInt8)
  | _, [] => []
  | a, p :: r => (a, p) :: recsC (a + p.length + 12) r
def recsL : Nat → Cks → List (Nat × List UInt8)
  | _, [] => []
  | b, ps :: r => recsC (b + 12) ps ++ recsL (b + 4096) r
/-- the first record from a place on -/
def nextL (C : Cks) (pos : Int) : Option (Nat × List UInt8) := (recsL 0 C).find? fun r => decide (pos ≤ (r.1 : Int))

/-- the record at a place -/
def readL (C : Cks) (pos : Int) : List UInt8 × Int :=
  if pos < 0 then ([], 4) else match C[(pos / 4096).toNat]? with
  | none => ([], 4)
  | some ps => match (if 12 ≤ pos % 4096 then getR (chunkB (pos / 4096).toNat ps) (pos % 4096).toNat else none) with
    | none => ([], 4)
    | some (p, _) => (p, 0)

end Go.Proofs.YtikaopicddakeaaGreatDoor
namespace Go.Proofs.YtikaopicddakeaaGreatDoor
open Go.RowKit

/-- the records of one chunk from a place on, by their places in it -/
theorem recsC_ge : ∀ (ps : List (List UInt8)) (a : Nat), ∀ r ∈ recsC a ps, a ≤ r.1 ∧ r.1 + r.2.length + 12 ≤ a + (ps.map fun p => p.length + 12).sum
  | [], _, r, h => by cases h
  | p :: t, a, r, h => by
    rw [recsC] at h
    rcases List.mem_cons.1 h with rfl | h
    · simp only [List.map_cons, List.sum_cons]; omega
    · have := recsC_ge t _ r h
      simp only [List.map_cons, List.sum_cons]; omega
theorem recsL_ge : ∀ (C : Cks) (b : Nat), (∀ ps ∈ C, sizeC ps ≤ 4096) → ∀ r ∈ recsL b C, b + 12 ≤ r.1 ∧ r.1 < b + 4096 * C.length
  | [], _, _, r, h => by cases h
  | ps :: t, b, hs, r, h => by
    rw [recsL] at h
    have h1 := hs ps (List.mem_cons_self)
    unfold sizeC at h1
    rcases List.mem_append.1 h with h | h
    · have := recsC_ge ps _ r h
      simp only [List.length_cons]; omega
    · have := recsL_ge t _ (fun q hq => hs q (List.mem_cons_of_mem _ hq)) r h
      simp only [List.length_cons]; omega

/-- the records of a chunk and of those behind it -/
theorem recsL_split : ∀ (C : Cks) (b n : Nat), recsL b C = recsL b (C.take n) ++ recsL (b + 4096 * n) (C.drop n)
  | C, b, 0 => by simp [recsL]
  | [], b, n + 1 => by simp [recsL]
  | ps :: t, b, n + 1 => by
    rw [List.take_succ_cons, List.drop_succ_cons, recsL, recsL, recsL_split t (b + 4096) n, List.append_assoc]
    congr 3; omega
theorem recsL_append (C D : Cks) (b : Nat) : recsL b (C ++ D) = recsL b C ++ recsL (b + 4096 * C.length) D := by
  have := recsL_split (C ++ D) b C.length
  rwa [List.take_left, List.drop_left] at this

/-- no record ahead of a place is one behind it -/
theorem find_skip {pos : Int} {l m : List (Nat × List UInt8)} (h : ∀ r ∈ l, (r.1 : Int) < pos) : (l ++ m).find? (fun r => decide (pos ≤ (r.1 : Int))) = m.find? fun r => decide (pos ≤ (r.1 : Int)) := by
  rw [List.find?_append]
  have : l.find? (fun r => decide (pos ≤ (r.1 : Int))) = none := List.find?_eq_none.2 fun r hr => by have := h r hr; simp; omega
  rw [this]; rfl

theorem nextL_chunk (C : Cks) (pos : Int) (hs : ∀ ps ∈ C, sizeC ps ≤ 4096) (n : Nat) (hn : (n : Int) * 4096 ≤ pos) : nextL C pos = (recsL (4096 * n) (C.drop n)).find? fun r => decide (pos ≤ (r.1 : Int)) := by
  unfold nextL
  rw [recsL_split C 0 n, Nat.zero_add]
  refine find_skip fun r hr => ?_
  have := recsL_ge (C.take n) 0 (fun ps h => hs ps (List.mem_of_mem_take h)) r hr
  have h2 : (C.take n).length ≤ n := List.length_take_le _ _
  omega

/-- the places of a chunk's records -/
theorem recsC_places : ∀ (ps : List (List UInt8)) (a : Nat), (recsC a ps).map (fun r => (r.1, r.1 + r.2.length + 12)) = placesC a ps
  | [], _ => rfl
  | p :: t, a => by rw [recsC, List.map_cons, recsC_places t, placesC]
theorem recsC_shift : ∀ (ps : List (List UInt8)) (a b : Nat), recsC (b + a) ps = (recsC a ps).map fun r => (b + r.1, r.2)
  | [], _, _ => rfl
  | p :: t, a, b => by
    have e : b + a + p.length + 12 = b + (a + p.length + 12) := by omega
    rw [recsC, recsC, List.map_cons, e, recsC_shift t]
theorem recsC_length : ∀ (ps : List (List UInt8)) (a : Nat), (recsC a ps).length = ps.length
  | [], _ => rfl
  | p :: t, a => by simp [recsC, recsC_length t]
/-- the k-th record of a chunk -/
theorem recsC_at : ∀ (ps : List (List UInt8)) (a k : Nat) (p : List UInt8), ps[k]? = some p → (recsC a ps)[k]? = some (a + ((ps.take k).map fun p => p.length + 12).sum, p)
  | [], _, k, p, h => by simp at h
  | q :: t, a, 0, p, h => by
    simp only [List.getElem?_cons_zero, Option.some.injEq] at h
    subst h; simp [recsC]
  | q :: t, a, k + 1, p, h => by
    rw [List.getElem?_cons_succ] at h
    rw [recsC, List.getElem?_cons_succ, recsC_at t _ k p h, List.take_succ_cons, List.map_cons, List.sum_cons]
    congr 2; omega
theorem placesC_at : ∀ (ps : List (List UInt8)) (a k : Nat) (p : List UInt8), ps[k]? = some p → (placesC a ps)[k]? = some (a + ((ps.take k).map fun p => p.length + 12).sum, a + ((ps.take k).map fun p => p.length + 12).sum + p.length + 12)
  | [], _, k, p, h => by simp at h
  | q :: t, a, 0, p, h => by
    simp only [List.getElem?_cons_zero, Option.some.injEq] at h
    subst h; simp [placesC]
  | q :: t, a, k + 1, p, h => by
    rw [List.getElem?_cons_succ] at h
    rw [placesC, List.getElem?_cons_succ, placesC_at t _ k p h, List.take_succ_cons, List.map_cons, List.sum_cons]
    congr 2 <;> omega
theorem get_at (n : Nat) (ps : List (List UInt8)) (k : Nat) (p : List UInt8) (h : ps[k]? = some p) (hp : p.length ≤ 2000) : getR (chunkB n ps) (sizeC (ps.take k)) = some (p, sizeC (ps.take k) + p.length + 12) := by
  obtain ⟨hk, rfl⟩ := List.getElem?_eq_some_iff.1 h
  have e : ps = ps.take k ++ ps[k] :: ps.drop (k + 1) := by rw [List.getElem_cons_drop]; exact (List.take_append_drop _ _).symm
  have := get_chunk n (ps.take k) ps[k] (ps.drop (k + 1)) hp
  rwa [← e] at this

/-- the first record of a chunk from the k-th one on that does not stand ahead of a place -/
theorem find_step {pos : Int} {b k : Nat} {ps : List (List UInt8)} {p : List UInt8} (h : ps[k]? = some p) : ((recsC (b + 12) ps).drop k).find? (fun r => decide (pos ≤ (r.1 : Int))) = if pos ≤ ((b + sizeC (ps.take k) : Nat) : Int) then some (b + sizeC (ps.take k), p) else ((recsC (b + 12) ps).drop (k + 1)).find? fun r => decide (pos ≤ (r.1 : Int)) := by
  have h1 := recsC_at ps (b + 12) k p h
  obtain ⟨hk, he⟩ := List.getElem?_eq_some_iff.1 h1
  rw [← List.getElem_cons_drop hk, he, List.find?_cons]
  have e : b + 12 + ((ps.take k).map fun p => p.length + 12).sum = b + sizeC (ps.take k) := by unfold sizeC; omega
  simp only [e]
  by_cases hp : pos ≤ ((b + sizeC (ps.take k) : Nat) : Int)
  · rw [if_pos hp, decide_eq_true hp]
  · rw [if_neg hp, decide_eq_false hp]
theorem find_end {pos : Int} {b k : Nat} {ps : List (List UInt8)} (h : ps.length ≤ k) : ((recsC (b + 12) ps).drop k).find? (fun r => decide (pos ≤ (r.1 : Int))) = none := by
  rw [List.drop_of_length_le (by rw [recsC_length]; exact h)]; rfl
end Go.Proofs.YtikaopicddakeaaGreatDoor
