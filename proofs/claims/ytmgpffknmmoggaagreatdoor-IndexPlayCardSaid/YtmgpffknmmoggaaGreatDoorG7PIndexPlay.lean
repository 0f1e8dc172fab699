/- Plain laws: records and chunks of a log, as bytes. Walks: records, and what a chunk begins with. Walks: the record at a place. Walks: a chunk's head; does a record find room; does a text begin with another one. Plain laws: a log in chunks on a disk that is well. Plain laws: the records of a log, in order. -/
import Derived.Test.YtmgpffknmmoggaaGreatDoorG4PIndexPlay
import Derived.Test.YtmgpffknmmoggaaGreatDoorG5PIndexPlay
import Derived.Test.YtmgpffknmmoggaaGreatDoorG6PIndexPlay
import Derived.Test.YtmgpffknmmoggaaGreatDoorChecked
set_option linter.unusedVariables false
set_option linter.unusedSimpArgs false
namespace Go.Proofs.YtmgpffknmmoggaaGreatDoor
open Go.RowKit
theorem cat_mk (a b : List UInt8) : (⟨a.toArray⟩ : ByteArray) ++ ⟨b.toArray⟩ = ⟨(a ++ b).toArray⟩ := by rw [ByteArray.mk_append_mk]; first | done | simp
def putR (p : List UInt8) : List UInt8 := sealS (be 4 p.length ++ p) ++ be 4 p.length
def longR (s : List UInt8) (a : Nat) : Nat := unbe ((s.drop a).take 4)
def isR (s : List UInt8) (a : Nat) : Bool :=
  decide (a + 12 ≤ s.length) && decide (longR s a ≤ 2000) && decide (a + longR s a + 12 ≤ s.length)
  && openB ((s.drop a).take (longR s a + 8)) && decide ((s.drop (a + longR s a + 8)).take 4 = (s.drop a).take 4)
def getR (s : List UInt8) (a : Nat) : Option (List UInt8 × Nat) :=
  if isR s a then some ((s.drop (a + 4)).take (longR s a), a + longR s a + 12) else none
def eachR : Nat → List UInt8 → Nat → List (Nat × Nat)
  | 0, _, _ => []
  | f + 1, s, a => match getR s a with
    | none => []
    | some (_, b) => (a, b) :: eachR f s b
def wholeR (s : List UInt8) (a : Nat) : List (Nat × Nat) := eachR (s.length + 1) s a
def endR (a : Nat) (l : List (Nat × Nat)) : Nat := (l.getLast?.map Prod.snd).getD a
def ckHead (n : Nat) : List UInt8 := sealS ([99, 104, 110, 107] ++ be 4 n)
def bodyC (ps : List (List UInt8)) : List UInt8 := (ps.map putR).flatten
def chunkB (n : Nat) (ps : List (List UInt8)) : List UInt8 := ckHead n ++ bodyC ps
def sizeC (ps : List (List UInt8)) : Nat := 12 + (ps.map fun p => p.length + 12).sum
def placesC : Nat → List (List UInt8) → List (Nat × Nat)
  | _, [] => []
  | a, p :: r => (a, a + p.length + 12) :: placesC (a + p.length + 12) r
theorem putR_length (p : List UInt8) : (putR p).length = p.length + 12 := by
  simp only [putR, List.length_append, sealS_length, be_length]; omega
theorem ckHead_length (n : Nat) : (ckHead n).length = 12 := by simp [ckHead, sealS_length, be_length]
theorem bodyC_length (ps : List (List UInt8)) : (bodyC ps).length = (ps.map fun p => p.length + 12).sum := by
  unfold bodyC
  induction ps with
  | nil => rfl
  | cons p r ih => simp [putR_length, ih]
theorem chunkB_length (n : Nat) (ps : List (List UInt8)) : (chunkB n ps).length = sizeC ps := by
  simp [chunkB, sizeC, ckHead_length, bodyC_length]
theorem getR_some {s : List UInt8} {a b : Nat} {p : List UInt8} (h : getR s a = some (p, b)) :
    p.length ≤ 2000 ∧ b = a + p.length + 12 ∧ b ≤ s.length ∧ p = (s.drop (a + 4)).take p.length ∧ longR s a = p.length := by
  unfold getR at h
  split at h
  case isFalse => cases h
  case isTrue hi =>
    unfold isR at hi
    simp only [Bool.and_eq_true, decide_eq_true_eq] at hi
    obtain ⟨⟨⟨⟨h1, h2⟩, h3⟩, h4⟩, h5⟩ := hi
    simp only [Option.some.injEq, Prod.mk.injEq] at h
    obtain ⟨rfl, rfl⟩ := h
    have hl : ((s.drop (a + 4)).take (longR s a)).length = longR s a := by simp; omega
    rw [hl]
    exact ⟨h2, rfl, h3, rfl, rfl⟩
theorem drop_at {α : Type} (pre m post : List α) {a : Nat} (h : a = pre.length) : (pre ++ m ++ post).drop a = m ++ post := by
  subst h; rw [List.append_assoc, List.drop_left]
theorem getR_put (pre p post : List UInt8) (hp : p.length ≤ 2000) {a : Nat} (ha : a = pre.length) : getR (pre ++ putR p ++ post) a = some (p, a + p.length + 12) := by
  have hd : (pre ++ putR p ++ post).drop a = be 4 p.length ++ (p ++ (lowS (crcSum (be 4 p.length ++ p)) ++ (be 4 p.length ++ post))) := by
    rw [drop_at _ _ _ ha]; simp [putR, sealS]
  have hb : (be 4 p.length).length = 4 := be_length 4 _
  have hlow := lowS_length (crcSum (be 4 p.length ++ p))
  have hlong : longR (pre ++ putR p ++ post) a = p.length := by
    unfold longR
    rw [hd, List.take_left' hb, unbe_be]
    omega
  have hlen : (pre ++ putR p ++ post).length = a + (p.length + 12) + post.length := by simp [putR_length, ha]; omega
  have hi : isR (pre ++ putR p ++ post) a = true := by
    unfold isR
    rw [hlong]
    simp only [Bool.and_eq_true, decide_eq_true_eq]
    refine ⟨⟨⟨⟨by omega, hp⟩, by omega⟩, ?_⟩, ?_⟩
    · have e : ((pre ++ putR p ++ post).drop a).take (p.length + 8) = sealS (be 4 p.length ++ p) := by
        rw [hd]
        have : be 4 p.length ++ (p ++ (lowS (crcSum (be 4 p.length ++ p)) ++ (be 4 p.length ++ post))) = sealS (be 4 p.length ++ p) ++ (be 4 p.length ++ post) := by simp [sealS]
        rw [this]
        exact List.take_left' (by simp [sealS_length, hb]; omega)
      rw [e]
      unfold openB
      simp only [Bool.and_eq_true, decide_eq_true_eq, sealS_length]
      refine ⟨by omega, ?_⟩
      have e2 : (sealS (be 4 p.length ++ p)).take ((be 4 p.length ++ p).length + 4 - 4) = be 4 p.length ++ p := by
        unfold sealS; exact List.take_left' (by omega)
      rw [e2]
    · have e : (pre ++ putR p ++ post).drop (a + p.length + 8) = be 4 p.length ++ post := by
        have : a + p.length + 8 = a + (p.length + 8) := by omega
        rw [this, ← List.drop_drop, hd]
        have : be 4 p.length ++ (p ++ (lowS (crcSum (be 4 p.length ++ p)) ++ (be 4 p.length ++ post))) = (be 4 p.length ++ (p ++ lowS (crcSum (be 4 p.length ++ p)))) ++ (be 4 p.length ++ post) := by simp
        rw [this]
        exact List.drop_left' (by simp [hb, hlow]; omega)
      rw [e, hd, List.take_left' hb, List.take_left' hb]
  unfold getR
  rw [if_pos hi, hlong]
  congr 2
  rw [← List.drop_drop, hd]
  have e3 : (be 4 p.length ++ (p ++ (lowS (crcSum (be 4 p.length ++ p)) ++ (be 4 p.length ++ post)))).drop 4 = p ++ (lowS (crcSum (be 4 p.length ++ p)) ++ (be 4 p.length ++ post)) := List.drop_left' hb
  rw [e3]
  exact List.take_left' rfl
theorem isR_end (s : List UInt8) (a : Nat) (h : s.length < a + 12) : getR s a = none := by
  unfold getR isR
  rw [decide_eq_false (by omega)]
  simp
theorem eachR_body : ∀ (ps : List (List UInt8)) (pre : List UInt8) (f a : Nat), (∀ p ∈ ps, p.length ≤ 2000) → a = pre.length → ps.length < f → eachR f (pre ++ bodyC ps) a = placesC a ps
  | [], pre, 0, a, _, _, hf => by simp at hf
  | [], pre, f + 1, a, _, ha, _ => by
    unfold eachR
    rw [isR_end _ _ (by simp [bodyC, ha])]
    rfl
  | p :: r, pre, 0, a, _, _, hf => by simp at hf
  | p :: r, pre, f + 1, a, hp, ha, hf => by
    have e : pre ++ bodyC (p :: r) = pre ++ putR p ++ bodyC r := by simp [bodyC]
    rw [e]
    unfold eachR
    rw [getR_put pre p (bodyC r) (hp p (List.mem_cons_self)) ha]
    show _ :: eachR f (pre ++ putR p ++ bodyC r) (a + p.length + 12) = _
    rw [eachR_body r (pre ++ putR p) f _ (fun q hq => hp q (List.mem_cons_of_mem _ hq)) (by simp [putR_length, ha]; omega) (by simp at hf; omega)]
    rfl
theorem sum_ge (ps : List (List UInt8)) : 12 * ps.length ≤ (ps.map fun p => p.length + 12).sum := by
  induction ps with
  | nil => simp
  | cons p r ih => simp only [List.map_cons, List.sum_cons, List.length_cons]; omega
theorem whole_chunk (n : Nat) (ps : List (List UInt8)) (hp : ∀ p ∈ ps, p.length ≤ 2000) : wholeR (chunkB n ps) 12 = placesC 12 ps := by
  unfold wholeR
  refine eachR_body ps (ckHead n) _ 12 hp (ckHead_length n).symm ?_
  have := sum_ge ps
  show _ < (chunkB n ps).length + 1
  rw [chunkB_length]; unfold sizeC; omega
theorem placesC_snoc : ∀ (ps : List (List UInt8)) (p : List UInt8) (a : Nat), placesC a (ps ++ [p]) = placesC a ps ++ [(a + (ps.map fun p => p.length + 12).sum, a + (ps.map fun p => p.length + 12).sum + p.length + 12)]
  | [], p, a => by simp [placesC]
  | q :: r, p, a => by
    rw [List.cons_append, placesC, placesC_snoc r p, placesC, List.cons_append]
    simp only [List.map_cons, List.sum_cons]
    congr 4 <;> omega
theorem placesC_end : ∀ (ps : List (List UInt8)) (a : Nat), endR a (placesC a ps) = a + (ps.map fun p => p.length + 12).sum := fun ps a => by
  rcases List.eq_nil_or_concat ps with rfl | ⟨r, p, rfl⟩
  · rfl
  · rw [List.concat_eq_append, placesC_snoc]
    unfold endR
    simp only [List.getLast?_append, List.getLast?_singleton, Option.some_or, Option.map_some, Option.getD_some, List.map_append, List.map_cons, List.map_nil, List.sum_append, List.sum_cons, List.sum_nil]
    omega
end Go.Proofs.YtmgpffknmmoggaaGreatDoor
namespace Go.Proofs.YtmgpffknmmoggaaGreatDoor
open Go.RowKit
set_option maxRecDepth 100000
set_option linter.unusedVariables false
set_option maxHeartbeats 1600000
theorem slice_str (s : List UInt8) (lo hi : Int) (a b : Nat) (hlo : lo = (a : Int)) (hhi : hi = (b : Int)) (h : a ≤ b) (h2 : b ≤ s.length) {X : List UInt8} (hX : (s.take b).drop a = X) :
    ∀ w, (Instr.slice 9 (.string ⟨s.toArray⟩) (some (.int .i64 lo)) (some (.int .i64 hi)) none).run Tryz.prog w = .ok (.string ⟨X.toArray⟩) w := fun w => by
  have h3 := run_slice_string (P := Tryz.prog) w 9 ⟨s.toArray⟩ .i64 .i64 lo hi Tryz.underlying9 (by omega) (by omega) (by simp [ByteArray.size]; omega)
  rw [h3, hlo, hhi, ← hX]
  show _ = Result.ok (Value.string ⟨((s.take b).drop a).toArray⟩) w
  rw [← extract_mk]; rfl
theorem slice_to (s : List UInt8) (hi : Int) (b : Nat) (hhi : hi = (b : Int)) (h2 : b ≤ s.length) :
    ∀ w, (Instr.slice 9 (.string ⟨s.toArray⟩) none (some (.int .i64 hi)) none).run Tryz.prog w = .ok (.string ⟨(s.take b).toArray⟩) w := fun w => by
  have h3 := run_slice_string_to_if (P := Tryz.prog) w 9 ⟨s.toArray⟩ .i64 hi Tryz.underlying9
  have hs : (ByteArray.size ⟨s.toArray⟩) = s.length := by simp [ByteArray.size]
  rw [h3, hs, if_pos (by omega), hhi]
  show Result.ok (Value.string ((⟨s.toArray⟩ : ByteArray).extract 0 b)) w = _
  rw [extract_mk]; rfl
theorem slice_from (s : List UInt8) (lo : Int) (a : Nat) (hlo : lo = (a : Int)) (h2 : a ≤ s.length) :
    ∀ w, (Instr.slice 9 (.string ⟨s.toArray⟩) (some (.int .i64 lo)) none none).run Tryz.prog w = .ok (.string ⟨(s.drop a).toArray⟩) w := fun w => by
  have h3 := run_slice_string_from_if (P := Tryz.prog) w 9 ⟨s.toArray⟩ .i64 lo Tryz.underlying9
  have hs : (ByteArray.size ⟨s.toArray⟩) = s.length := by simp [ByteArray.size]
  rw [h3, hs, if_pos (by omega), hlo]
  show Result.ok (Value.string ((⟨s.toArray⟩ : ByteArray).extract a s.length)) w = _
  rw [extract_mk, List.take_length]
end Go.Proofs.YtmgpffknmmoggaaGreatDoor
namespace Go.Proofs.YtmgpffknmmoggaaGreatDoor
open Go.RowKit
set_option maxRecDepth 100000
set_option linter.unusedVariables false
set_option maxHeartbeats 1600000
def getV (s : List UInt8) (a : Nat) : Value := match getR s a with
  | none => .tuple #[.string ⟨#[]⟩, .int .i64 0, .bool false]
  | some (p, b) => .tuple #[.string ⟨p.toArray⟩, .int .i64 b, .bool true]
theorem getV_no {s : List UInt8} {a : Nat} (h : isR s a = false) : getV s a = .tuple #[.string ⟨#[]⟩, .int .i64 0, .bool false] := by unfold getV getR; rw [h]; rfl
theorem cut_drop (s : List UInt8) (a k : Nat) : (s.take (a + k)).drop a = (s.drop a).take k := by rw [List.drop_take]; congr 1; omega
theorem getrec_c (s : List UInt8) (a : Nat) (w : World) (hl : s.length ≤ 4611686018427387903) (ha : a ≤ 4611686018427387903) :
    Calls Tryz.prog 196 #[.string ⟨s.toArray⟩, .int .i64 (a : Int)] w fun e w' => e = .returned (getV s a) ∧ Ext w w' := by
  by_cases h1 : s.length < a + 12
  · have HM : Hid (getV s a = .tuple #[.string ⟨#[]⟩, .int .i64 0, .bool false]) := Lib.hid (getV_no (by unfold isR; rw [decide_eq_false (by omega)]; rfl))
    have hd : decide (((s.length : Int) - 12) < (a : Int)) = true := by simp; omega
    go_enter Tryz.func196, Tryz.ntmps196
    go_wp2_with fail
    go_ret3
    rw [HM.out]
    exact ⟨rfl, Ext.refl _⟩
  have hd1 : decide (((s.length : Int) - 12) < (a : Int)) = false := by simp; omega
  obtain ⟨X, hX⟩ : ∃ X, (s.drop a).take 4 = X := ⟨_, rfl⟩
  have hXl : X.length = 4 := by rw [← hX]; simp; omega
  have hsX := slice_str s (a : Int) ((a : Int) + 4) a (a + 4) rfl (by omega) (by omega) (by omega) (by rw [cut_drop, hX])
  obtain ⟨n, hn⟩ : ∃ n, longR s a = n := ⟨_, rfl⟩
  have hnX : unbe (X.take 8) = n := by rw [List.take_of_length_le (by omega), ← hX, ← hn]; rfl
  have hn4 : n < 4294967296 := by rw [← hnX]; have := unbe_lt (X.take 8); rw [List.length_take, hXl] at this; exact this
  have HG := Lib.hid (fun W => get_c X W (by omega))
  rw [hnX] at HG
  by_cases h2 : 2000 < n ∨ s.length < a + n + 12
  · have HM : Hid (getV s a = .tuple #[.string ⟨#[]⟩, .int .i64 0, .bool false]) := Lib.hid (getV_no (by
      unfold isR; rw [hn]
      rcases h2 with h | h
      · rw [decide_eq_false (p := n ≤ 2000) (by omega)]; simp
      · rw [decide_eq_false (p := a + n + 12 ≤ s.length) (by omega)]; simp))
    clear hX hn hnX hXl
    by_cases h3 : 2000 < n
    · have hd2 : decide ((2000 : Int) < (n : Int)) = true := by simp; omega
      go_enter Tryz.func196, Tryz.ntmps196
      go_wp2_with fail
      refine (HG.out _).mono ?_
      rintro e w1 ⟨rfl, hb⟩
      have HB := Lib.hid hb; clear hb
      go_wp2_with fail
      go_ret3
      rw [HM.out]
      exact ⟨rfl, HB.out⟩
    · have h4 : s.length < a + n + 12 := by omega
      have hd2 : decide ((2000 : Int) < (n : Int)) = false := by simp; omega
      have hd3 : decide ((s.length : Int) - 12 - (a : Int) < (n : Int)) = true := by simp; omega
      go_enter Tryz.func196, Tryz.ntmps196
      go_wp2_with fail
      refine (HG.out _).mono ?_
      rintro e w1 ⟨rfl, hb⟩
      have HB := Lib.hid hb; clear hb
      go_wp2_with fail
      go_ret3
      rw [HM.out]
      exact ⟨rfl, HB.out⟩
  have h5 : n ≤ 2000 := by omega
  have h6 : a + n + 12 ≤ s.length := by omega
  have hd2 : decide ((2000 : Int) < (n : Int)) = false := by simp; omega
  have hd3 : decide ((s.length : Int) - 12 - (a : Int) < (n : Int)) = false := by simp; omega
  obtain ⟨Y, hY⟩ : ∃ Y, (s.drop a).take (n + 8) = Y := ⟨_, rfl⟩
  have hYl : Y.length = n + 8 := by rw [← hY]; simp; omega
  have hsY := slice_str s (a : Int) ((a : Int) + (n : Int) + 12 - 4) a (a + (n + 8)) rfl (by omega) (by omega) (by omega) (by rw [cut_drop, hY])
  obtain ⟨Z, hZ⟩ : ∃ Z, (s.drop (a + n + 8)).take 4 = Z := ⟨_, rfl⟩
  have hsZ := slice_str s ((a : Int) + (n : Int) + 12 - 4) ((a : Int) + (n : Int) + 12) (a + n + 8) (a + n + 8 + 4) (by omega) (by omega) (by omega) (by omega) (by rw [cut_drop, hZ])
  have HO := Lib.hid (fun W => open_c Y W (by omega))
  have hi : isR s a = (openB Y && decide (Z = X)) := by
    unfold isR; rw [hn, decide_eq_true (p := a + 12 ≤ s.length) (by omega), decide_eq_true h5, decide_eq_true h6, hY, hZ, hX]; simp
  have hpay : openB Y = true → (openT Y).drop 4 = (s.drop (a + 4)).take n := fun h => by
    unfold openT; rw [if_pos h, hYl, ← hY, List.take_take, List.drop_take, List.drop_drop]
    congr 1; omega
  have hTl : openB Y = true → (openT Y).length = n + 4 := fun h => by
    unfold openT; rw [if_pos h, List.length_take, hYl]; omega
  have hS : getR s a = if isR s a then some ((s.drop (a + 4)).take n, a + n + 12) else none := by unfold getR; rw [hn]
  have HI := Lib.hid hi; have HP := Lib.hid hpay; have HTl := Lib.hid hTl; have HS := Lib.hid hS
  clear hX hn hnX hZ hY hYl hi hpay hTl hS h2 h1
  generalize openT Y = T at *
  cases hb : openB Y with
  | false =>
    have HM : Hid (getV s a = .tuple #[.string ⟨#[]⟩, .int .i64 0, .bool false]) := Lib.hid (getV_no (by rw [HI.out, hb]; rfl))
    rw [hb] at HO
    go_enter Tryz.func196, Tryz.ntmps196
    go_wp2_with fail
    refine (HG.out _).mono ?_
    rintro e w1 ⟨rfl, hb1⟩
    have HB := Lib.hid hb1; clear hb1
    go_wp2_with fail
    refine (HO.out _).mono ?_
    rintro e w2 ⟨rfl, hb2⟩
    have HB2 := Lib.hid (HB.out.trans hb2); clear hb2
    go_wp2_with fail
    refine wp_region_ext (by kernel_rfl) (by kernel_rfl) ?_
    repeat (go_big_quiet_step (fail))
    refine wpQuiet_nil ?_
    intro w3 hw3
    have HB3 := Lib.hid (HB2.out.trans hw3); clear hw3
    go_wp2_with fail
    go_ret3
    rw [HM.out]
    exact ⟨rfl, HB3.out⟩
  | true =>
    by_cases hzx : Z = X
    · have HM : Hid (getV s a = .tuple #[.string ⟨(T.drop 4).toArray⟩, .int .i64 ((a : Int) + (n : Int) + 12), .bool true]) := Lib.hid (by
        unfold getV
        rw [HS.out, HI.out, hb, hzx, HP.out hb]
        simp)
      have hTlen := HTl.out hb
      have hsT : ∀ w, (Instr.slice 9 (.string ⟨T.toArray⟩) (some (.int .i64 4)) none none).run Tryz.prog w = .ok (.string ⟨(T.drop 4).toArray⟩) w := fun w => by
        exact slice_from T 4 4 rfl (by omega) w
      rw [hb] at HO
      generalize T.drop 4 = T4 at *
      subst hzx
      go_enter Tryz.func196, Tryz.ntmps196
      go_wp2_with fail
      refine (HG.out _).mono ?_
      rintro e w1 ⟨rfl, hb1⟩
      have HB := Lib.hid hb1; clear hb1
      go_wp2_with fail
      refine (HO.out _).mono ?_
      rintro e w2 ⟨rfl, hb2⟩
      have HB2 := Lib.hid (HB.out.trans hb2); clear hb2
      go_wp2_with fail
      refine wp_region_ext (by kernel_rfl) (by kernel_rfl) ?_
      repeat (go_big_quiet_step (fail))
      refine wpQuiet_nil ?_
      intro w3 hw3
      have HB3 := Lib.hid (HB2.out.trans hw3); clear hw3
      go_wp2_with fail
      go_ret3
      rw [HM.out]
      exact ⟨rfl, HB3.out⟩
    · have HM : Hid (getV s a = .tuple #[.string ⟨#[]⟩, .int .i64 0, .bool false]) := Lib.hid (getV_no (by rw [HI.out, decide_eq_false hzx, Bool.and_false]))
      have hne : (Z == X) = false := by simpa using hzx
      have hne' : (Z != X) = true := by simpa using hzx
      rw [hb] at HO
      go_enter Tryz.func196, Tryz.ntmps196
      go_wp2_with fail
      refine (HG.out _).mono ?_
      rintro e w1 ⟨rfl, hb1⟩
      have HB := Lib.hid hb1; clear hb1
      go_wp2_with fail
      refine (HO.out _).mono ?_
      rintro e w2 ⟨rfl, hb2⟩
      have HB2 := Lib.hid (HB.out.trans hb2); clear hb2
      go_wp2_with fail
      refine wp_region_ext (by kernel_rfl) (by kernel_rfl) ?_
      repeat (go_big_quiet_step (fail))
      refine wpQuiet_nil ?_
      intro w3 hw3
      have HB3 := Lib.hid (HB2.out.trans hw3); clear hw3
      go_wp2_with fail
      go_ret3
      rw [HM.out]
      exact ⟨rfl, HB3.out⟩
end Go.Proofs.YtmgpffknmmoggaaGreatDoor
namespace Go.Proofs.YtmgpffknmmoggaaGreatDoor
open Go.RowKit
set_option maxRecDepth 100000
set_option linter.unusedVariables false
set_option maxHeartbeats 1600000
theorem ckhead_c (n : Nat) (w : World) (hn : n < 200) :
    Calls Tryz.prog 149 #[.int .i64 (n : Int)] w fun e w' => e = .returned (.string ⟨(ckHead n).toArray⟩) ∧ Ext w w' := by
  have hd : decide ((200 : Int) ≤ (n : Int)) = false := by simp; omega
  have HR : Hid (ckHead n = sealS ([99, 104, 110, 107] ++ be 4 n)) := Lib.hid rfl
  have HP := Lib.hid (fun W => put_c (n : Int) 4 W (by omega) (by omega) (by omega) (by omega))
  have HS := Lib.hid (fun W => seal_c ([99, 104, 110, 107] ++ be 4 n) W (by simp [be_length]))
  have hb4 : (be 4 n).length = 4 := be_length 4 _
  rw [Int.toNat_natCast] at HP
  generalize sealS ([99, 104, 110, 107] ++ be 4 n) = Y at *
  generalize be 4 n = X at *
  go_enter Tryz.func149, Tryz.ntmps149
  go_wp2_with fail
  refine (HP.out _).mono ?_
  rintro e w1 ⟨rfl, hb⟩
  have HB := Lib.hid hb; clear hb
  go_wp2_with fail
  have hcat := cat_mk [99, 104, 110, 107] X
  have hcat2 : ({ data := #[99, 104, 110, 107] } : ByteArray) ++ { data := X.toArray } = ⟨([99, 104, 110, 107] ++ X).toArray⟩ := hcat
  rw [hcat2]
  refine (HS.out _).mono ?_
  rintro e w2 ⟨rfl, hb⟩
  have HB2 := Lib.hid (HB.out.trans hb); clear hb
  go_wp2_with fail
  go_ret
  exact ⟨by rw [HR.out]; rfl, HB2.out⟩
def preB (s p : List UInt8) : Bool := decide (p.length ≤ s.length) && (s.take p.length == p)
theorem liteprefix_c (s p : List UInt8) (w : World) (hl : s.length ≤ 9223372036854775807) (hp : p.length ≤ 9223372036854775807) :
    Calls Tryz.prog 233 #[.string ⟨s.toArray⟩, .string ⟨p.toArray⟩] w fun e w' => e = .returned (.bool (preB s p)) ∧ w = w' := by
  by_cases h : p.length ≤ s.length
  · have HM : Hid (preB s p = (s.take p.length == p)) := Lib.hid (by unfold preB; rw [decide_eq_true h, Bool.true_and])
    have hd1 : decide ((p.length : Int) ≤ (s.length : Int)) = true := by simp; omega
    go_enter Tryz.func233, Tryz.ntmps233
    go_wp2_with fail
    go_ret
    rw [HM.out]
    exact ⟨rfl, rfl⟩
  · have HM : Hid (preB s p = false) := Lib.hid (by unfold preB; rw [decide_eq_false h, Bool.false_and])
    have hd1 : decide ((p.length : Int) ≤ (s.length : Int)) = false := by simp; omega
    go_enter Tryz.func233, Tryz.ntmps233
    go_wp2_with fail
    go_ret
    rw [HM.out]
    exact ⟨rfl, rfl⟩
theorem hasprefix_c (s p : List UInt8) (w : World) (hl : s.length ≤ 9223372036854775807) (hp : p.length ≤ 9223372036854775807) :
    Calls Tryz.prog 200 #[.string ⟨s.toArray⟩, .string ⟨p.toArray⟩] w fun e w' => e = .returned (.bool (preB s p)) ∧ w = w' := by
  go_enter Tryz.func200, Tryz.ntmps200
  go_wp2_with fail
  refine (liteprefix_c s p _ hl hp).mono ?_
  rintro e w1 ⟨rfl, rfl⟩
  go_wp2_with fail
  go_ret
  exact ⟨rfl, rfl⟩
end Go.Proofs.YtmgpffknmmoggaaGreatDoor
namespace Go.Proofs.YtmgpffknmmoggaaGreatDoor
open Go.RowKit
abbrev Cks := List (List (List UInt8))
def cksF : Nat → Cks → List (List UInt8 × List UInt8)
  | _, [] => []
  | i, ps :: r => (nameS 99 (i : Int), chunkB i ps) :: cksF (i + 1) r
theorem cksF_append : ∀ (C D : Cks) (i : Nat), cksF i (C ++ D) = cksF i C ++ cksF (i + C.length) D
  | [], D, i => rfl
  | ps :: r, D, i => by
    rw [List.cons_append, cksF, cksF_append r D (i + 1), cksF, List.cons_append, List.length_cons]
    congr 3; omega
theorem cksF_mem : ∀ {C : Cks} {i : Nat} {x : List UInt8 × List UInt8}, x ∈ cksF i C → ∃ k, i ≤ k ∧ k < i + C.length ∧ x.1 = nameS 99 (k : Int)
  | [], _, _, h => by cases h
  | ps :: r, i, x, h => by
    rcases List.mem_cons.1 h with rfl | h
    · exact ⟨i, Nat.le_refl _, by simp, rfl⟩
    · obtain ⟨k, h1, h2, h3⟩ := cksF_mem h
      exact ⟨k, by omega, by simp; omega, h3⟩
theorem cname_le (n : Int) : (nameS 99 n).length ≤ 9223372036854775807 := by
  by_cases h : 0 ≤ n ∧ n ≤ 999999
  · rw [nameS_yes h, List.length_cons, digs_length]; decide
  · rw [nameS_no h]; decide
theorem cname_ne {i k : Nat} (hi : i ≤ 999999) (hk : k ≤ 999999) (h : i ≠ k) : nameS 99 (i : Int) ≠ nameS 99 (k : Int) := fun e => by
  have := nameS_eq 99 (i : Int) (k : Int) (by omega) (by omega)
  rw [e, beq_self_eq_true] at this
  have := of_decide_eq_true this.symm
  omega
theorem cksF_not {C : Cks} {i k : Nat} (hk : k ≤ 999999) (hC : i + C.length ≤ 999999) (h : ∀ j, i ≤ j → j < i + C.length → j ≠ k) : ∀ y ∈ cksF i C, Prod.fst y ≠ nameS 99 (k : Int) := fun y hy => by
  obtain ⟨j, h1, h2, h3⟩ := cksF_mem hy
  rw [h3]
  exact cname_ne (by omega) hk (h j h1 h2)
theorem cksF_find {C : Cks} {k : Nat} {ps : List (List UInt8)} (hC : C.length ≤ 200) (hk : C[k]? = some ps) : findN Prod.fst (nameS 99 (k : Int)) (cksF 0 C) = some (nameS 99 (k : Int), chunkB k ps) := by
  obtain ⟨hlt, rfl⟩ := List.getElem?_eq_some_iff.1 hk
  have e : C = C.take k ++ C[k] :: C.drop (k + 1) := by
    rw [List.getElem_cons_drop]; exact (List.take_append_drop _ _).symm
  have hl : (C.take k).length = k := by simp; omega
  conv => lhs; rw [e]
  rw [cksF_append, hl, Nat.zero_add, findN_append_right]
  · rw [cksF]; unfold findN; rw [List.find?_cons_of_pos (by simp)]
  · exact cksF_not (by omega) (by rw [hl]; omega) fun j _ h2 => by rw [hl] at h2; omega
theorem cksF_new {C : Cks} (hC : C.length ≤ 200) : findN Prod.fst [110, 101, 119] (cksF 0 C) = none := findN_of_none fun y hy e => by
  obtain ⟨j, h1, h2, h3⟩ := cksF_mem hy
  rw [e] at h3
  have h4 : j < 200 := by omega
  rw [nameS_yes (by omega)] at h3
  have h5 := congrArg List.length h3
  have h6 : (99 :: digs 6 ((j : Int)).toNat).length = 7 := by simp [digs_length]
  rw [h6] at h5
  cases h5
theorem cksF_names : ∀ (C : Cks) (i : Nat), (cksF i C).map Prod.fst = (List.range' i C.length).map fun k : Nat => nameS 99 (k : Int)
  | [], _ => rfl
  | ps :: r, i => by rw [cksF, List.map_cons, cksF_names r, List.length_cons, List.range'_succ, List.map_cons]
structure okC (C : Cks) : Prop where
  few : C.length ≤ 200
  size : ∀ ps ∈ C, sizeC ps ≤ 4096
  pay : ∀ ps ∈ C, ∀ p ∈ ps, p.length ≤ 2000
  full : ∀ ps ∈ C, ps ≠ []
structure Lgd (σ : DM) (c s : Int) (C : Cks) : Prop where
  pl : Pl σ c s (cksF 0 C)
  ok : okC C
theorem okC.nil : okC [] := ⟨Nat.zero_le _, (fun _ h => by cases h), (fun _ h => by cases h), (fun _ h => by cases h)⟩
def endL (C : Cks) : Int := match C.getLast? with | none => 0 | some ps => ((C.length : Int) - 1) * 4096 + (sizeC ps : Int)
theorem endL_snoc (D : Cks) (ps : List (List UInt8)) : endL (D ++ [ps]) = (D.length : Int) * 4096 + (sizeC ps : Int) := by
  unfold endL
  simp
def sizesL (C : Cks) : List Int := C.map fun ps => (sizeC ps : Int)
theorem sizesL_snoc (D : Cks) (ps : List (List UInt8)) : sizesL (D ++ [ps]) = sizesL D ++ [(sizeC ps : Int)] := by simp [sizesL]
theorem sizesL_length (C : Cks) : (sizesL C).length = C.length := by simp [sizesL]
theorem sizesL_last (D : Cks) (ps : List (List UInt8)) : (sizesL (D ++ [ps])).getD D.length 0 = (sizeC ps : Int) := by
  rw [sizesL_snoc]
  have : D.length = (sizesL D).length := (sizesL_length D).symm
  rw [List.getD_eq_getElem?_getD, this, List.getElem?_append_right (Nat.le_refl _)]
  simp
end Go.Proofs.YtmgpffknmmoggaaGreatDoor
namespace Go.Proofs.YtmgpffknmmoggaaGreatDoor
open Go.RowKit
end Go.Proofs.YtmgpffknmmoggaaGreatDoor
