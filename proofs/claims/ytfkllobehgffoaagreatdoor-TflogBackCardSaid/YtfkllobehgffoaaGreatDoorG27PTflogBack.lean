/- Walks: the law TflogBack. -/
import Derived.Test.YtfkllobehgffoaaGreatDoorG26PTflogBack
set_option linter.unusedVariables false
set_option linter.unusedSimpArgs false
namespace Go.Proofs.YtfkllobehgffoaaGreatDoor
open Go.RowKit

set_option maxRecDepth 100000
set_option linter.unusedVariables false
set_option maxHeartbeats 6400000

section
variable {w0 w W W1 W2 : World} {g gl : Nat} {K K1 K2 : Nat → Prop} {c s sure : Int} {C : Cks}
theorem LgK.less (h : LgK w0 W g gl c s C sure K) (k : ∀ i, K1 i → K i) : LgK w0 W g gl c s C sure K1 := by
  obtain ⟨F, v, σ, h1, h2⟩ := h
  exact ⟨F, v, σ, h1.beside k, h2⟩
def OneK (v : Value) (i : Nat) : Prop := v.ownBlock = some i
/-- a row beside has one more -/
theorem row1_step {n : Nat} {vq v2 : Value} {ys ys1 : List Value} {l2 : Obj} {ti : TypeId} (h : LgK w0 W g gl c s C sure (OneK vq)) (hq : W.ownsRow w0.heap.size ti 1 vq n ys)
    (h2 : W2.ownsRow w0.heap.size ti 1 v2 (n + 1) ys1) (g2 : (W.alloc l2).grownBy W2 vq.ownBlock) (a2 : v2.ownBlock = vq.ownBlock ∨ v2.ownBlock = some (W.alloc l2).heap.size) :
    LgK w0 W2 g gl c s C sure (OneK v2) := by
  have s2 := g2.size
  rw [World.size_alloc] at s2
  have hqb : ∀ i, vq.ownBlock = some i → w0.heap.size ≤ i ∧ i < W.heap.size := row_lt hq
  have e2 : ∀ i, i < W.heap.size → vq.ownBlock ≠ some i → W2.heap[i]? = W.heap[i]? := fun i hi hn => (g2.block i (by rw [World.size_alloc]; omega) fun e => hn e.symm).trans ((ext_a1 W l2).block i hi)
  have hx0 := h.base
  have hx2 : Ext w0 W2 := Below.grown (hx0.alloc l2) g2 (by rw [World.size_alloc]; have := hx0.size; omega) fun k hk => (hqb k hk).1
  refine h.rows (by omega) hx2 (fun i hi hn => e2 i hi hn) fun i hi => ?_
  rcases a2 with k | k
  · exact .inl (show vq.ownBlock = some i from k.symm.trans hi)
  · have hlt := (row_lt h2 i hi).2
    have hi' : v2.ownBlock = some i := hi
    rw [k, World.size_alloc] at hi'
    cases hi'
    right; omega
end

theorem appSure_le {fr sure z : Int} {C : Cks} {p : List UInt8} (h : sure ≤ endL C) (hz : appSure fr sure C p = z) : z ≤ endL C := by
  subst hz
  unfold appSure
  split
  · exact Int.le_refl _
  · exact h

/-- what is there when some payloads were appended -/
structure BackI (xs : List (List UInt8)) (k : Nat) (C : Cks) (sure : Int) : Prop where
  pay : (recsL 0 C).map Prod.snd = xs.take k
  used : usedK C ≤ 2024 * k
  few : C.length ≤ k
  sure : sure ≤ endL C
theorem BackI.nil (xs : List (List UInt8)) : BackI xs 0 [] 0 := ⟨rfl, by decide, by decide, by decide⟩

theorem backlaw_c {ao : Option Addr} {n cap : Nat} {xs : List (List UInt8)} (w : World) (hs : Slf strV w ao n cap xs) :
    Calls Tryz.prog 4 #[.slice ao n cap] w fun e w' => e = .returned (.bool true) ∧ Ext w w' := by
  have HS := Lib.hid hs
  have hxl := hs.len
  have hnb : n ≤ 9223372036854775807 := Nat.le_trans hs.fits hs.bound
  clear hs
  by_cases h40 : 40 < n
  · have hd : decide ((40 : Int) < (n : Int)) = true := by simp; omega
    go_enter Tryz.func4, Tryz.ntmps4
    go_wp2_with fail
    refine (lodged_c _).mono ?_
    rintro e w1 ⟨rfl, hb⟩
    have HB := Lib.hid hb; clear hb
    go_wp2_with fail
    go_ret
    exact ⟨rfl, HB.out⟩
  have hd : decide ((40 : Int) < (n : Int)) = false := by simp; omega
  have hn40 : n ≤ 40 := by omega
  clear h40 hnb
  have HXl := Lib.hid hxl
  have HN := Lib.hid (DkK.new w 1048576 (by decide) (by decide))
  clear hxl
  go_enter Tryz.func4, Tryz.ntmps4
  go_wp2_with fail
  refine HN.out.mono ?_
  rintro e w1 ⟨g, rfl, h1⟩
  have HO := Lib.hid (open_l h1); clear h1
  go_wp2_with fail
  refine HO.out.mono ?_
  rintro e w2 ⟨gl, rfl, _, h2, _⟩
  have H2 := Lib.hid (show LgK w w2 g gl 1048576 0 [] 0 (OneK (.slice none 0 0)) from LgK.less h2 (fun i hi => by cases hi))
  clear h2
  go_wp2_with fail
  go_loopw [7, 8] (fun at_ i W => ∃ (k : Nat) (C : Cks) (sure : Int) (va : Value), k ≤ n ∧ at_ = va ∧ i = .int .i64 (k : Int) ∧ BackI xs k C sure ∧ W.ownsRow w.heap.size 3 1 va (recsL 0 C).length ((recsL 0 C).map fun r => Value.int .i64 (r.1 : Int)) ∧ LgK w W g gl 1048576 0 C sure (OneK va)) (fun _ i _ => n - (intOf i).toNat)
  case atStart => exact ⟨0, [], 0, .slice none 0 0, Nat.zero_le _, rfl, rfl, BackI.nil xs, World.ownsRow_nil _ _ _ _, H2.out⟩
  case round =>
    obtain ⟨k, C, sure, va, hk, rfl, rfl, hI, hq, hl⟩ := hrel
    obtain ⟨qa, qc, rfl⟩ := row_slice hq
    have HQ := Lib.hid hq
    have HL := Lib.hid hl
    have HI := Lib.hid hI
    have HB := Lib.hid hl.base
    have HRl : Hid ((recsL 0 C).length = k) := Lib.hid (by
      have := congrArg List.length hI.pay
      rw [List.length_map, List.length_take, HXl.out] at this
      omega)
    clear hq hl hI
    by_cases hkn : k < n
    · have hd2 : decide ((k : Int) < (n : Int)) = true := by simp; omega
      obtain ⟨b, off, rfl, hc0⟩ := HS.out.at [] hkn
      have hc := cell_ext HB.out hc0
      have HT := Lib.hid (take_succ_getD xs [] k (by rw [HXl.out]; exact hkn))
      generalize xs.getD k [] = x at *
      have HC0 : Hid (w.cell? ⟨b, off + k, none⟩ = some (.string ⟨x.toArray⟩)) := Lib.hid hc0
      have hc' : wr.cell? ⟨b, off + k, none⟩ = some (.string ⟨x.toArray⟩) := hc
      clear hc hc0
      by_cases hx : 2000 < x.length
      · have hd3 : decide ((2000 : Int) < (x.length : Int)) = true := by simp; omega
        clear hx
        go_wp2_with fail
        refine (lodged_c _).mono ?_
        rintro e w3 ⟨rfl, hb⟩
        have HB3 := Lib.hid (HB.out.trans hb); clear hb
        go_wp2_with fail
        go_ret
        exact ⟨rfl, HB3.out⟩
      have hx2 : x.length ≤ 2000 := by omega
      have hd3 : decide ((2000 : Int) < (x.length : Int)) = false := by simp; omega
      have hus := HI.out.used; have hfw := HI.out.few
      obtain ⟨px, C', hap⟩ := append_ok (fr := 1048576 - (usedK C : Int)) (C := C) hx2 (by omega) (by omega)
      obtain ⟨pos, rfl, hr1, hr2, hr3, hr4, hr5, hr6⟩ := append_recs HL.out.toP.2.size hx2 hap
      obtain ⟨su, hsu⟩ : ∃ su, appSure (1048576 - (usedK C : Int)) sure C x = su := ⟨_, rfl⟩
      have HA := Lib.hid (append_k (x := (pos : Int)) (r := 0) (C' := C') HL.out x (by omega) hap hsu)
      have hsl := appSure_le HI.out.sure hsu
      have HI' : Hid (BackI xs (k + 1) C' su) := Lib.hid ⟨by rw [hr1, List.map_append, HI.out.pay, HT.out]; rfl, by omega, by omega, by omega⟩
      have HR1 := Lib.hid hr1
      have HEd := Lib.hid hr2
      have hsp : su ≤ (pos : Int) := by omega
      have hd4 : decide ((pos : Int) < su) = false := by simp; omega
      have hpos9 : pos ≤ 200000 := by omega
      clear hx hus hfw hap hsu hsl hr1 hr2 hr3 hr4 hr5 hr6
      go_wp2_with fail
      refine HA.out.mono ?_
      rintro e w3 ⟨rfl, h3, h4⟩
      have HL3 := Lib.hid h3
      have HQ3 := Lib.hid (row_same HQ.out fun i hi => h4 i hi)
      have hc3 := cell_ext h3.base HC0.out
      have u3 := cell_of hc3
      have HEq := Lib.hid (fun x : ExtOf w3 => same_ext (end_k (HL3.out.grow x.h) HEd.out))
      have HSq := Lib.hid (fun x : ExtOf w3 => same_ext (sure_k (HL3.out.grow x.h)))
      clear h3 h4 hc'
      go_wp2_with fail
      refine wp_region_ext (by kernel_rfl) (by kernel_rfl) ?_
      repeat (go_big_quiet_step (first | (go_at_call 11; exact Calls.quiet_ext (HEq.out _)) | (go_at_call 12; exact Calls.quiet_ext (HSq.out _))))
      refine wpQuiet_nil ?_
      intro w4 hw4
      have HL4 := Lib.hid (HL3.out.grow hw4)
      have HQ4 := Lib.hid (row_ext HQ3.out hw4)
      have HB4 := Lib.hid (HL4.out.base.size)
      clear u3 hc3
      go_wp2_with (at_builtin; refine wpList_append_hat rfl _ _ 34 rfl w.heap.size 3 _ 1 8 Tryz.underlying34 Tryz.infoI (by decide) (by decide) _ (recsL 0 C).length _ rfl (row_ext HQ4.out (ext_a1 _ _)) _ 1 1 [.int .i64 (pos : Int)] rfl rfl (fun h => by cases h) (Rd.lit _ _ _) (by simp [Value.oneCell']) (by have := HRl.out; unfold maxLen; omega) (by have := HRl.out; omega) (by have := HB4.out; simp; omega) ?_; intro v2 w5 hown hgrow hat; have HL5 := Lib.hid (row1_step HL4.out HQ4.out hown hgrow hat); obtain ⟨a2, k2, rfl⟩ := row_slice hown; have HO5 := Lib.hid hown; clear hown hgrow hat)
      go_roundw
      case rel => exact ⟨k + 1, C', su, _, by omega, rfl, by go_num, HI'.out, by rw [HR1.out]; simpa using HO5.out, HL5.out⟩
      case measure => simp [intOf]; omega
    · have hd2 : decide ((k : Int) < (n : Int)) = false := by simp; omega
      obtain rfl : k = n := by omega
      have hRl := HRl.out
      have HPy : Hid ((recsL 0 C).map Prod.snd = xs) := Lib.hid (by rw [HI.out.pay, List.take_of_length_le (by rw [HXl.out]; exact Nat.le_refl _)])
      have hs40 : (recsL 0 C).length ≤ 999 := by omega
      have HM := Lib.hid hs40
      rw [hRl] at HQ ⊢
      clear hs40 hRl
      go_wp2_with fail
      go_loopw [5, 11] (fun l i W => ∃ (t gl : Nat) (su : Int), t ≤ 3 ∧ l = .pointer (some ⟨gl, 0, none⟩) ∧ i = .int .i64 (t : Int) ∧ W.ownsRow w.heap.size 3 1 (.slice qa k qc) k ((recsL 0 C).map fun r => Value.int .i64 (r.1 : Int)) ∧ LgK w W g gl 1048576 0 C su (OneK (.slice qa k qc))) (fun _ i _ => 3 - (intOf i).toNat)
      case atStart => exact ⟨0, gl, sure, by omega, rfl, rfl, HQ.out, by have := HL.out; rwa [HRl.out] at this⟩
      case round =>
        obtain ⟨t, gl, su, ht, rfl, rfl, hq, hl⟩ := hrel
        have HQ2 := Lib.hid hq
        have HL2 := Lib.hid hl
        have HB2 := Lib.hid hl.base
        clear hq hl
        by_cases ht3 : t < 3
        · have hdt : decide ((t : Int) < 3) = true := by simp; omega
          have HRc := Lib.hid (records_c HL2.out HM.out)
          go_wp2_with fail
          refine HRc.out.mono ?_
          rintro e w3 ⟨vp, vq, rfl, hp, hq, hl3, hst⟩
          obtain ⟨pa, pc, rfl⟩ := row_slice hp
          obtain ⟨ra, rc, rfl⟩ := row_slice hq
          rw [HRl.out] at hp hq hl3 ⊢
          have HQ3 := Lib.hid (row_same HQ2.out fun i hi => hst i hi)
          have HRq := Lib.hid hq
          have HL3 := Lib.hid hl3
          have HB3 := Lib.hid hl3.base
          have hpe : ((recsL 0 C).map fun r => strV r.2) = xs.map strV := by rw [← HPy.out, List.map_map]; rfl
          rw [hpe] at hp
          obtain ⟨pa', pc', e1, hsl⟩ := Slf.of_own (Own.of_row hp)
          cases e1
          have HBg := Lib.hid (begins_c hsl (HS.out.ext hl3.base))
          clear hp hq hl3 hst hpe hsl
          go_wp2_with fail
          refine HBg.out.mono ?_
          rintro e w4 ⟨rfl, hb⟩
          have HB4 := Lib.hid hb
          clear hb
          go_wp2_with fail
          go_loopw [15] (fun i W => ∃ j : Nat, j ≤ k ∧ i = .int .i64 (j : Int) ∧ Ext w3 W) (fun i _ => k - (intOf i).toNat)
          case atStart => exact ⟨0, Nat.zero_le _, rfl, HB4.out⟩
          case round =>
            obtain ⟨j, hj, rfl, hb⟩ := hrel
            have HBj := Lib.hid hb
            by_cases hjk : j < k
            · have hdj : decide ((j : Int) < (k : Int)) = true := by simp; omega
              obtain ⟨b1, c1, e1, d1, _⟩ := (Own.of_row (row_ext HRq.out hb)).cell (j := j) (by rw [List.length_map, HRl.out]; exact hjk)
              obtain ⟨b2, c2, e2, d2, _⟩ := (Own.of_row (row_ext HQ3.out hb)).cell (j := j) (by rw [List.length_map, HRl.out]; exact hjk)
              cases e1
              cases e2
              rw [List.getElem_map] at d1 d2
              generalize (((recsL 0 C)[j]'(by rw [HRl.out]; exact hjk)).1 : Int) = y at *
              clear hb
              go_wp2_with fail
              go_quiet (fail)
              go_wp2_with fail
              go_roundw
              case rel => exact ⟨j + 1, by omega, by go_num, HBj.out.drewN _⟩
              case measure => simp [intOf]; omega
            · have hdj : decide ((j : Int) < (k : Int)) = false := by simp; omega
              have HLj := Lib.hid (HL3.out.grow hb)
              have HQj := Lib.hid (row_ext HQ3.out hb)
              have HF := Lib.hid (free_k (HL3.out.grow hb))
              obtain ⟨fr, hfr⟩ : ∃ fr : Int, (1048576 - (usedK C : Int)) = fr := ⟨_, rfl⟩
              rw [hfr] at HF
              have HFr := Lib.hid hfr
              obtain ⟨z, hz⟩ : ∃ z : Int, endL C = z := ⟨_, rfl⟩
              have HZ := Lib.hid hz
              clear hb hfr hz
              go_wp2_with fail
              refine HF.out.mono ?_
              rintro e w5 ⟨rfl, hb⟩
              have HL5 := Lib.hid (HLj.out.grow hb)
              have HQ5 := Lib.hid (row_ext HQj.out hb)
              clear hb
              obtain ⟨vl, hlm, hdk⟩ := HL5.out.left
              have HLm := Lib.hid hlm
              have HO := Lib.hid (open_l hdk)
              clear hlm hdk
              go_wp2_with fail
              refine HO.out.mono ?_
              rintro e w6 ⟨gl2, rfl, _, hl6, hst⟩
              have HQ6 := Lib.hid (row_same HQ5.out fun i hi => hst i (.inl (.inl hi)))
              have HE1 := Lib.hid (end_k hl6 HZ.out)
              have hlm6 := HLm.out.same fun i hi => hst i (.inr hi)
              have he2 := end_c hlm6 hl6.toP.2
              rw [HZ.out] at he2
              have HE2 := Lib.hid he2
              have hl7 := hl6
              rw [HZ.out] at hl7
              have HS6 := Lib.hid (sure_k hl7)
              have HF6 := Lib.hid (free_k hl6)
              rw [HFr.out] at HF6
              have HL6 := Lib.hid (LgK.less hl6 (fun i (hi : OneK (.slice qa k qc) i) => .inl (.inl hi)))
              clear hl6 hst hlm6 he2 hl7
              go_wp2_with fail
              refine HE1.out.mono ?_
              rintro e w7 ⟨rfl, rfl⟩
              go_wp2_with fail
              refine HE2.out.mono ?_
              rintro e w7 ⟨rfl, rfl⟩
              go_wp2_with fail
              refine HS6.out.mono ?_
              rintro e w7 ⟨rfl, rfl⟩
              go_wp2_with fail
              refine HE1.out.mono ?_
              rintro e w7 ⟨rfl, rfl⟩
              go_wp2_with fail
              refine HF6.out.mono ?_
              rintro e w7 ⟨rfl, hb⟩
              have HL7 := Lib.hid (HL6.out.grow hb)
              have HQ7 := Lib.hid (row_ext HQ6.out hb)
              clear hb
              go_wp2_with fail
              go_roundw
              case rel => exact ⟨t + 1, gl2, _, by omega, rfl, by go_num, HQ7.out, HL7.out⟩
              case measure => simp [intOf]; omega
        · have hdt : decide ((t : Int) < 3) = false := by simp; omega
          go_wp2_with fail
          refine (lodged_c _).mono ?_
          rintro e w3 ⟨rfl, hb⟩
          have HB3 := Lib.hid (HB2.out.trans hb); clear hb
          go_wp2_with fail
          go_ret
          exact ⟨rfl, HB3.out⟩

end Go.Proofs.YtfkllobehgffoaaGreatDoor
