/- Laws of regions that draw their order: loads under a condition S, and an end that may change S's cells. Walks: the document's index: Add. -/
import Derived.Deep.RegionHeld3
import Derived.StillTail
import Derived.Test.YtmgpffknmmoggaaGreatDoorG49PIndexPlay
set_option linter.unusedVariables false
set_option linter.unusedSimpArgs false
namespace Go.Proofs.YtmgpffknmmoggaaGreatDoor
section
variable {P : Program} {ops : Array Oper} {Q : Exit → Act → World → Prop} {md : Region.Mode} {S : World → Prop} {n : Nat}
def NotBegun (ops : Array Oper) (n : Nat) (listed : Array Bool) : Prop := ∀ t, n ≤ t → t < ops.size → listed.getD t false = false
def wpAnyT (P : Program) (md : Region.Mode) (ops : Array Oper) (Q : Exit → Act → World → Prop) (S : World → Prop) (n : Nat) : Nat → Array Bool → Act → World → Prop
  | 0, listed, a, w => Region.ready md ops listed = [] ∧ Q .normal a w
  | fuel + 1, listed, a, w =>
    (Region.ready md ops listed = [] → Q .normal a w) ∧
    ∀ i ∈ Region.ready md ops listed, wpOp P ops Q i (fun a' w' => (NotBegun ops n (listed.setIfInBounds i true) → S w') ∧ wpAnyT P md ops Q S n fuel (listed.setIfInBounds i true) a' w') a w
theorem wpAny_of_T : ∀ (fuel : Nat) (listed : Array Bool) (a : Act) (w : World), wpAnyT P md ops Q S n fuel listed a w → wpAny P md ops Q fuel listed a w
  | 0, _, _, _, h => h
  | fuel + 1, _, _, _, h => ⟨h.1, fun i hi => wpOp_mono (fun a' w' h' => wpAny_of_T fuel _ a' w' h'.2) (h.2 i hi)⟩
theorem NotBegun.back {i : Nat} {listed : Array Bool} (h : NotBegun ops n (listed.setIfInBounds i true)) : NotBegun ops n listed := fun t ht hl => by
  cases hq : listed.getD t false with
  | false => rfl
  | true => have := h t ht hl; rw [getD_set_true hq] at this; cases this
def waitsC (md : Region.Mode) (ops : Array Oper) (i : Nat) : Nat → Nat → Bool
  | 0, _ => false
  | f + 1, t => match ops[t]? with
    | some o => (o.after.any fun e => Region.binds md e && e.on == i) || (o.after.any fun e => Region.binds md e && waitsC md ops i f e.on)
    | none => false
def Closed (md : Region.Mode) (ops : Array Oper) (listed : Array Bool) : Prop := ∀ j oj, ops[j]? = some oj → listed.getD j false = true → ∀ e ∈ oj.after, Region.binds md e = true → listed.getD e.on false = true
theorem Closed.set {i : Nat} {listed : Array Bool} (inv : Closed md ops listed) (hi : i ∈ Region.ready md ops listed) : Closed md ops (listed.setIfInBounds i true) := by
  obtain ⟨_, oi, hoi, hall⟩ := mem_ready.1 hi
  intro j oj hj hl e he hb
  by_cases hij : i = j
  · subst hij
    have : oj = oi := Option.some.inj (hj.symm.trans hoi)
    subst this
    exact getD_set_true (hall e he hb)
  · rw [getD_set_ne false hij] at hl
    exact getD_set_true (inv j oj hj hl e he hb)
theorem waits_wait {i : Nat} {listed : Array Bool} (inv : Closed md ops listed) (hun : listed.getD i false = false) : ∀ (f t : Nat), waitsC md ops i f t = true → listed.getD t false = false ∧ t ∉ Region.ready md ops listed
  | 0, t, h => by cases h
  | f + 1, t, h => by
    unfold waitsC at h
    split at h
    · rename_i o ho
      have key : ∃ e ∈ o.after, Region.binds md e = true ∧ listed.getD e.on false = false := by
        rw [Bool.or_eq_true] at h
        rcases h with h | h
        · obtain ⟨e, he, hb⟩ := Array.any_eq_true'.1 h
          simp only [Bool.and_eq_true, beq_iff_eq] at hb
          exact ⟨e, he, hb.1, by rw [hb.2]; exact hun⟩
        · obtain ⟨e, he, hb⟩ := Array.any_eq_true'.1 h
          simp only [Bool.and_eq_true] at hb
          exact ⟨e, he, hb.1, (waits_wait inv hun f e.on hb.2).1⟩
      obtain ⟨e, he, hb, hu⟩ := key
      refine ⟨?_, fun hr => ?_⟩
      · cases hl : listed.getD t false with
        | false => rfl
        | true => rw [inv t o ho hl e he hb] at hu; cases hu
      · obtain ⟨_, o', ho', hall⟩ := mem_ready.1 hr
        have : o' = o := Option.some.inj (ho'.symm.trans ho)
        subst this
        rw [hall e he hb] at hu; cases hu
    · cases h
theorem wpAnyT_first {i : Nat} {oi : Oper} {v : Value} {S' : World → Prop} (hi : ops[i]? = some oi) (hsel : ∀ (j : Nat) (o : Oper) cs b, ops[j]? = some o → o.op ≠ .select cs b)
    (hlt : i < n) (hin : (∀ w, S' w) ∨ ((∀ w, S w → S' w) ∧ ∃ f, ∀ t, n ≤ t → t < ops.size → waitsC md ops i f t = true))
    (hQ : ∀ c a w, Q (.panic c) (a.put oi.dst v) w → Q (.panic c) a w) :
    ∀ (fuel : Nat) (listed : Array Bool) (a : Act) (w : World), Closed md ops listed →
      (∀ j oj, ops[j]? = some oj → j ≠ i → listed.getD j true = false → (∀ e ∈ oj.after, Region.binds md e = true → e.on ≠ i) → oi.apart ops oj = true) →
      i ∈ Region.ready md ops listed → YieldsIf P ops S' oi v a → S' w → (NotBegun ops n listed → S w) →
      wpAnyT P md ops Q S n fuel (listed.setIfInBounds i true) (a.put oi.dst v) w → wpAnyT P md ops Q S n (fuel + 1) listed a w := by
  intro fuel
  induction fuel with
  | zero =>
    intro listed a w _ _ hr hy hS hS2 H
    refine ⟨fun h => (by rw [h] at hr; cases hr), fun j hj => ?_⟩
    by_cases hji : j = i
    · subst hji; exact hy.wpOp hi hS ⟨fun h => hS2 h.back, H⟩
    · have := ready_mono hj hji
      rw [H.1] at this
      cases this
  | succ fuel ih =>
    intro listed a w inv hfree hr hy hS hS2 H
    have hun := (mem_ready.1 hr).1
    refine ⟨fun h => (by rw [h] at hr; cases hr), fun j hj => ?_⟩
    by_cases hji : j = i
    · subst hji; exact hy.wpOp hi hS ⟨fun h => hS2 h.back, H⟩
    · have h1 := H.2 j (ready_mono hj hji)
      obtain ⟨hjun, oj, hoj, hall⟩ := mem_ready.1 hj
      have hnot : ∀ e ∈ oj.after, Region.binds md e = true → e.on ≠ i := fun e he hb heq => by
        have h1 := hall e he hb
        rw [heq, getD_both hun] at h1
        cases h1
      have h2 := wpOp_putIf hoj (hfree j oj hoj hji hjun hnot) (fun cs b => hsel i oi cs b hi) (fun cs b => hsel j oj cs b hoj) hQ hy h1
      have hfree' : ∀ k ok, ops[k]? = some ok → k ≠ i → (listed.setIfInBounds j true).getD k true = false →
          (∀ e ∈ ok.after, Region.binds md e = true → e.on ≠ i) → oi.apart ops ok = true := fun k ok hk hki hun hno => by
        refine hfree k ok hk hki ?_ hno
        by_cases hjk : j = k
        · subst hjk; exact hjun
        · rw [getD_set_ne true hjk] at hun; exact hun
      have hset : ∀ w', (NotBegun ops n ((listed.setIfInBounds i true).setIfInBounds j true) → S w') → NotBegun ops n (listed.setIfInBounds j true) → i < n → S w' := fun w' h hb hin => h fun t ht hl => by
        rw [Array.setIfInBounds_comm _ _ (Ne.symm hji), getD_set_ne false (by omega)]
        exact hb t ht hl
      rcases hin with hin | ⟨hin, f, hin3⟩
      · refine wpOp_mono (fun a' w' h3 => ?_) h2
        have hS3 : (i < n) → NotBegun ops n (listed.setIfInBounds j true) → S w' := fun hlt hb => hset w' h3.2.1 hb hlt
        refine ⟨hS3 hlt, ih (listed.setIfInBounds j true) a' w' (inv.set hj) hfree' (ready_mono hr (Ne.symm hji)) h3.1 (hin w') (hS3 hlt) ?_⟩
        rw [Array.setIfInBounds_comm _ _ hji]
        exact h3.2.2
      · have hun2 : ∀ t, n ≤ t → t < ops.size → listed.getD t false = false ∧ t ∉ Region.ready md ops listed := fun t ht hl => waits_wait inv (getD_both hun) f t (hin3 t ht hl)
        have hnb : NotBegun ops n (listed.setIfInBounds j true) := fun t ht hl => by
          have := hun2 t ht hl
          rw [getD_set_ne false (fun e : j = t => this.2 (by rw [← e]; exact hj))]
          exact this.1
        refine wpOp_mono (fun a' w' h3 => ⟨fun hb => hset w' h3.2.1 hb hlt, ih (listed.setIfInBounds j true) a' w' (inv.set hj) hfree' (ready_mono hr (Ne.symm hji)) h3.1 (hin w' (hset w' h3.2.1 hnb hlt)) (fun hb => hset w' h3.2.1 hb hlt) ?_⟩) h2
        rw [Array.setIfInBounds_comm _ _ hji]
        exact h3.2.2
def closedB (md : Region.Mode) (ops : Array Oper) (listed : Array Bool) : Bool :=
  (List.range ops.size).all fun j => !listed.getD j false || (match ops[j]? with | some oj => oj.after.all fun e => !Region.binds md e || listed.getD e.on false | none => true)
theorem closedB_inv {listed : Array Bool} (h : closedB md ops listed = true) : Closed md ops listed := by
  simp only [closedB, List.all_eq_true, List.mem_range, Bool.or_eq_true, Bool.not_eq_true'] at h
  intro j oj hj hl e he hb
  rcases h j (Array.getElem?_eq_some_iff.1 hj).1 with h | h
  · rw [h] at hl; cases hl
  · simp only [hj] at h
    have h4 := Array.all_eq_true_iff_forall_mem.1 h e he
    simp only [Bool.or_eq_true, Bool.not_eq_true'] at h4
    rcases h4 with h4 | h4
    · rw [h4] at hb; cases hb
    · exact h4
theorem wpAnyT_take {l : List Oper} {i : Nat} {oi : Oper} {v : Value} {fuel : Nat} {listed : Array Bool} {a : Act} {w : World} (hi : l[i]? = some oi)
    (hB : (Region.noSelect l.toArray && decide (i < n) && closedB md l.toArray listed && Region.free md l.toArray listed i && (Region.ready md l.toArray listed).contains i && (List.range l.length).all fun t => decide (t < n) || waitsC md l.toArray i 4 t) = true)
    (hQ : ∀ c a w, Q (.panic c) (a.put oi.dst v) w → Q (.panic c) a w) (hy : YieldsIf P l.toArray S oi v a) (hS : S w)
    (h : S w → wpAnyT P md l.toArray Q S n fuel (listed.setIfInBounds i true) (a.put oi.dst v) w) : wpAnyT P md l.toArray Q S n (fuel + 1) listed a w := by
  simp only [Bool.and_eq_true, decide_eq_true_eq, List.all_eq_true, List.mem_range, Bool.or_eq_true] at hB
  obtain ⟨⟨⟨⟨⟨h1, h2⟩, h3⟩, h4⟩, h5⟩, h6⟩ := hB
  have hi' : l.toArray[i]? = some oi := by simpa using hi
  exact wpAnyT_first hi' (Region.noSelect_spec h1) h2 (.inr ⟨fun _ h => h, 4, fun t ht hl => (h6 t (by simpa using hl)).resolve_left (by omega)⟩) hQ fuel listed a w (closedB_inv h3) (Region.free_spec hi' h4) (by simpa using h5) hy hS (fun _ => hS) (h hS)
theorem wpAnyT_takeW {l : List Oper} {i : Nat} {oi : Oper} {v : Value} {fuel : Nat} {listed : Array Bool} {a : Act} {w : World} (hi : l[i]? = some oi)
    (hB : (Region.noSelect l.toArray && decide (i < n) && closedB md l.toArray listed && Region.free md l.toArray listed i && (Region.ready md l.toArray listed).contains i) = true)
    (hQ : ∀ c a w, Q (.panic c) (a.put oi.dst v) w → Q (.panic c) a w) (hy : YieldsIf P l.toArray (fun _ => True) oi v a) (hS : S w)
    (h : S w → wpAnyT P md l.toArray Q S n fuel (listed.setIfInBounds i true) (a.put oi.dst v) w) : wpAnyT P md l.toArray Q S n (fuel + 1) listed a w := by
  simp only [Bool.and_eq_true, decide_eq_true_eq] at hB
  obtain ⟨⟨⟨⟨h1, h2⟩, h3⟩, h4⟩, h5⟩ := hB
  have hi' : l.toArray[i]? = some oi := by simpa using hi
  exact wpAnyT_first hi' (Region.noSelect_spec h1) h2 (.inl fun _ => trivial) hQ fuel listed a w (closedB_inv h3) (Region.free_spec hi' h4) (by simpa using h5) hy trivial (fun _ => hS) (h hS)
theorem wpAnyT_step {l : List Oper} {i : Nat} {o : Oper} {fuel : Nat} {listed : Array Bool} {a : Act} {w : World} (hr : Region.ready md l.toArray listed = [i]) (ho : l[i]? = some o)
    (h : ∀ K' : Act → World → Prop, Shut (∀ a w, S w → (S w → wpAnyT P md l.toArray Q S n fuel (listed.setIfInBounds i true) a w) → K' a w) →
      if Region.wanted o (yielded l.toArray a.tmps) = true then Oper.wp P o a w K' Q else K' (a.put o.dst undef) w) : wpAnyT P md l.toArray Q S n (fuel + 1) listed a w := by
  refine ⟨fun h0 => (by rw [h0] at hr; cases hr), fun j hj => ?_⟩
  rw [hr] at hj
  obtain rfl := List.mem_singleton.1 hj
  have ho' : l.toArray[j]? = some o := by simpa using ho
  exact wpOp_step ho' (fun K' hK => h K' (fun a w hS hW => hK a w ⟨fun _ => hS, hW hS⟩))
theorem wpAnyT_tail : ∀ (l : List Oper) (k : Nat) (listed : Array Bool) (a : Act) (w : World), n ≤ k → (∀ j, l[j]? = ops[k + j]?) →
    Region.seqB md ops l.length k listed = true → wpList P ops Q l a w → wpAnyT P md ops Q S n l.length listed a w
  | [], _, _, _, _, _, _, hB, h => ⟨by simpa [Region.seqB] using hB, h⟩
  | o :: l, k, listed, a, w, hk, hl, hB, h => by
    have h0 : ops[k]? = some o := by simpa using (hl 0).symm
    simp only [List.length_cons, Region.seqB, Bool.and_eq_true, decide_eq_true_eq] at hB
    refine ⟨fun h1 => (by rw [hB.1] at h1; cases h1), fun i hi => ?_⟩
    have hi0 := hi
    rw [hB.1] at hi
    have hik : i = k := by simpa using hi
    subst hik
    have hw : wpOp P ops Q i (wpList P ops Q l) a w := by unfold wpOp; simp only [h0]; exact h
    have hlt : i < ops.size := (Array.getElem?_eq_some_iff.1 h0).1
    have hls : i < listed.size := by
      have hu := (mem_ready.1 hi0).1
      rcases Nat.lt_or_ge i listed.size with h | h
      · exact h
      · simp [Array.getElem?_eq_none h] at hu
    exact wpOp_mono (fun a' w' h' => ⟨fun hb => (by have := hb i hk hlt; simp [hls] at this), wpAnyT_tail l (i + 1) _ a' w' (by omega) (fun j => by have := hl (j + 1); simpa [Nat.add_assoc, Nat.add_comm 1 j] using this) hB.2 h'⟩) hw
theorem wpAnyT_end {l : List Oper} {fuel : Nat} {listed : Array Bool} {a : Act} {w : World} (hB : (Region.seqB md l.toArray (l.drop n).length n listed && decide (fuel = (l.drop n).length)) = true)
    (h : wpList P l.toArray Q (l.drop n) a w) : wpAnyT P md l.toArray Q S n fuel listed a w := by
  simp only [Bool.and_eq_true, decide_eq_true_eq] at hB
  obtain ⟨h1, rfl⟩ := hB
  exact wpAnyT_tail (l.drop n) n listed a w (Nat.le_refl _) (fun j => by simp [List.getElem?_drop]) h1 h
theorem wp_region_T {id : Nat} {a : Act} {w : World} (S : World → Prop) (n : Nat) (hm : P.follows .mixedOrders = true) (hS : S w.drew)
    (h : S w.drew → wpAnyT P .any ops Q S n ops.size (Array.replicate ops.size false) a w.drew) : (Code.region id ops true).wp P Q a w :=
  wp_region_any hm (wpAny_of_T _ _ _ _ (h hS))
end
end Go.Proofs.YtmgpffknmmoggaaGreatDoor
namespace Go.Proofs.YtmgpffknmmoggaaGreatDoor
open Go.RowKit
set_option maxRecDepth 100000
set_option linter.unusedVariables false
set_option maxHeartbeats 6400000
theorem with_o (e : En) (w : World) {v : Value} {M : List En} (h : Own w 0 44 3 v M.length (ecs M)) (he : okEn e = true) (hs : okM M) (hn : M.length ≤ 1000) :
    Calls Tryz.prog 70 #[v, enV e] w fun r w' => ∃ a c, r = .returned (.slice a (addE e M).length c) ∧ Own w' 0 44 3 (.slice a (addE e M).length c) (addE e M).length (ecs (addE e M)) ∧ Ext w w' ∧
      ∀ i, (Value.slice a (addE e M).length c).ownBlock = some i → v.ownBlock = some i ∨ w.heap.size ≤ i := by
  rw [← insE_addE he hs.sort hs.ok]
  refine (with_c e w h hs.sort hn).mono ?_
  rintro r w' ⟨v2, rfl, h2, hx⟩
  rcases h2 with ⟨h2, rfl⟩ | h2
  · obtain ⟨a, c, rfl, _⟩ := Ens.of_own h
    rw [h2]
    exact ⟨a, c, rfl, h.ext hx, hx, fun i hi => .inl hi⟩
  · have ho := Own.of_row h2
    obtain ⟨a, c, rfl, _⟩ := Ens.of_own ho
    exact ⟨a, c, rfl, ho.base (Nat.zero_le _), hx, fun i hi => .inr (ho.lt i hi).1⟩
section
variable {w w' : World} {gb : Nat} {m : Man} {ws B : List En} {vL vW vG : Value} {vs : List Value}
theorem docadd_no (h : DocI w gb m ws B vL vW vG vs) {e : En} (he : e.2.1 < 0 ∨ e.2.2 < 0) :
    Calls Tryz.prog 24 #[.pointer (some ⟨gb, 0, none⟩), enV e] w fun r w' => r = .returned (.int .i64 2) ∧ Ext w w' := by
  obtain ⟨e1, e2, e3⟩ := e
  show Calls _ _ #[_, .agg #[.int .u64 e1, .int .i64 e2, .int .i64 e3]] _ _
  have hx1 := ext_a1 w (.cells #[.int .u64 e1, .int .i64 e2, .int .i64 e3] 44)
  have HX1 := Lib.hid hx1
  have HP := Lib.hid (fun W => refput13_no (e1, e2, e3) W he)
  have hbk := Blk.new w 44 #[.int .u64 e1, .int .i64 e2, .int .i64 e3]
  have k0 : (w.alloc (.cells #[.int .u64 e1, .int .i64 e2, .int .i64 e3] 44)).cell? ⟨w.heap.size, 0, none⟩ = some (.int .u64 e1) := hbk.cell 0
  have k1 : (w.alloc (.cells #[.int .u64 e1, .int .i64 e2, .int .i64 e3] 44)).cell? ⟨w.heap.size, 1, none⟩ = some (.int .i64 e2) := hbk.cell 1
  have k2 : (w.alloc (.cells #[.int .u64 e1, .int .i64 e2, .int .i64 e3] 44)).cell? ⟨w.heap.size, 2, none⟩ = some (.int .i64 e3) := hbk.cell 2
  clear hx1 hbk he h
  go_enter Tryz.func24, Tryz.ntmps24
  go_wp2_with fail
  refine (HP.out _).mono ?_
  rintro e w1 ⟨rfl, hb⟩
  have HB := Lib.hid (HX1.out.trans hb)
  clear hb
  go_wp2_with fail
  go_ret
  exact ⟨rfl, HB.out⟩
theorem docadd_c (h : DocI w gb m ws B vL vW vG vs) {e : En} (he : okEn e = true) (hB : okM B) (hW : okM ws) (hl : B.length ≤ 1000) (hlw : ws.length ≤ 1000) :
    Calls Tryz.prog 24 #[.pointer (some ⟨gb, 0, none⟩), enV e] w fun r w' => r = .returned (.int .i64 0) ∧ OffS (fun i => i = gb) w w' ∧
      ∃ vL2 vW2, DocI w' gb m (addE e ws) (addE e B) vL2 vW2 vG vs ∧ (∀ i, vL2.ownBlock = some i → vL.ownBlock = some i ∨ w.heap.size ≤ i) ∧ (∀ i, vW2.ownBlock = some i → vW.ownBlock = some i ∨ w.heap.size ≤ i) := by
  obtain ⟨e1, e2, e3⟩ := e
  show Calls _ _ #[_, .agg #[.int .u64 e1, .int .i64 e2, .int .i64 e3]] _ _
  have hx1 := ext_a1 w (.cells #[.int .u64 e1, .int .i64 e2, .int .i64 e3] 44)
  have HX1 := Lib.hid hx1
  have hbk := Blk.new w 44 #[.int .u64 e1, .int .i64 e2, .int .i64 e3]
  have HPe : Hid (∃ b0 B, ∀ W, Calls Tryz.prog 69 #[.agg #[.int .u64 e1, .int .i64 e2, .int .i64 e3]] W fun r w' => r = .returned (.string ⟨(b0 :: B : List UInt8).toArray⟩) ∧ Ext W w') := Lib.hid (by
    obtain ⟨b0, B, hB⟩ : ∃ b0 B, entB (e1, e2, e3) = b0 :: B := by
      have := entB_length (e1, e2, e3)
      cases h : entB (e1, e2, e3) with
      | nil => rw [h] at this; cases this
      | cons a l => exact ⟨a, l, rfl⟩
    exact ⟨b0, B, fun W => hB ▸ refput13_c (e1, e2, e3) W he⟩)
  obtain ⟨b0, BB, hP⟩ := HPe.out
  have HP := Lib.hid hP
  obtain ⟨wA, hwA⟩ : ∃ W, w.alloc (.cells #[.int .u64 e1, .int .i64 e2, .int .i64 e3] 44) = W := ⟨_, rfl⟩
  obtain ⟨q, hq⟩ : ∃ q, w.heap.size = q := ⟨_, rfl⟩
  have HQ := Lib.hid hq
  rw [hwA] at HX1
  rw [hwA, hq] at hbk
  have HC : Hid (∀ W, Ext wA W → (W.cell? ⟨q, 0, none⟩ = some (.int .u64 e1) ∧ W.cell? ⟨q, 1, none⟩ = some (.int .i64 e2) ∧ W.cell? ⟨q, 2, none⟩ = some (.int .i64 e3)) ∧ W.cell? ⟨gb, 0, none⟩ = some vL ∧ W.cell? ⟨gb, 1, none⟩ = some vW) := Lib.hid fun W hW =>
    ⟨⟨(hbk.ext hW).cell 0, (hbk.ext hW).cell 1, (hbk.ext hW).cell 2⟩, (h.blk.ext (HX1.out.trans hW)).cell 0, (h.blk.ext (HX1.out.trans hW)).cell 1⟩
  have HW1 : Hid (∀ W, Ext wA W → _) := Lib.hid fun W (k : Ext wA W) => with_o (e1, e2, e3) W (h.oL.ext (HX1.out.trans k)) he hB hl
  have HW2 : Hid (∀ W, Ext wA W → _) := Lib.hid fun W (k : Ext wA W) => with_o (e1, e2, e3) W (h.oW.ext (HX1.out.trans k)) he hW hlw
  have HD := Lib.hid h
  obtain ⟨⟨k0, k1, k2⟩, y0, y1⟩ := HC.out wA (Ext.refl _)
  clear hx1 hbk HPe hP h he hB hW
  go_enter Tryz.func24, Tryz.ntmps24
  go_wp2_with fail
  try rw [hwA]
  try rw [hq]
  refine (HP.out _).mono ?_
  rintro e w1 ⟨rfl, hb⟩
  have HB := Lib.hid hb
  clear hb k0 k1 k2 y0 y1 hwA hq
  go_wp2_with fail
  have HX0 := Lib.hid (HB.out.drew)
  refine wp_region_T (fun W => ((W.cell? ⟨q, 0, none⟩ = some (.int .u64 e1) ∧ W.cell? ⟨q, 1, none⟩ = some (.int .i64 e2) ∧ W.cell? ⟨q, 2, none⟩ = some (.int .i64 e3)) ∧ W.cell? ⟨gb, 0, none⟩ = some vL ∧ W.cell? ⟨gb, 1, none⟩ = some vW) ∧ Hid (Ext wA W)) 14 (by kernel_rfl) ⟨HC.out _ HX0.out, HX0⟩ (fun hHeld => ?_)
  refine wpAnyT_takeW (i := 0) (v := ?_) rfl (by kernel_rfl) (fun _ _ _ h => h) (Or.inl ⟨by rfl, ?_⟩) hHeld (fun hHeld => ?_)
  rotate_left
  · (intro w hSw; (try dsimp only at hSw); go_simp; try with_reducible rfl)
  simp only [Act.put, List.setIfInBounds_toArray, List.set_cons_zero, List.set_cons_succ]
  refine wpAnyT_takeW (i := 1) (v := ?_) rfl (by kernel_rfl) (fun _ _ _ h => h) (Or.inl ⟨by rfl, ?_⟩) hHeld (fun hHeld => ?_)
  rotate_left
  · (intro w hSw; (try dsimp only at hSw); go_simp; try with_reducible rfl)
  simp only [Act.put, List.setIfInBounds_toArray, List.set_cons_zero, List.set_cons_succ]
  refine wpAnyT_take (i := 2) (v := ?_) rfl (by kernel_rfl) (fun _ _ _ h => h) (Or.inl ⟨by rfl, ?_⟩) hHeld (fun hHeld => ?_)
  rotate_left
  · (intro w hSw; (try dsimp only at hSw); go_simp; try with_reducible rfl)
  simp only [Act.put, List.setIfInBounds_toArray, List.set_cons_zero, List.set_cons_succ]
  refine wpAnyT_take (i := 3) (v := ?_) rfl (by kernel_rfl) (fun _ _ _ h => h) (Or.inl ⟨by rfl, ?_⟩) hHeld (fun hHeld => ?_)
  rotate_left
  · (intro w hSw; (try dsimp only at hSw); go_simp; try with_reducible rfl)
  simp only [Act.put, List.setIfInBounds_toArray, List.set_cons_zero, List.set_cons_succ]
  refine wpAnyT_take (i := 4) (v := ?_) rfl (by kernel_rfl) (fun _ _ _ h => h) (Or.inl ⟨by rfl, ?_⟩) hHeld (fun hHeld => ?_)
  rotate_left
  · (intro w hSw; (try dsimp only at hSw); go_simp; try with_reducible rfl)
  simp only [Act.put, List.setIfInBounds_toArray, List.set_cons_zero, List.set_cons_succ]
  refine wpAnyT_take (i := 5) (v := ?_) rfl (by kernel_rfl) (fun _ _ _ h => h) (Or.inl ⟨by rfl, ?_⟩) hHeld (fun hHeld => ?_)
  rotate_left
  · (intro w hSw; (try dsimp only at hSw); go_simp; try with_reducible rfl)
  simp only [Act.put, List.setIfInBounds_toArray, List.set_cons_zero, List.set_cons_succ]
  refine wpAnyT_take (i := 6) (v := ?_) rfl (by kernel_rfl) (fun _ _ _ h => h) (Or.inl ⟨by rfl, ?_⟩) hHeld (fun hHeld => ?_)
  rotate_left
  · (intro w hSw; (try dsimp only at hSw); go_simp; try with_reducible rfl)
  simp only [Act.put, List.setIfInBounds_toArray, List.set_cons_zero, List.set_cons_succ]
  refine wpAnyT_take (i := 8) (v := ?_) rfl (by kernel_rfl) (fun _ _ _ h => h) (Or.inl ⟨by rfl, ?_⟩) hHeld (fun hHeld => ?_)
  rotate_left
  · (intro w hSw; (try dsimp only at hSw); go_simp; try with_reducible rfl)
  simp only [Act.put, List.setIfInBounds_toArray, List.set_cons_zero, List.set_cons_succ]
  refine wpAnyT_take (i := 9) (v := ?_) rfl (by kernel_rfl) (fun _ _ _ h => h) (Or.inl ⟨by rfl, ?_⟩) hHeld (fun hHeld => ?_)
  rotate_left
  · (intro w hSw; (try dsimp only at hSw); go_simp; try with_reducible rfl)
  simp only [Act.put, List.setIfInBounds_toArray, List.set_cons_zero, List.set_cons_succ]
  refine wpAnyT_take (i := 10) (v := ?_) rfl (by kernel_rfl) (fun _ _ _ h => h) (Or.inl ⟨by rfl, ?_⟩) hHeld (fun hHeld => ?_)
  rotate_left
  · (intro w hSw; (try dsimp only at hSw); go_simp; try with_reducible rfl)
  simp only [Act.put, List.setIfInBounds_toArray, List.set_cons_zero, List.set_cons_succ]
  refine wpAnyT_take (i := 11) (v := ?_) rfl (by kernel_rfl) (fun _ _ _ h => h) (Or.inl ⟨by rfl, ?_⟩) hHeld (fun hHeld => ?_)
  rotate_left
  · (intro w hSw; (try dsimp only at hSw); go_simp; try with_reducible rfl)
  simp only [Act.put, List.setIfInBounds_toArray, List.set_cons_zero, List.set_cons_succ]
  refine wpAnyT_take (i := 12) (v := ?_) rfl (by kernel_rfl) (fun _ _ _ h => h) (Or.inl ⟨by rfl, ?_⟩) hHeld (fun hHeld => ?_)
  rotate_left
  · (intro w hSw; (try dsimp only at hSw); go_simp; try with_reducible rfl)
  simp only [Act.put, List.setIfInBounds_toArray, List.set_cons_zero, List.set_cons_succ]
  refine wpAnyT_step (i := 7) (by kernel_rfl) rfl (fun K hK => ?_)
  go_simp
  go_at_call 70
  refine (HW1.out _ hHeld.2.out).mono ?_
  rintro e w5 ⟨a1, c1, rfl, ho1, hx5, hn1⟩
  have HX5 : Hid (Ext wA w5) := Lib.hid (hHeld.2.out.trans hx5)
  have HO1 := Lib.hid ho1; have HN1 := Lib.hid hn1
  have HS5 := Lib.hid (HC.out _ HX5.out)
  clear ho1 hx5 hn1 hHeld
  refine hK.out _ _ ⟨HS5.out, HX5⟩ (fun hHeld => ?_)
  clear hK K
  try simp only [Act.put, List.setIfInBounds_toArray, List.set_cons_zero, List.set_cons_succ]
  refine wpAnyT_step (i := 13) (by kernel_rfl) rfl (fun K hK => ?_)
  go_simp
  go_at_call 70
  refine (HW2.out _ hHeld.2.out).mono ?_
  rintro e w6 ⟨a2, c2, rfl, ho2, hx6, hn2⟩
  have HX56 := Lib.hid hx6
  have HX6 : Hid (Ext wA w6) := Lib.hid (hHeld.2.out.trans hx6)
  have HO2 := Lib.hid ho2; have HN2 := Lib.hid hn2
  have HS6 := Lib.hid (HC.out _ HX6.out)
  clear ho2 hx6 hn2 hHeld
  refine hK.out _ _ ⟨HS6.out, HX6⟩ (fun hHeld => ?_)
  clear hK K hHeld
  try simp only [Act.put, List.setIfInBounds_toArray, List.set_cons_zero, List.set_cons_succ]
  refine wpAnyT_end (by kernel_rfl) ?_
  simp only [List.drop_succ_cons, List.drop_zero]
  have hbk := HD.out.blk.ext (HX1.out.trans HX6.out)
  have HB6 := Lib.hid hbk
  have g0 := hbk.free 0; have g1 := hbk.free 1
  have m0 : w6.cell? ⟨gb, 0, none⟩ = some vL := hbk.cell 0
  have m1 : w6.cell? ⟨gb, 1, none⟩ = some vW := hbk.cell 1
  clear hbk
  go_wp2_with fail
  go_ret
  have hX : Ext w w6 := HX1.out.trans HX6.out
  have ho1 := HO1.out.ext HX56.out
  have hoff : OffS (fun i => i = gb) w6 ((w6.setCell ⟨gb, 0, none⟩ (.slice a1 (addE (e1, e2, e3) B).length c1)).setCell ⟨gb, 1, none⟩ (.slice a2 (addE (e1, e2, e3) ws).length c2)) := (OffS.set (F := fun i => i = gb) w6 rfl 0 _).trans (OffS.set (F := fun i => i = gb) _ rfl 1 _)
  have hlt := HB6.out.lt
  refine ⟨rfl, (OffS.of_ext hX).trans hoff, _, _, ⟨(HB6.out.set 0 _).set 1 _, hoff.own ho1 fun i hi e => HB6.out.own ho1 (by decide) (e ▸ hi), hoff.own HO2.out fun i hi e => HB6.out.own HO2.out (by decide) (e ▸ hi), ?_⟩, fun i hi => (HN1.out i hi).imp id fun h => Nat.le_trans (HX1.out.trans HX0.out).size h, fun i hi => (HN2.out i hi).imp id fun h => Nat.le_trans (HX1.out.trans HX5.out).size h⟩
  have hne := ogr_ne (ogr_same HD.out.lev fun i hi => hX.block i (ogr_lt HD.out.lev i hi).2) HB6.out (by decide) (by decide)
  exact ogr_same HD.out.lev fun i hi => (hoff.block i (Nat.lt_of_lt_of_le (ogr_lt HD.out.lev i hi).2 hX.size) (hne i hi)).trans (hX.block i (ogr_lt HD.out.lev i hi).2)
end
end Go.Proofs.YtmgpffknmmoggaaGreatDoor
