/- Walks: whether levels may be. Walks: whether levels may be, by the document. Plain laws on numbers as bytes: no program here. Walks: whether a manifest may be. Walks: the document's five levels, and trimmed ones. Plain laws: what adding and replacing make of all tables. Walks: numbers as bytes. -/
import Derived.Test.YtjllhjlmjbpinaaChecked
import Derived.Test.YtjllhjlmjbpinaaG6PIndexmapCrash
import Derived.Maps.OwnOps
import Derived.Maps.OwnSet
import Derived.Maps.Views
import Derived.Test.YtjllhjlmjbpinaaG1PIndexmapCrash
import Derived.Lib.EndianBits
import Derived.WalkSpells
import Derived.Test.YtjllhjlmjbpinaaG2PIndexmapCrash
namespace Go.Proofs.Ytjllhjlmjbpinaa
open Go.RowKit Go.Maps

theorem Try.keyInt : Keyed Try.prog 3 := int_keyed Try.underlying3
theorem Try.zeroInt (w : World) : (zeroValue 3).run Try.prog w = .ok (.int .i64 0) w := by kernel_rfl

/-- the map in block b has 1 at those numbers, nothing elsewhere -/
def Seen (w : World) (b n : Nat) (xs : List Int) : Prop :=
  ∃ D : DataW Unit, w.ownsMap Try.prog 3 (plainElem Try.prog 3) b n D ∧ ∀ x, D.atKey (.int .i64 x) (.lit (.int .i64 0)) = .lit (.int .i64 (if x ∈ xs then 1 else 0))

theorem Seen.made (w : World) : Seen (w.alloc (.map #[] 0)) w.heap.size 0 [] := ⟨_, World.ownsMap_made _ _ _ _, fun x => by simp [DataW.atKey]⟩

set_option maxRecDepth 100000 in
theorem Seen.look {w : World} {b n : Nat} {xs : List Int} (h : Seen w b n xs) (x : Int) (hw : (Lit.int .i64 x).wf = true) :
    (Instr.lookup 107 (.map (some b)) (.int .i64 x) false).run Try.prog w = .ok (.int .i64 (if x ∈ xs then 1 else 0)) w := by
  obtain ⟨D, h1, h2⟩ := h
  obtain ⟨c, hrun, hat, _⟩ := h1.lookup_int Try.keyInt Try.underlying107 Try.underlying3 (Try.zeroInt _) (keyOf_int_mk Try.underlying3 hw)
  rw [h2 x] at hat
  injection hat with hat
  injection hat with _ hat
  rw [hat]; exact hrun

theorem Seen.put {w' : World} {b n : Nat} {xs : List Int} {D : DataW Unit} (hD : ∀ x, D.atKey (.int .i64 x) (.lit (.int .i64 0)) = .lit (.int .i64 (if x ∈ xs then 1 else 0))) (hm : IsMap D) (x : Int)
    (h : w'.ownsMap Try.prog 3 (plainElem Try.prog 3) b n (D.put (.int .i64 x) (.lit (.int .i64 1)))) (ys : List Int) (hy : ∀ z, z ∈ ys ↔ (z ∈ xs ∨ z = x)) : Seen w' b n ys := by
  refine ⟨_, h, fun z => ?_⟩
  by_cases hz : z = x
  · subst hz
    rw [atKey_put_same hm (k := .int .i64 z) (show WideAt.IsKeyLit (.int .i64 z) from trivial), if_pos ((hy z).2 (.inr rfl))]
  · rw [atKey_put_other (by intro h; injection h with _ h; exact hz h), hD z]
    have : (z ∈ ys) ↔ (z ∈ xs) := by rw [hy]; exact ⟨fun h => h.elim id fun h => (hz h).elim, .inl⟩
    simp only [this]

set_option maxRecDepth 100000 in
set_option maxHeartbeats 1600000 in
theorem valid_c (ao : Option Addr) (n cap : Nat) (L : List (List Int)) (w : World) (hx : Grid w ao n cap L) (hsum : L.flatten.length ≤ 17592186044416) (hwf : ∀ x ∈ L.flatten, (Lit.int .i64 x).wf = true) :
    Calls Try.prog 66 #[.slice ao n cap] w fun e w' => e = .returned (.bool (validB L)) ∧ Ext w w' := by
  have Hx := Lib.hid hx
  have b1 := hx.fits; have b2 := hx.bound; have hl := hx.len
  have HL := Lib.hid hl
  have HWF := Lib.hid hwf
  clear hx hl hwf
  have hmm := @run_makeMap Try.prog
  go_enter Try.func66, Try.ntmps66
  go_wp2_with fail
  refine (all_c _ _ _ L _ Hx.out hsum).mono ?_
  rintro e w1 ⟨v1, rfl, hown, hb1⟩
  obtain ⟨a1, c1, rfl, hi⟩ := own_ints hown
  have HB1 := Lib.hid hb1
  have HI := Lib.hid hi
  have f1 := hi.fits; have f2 := hi.bound
  clear hown hb1 hi
  have V1 := Lib.hid (validB_many L); have V2 := Lib.hid (validB_great L); have V3 := Lib.hid (validB_neg L); have V4 := Lib.hid (validB_dup L); have V5 := Lib.hid (validB_ok L)
  generalize L.flatten = xs at *
  by_cases h5 : 5 < n
  · go_wp2_with fail
    go_ret
    exact ⟨rb (V1.out (by rw [HL.out]; exact h5)), HB1.out⟩
  by_cases h40 : 40 < xs.length
  · go_wp2_with fail
    go_ret
    exact ⟨rb (V2.out h40), HB1.out⟩
  go_wp2_with fail
  go_loopw [20] (fun i w' => ∃ k : Nat, k ≤ xs.length ∧ i = .int .i64 k ∧ Seen w' w1.heap.size k (xs.take k) ∧ (∀ x ∈ xs.take k, 0 ≤ x) ∧ (xs.take k).Nodup ∧ Ext w1 w') (fun i _ => xs.length - (intOf i).toNat)
  case atStart => exact ⟨0, Nat.zero_le _, rfl, Seen.made _, by simp, by simp, (Ext.refl _).alloc _⟩
  case round =>
    obtain ⟨k, hk, rfl, hseen, hpos, hnd, hb⟩ := hrel
    have HS := Lib.hid hseen; have HP := Lib.hid hpos; have HN := Lib.hid hnd; have Hb := Lib.hid hb
    clear hseen hpos hnd hb
    by_cases hlt : k < xs.length
    · obtain ⟨b, off, rfl, d1⟩ := (HI.out.ext Hb.out).at hlt
      have v3 := V3.out k hlt
      have v4 := V4.out k hlt
      have n1 := nonneg_take_succ xs k hlt HP.out
      have n2 := nodup_take_succ xs k hlt HN.out
      have n3 := mem_take_succ xs k hlt
      have hwx := HWF.out _ (getD_mem xs k hlt)
      generalize xs.getD k 0 = X at *
      have V3' := Lib.hid v3; have V4' := Lib.hid v4; have N1 := Lib.hid n1; have N2 := Lib.hid n2; have N3 := Lib.hid n3; have HWX := Lib.hid hwx
      clear v3 v4 n1 n2 n3 hwx
      by_cases hneg : X < 0
      · go_wp2_with fail
        go_ret
        exact ⟨rb (V3'.out hneg), HB1.out.trans Hb.out⟩
      · have hlook := HS.out.look X HWX.out
        by_cases hin : X ∈ xs.take k
        · rw [if_pos hin] at hlook
          have HIN := Lib.hid hin; clear hin
          go_wp2_with fail
          go_ret
          exact ⟨rb (V4'.out HIN.out), HB1.out.trans Hb.out⟩
        · rw [if_neg hin] at hlook
          have HIN := Lib.hid hin; clear hin
          obtain ⟨D, o1, o2⟩ := HS.out
          have O1 := Lib.hid o1; have O2 := Lib.hid o2; clear o1 o2
          go_wp2_with (at_mapUpdate; refine wpList_mapUpdate_own _ rfl _ _ _ 107 rfl 3 3 Try.keyInt Try.underlying107 _ w1.heap.size k _ rfl O1.out (by unfold maxLen; omega) _ _ _ rfl rfl (keyOf_int_mk Try.underlying3 HWX.out) _ [] (plainElem_int Try.underlying3 (by decide)) ?_; intro w2 hown2 hgrow2)
          have hs2 := Seen.put O2.out (World.ownsMap.isMap O1.out) X hown2 (xs.take (k + 1)) N3.out
          have hb2 : Ext w1 w2 := Hb.out.grown hgrow2 Hb.out.size (fun j hj => by cases hj; exact Nat.le_refl _)
          have HS2 := Lib.hid hs2; have HB2 := Lib.hid hb2
          clear hs2 hb2 hown2 hgrow2
          go_wp2_with fail
          go_roundw
          case rel => exact ⟨k + 1, by omega, by go_num, HS2.out, N1.out hneg, N2.out HIN.out, HB2.out⟩
          case measure => simp [intOf]; omega
    · have hk2 : xs.take k = xs := List.take_of_length_le (by omega)
      have HK := Lib.hid hk2; clear hk2
      go_wp2_with fail
      go_ret
      exact ⟨rb (V5.out (by rw [HL.out]; omega) (by omega) (by have := HP.out; rwa [HK.out] at this) (by have := HN.out; rwa [HK.out] at this)), HB1.out.trans Hb.out⟩

end Go.Proofs.Ytjllhjlmjbpinaa
namespace Go.Proofs.Ytjllhjlmjbpinaa
open Go.RowKit

set_option maxRecDepth 100000 in
set_option maxHeartbeats 1600000 in
theorem refvalid_c (ao : Option Addr) (n cap : Nat) (L : List (List Int)) (w : World) (hx : Grid w ao n cap L) (hsum : L.flatten.length ≤ 17592186044416) :
    Calls Try.prog 98 #[.slice ao n cap] w fun e w' => e = .returned (.bool (validB L)) ∧ Ext w w' := by
  have Hx := Lib.hid hx
  have b1 := hx.fits; have b2 := hx.bound; have hl := hx.len
  have HL := Lib.hid hl
  clear hx hl
  go_enter Try.func98, Try.ntmps98
  go_wp2_with fail
  refine (refall_c _ _ _ L _ Hx.out hsum).mono ?_
  rintro e w1 ⟨v1, rfl, hown, hb1⟩
  obtain ⟨a1, c1, rfl, hi⟩ := own_ints hown
  have HB1 := Lib.hid hb1
  have HI := Lib.hid hi
  have f1 := hi.fits; have f2 := hi.bound
  clear hown hb1 hi
  have V1 := Lib.hid (validB_many L); have V2 := Lib.hid (validB_great L); have V3 := Lib.hid (validB_neg L); have V4 := Lib.hid (validB_dup L); have V5 := Lib.hid (validB_ok L)
  generalize L.flatten = xs at *
  by_cases h5 : 5 < n
  · go_wp2_with fail
    go_ret
    exact ⟨rb (V1.out (by rw [HL.out]; exact h5)), HB1.out⟩
  by_cases h40 : 40 < xs.length
  · go_wp2_with fail
    go_ret
    exact ⟨rb (V2.out h40), HB1.out⟩
  go_wp2_with fail
  go_loopw [4] (fun i w' => ∃ k : Nat, k ≤ xs.length ∧ i = .int .i64 k ∧ (∀ x ∈ xs.take k, 0 ≤ x) ∧ (xs.take k).Nodup ∧ Ext w1 w') (fun i _ => xs.length - (intOf i).toNat)
  case atStart => exact ⟨0, Nat.zero_le _, rfl, by simp, by simp, Ext.refl _⟩
  case round =>
    obtain ⟨k, hk, rfl, hpos, hnd, hb⟩ := hrel
    have HP := Lib.hid hpos; have HN := Lib.hid hnd; have Hb := Lib.hid hb
    clear hpos hnd hb
    by_cases hlt : k < xs.length
    · obtain ⟨b, off, rfl, d1⟩ := (HI.out.ext Hb.out).at hlt
      have d2 := cell_of d1
      have v3 := V3.out k hlt
      have v4 := V4.out k hlt
      have n1 := nonneg_take_succ xs k hlt HP.out
      have n2 := nodup_take_succ xs k hlt HN.out
      generalize xs.getD k 0 = X at *
      have V3' := Lib.hid v3; have V4' := Lib.hid v4; have N1 := Lib.hid n1; have N2 := Lib.hid n2
      clear v3 v4 n1 n2
      go_wp2_with fail
      by_cases hneg : X < 0
      · have hd : decide (X < 0) = true := decide_eq_true hneg
        refine wp_region_ext (by kernel_rfl) (by kernel_rfl) ?_
        repeat (go_big_quiet_step (fail))
        refine wpQuiet_nil ?_
        intro w2 hw2
        have HW := Lib.hid hw2; clear hw2
        go_wp2_with fail
        go_ret
        exact ⟨rb (V3'.out hneg), HB1.out.trans (Hb.out.trans HW.out)⟩
      · have hd : decide (X < 0) = false := decide_eq_false hneg
        by_cases hin : X ∈ xs.take k
        · have hm := Lib.hid (decide_eq_true hin)
          have HIN := Lib.hid hin; clear hin
          refine wp_region_ext (by kernel_rfl) (by kernel_rfl) ?_
          repeat (go_big_quiet_step (exact Calls.quiet_ext (Calls.to (congrArg Value.bool hm.out) (has_c _ _ _ _ _ _ (((HI.out.ext Hb.out).ext (ExtOf.h _)).cut (by omega))))))
          refine wpQuiet_nil ?_
          intro w2 hw2
          have HW := Lib.hid hw2; clear hw2
          go_wp2_with fail
          go_ret
          exact ⟨rb (V4'.out HIN.out), HB1.out.trans (Hb.out.trans HW.out)⟩
        · have hm := Lib.hid (decide_eq_false hin)
          have HIN := Lib.hid hin; clear hin
          refine wp_region_ext (by kernel_rfl) (by kernel_rfl) ?_
          repeat (go_big_quiet_step (exact Calls.quiet_ext (Calls.to (congrArg Value.bool hm.out) (has_c _ _ _ _ _ _ (((HI.out.ext Hb.out).ext (ExtOf.h _)).cut (by omega))))))
          refine wpQuiet_nil ?_
          intro w2 hw2
          have HW := Lib.hid hw2; clear hw2
          go_wp2_with fail
          go_roundw
          case rel => exact ⟨k + 1, by omega, by go_num, N1.out (by omega), N2.out HIN.out, Hb.out.trans HW.out⟩
          case measure => simp [intOf]; omega
    · have hk2 : xs.take k = xs := List.take_of_length_le (by omega)
      have HK := Lib.hid hk2; clear hk2
      go_wp2_with fail
      go_ret
      exact ⟨rb (V5.out (by rw [HL.out]; omega) (by omega) (by have := HP.out; rwa [HK.out] at this) (by have := HN.out; rwa [HK.out] at this)), HB1.out.trans Hb.out⟩

end Go.Proofs.Ytjllhjlmjbpinaa
namespace Go.Proofs.Ytjllhjlmjbpinaa

/-- the last k bytes of x, the highest first -/
def be : Nat → Nat → List UInt8
  | 0, _ => []
  | k + 1, x => UInt8.ofNat (x / 256 ^ k) :: be k x

/-- the number of bytes, the highest first -/
def unbe (l : List UInt8) : Nat := l.foldl (fun a b => a * 256 + b.toNat) 0

theorem be_length (k x : Nat) : (be k x).length = k := by
  induction k with
  | zero => rfl
  | succ k ih => simp [be, ih]

theorem unbe_foldl (l : List UInt8) : ∀ a, l.foldl (fun a b => a * 256 + b.toNat) a = a * 256 ^ l.length + unbe l := by
  induction l with
  | nil => intro a; simp [unbe]
  | cons b l ih =>
    intro a
    have h2 : unbe (b :: l) = (0 * 256 + b.toNat) * 256 ^ l.length + unbe l := by
      unfold unbe; rw [List.foldl_cons]; exact ih _
    rw [List.foldl_cons, ih, h2, List.length_cons, Nat.pow_succ, Nat.add_mul, Nat.zero_mul, Nat.zero_add, Nat.mul_assoc, Nat.mul_comm 256, Nat.add_assoc]

theorem unbe_cons (b : UInt8) (l : List UInt8) : unbe (b :: l) = b.toNat * 256 ^ l.length + unbe l := by
  unfold unbe
  rw [List.foldl_cons, unbe_foldl]
  simp [unbe]

theorem unbe_snoc (l : List UInt8) (b : UInt8) : unbe (l ++ [b]) = unbe l * 256 + b.toNat := by
  unfold unbe; rw [List.foldl_append]; rfl

theorem unbe_lt (l : List UInt8) : unbe l < 256 ^ l.length := by
  induction l with
  | nil => simp [unbe]
  | cons b l ih =>
    rw [unbe_cons, List.length_cons, Nat.pow_succ]
    have := b.toNat_lt
    have h : b.toNat * 256 ^ l.length ≤ 255 * 256 ^ l.length := Nat.mul_le_mul_right _ (by omega)
    omega

theorem unbe_be (k x : Nat) : unbe (be k x) = x % 256 ^ k := by
  induction k with
  | zero => simp [be, unbe, Nat.mod_one]
  | succ k ih =>
    rw [be, unbe_cons, be_length, ih, Nat.pow_succ, Nat.mod_mul]
    simp only [UInt8.toNat_ofNat']
    rw [Nat.mul_comm (256 ^ k), Nat.add_comm]

theorem be_unbe (l : List UInt8) : be l.length (unbe l) = l := by
  induction l with
  | nil => rfl
  | cons b l ih =>
    have h := unbe_lt l
    have hp : 0 < 256 ^ l.length := Nat.pow_pos (by decide)
    rw [List.length_cons, be, unbe_cons]
    have e1 : (b.toNat * 256 ^ l.length + unbe l) / 256 ^ l.length = b.toNat := by
      rw [Nat.add_comm, Nat.add_mul_div_right _ _ hp, Nat.div_eq_of_lt h]; omega
    have e2 : ∀ k, k ≤ l.length → be k (b.toNat * 256 ^ l.length + unbe l) = be k (unbe l) := by
      intro k
      induction k with
      | zero => intro _; rfl
      | succ k ih2 =>
        intro hk
        rw [be, be, ih2 (by omega)]
        congr 1
        have e3 : 256 ^ l.length = 256 ^ k * (256 * 256 ^ (l.length - k - 1)) := by
          rw [← Nat.mul_assoc, ← Nat.pow_succ, ← Nat.pow_add]; congr 1; omega
        have hk0 : 0 < 256 ^ k := Nat.pow_pos (by decide)
        have e4 : (b.toNat * 256 ^ l.length + unbe l) / 256 ^ k = b.toNat * 256 ^ (l.length - k - 1) * 256 + unbe l / 256 ^ k := by
          rw [e3, show b.toNat * (256 ^ k * (256 * 256 ^ (l.length - k - 1))) + unbe l = unbe l + 256 ^ k * (b.toNat * 256 ^ (l.length - k - 1) * 256) from by
            rw [Nat.add_comm]; congr 1
            rw [Nat.mul_left_comm, Nat.mul_comm 256 (256 ^ _), ← Nat.mul_assoc b.toNat],
            Nat.add_mul_div_left _ _ hk0, Nat.add_comm]
        rw [e4]
        apply UInt8.toNat_inj.1
        simp only [UInt8.toNat_ofNat']
        omega
    rw [e1, e2 _ (Nat.le_refl _), ih]
    congr 1
    apply UInt8.toNat_inj.1
    simp

theorem set_pad (n : Nat) (L : List Value) (z v : Value) : (List.replicate (n + 1) z ++ L).set n v = List.replicate n z ++ v :: L := by
  rw [List.replicate_succ', List.append_assoc, List.set_append]
  simp

/-- the byte that nums.Put writes -/
theorem put_byte (X k : Nat) : ((X : Int) / 2 ^ (8 * k) % 256) = ((UInt8.ofNat (X / 256 ^ k)).toNat : Int) := by
  have : (2 : Nat) ^ (8 * k) = 256 ^ k := by rw [Nat.pow_mul]
  rw [UInt8.toNat_ofNat']
  rw [← this]
  simp

theorem u64_or_byte (Z : Int) (b : UInt8) (h0 : 0 ≤ Z) (h1 : Z < 72057594037927936) : bits .or .u64 (Z * 256) (IntKind.u64.wrap (b.toNat : Int)) = Z * 256 + (b.toNat : Int) := by
  have hb := b.toNat_lt
  have hw : IntKind.u64.wrap (b.toNat : Int) = (b.toNat : Int) := by rw [Go.IntKind.wrap_u64]; omega
  rw [hw]
  exact bits_join .u64 64 (by decide) wraps_u64 8 _ _ (by omega) (by omega) (by omega) (by omega) (by omega) (by omega)

/-- the parts by times: the document's way to put a number -/
theorem be_div (k x : Nat) : ∀ i, be i (x / 256 ^ k) ++ be k x = be (i + k) x := by
  intro i
  induction i with
  | zero => simp [be]
  | succ i ih =>
    rw [Nat.add_right_comm, be, be, List.cons_append, ih, Nat.div_div_eq_div_mul, ← Nat.pow_add, Nat.add_comm k i]

end Go.Proofs.Ytjllhjlmjbpinaa
namespace Go.Proofs.Ytjllhjlmjbpinaa
open Go.RowKit

/-- what may be a manifest -/
def mvalid (nx ck : Int) (L : List (List Int)) : Bool := decide (0 ≤ nx ∧ nx ≤ 1000000 ∧ 0 ≤ ck ∧ ck ≤ 2147483647) && validB L && L.flatten.all fun x => decide (x < nx)

theorem mvalid_num {nx ck : Int} {L : List (List Int)} (h : ¬ (0 ≤ nx ∧ nx ≤ 1000000 ∧ 0 ≤ ck ∧ ck ≤ 2147483647)) : mvalid nx ck L = false := by
  unfold mvalid; rw [decide_eq_false h]; rfl
theorem mvalid_lev {nx ck : Int} {L : List (List Int)} (h : validB L = false) : mvalid nx ck L = false := by
  unfold mvalid; rw [h, Bool.and_false, Bool.false_and]
theorem mvalid_all {nx ck : Int} {L : List (List Int)} (h : 0 ≤ nx ∧ nx ≤ 1000000 ∧ 0 ≤ ck ∧ ck ≤ 2147483647) (h2 : validB L = true) : mvalid nx ck L = L.flatten.all fun x => decide (x < nx) := by
  unfold mvalid; rw [decide_eq_true h, h2, Bool.true_and, Bool.true_and]

theorem box4 {w w1 : World} {a b c d : Value} {t : TypeId} (h : Ext (w.alloc (.cells #[a, b, c, d] t)) w1) :
    w1.cell? ⟨w.heap.size, 0, none⟩ = some a ∧ w1.cell? ⟨w.heap.size, 1, none⟩ = some b ∧ w1.cell? ⟨w.heap.size, 2, none⟩ = some c ∧ w1.cell? ⟨w.heap.size, 3, none⟩ = some d :=
  ⟨cell_ext h (by simp), cell_ext h (by simp), cell_ext h (by simp), cell_ext h (by simp)⟩

theorem above_c (x nx : Int) (g : Nat) (w : World) (h : w.cell? ⟨g, 0, none⟩ = some (.int .i64 nx)) :
    Calls Try.prog 69 #[.int .i64 x, .pointer (some ⟨g, 0, none⟩)] w fun e w' => e = .returned (.bool (decide (nx ≤ x))) ∧ Ext w w' := by
  go_enter Try.func69, Try.ntmps69
  go_wp2_with fail
  go_ret
  exact ⟨rfl, Ext.refl _⟩

/-- the first place of a number from nx on, or -1 -/
def idxAbove (xs : List Int) (nx : Int) : Int := if xs.any (fun x => decide (nx ≤ x)) then (xs.findIdx (fun x => decide (nx ≤ x)) : Int) else -1

theorem idxAbove_hit (xs : List Int) (nx : Int) (k : Nat) (hk : k < xs.length) (h0 : (xs.take k).any (fun x => decide (nx ≤ x)) = false) (h1 : nx ≤ xs.getD k 0) : idxAbove xs nx = k := by
  have ha : xs.any (fun x => decide (nx ≤ x)) = true := any_of_getD _ 0 xs k hk (decide_eq_true h1)
  unfold idxAbove
  rw [if_pos ha]
  have : xs.findIdx (fun x => decide (nx ≤ x)) = k := by
    rw [List.findIdx_eq hk]
    refine ⟨?_, fun j hj => ?_⟩
    · rw [List.getD_eq_getElem?_getD, List.getElem?_eq_getElem hk] at h1
      exact decide_eq_true h1
    · rw [List.any_eq_false] at h0
      have := h0 xs[j] (List.mem_take_iff_getElem.2 ⟨j, by omega, rfl⟩)
      simpa using this
  rw [this]

theorem idxAbove_miss (xs : List Int) (nx : Int) (h : xs.any (fun x => decide (nx ≤ x)) = false) : idxAbove xs nx = -1 := by
  unfold idxAbove; rw [h]; rfl

theorem idxAbove_pos (xs : List Int) (nx : Int) : decide (0 ≤ idxAbove xs nx) = xs.any (fun x => decide (nx ≤ x)) := by
  unfold idxAbove
  cases h : xs.any (fun x => decide (nx ≤ x))
  · simp
  · simp

theorem all_not_above (xs : List Int) (nx : Int) : (!(xs.any fun x => decide (nx ≤ x))) = xs.all fun x => decide (x < nx) := by
  rw [List.not_any_eq_all_not]
  congr 1
  funext x
  by_cases h : nx ≤ x
  · rw [decide_eq_true h, decide_eq_false (by omega)]; rfl
  · rw [decide_eq_false h, decide_eq_true (by omega)]; rfl

set_option maxRecDepth 100000 in
set_option maxHeartbeats 1600000 in
theorem idxf_c (ao : Option Addr) (n cap : Nat) (xs : List Int) (nx : Int) (g : Nat) (w : World) (hx : Ints w ao n cap xs) (hg : w.cell? ⟨g, 0, none⟩ = some (.int .i64 nx)) :
    Calls Try.prog 91 #[.slice ao n cap, .func (Fn.func 69) #[] #[.pointer (some ⟨g, 0, none⟩)]] w fun e w' => e = .returned (.int .i64 (idxAbove xs nx)) ∧ Ext w w' := by
  have Hx := Lib.hid hx
  have HG := Lib.hid hg
  have b1 := hx.fits; have b2 := hx.bound
  clear hx hg
  go_enter Try.func91, Try.ntmps91
  go_wp2_with fail
  go_loopw [8] (fun i w' => ∃ k : Nat, k ≤ n ∧ i = .int .i64 k ∧ (xs.take k).any (fun x => decide (nx ≤ x)) = false ∧ Ext w w') (fun i _ => n - (intOf i).toNat)
  case atStart => exact ⟨0, Nat.zero_le _, rfl, by simp, Ext.refl _⟩
  case round =>
    obtain ⟨k, hk, rfl, heq, hb⟩ := hrel
    have Heq := Lib.hid heq; have Hb := Lib.hid hb
    clear heq hb
    by_cases hlt : k < n
    · obtain ⟨b, off, rfl, c1⟩ := (Hx.out.ext Hb.out).at hlt
      generalize hX : xs.getD k 0 = X at *
      have HX := Lib.hid hX; clear hX
      go_wp2_with fail
      refine (above_c X nx g _ (cell_ext Hb.out HG.out)).mono ?_
      rintro e w1 ⟨rfl, hb1⟩
      have HB1 := Lib.hid (Hb.out.trans hb1); clear hb1
      by_cases hge : nx ≤ X
      · go_wp2_with fail
        go_ret
        exact ⟨rn (idxAbove_hit xs nx k (by rw [Hx.out.len]; exact hlt) Heq.out (by rw [HX.out]; exact hge)), HB1.out⟩
      · go_wp2_with fail
        go_roundw
        case rel => exact ⟨k + 1, by omega, by go_num, any_take_succ _ 0 xs k (by rw [Hx.out.len]; exact hlt) Heq.out (by rw [HX.out]; exact decide_eq_false (by omega)), HB1.out⟩
        case measure => simp [intOf]; omega
    · go_wp2_with fail
      go_ret
      exact ⟨rn (idxAbove_miss xs nx (any_of_take _ xs n k Hx.out.len (by omega) Heq.out)), Hb.out⟩

theorem containsf_c (ao : Option Addr) (n cap : Nat) (xs : List Int) (nx : Int) (g : Nat) (w : World) (hx : Ints w ao n cap xs) (hg : w.cell? ⟨g, 0, none⟩ = some (.int .i64 nx)) :
    Calls Try.prog 67 #[.slice ao n cap, .func (Fn.func 69) #[] #[.pointer (some ⟨g, 0, none⟩)]] w fun e w' => e = .returned (.bool (xs.any fun x => decide (nx ≤ x))) ∧ Ext w w' := by
  have Hx := Lib.hid hx
  have HG := Lib.hid hg
  clear hx hg
  go_enter Try.func67, Try.ntmps67
  go_wp2_with fail
  refine (idxf_c _ _ _ xs nx g _ Hx.out HG.out).mono ?_
  rintro e w1 ⟨rfl, hb⟩
  have HB := Lib.hid hb; clear hb
  go_wp2_with fail
  go_ret
  exact ⟨rb (by rw [← idxAbove_pos]), HB.out⟩

set_option maxRecDepth 100000 in
set_option maxHeartbeats 1600000 in
theorem mvalid_c (nx ck sd : Int) (ao : Option Addr) (n cap : Nat) (L : List (List Int)) (w : World) (hx : Grid w ao n cap L) (hsum : L.flatten.length ≤ 17592186044416) (hwf : ∀ x ∈ L.flatten, (Lit.int .i64 x).wf = true) :
    Calls Try.prog 24 #[.agg #[.int .i64 nx, .int .i64 ck, .int .u64 sd, .slice ao n cap]] w fun e w' => e = .returned (.bool (mvalid nx ck L)) ∧ Ext w w' := by
  have Hx := Lib.hid hx
  have HWF := Lib.hid hwf
  clear hx hwf
  by_cases h1 : nx < 0
  · have hm : mvalid nx ck L = false := mvalid_num (by omega)
    have HM := Lib.hid hm; clear hm
    go_enter Try.func24, Try.ntmps24
    go_wp2_with fail
    go_ret
    exact ⟨by rw [HM.out]; rfl, ext_a1 _ _⟩
  by_cases h2 : 1000000 < nx
  · have hm : mvalid nx ck L = false := mvalid_num (by omega)
    have HM := Lib.hid hm; clear hm
    go_enter Try.func24, Try.ntmps24
    go_wp2_with fail
    go_ret
    exact ⟨by rw [HM.out]; rfl, ext_a1 _ _⟩
  by_cases h3 : ck < 0
  · have hm : mvalid nx ck L = false := mvalid_num (by omega)
    have HM := Lib.hid hm; clear hm
    go_enter Try.func24, Try.ntmps24
    go_wp2_with fail
    go_ret
    exact ⟨by rw [HM.out]; rfl, ext_a1 _ _⟩
  by_cases h4 : 2147483647 < ck
  · have hm : mvalid nx ck L = false := mvalid_num (by omega)
    have HM := Lib.hid hm; clear hm
    go_enter Try.func24, Try.ntmps24
    go_wp2_with fail
    go_ret
    exact ⟨by rw [HM.out]; rfl, ext_a1 _ _⟩
  go_enter Try.func24, Try.ntmps24
  go_wp2_with fail
  refine (valid_c _ _ _ L _ (Hx.out.ext (ext_a1 _ _)) hsum HWF.out).mono ?_
  rintro e w1 ⟨rfl, hb⟩
  obtain ⟨d0, d1, d2, d3⟩ := box4 hb
  have HB := Lib.hid hb; clear hb
  by_cases h5 : validB L = false
  · have hm : mvalid nx ck L = false := mvalid_lev h5
    have HM := Lib.hid hm; clear hm
    go_wp2_with fail
    go_ret
    exact ⟨by rw [HM.out]; rfl, (ext_a1 _ _).trans HB.out⟩
  have h5' : validB L = true := by simpa using h5
  have hm : mvalid nx ck L = !(L.flatten.any fun x => decide (nx ≤ x)) := by rw [all_not_above]; exact mvalid_all (by omega) h5'
  have HM := Lib.hid hm; clear hm h5
  generalize hF : L.flatten = xs at *
  have HF := Lib.hid hF; clear hF
  go_wp2_with fail
  refine (all_c _ _ _ L _ ((Hx.out.ext (ext_a1 _ _)).ext HB.out) (by rw [HF.out]; exact hsum)).mono ?_
  rw [HF.out]
  rintro e w2 ⟨v2, rfl, hown, hb⟩
  obtain ⟨a2, c2, rfl, hi2⟩ := own_ints hown
  have HB2 := Lib.hid (HB.out.trans hb)
  obtain ⟨e0, e1, e2, e3⟩ := box4 HB2.out
  have HI2 := Lib.hid hi2
  have E0 := Lib.hid e0
  clear hown hb hi2 HB d0 d1 d2 d3
  go_wp2_with fail
  refine (containsf_c _ _ _ xs nx w.heap.size _ HI2.out E0.out).mono ?_
  rintro e w3 ⟨rfl, hb⟩
  have HB3 := Lib.hid (HB2.out.trans hb); clear hb e0 e1 e2 e3
  go_wp2_with fail
  go_ret
  exact ⟨rb HM.out, (ext_a1 _ _).trans HB3.out⟩

set_option maxRecDepth 100000 in
set_option maxHeartbeats 1600000 in
theorem refmvalid_c (nx ck sd : Int) (ao : Option Addr) (n cap : Nat) (L : List (List Int)) (w : World) (hx : Grid w ao n cap L) (hsum : L.flatten.length ≤ 17592186044416) :
    Calls Try.prog 84 #[.agg #[.int .i64 nx, .int .i64 ck, .int .u64 sd, .slice ao n cap]] w fun e w' => e = .returned (.bool (mvalid nx ck L)) ∧ Ext w w' := by
  have Hx := Lib.hid hx
  clear hx
  by_cases h1 : nx < 0
  · have hm : mvalid nx ck L = false := mvalid_num (by omega)
    have HM := Lib.hid hm; clear hm
    go_enter Try.func84, Try.ntmps84
    go_wp2_with fail
    go_ret
    exact ⟨by rw [HM.out]; rfl, ext_a1 _ _⟩
  by_cases h2 : 1000000 < nx
  · have hm : mvalid nx ck L = false := mvalid_num (by omega)
    have HM := Lib.hid hm; clear hm
    go_enter Try.func84, Try.ntmps84
    go_wp2_with fail
    go_ret
    exact ⟨by rw [HM.out]; rfl, ext_a1 _ _⟩
  by_cases h3 : ck < 0
  · have hm : mvalid nx ck L = false := mvalid_num (by omega)
    have HM := Lib.hid hm; clear hm
    go_enter Try.func84, Try.ntmps84
    go_wp2_with fail
    go_ret
    exact ⟨by rw [HM.out]; rfl, ext_a1 _ _⟩
  by_cases h4 : 2147483647 < ck
  · have hm : mvalid nx ck L = false := mvalid_num (by omega)
    have HM := Lib.hid hm; clear hm
    go_enter Try.func84, Try.ntmps84
    go_wp2_with fail
    go_ret
    exact ⟨by rw [HM.out]; rfl, ext_a1 _ _⟩
  go_enter Try.func84, Try.ntmps84
  go_wp2_with fail
  refine (refvalid_c _ _ _ L _ (Hx.out.ext (ext_a1 _ _)) hsum).mono ?_
  rintro e w1 ⟨rfl, hb⟩
  obtain ⟨d0, d1, d2, d3⟩ := box4 hb
  have HB := Lib.hid hb; clear hb
  by_cases h5 : validB L = false
  · have hm : mvalid nx ck L = false := mvalid_lev h5
    have HM := Lib.hid hm; clear hm
    go_wp2_with fail
    go_ret
    exact ⟨by rw [HM.out]; rfl, (ext_a1 _ _).trans HB.out⟩
  have h5' : validB L = true := by simpa using h5
  have hm : mvalid nx ck L = !(L.flatten.any fun x => decide (nx ≤ x)) := by rw [all_not_above]; exact mvalid_all (by omega) h5'
  have HM := Lib.hid hm; clear hm h5
  generalize hF : L.flatten = xs at *
  have HF := Lib.hid hF; clear hF
  go_wp2_with fail
  refine (refall_c _ _ _ L _ ((Hx.out.ext (ext_a1 _ _)).ext HB.out) (by rw [HF.out]; exact hsum)).mono ?_
  rw [HF.out]
  rintro e w2 ⟨v2, rfl, hown, hb⟩
  obtain ⟨a2, c2, rfl, hi2⟩ := own_ints hown
  have HB2 := Lib.hid (HB.out.trans hb)
  obtain ⟨e0, e1, e2, e3⟩ := box4 HB2.out
  have HI2 := Lib.hid hi2
  have E0 := Lib.hid e0
  have f1 := hi2.fits; have f2 := hi2.bound
  clear hown hb hi2 HB d0 d1 d2 d3 e0 e1 e2 e3
  go_wp2_with fail
  go_loopw [4] (fun i w' => ∃ k : Nat, k ≤ xs.length ∧ i = .int .i64 k ∧ (xs.take k).any (fun x => decide (nx ≤ x)) = false ∧ Ext w2 w') (fun i _ => xs.length - (intOf i).toNat)
  case atStart => exact ⟨0, Nat.zero_le _, rfl, by simp, Ext.refl _⟩
  case round =>
    obtain ⟨k, hk, rfl, heq, hb⟩ := hrel
    have Heq := Lib.hid heq; have Hb := Lib.hid hb
    clear heq hb
    by_cases hlt : k < xs.length
    · obtain ⟨b, off, rfl, c1⟩ := (HI2.out.ext Hb.out).at hlt
      have c2 := cell_of c1
      have e0 := cell_of (cell_ext Hb.out E0.out)
      generalize hX : xs.getD k 0 = X at *
      have HX := Lib.hid hX; clear hX
      go_wp2_with fail
      refine wp_region_ext (by kernel_rfl) (by kernel_rfl) ?_
      repeat (go_big_quiet_step (fail))
      refine wpQuiet_nil ?_
      intro w4 hw4
      have HW := Lib.hid hw4; clear hw4
      by_cases hge : nx ≤ X
      · go_wp2_with fail
        go_ret
        exact ⟨rb (by rw [HM.out, any_of_getD _ 0 xs k hlt (by rw [HX.out]; exact decide_eq_true hge)]; rfl), (ext_a1 _ _).trans (HB2.out.trans (Hb.out.trans HW.out))⟩
      · go_wp2_with fail
        go_roundw
        case rel => exact ⟨k + 1, by omega, by go_num, any_take_succ _ 0 xs k hlt Heq.out (by rw [HX.out]; exact decide_eq_false (by omega)), Hb.out.trans HW.out⟩
        case measure => simp [intOf]; omega
    · go_wp2_with fail
      go_ret
      exact ⟨rb (by rw [HM.out, any_of_take _ xs _ k rfl (by omega) Heq.out]; rfl), (ext_a1 _ _).trans (HB2.out.trans Hb.out)⟩

end Go.Proofs.Ytjllhjlmjbpinaa
namespace Go.Proofs.Ytjllhjlmjbpinaa
open Go.RowKit

theorem OGr.made {w : World} {B : Nat} {tO tI : TypeId} {v : Value} (h : Own w B tO 1 v 5 (List.replicate 5 (.slice none 0 0))) : OGr w B tO tI v (List.replicate 5 (.slice none 0 0)) (List.replicate 5 []) := by
  have e : ∀ {α : Type} (d : α) (n i : Nat), (List.replicate n d).getD i d = d := by
    intro α d n i
    simp only [List.getD_eq_getElem?_getD, List.getElem?_replicate]
    split <;> rfl
  refine ⟨h, fun i => ?_, fun i j g _ hg => ?_⟩
  · rw [e, e]; exact Own.nil _ _ _ _
  · rw [e] at hg; cases hg

set_option maxRecDepth 100000 in
set_option maxHeartbeats 800000 in
theorem reftrim_c (ao : Option Addr) (n cap : Nat) (L : List (List Int)) (w : World) (hx : Grid w ao n cap L) :
    Calls Try.prog 62 #[.slice ao n cap] w fun e w' => e = .returned (.slice ao (trimN L n) cap) ∧ Ext w w' := by
  have Hx := Lib.hid hx
  have b1 := hx.fits; have b2 := hx.bound
  clear hx
  go_enter Try.func62, Try.ntmps62
  go_wp2_with fail
  go_loopw [3] (fun i w' => ∃ m : Nat, m ≤ n ∧ i = .int .i64 m ∧ trimN L m = trimN L n ∧ Ext w w') (fun i _ => (intOf i).toNat)
  case atStart => exact ⟨n, Nat.le_refl _, rfl, rfl, Ext.refl _⟩
  case round =>
    obtain ⟨m, hm, rfl, htn, hb⟩ := hrel
    have HTN := Lib.hid htn; clear htn
    have Hb := Lib.hid hb; clear hb
    cases m with
    | zero =>
      have ht : trimN L n = 0 := HTN.out.symm
      have HT := Lib.hid ht; clear ht
      go_wp2_with fail
      go_ret
      exact ⟨by rw [HT.out]; rfl, Hb.out⟩
    | succ m =>
      obtain ⟨b, off, ai, ni, ci, rfl, c1, r1⟩ := (Hx.out.ext Hb.out).at (show m < n by omega)
      have hR := r1.len
      have g1 := r1.fits; have g2 := r1.bound
      have HR := Lib.hid hR
      clear r1 hR
      by_cases h0 : ni = 0
      · have he : L.getD m [] = [] := List.eq_nil_of_length_eq_zero (by have := HR.out; omega)
        have HE := Lib.hid he; clear he
        subst h0
        go_wp2_with fail
        go_roundw
        case rel => exact ⟨m, by omega, by go_num, by rw [← trimN_empty L m HE.out]; exact HTN.out, Hb.out⟩
        case measure => simp [intOf]
      · have hne : L.getD m [] ≠ [] := by intro h; have := HR.out; rw [h] at this; simp at this; omega
        have hz : ((ni : Int) == 0) = false := by simpa using h0
        have hT : trimN L n = m + 1 := by rw [← HTN.out]; exact trimN_stop L m hne
        have HNE := Lib.hid hne; clear hne h0
        have HT := Lib.hid hT; clear hT
        go_wp2_with fail
        go_ret
        exact ⟨by rw [HT.out]; rfl, Hb.out⟩

end Go.Proofs.Ytjllhjlmjbpinaa
namespace Go.Proofs.Ytjllhjlmjbpinaa

theorem flat_set (L : List (List Int)) : ∀ (i : Nat) (r : List Int), i < L.length → ((L.set i r).flatten ++ L.getD i []).Perm (L.flatten ++ r) := by
  induction L with
  | nil => intro i r h; simp at h
  | cons a T ih =>
    intro i r h
    cases i with
    | zero =>
      rw [List.perm_iff_count]
      intro x
      simp only [List.set_cons_zero, List.flatten_cons, List.getD_cons_zero, List.count_append]
      omega
    | succ i =>
      have := ih i r (by simpa using h)
      rw [List.perm_iff_count] at this ⊢
      intro x
      have := this x
      simp only [List.set_cons_succ, List.flatten_cons, List.getD_cons_succ, List.count_append] at this ⊢
      omega

theorem flatten_pad (L : List (List Int)) (k : Nat) : (L ++ List.replicate k []).flatten = L.flatten := by simp

theorem flatten_congr (L M : List (List Int)) (hle : L.length ≤ M.length) (h : ∀ i, L.getD i [] = M.getD i []) : L.flatten = M.flatten := by
  rw [← flatten_pad L (M.length - L.length)]
  congr 1
  refine ext_getD _ _ [] (by simp; omega) fun i hi => ?_
  rw [← h i]
  simp only [List.getD_eq_getElem?_getD, List.getElem?_append]
  split
  · rfl
  · rw [← List.getD_eq_getElem?_getD, List.getElem?_eq_none (l := L) (by omega)]
    simp only [List.getD_eq_getElem?_getD, List.getElem?_replicate]
    split <;> rfl

theorem trimL_flatten (L : List (List Int)) : (trimL L).flatten = L.flatten :=
  flatten_congr _ _ (by have := trimN_le L L.length; rw [trimL_length]; omega) (trimL_getD L)

theorem wideL_flatten (L : List (List Int)) : (wideL L).flatten = L.flatten := flatten_pad _ _

theorem perm_cancel_right {a b c : List Int} (h : (a ++ c).Perm (b ++ c)) : a.Perm b := by
  rw [List.perm_iff_count] at h ⊢
  intro x
  have := h x
  simp only [List.count_append] at this
  omega

theorem addL_perm (L : List (List Int)) (x : Int) (h : L.length ≤ 5) : (addL L x).flatten.Perm (L.flatten ++ [x]) := by
  rw [← addL_ref L x h, trimL_flatten]
  have hw := wideL_length L h
  have h1 := flat_set (wideL L) 0 ((wideL L).getD 0 [] ++ [x]) (by omega)
  rw [wideL_flatten] at h1
  refine perm_cancel_right (h1.trans ?_)
  rw [List.perm_iff_count]
  intro y
  simp only [List.count_append]
  omega

theorem repL_perm (L : List (List Int)) (k : Nat) (x : Int) (h : L.length ≤ 5) (hk : k < 5) : ((repL L k x).flatten ++ L.getD k []).Perm (L.flatten ++ [x]) := by
  unfold repL
  rw [trimL_flatten]
  have hw := wideL_length L h
  have h1 := flat_set (wideL L) k [] (by omega)
  rw [wideL_flatten, wideL_getD] at h1
  have h2 := flat_set ((wideL L).set k []) (min (k + 1) 4) (((wideL L).set k []).getD (min (k + 1) 4) [] ++ [x]) (by simp; omega)
  rw [List.perm_iff_count] at h1 h2 ⊢
  intro y
  have := h1 y; have := h2 y
  simp only [List.count_append, List.count_nil] at *
  omega

/-- what levels are that grow: they may be; all tables have numbers below i -/
def GrowI (L : List (List Int)) (i : Nat) : Prop := validB L = true ∧ ∀ x ∈ L.flatten, 0 ≤ x ∧ x < i

theorem validB_parts {L : List (List Int)} (h : validB L = true) : L.length ≤ 5 ∧ L.flatten.length ≤ 40 ∧ (∀ x ∈ L.flatten, 0 ≤ x) ∧ L.flatten.Nodup := by
  unfold validB at h; exact of_decide_eq_true h

theorem GrowI.nil : GrowI [] 0 := ⟨by decide, by simp⟩
theorem GrowI.le {L : List (List Int)} {i : Nat} (h : GrowI L i) : GrowI L (i + 1) := ⟨h.1, fun x hx => by have := h.2 x hx; omega⟩
theorem GrowI.notMem {L : List (List Int)} {i : Nat} (h : GrowI L i) : (i : Int) ∉ L.flatten := fun hx => by have := h.2 _ hx; omega

theorem addL_length (L : List (List Int)) (x : Int) (h : L.length ≤ 5) : (addL L x).length ≤ 5 := by
  rw [← addL_ref L x h, trimL_length]
  have h1 := trimN_le ((wideL L).set 0 ((wideL L).getD 0 [] ++ [x])) ((wideL L).set 0 ((wideL L).getD 0 [] ++ [x])).length
  have h2 := wideL_length L h
  simp only [List.length_set] at h1 ⊢
  omega

theorem repL_length (L : List (List Int)) (k : Nat) (x : Int) (h : L.length ≤ 5) : (repL L k x).length ≤ 5 := by
  unfold repL
  rw [trimL_length]
  have h2 := wideL_length L h
  refine Nat.le_trans (trimN_le _ _) ?_
  simp only [List.length_set]
  omega

theorem GrowI.add {L : List (List Int)} {i : Nat} (h : GrowI L i) (h40 : L.flatten.length < 40) : GrowI (addL L i) (i + 1) ∧ (addL L i).flatten.length = L.flatten.length + 1 := by
  obtain ⟨h1, h2, h3, h4⟩ := validB_parts h.1
  have hp := addL_perm L i h1
  have hl := hp.length_eq
  simp only [List.length_append, List.length_cons, List.length_nil] at hl
  refine ⟨⟨validB_ok _ (addL_length L i h1) (by omega) ?_ ?_, ?_⟩, hl⟩
  · intro x hx
    rcases List.mem_append.1 (hp.mem_iff.1 hx) with hx | hx
    · exact h3 x hx
    · rw [List.mem_singleton.1 hx]; omega
  · rw [hp.nodup_iff, List.nodup_append]
    refine ⟨h4, by simp, fun a ha b hb => ?_⟩
    rw [List.mem_singleton.1 hb]
    intro e; exact h.notMem (e ▸ ha)
  · intro x hx
    rcases List.mem_append.1 (hp.mem_iff.1 hx) with hx | hx
    · have := h.2 x hx; omega
    · rw [List.mem_singleton.1 hx]; omega

theorem GrowI.rep {L : List (List Int)} {i k : Nat} (h : GrowI L i) (hk : k < 5) (hne : L.getD k [] ≠ []) :
    GrowI (repL L k i) (i + 1) ∧ (repL L k i).flatten.length + (L.getD k []).length = L.flatten.length + 1 := by
  obtain ⟨h1, h2, h3, h4⟩ := validB_parts h.1
  have hp := repL_perm L k i h1 hk
  have hl := hp.length_eq
  simp only [List.length_append, List.length_cons, List.length_nil] at hl
  have hpos := List.length_pos_iff.2 hne
  have hall : (L.flatten ++ [(i : Int)]).Nodup := by
    rw [List.nodup_append]
    refine ⟨h4, by simp, fun a ha b hb => ?_⟩
    rw [List.mem_singleton.1 hb]
    intro e; exact h.notMem (e ▸ ha)
  have hnd := (hp.nodup_iff.2 hall)
  have hmem : ∀ x ∈ (repL L k i).flatten, x ∈ L.flatten ∨ x = i := by
    intro x hx
    rcases List.mem_append.1 (hp.mem_iff.1 (List.mem_append.2 (.inl hx))) with hx | hx
    · exact .inl hx
    · exact .inr (List.mem_singleton.1 hx)
  refine ⟨⟨validB_ok _ (repL_length L k i h1) (by omega) ?_ (List.nodup_append.1 hnd).1, ?_⟩, hl⟩
  · intro x hx
    rcases hmem x hx with hx | hx
    · exact h3 x hx
    · omega
  · intro x hx
    rcases hmem x hx with hx | hx
    · have := h.2 x hx; omega
    · omega

theorem GrowI.addS {L : List (List Int)} {i : Nat} (h : GrowI L i) : addS L i = if 40 ≤ L.flatten.length then ([], 60) else (addL L i, 0) := by
  have : ¬ (validB L = false ∨ (i : Int) < 0 ∨ (i : Int) ∈ L.flatten) := by
    rintro (h1 | h1 | h1)
    · rw [h.1] at h1; cases h1
    · omega
    · exact h.notMem h1
  unfold Go.Proofs.Ytjllhjlmjbpinaa.addS
  rw [if_neg this]

theorem GrowI.pickS {L : List (List Int)} {i k : Nat} (h : GrowI L i) (hk : k < 5) : pickS L k = if L.getD k [] = [] then ([], 4) else (L.getD k [], 0) := by
  have : ¬ (validB L = false ∨ (k : Int) < 0 ∨ 5 ≤ (k : Int)) := by
    rintro (h1 | h1 | h1)
    · rw [h.1] at h1; cases h1
    · omega
    · omega
  unfold Go.Proofs.Ytjllhjlmjbpinaa.pickS
  rw [if_neg this, Int.toNat_natCast]

theorem GrowI.replaceS {L : List (List Int)} {i k : Nat} (h : GrowI L i) (hk : k < 5) : replaceS L k i = if L.getD k [] = [] then ([], 4) else (repL L k i, 0) := by
  have h2 : ¬ ((i : Int) < 0 ∨ (i : Int) ∈ L.flatten) := by
    rintro (h1 | h1)
    · omega
    · exact h.notMem h1
  unfold Go.Proofs.Ytjllhjlmjbpinaa.replaceS
  rw [h.pickS hk]
  by_cases he : L.getD k [] = []
  · rw [if_pos he, if_pos he, if_pos (by decide)]
  · rw [if_neg he, if_neg he, if_neg (by simp), if_neg h2, Int.toNat_natCast]

theorem GrowI.wf {L : List (List Int)} {i : Nat} (h : GrowI L i) (hi : i ≤ 1000000) : ∀ x ∈ L.flatten, (Lit.int .i64 x).wf = true := by
  intro x hx
  have := h.2 x hx
  exact WalkArith.wf_i64 (by omega)

end Go.Proofs.Ytjllhjlmjbpinaa
namespace Go.Proofs.Ytjllhjlmjbpinaa
open Go.RowKit

theorem Try.infoU8 : (Try.prog.info? 5).map (fun i => (i.zero, i.size, i.bytes)) = some (some (.int .u8 0), 1, 1) := by kernel_rfl

set_option maxRecDepth 100000 in
set_option maxHeartbeats 1600000 in
theorem put_c (X : Int) (n : Nat) (w : World) (h1 : 1 ≤ n) (h8 : n ≤ 8) (hx0 : 0 ≤ X) (hX : X < 18446744073709551616) :
    Calls Try.prog 89 #[.int .u64 X, .int .i64 n] w fun e w' => e = .returned (.string ⟨(be n X.toNat).toArray⟩) ∧ Ext w w' := by
  obtain ⟨i, hi, hz, hsize, hby⟩ := info_parts Try.infoU8
  have hXx : X = (X.toNat : Int) := by omega
  have HXx := Lib.hid hXx; clear hXx
  generalize X.toNat = x at *
  go_enter Try.func89, Try.ntmps89
  go_wp2_with (at_make; refine wpList_make_full _ rfl _ _ 53 rfl w.heap.size 5 i (.int .u8 0) 1 Try.underlying53 hi hz hsize .i64 .i64 _ _ n rfl rfl rfl rfl (by rw [hby]; omega) (by unfold maxLen; omega) (Nat.le_refl _) ?_; intro w2 hown hg)
  clear hi hz hsize hby
  have ho := Own.of_row hown
  rw [Nat.mul_one, show (madeCells (Value.int .u8 0).cells n).toList = List.replicate n (.int .u8 0) from toList_madeCells_one _ _] at ho
  have hb0 : Ext w w2 := (Ext.refl w).grown hg (Nat.le_refl _) (fun k hk => by cases hk)
  have HO := Lib.hid ho; have HB0 := Lib.hid hb0
  clear hown hg ho hb0
  go_loopw [16] (fun i w' => ∃ k : Nat, k ≤ n ∧ i = .int .i64 k ∧ Own w' w.heap.size 5 1 (.slice (some ⟨w.heap.size, 0, none⟩) n n) n (List.replicate (n - k) (.int .u8 0) ++ (be k x).map byteV) ∧ Ext w w') (fun i _ => n - (intOf i).toNat)
  case atStart => exact ⟨0, Nat.zero_le _, rfl, by simpa [be] using HO.out, HB0.out⟩
  case round =>
    clear HO HB0
    obtain ⟨k, hk, rfl, ho, hb⟩ := hrel
    have Hb := Lib.hid hb; have HO := Lib.hid ho
    by_cases hlt : k < n
    · obtain ⟨g, c, u, e, d1, d2, d3⟩ := ho.cellE (j := n - 1 - k) (by omega)
      cases e
      have hst := ho.stored (g := w.heap.size) (cap := n) rfl (j := n - 1 - k) (.int .u8 ((UInt8.ofNat (x / 256 ^ k)).toNat : Int))
      have hset : (List.replicate (n - k) (Value.int .u8 0) ++ (be k x).map byteV).set (n - 1 - k) (.int .u8 ((UInt8.ofNat (x / 256 ^ k)).toNat : Int)) = List.replicate (n - (k + 1)) (.int .u8 0) ++ (be (k + 1) x).map byteV := by
        rw [show n - k = (n - (k + 1)) + 1 from by omega, show n - 1 - k = n - (k + 1) from by omega, set_pad]
        rfl
      rw [hset, ← put_byte, ← HXx.out] at hst
      have hbs := hb.setCell (p := ⟨w.heap.size, n - 1 - k, none⟩) (Nat.le_refl _) (.int .u8 (X / 2 ^ (8 * k) % 256))
      have HS := Lib.hid hst; have HBS := Lib.hid hbs
      clear ho hb hst hset hbs
      go_wp2_with fail
      go_roundw
      case rel => exact ⟨k + 1, by omega, by go_num, HS.out, HBS.out⟩
      case measure => simp [intOf]; omega
    · have hkn : k = n := by omega
      rw [hkn, Nat.sub_self, List.replicate_zero, List.nil_append] at ho
      have hcv := run_tostr (P := Try.prog) wr 53 9 5 (a := ⟨w.heap.size, 0, none⟩) (n := n) (cap := n) Try.underlying53 Try.underlying5 Try.underlying9 (be_length n x) (by obtain ⟨_, _, e, _, _, _, r⟩ := ho.rd; cases e; exact r)
      clear hkn ho hb
      go_wp2_with fail
      go_ret
      exact ⟨rfl, Hb.out⟩

set_option maxRecDepth 100000 in
set_option maxHeartbeats 1600000 in
theorem refput_c (X : Int) (n : Nat) (w : World) (h1 : 1 ≤ n) (h8 : n ≤ 8) (hx0 : 0 ≤ X) (hX : X < 18446744073709551616) :
    Calls Try.prog 85 #[.int .u64 X, .int .i64 n] w fun e w' => e = .returned (.string ⟨(be n X.toNat).toArray⟩) ∧ Ext w w' := by
  go_enter Try.func85, Try.ntmps85
  go_wp2_with fail
  go_loopw [0, 5, 6] (fun v s i w' => ∃ (k : Nat) (Z : Int), k ≤ n ∧ i = .int .i64 k ∧ v = .int .u64 Z ∧ 0 ≤ Z ∧ Z < 18446744073709551616 ∧ Z.toNat = X.toNat / 256 ^ k ∧ s = .string ⟨(be k X.toNat).toArray⟩ ∧ Ext w w') (fun _ _ i _ => n - (intOf i).toNat)
  case atStart => exact ⟨0, X, Nat.zero_le _, rfl, rfl, hx0, hX, by simp, rfl, Ext.refl _⟩
  case round =>
    obtain ⟨k, Z, hk, rfl, rfl, hz0, hz1, hzx, rfl, hb⟩ := hrel
    have Hb := Lib.hid hb; have HZ := Lib.hid hzx
    clear hb hzx
    have hbl : (be k X.toNat).length ≤ 8 := by rw [be_length]; omega
    generalize hL : be k X.toNat = L at *
    have HL := Lib.hid hL; clear hL
    by_cases hlt : k < n
    · have hby : Z % 256 = ((UInt8.ofNat (X.toNat / 256 ^ k)).toNat : Int) := by
        rw [← HZ.out, UInt8.toNat_ofNat']; omega
      have hcv := run_tostr1 (P := Try.prog) wr 53 9 5 (Z % 256) _ Try.underlying53 Try.underlying5 Try.underlying9 hby
      have hbe : be (k + 1) X.toNat = UInt8.ofNat (X.toNat / 256 ^ k) :: L := by rw [← HL.out]; rfl
      have HBE := Lib.hid hbe
      have hz2 : (Z / 256).toNat = X.toNat / 256 ^ (k + 1) := by rw [Nat.pow_succ, ← Nat.div_div_eq_div_mul, ← HZ.out]; omega
      have HZ2 := Lib.hid hz2
      clear hby hbe hz2
      generalize UInt8.ofNat (X.toNat / 256 ^ k) = b at *
      go_wp2_with fail
      go_roundw
      case rel => exact ⟨k + 1, Z / 256, by omega, by go_num, rfl, by omega, by omega, HZ2.out, by rw [HBE.out]; simp [ByteArray.mk_append_mk], Hb.out.alloc _⟩
      case measure => simp [intOf]; omega
    · have hkn : k = n := by omega
      have HK := Lib.hid hkn; clear hkn
      go_wp2_with fail
      go_ret
      exact ⟨by rw [← HK.out, HL.out]; rfl, Hb.out⟩

/-- the same, the size as a number of the program's -/
theorem put_z (X N : Int) (w : World) (h1 : 1 ≤ N) (h8 : N ≤ 8) (hx0 : 0 ≤ X) (hX : X < 18446744073709551616) :
    Calls Try.prog 89 #[.int .u64 X, .int .i64 N] w fun e w' => e = .returned (.string ⟨(be N.toNat X.toNat).toArray⟩) ∧ Ext w w' := by
  have e : N = (N.toNat : Int) := by omega
  have h := put_c X N.toNat w (by omega) (by omega) hx0 hX
  rwa [← e] at h
theorem put_k (X N : Int) (k : Nat) (w : World) (hN : N = (k : Int)) (h1 : 1 ≤ N) (h8 : N ≤ 8) (hx0 : 0 ≤ X) (hX : X < 18446744073709551616) :
    Calls Try.prog 89 #[.int .u64 X, .int .i64 N] w fun e w' => e = .returned (.string ⟨(be k X.toNat).toArray⟩) ∧ Ext w w' := by
  subst hN; exact put_c X k w (by omega) (by omega) hx0 hX
theorem put_n (x : Nat) (N : Int) (k : Nat) (w : World) (hN : N = (k : Int)) (h1 : 1 ≤ N) (h8 : N ≤ 8) (hX : (x : Int) < 18446744073709551616) :
    Calls Try.prog 89 #[.int .u64 (x : Int), .int .i64 N] w fun e w' => e = .returned (.string ⟨(be k x).toArray⟩) ∧ Ext w w' := by
  have h := put_k (x : Int) N k w hN h1 h8 (by omega) hX
  rwa [Int.toNat_natCast] at h
theorem refput_n (x : Nat) (N : Int) (k : Nat) (w : World) (hN : N = (k : Int)) (h1 : 1 ≤ N) (h8 : N ≤ 8) (hX : (x : Int) < 18446744073709551616) :
    Calls Try.prog 85 #[.int .u64 (x : Int), .int .i64 N] w fun e w' => e = .returned (.string ⟨(be k x).toArray⟩) ∧ Ext w w' := by
  subst hN
  have h := refput_c (x : Int) k w (by omega) (by omega) (by omega) hX
  rwa [Int.toNat_natCast] at h
theorem refput_k (X N : Int) (k : Nat) (w : World) (hN : N = (k : Int)) (h1 : 1 ≤ N) (h8 : N ≤ 8) (hx0 : 0 ≤ X) (hX : X < 18446744073709551616) :
    Calls Try.prog 85 #[.int .u64 X, .int .i64 N] w fun e w' => e = .returned (.string ⟨(be k X.toNat).toArray⟩) ∧ Ext w w' := by
  subst hN; exact refput_c X k w (by omega) (by omega) hx0 hX
theorem refput_z (X N : Int) (w : World) (h1 : 1 ≤ N) (h8 : N ≤ 8) (hx0 : 0 ≤ X) (hX : X < 18446744073709551616) :
    Calls Try.prog 85 #[.int .u64 X, .int .i64 N] w fun e w' => e = .returned (.string ⟨(be N.toNat X.toNat).toArray⟩) ∧ Ext w w' := by
  have e : N = (N.toNat : Int) := by omega
  have h := refput_c X N.toNat w (by omega) (by omega) hx0 hX
  rwa [← e] at h

set_option maxRecDepth 100000 in
set_option maxHeartbeats 1600000 in
theorem get_c (l : List UInt8) (w : World) (hl : l.length ≤ 9223372036854775807) :
    Calls Try.prog 97 #[.string ⟨l.toArray⟩] w fun e w' => e = .returned (.int .u64 (unbe (l.take 8))) ∧ Ext w w' := by
  obtain ⟨m, hm⟩ : ∃ m : Nat, m = min l.length 8 := ⟨_, rfl⟩
  have hmin : (if (8 : Int) < (l.length : Int) then (8 : Int) else (l.length : Int)) = (m : Int) := by split <;> omega
  have hm1 : m ≤ l.length := by omega
  have hm8 : m ≤ 8 := by omega
  have htk : l.take 8 = l.take m := by
    rw [hm]; rcases Nat.le_total l.length 8 with h | h
    · rw [Nat.min_eq_left h, List.take_of_length_le h, List.take_length]
    · rw [Nat.min_eq_right h]
  have HTK := Lib.hid htk
  clear hm htk
  go_enter Try.func97, Try.ntmps97
  go_wp2_with fail
  clear hmin
  go_loopw [3, 8] (fun v i w' => ∃ (k : Nat) (Z : Int), k ≤ m ∧ i = .int .i64 k ∧ v = .int .u64 Z ∧ Z = (unbe (l.take k) : Int) ∧ Ext w w') (fun _ i _ => m - (intOf i).toNat)
  case atStart => exact ⟨0, 0, Nat.zero_le _, rfl, rfl, rfl, Ext.refl _⟩
  case round =>
    obtain ⟨k, Z, hk, rfl, rfl, hz, hb⟩ := hrel
    have Hb := Lib.hid hb; have HZ := Lib.hid hz
    clear hb
    by_cases hlt : k < m
    · have hz0 : 0 ≤ Z := by omega
      have hz1 : Z < 72057594037927936 := by
        have h1 := unbe_lt (l.take k)
        have h2 : (l.take k).length = k := by simp; omega
        rw [h2] at h1
        have h3 : (256 : Nat) ^ k ≤ 256 ^ 7 := Nat.pow_le_pow_right (by decide) (by omega)
        omega
      clear hz
      have hkl : k < l.length := by omega
      go_wp2_with fail
      go_roundw
      case rel => exact ⟨k + 1, _, by omega, by go_num, rfl, by
        have e := u64_or_byte Z l[k] hz0 hz1
        rw [show ((⟨l.toArray⟩ : ByteArray)[k]) = l[k] from rfl, e, HZ.out, List.take_succ_eq_append_getElem hkl, unbe_snoc]
        omega, Hb.out⟩
      case measure => simp [intOf]; omega
    · have hkm : k = m := by omega
      have HK := Lib.hid hkm; clear hkm hz
      go_wp2_with fail
      go_ret
      exact ⟨rn (by rw [HTK.out, HZ.out, HK.out]), Hb.out⟩

set_option maxRecDepth 100000 in
set_option maxHeartbeats 1600000 in
theorem refget_c (l : List UInt8) (w : World) (hl : l.length ≤ 9223372036854775807) :
    Calls Try.prog 83 #[.string ⟨l.toArray⟩] w fun e w' => e = .returned (.int .u64 (unbe (l.take 8))) ∧ Ext w w' := by
  obtain ⟨m, hm⟩ : ∃ m : Nat, m = min l.length 8 := ⟨_, rfl⟩
  have hm1 : m ≤ l.length := by omega
  have hm8 : m ≤ 8 := by omega
  have hmm : m < 8 → l.length ≤ m := by omega
  have HMM := Lib.hid hmm
  have htk : l.take 8 = l.take m := by
    rw [hm]; rcases Nat.le_total l.length 8 with h | h
    · rw [Nat.min_eq_left h, List.take_of_length_le h, List.take_length]
    · rw [Nat.min_eq_right h]
  have HTK := Lib.hid htk
  clear hm htk hmm
  go_enter Try.func83, Try.ntmps83
  go_wp2_with fail
  go_loopw [3, 4] (fun v i w' => ∃ (k : Nat) (Z : Int), k ≤ m ∧ i = .int .i64 k ∧ v = .int .u64 Z ∧ Z = (unbe (l.take k) : Int) ∧ Ext w w') (fun _ i _ => m - (intOf i).toNat)
  case atStart => exact ⟨0, 0, Nat.zero_le _, rfl, rfl, rfl, Ext.refl _⟩
  case round =>
    obtain ⟨k, Z, hk, rfl, rfl, hz, hb⟩ := hrel
    have Hb := Lib.hid hb; have HZ := Lib.hid hz
    clear hb
    by_cases hlt : k < m
    · have hz0 : 0 ≤ Z := by omega
      have hz1 : Z < 72057594037927936 := by
        have h1 := unbe_lt (l.take k)
        have h2 : (l.take k).length = k := by simp; omega
        rw [h2] at h1
        have h3 : (256 : Nat) ^ k ≤ 256 ^ 7 := Nat.pow_le_pow_right (by decide) (by omega)
        omega
      clear hz
      have hkl : k < l.length := by omega
      have hk8 : k < 8 := by omega
      have hby : (l[k].toNat : Int) < 256 := by have := l[k].toNat_lt; omega
      have hby0 : 0 ≤ (l[k].toNat : Int) := by omega
      have hw : IntKind.u64.wrap (((⟨l.toArray⟩ : ByteArray)[k]).toNat : Int) = (l[k].toNat : Int) := by
        rw [show ((⟨l.toArray⟩ : ByteArray)[k]) = l[k] from rfl, IntKind.wrap_u64]; omega
      have HE : Hid (Z * 256 + (l[k].toNat : Int) = (unbe (l.take (k + 1)) : Int)) := Lib.hid (by
        rw [HZ.out, List.take_succ_eq_append_getElem hkl, unbe_snoc]; omega)
      generalize (l[k].toNat : Int) = Y at *
      go_wp2_with fail
      go_roundw
      case rel => exact ⟨k + 1, _, by omega, by go_num, rfl, HE.out, Hb.out⟩
      case measure => simp [intOf]; omega
    · have hkm : k = m := by omega
      have HK := Lib.hid hkm
      clear hz
      by_cases h8 : m < 8
      · have := HMM.out h8
        have hge : ¬ k < l.length := by omega
        clear hkm this
        go_wp2_with fail
        go_ret
        exact ⟨rn (by rw [HTK.out, HZ.out, HK.out]), Hb.out⟩
      · have hk8 : ¬ k < 8 := by omega
        by_cases hkl : k < l.length
        · clear hkm
          go_wp2_with fail
          go_ret
          exact ⟨rn (by rw [HTK.out, HZ.out, HK.out]), Hb.out⟩
        · clear hkm
          go_wp2_with fail
          go_ret
          exact ⟨rn (by rw [HTK.out, HZ.out, HK.out]), Hb.out⟩

end Go.Proofs.Ytjllhjlmjbpinaa
