/- Walks: the law IndexmapRefused. Walks: which files are orphans, by the document; they are deleted by the package. Walks: the law IndexmapOrphans. Walks: the law IndexmapOrphans. -/
import Derived.Test.YtjllhjlmjbpinaaGreatDoorG25PIndexmapOrphans
import Derived.Test.YtjllhjlmjbpinaaGreatDoorG13PIndexmapOrphans
import Derived.Deep.Cut
import Derived.IntWalk
import Derived.Test.YtjllhjlmjbpinaaGreatDoorG24PIndexmapOrphans
import Derived.Deep.RegionLaw
set_option linter.unusedVariables false
set_option linter.unusedSimpArgs false
namespace Go.Proofs.YtjllhjlmjbpinaaGreatDoor
open Go.RowKit

set_option maxRecDepth 100000
set_option linter.unusedVariables false
set_option maxHeartbeats 6400000

theorem clean_err {w : World} {p : Option Addr} {c : Int} (ho : ∀ W, Ext w W → Calls Tryz.prog 28 #[.pointer p] W fun e w' => e = .returned (.int .i64 c) ∧ W = w') (hc : c ≠ 0) (nx ck sd : Int) (ao : Option Addr) (n cap : Nat) :
    Calls Tryz.prog 11 #[.pointer p, .agg #[.int .i64 nx, .int .i64 ck, .int .u64 sd, .slice ao n cap]] w fun e w' => e = .returned (.int .i64 c) ∧ Ext w w' := by
  have HO := Lib.hid ho
  have hb1 : (c != 0) = true := by simpa using hc
  clear ho hc
  go_enter Tryz.func11, Tryz.ntmps11
  go_wp2_with fail
  refine (HO.out _ (ext_a1 _ _)).mono ?_
  rintro e w' ⟨rfl, rfl⟩
  go_wp2_with fail
  go_ret
  exact ⟨rfl, ext_a1 _ _⟩

/-- 'same' -/
theorem nsame_c {w : World} {a b : Option Addr} {n m ca cb : Nat} {xs ys : List (List UInt8)} (hx : Strs w a n ca xs) (hy : Strs w b m cb ys) :
    Calls Tryz.prog 9 #[.slice a n ca, .slice b m cb] w fun e w' => e = .returned (.bool (decide (xs = ys))) ∧ Ext w w' := by
  by_cases hl : n = m
  case neg =>
    have HM : Hid (decide (xs = ys) = false) := Lib.hid (by rw [decide_eq_false_iff_not]; intro e; apply hl; rw [← hx.len, ← hy.len, e])
    have hn1 : n ≤ 9223372036854775807 := Nat.le_trans hx.fits hx.bound
    have hm1 : m ≤ 9223372036854775807 := Nat.le_trans hy.fits hy.bound
    have hnz : ¬ (n : Int) = (m : Int) := by omega
    have hne : ((n : Int) == (m : Int)) = false := by simp [hnz]
    have hne' : ((n : Int) != (m : Int)) = true := by simp [hnz]
    clear hnz
    clear hx hy hl
    go_enter Tryz.func9, Tryz.ntmps9
    go_wp2_with fail
    go_ret
    rw [HM.out]
    exact ⟨rfl, Ext.refl _⟩
  case pos =>
    subst hl
    have HX := Lib.hid hx; have HY := Lib.hid hy
    have hn1 : n ≤ 9223372036854775807 := Nat.le_trans hx.fits hx.bound
    have HLx := Lib.hid hx.len; have HLy := Lib.hid hy.len
    clear hx hy
    go_enter Tryz.func9, Tryz.ntmps9
    go_wp2_with fail
    go_loopw [5] (fun i wr => ∃ k : Nat, k ≤ n ∧ i = .int .i64 k ∧ xs.take k = ys.take k ∧ Ext w wr) (fun i _ => n - (intOf i).toNat)
    case atStart => exact ⟨0, Nat.zero_le _, rfl, by simp, Ext.refl _⟩
    case round =>
      obtain ⟨k, hk, rfl, he, hb⟩ := hrel
      have HE := Lib.hid he; have HB := Lib.hid hb
      by_cases hlt : k < n
      · obtain ⟨b1, o1, rfl, hc1⟩ := (HX.out.ext hb).at sN hlt
        obtain ⟨b2, o2, rfl, hc2⟩ := (HY.out.ext hb).at sN hlt
        have HT1 := Lib.hid (take_succ_getD xs sN k (by rw [HLx.out]; exact hlt))
        have HT2 := Lib.hid (take_succ_getD ys sN k (by rw [HLy.out]; exact hlt))
        obtain ⟨x, hx⟩ : ∃ x, xs.getD k sN = x := ⟨_, rfl⟩
        obtain ⟨y, hy⟩ : ∃ y, ys.getD k sN = y := ⟨_, rfl⟩
        rw [hx] at hc1 HT1
        rw [hy] at hc2 HT2
        have Hx := Lib.hid hx; have Hy := Lib.hid hy
        clear hx hy he hb
        by_cases hxy : x = y
        · subst hxy
          go_wp2_with fail
          go_quiet (fail)
          go_wp2_with fail
          go_roundw
          case rel => exact ⟨k + 1, by omega, by go_num, by rw [HT1.out, HT2.out, HE.out], HB.out.drewN _⟩
          case measure => simp [intOf]; omega
        · have HM : Hid (decide (xs = ys) = false) := Lib.hid (by rw [decide_eq_false_iff_not]; intro e; apply hxy; rw [← Hx.out, ← Hy.out, e])
          have hne : (x == y) = false := by simpa using hxy
          have hne' : (x != y) = true := by simpa using hxy
          go_wp2_with fail
          go_quiet (fail)
          go_wp2_with fail
          go_ret
          rw [HM.out]
          exact ⟨rfl, HB.out.drewN _⟩
      · have HM : Hid (decide (xs = ys) = true) := Lib.hid (by
          rw [decide_eq_true_eq]
          have e1 := he
          rw [List.take_of_length_le (by rw [HLx.out]; omega), List.take_of_length_le (by rw [HLy.out]; omega)] at e1
          exact e1)
        clear he hb
        go_wp2_with fail
        go_ret
        rw [HM.out]
        exact ⟨rfl, HB.out⟩

/-- what Swap tells on a disk without files -/
def FreshR (v : Bool) (S : List UInt8) (r : Int) (f c : Int) (σ : DM) : Prop :=
  (v = false ∧ f = 2 ∧ c = 2 ∧ σ = newM (6000 + r)) ∨ (v = true ∧ f = 0 ∧ (S.length : Int) ≤ r ∧ c = 0 ∧ σ = one ⟨mapN, S, S.length⟩ (6000 + r) 0 0 false) ∨ (v = true ∧ f = 0 ∧ ¬ (S.length : Int) ≤ r ∧ c = 60 ∧ σ = newM (6000 + r))
theorem fresh_r (v : Bool) (S : List UInt8) (r : Int) {x : Int × DM} (hx : swapM (newM (6000 + r)) S (if v then 0 else 2) = x) : FreshR v S r (if v then 0 else 2) x.1 x.2 := by
  subst hx
  cases v with
  | false => exact .inl ⟨rfl, rfl, rfl, rfl⟩
  | true =>
    by_cases h : (S.length : Int) ≤ r
    · refine .inr (.inl ⟨rfl, rfl, h, ?_⟩)
      rw [show (if true = true then (0 : Int) else 2) = 0 from rfl, swap_fresh S (by omega)]
      exact ⟨rfl, rfl⟩
    · refine .inr (.inr ⟨rfl, rfl, h, ?_⟩)
      rw [show (if true = true then (0 : Int) else 2) = 0 from rfl, swap_full S (by omega)]
      exact ⟨rfl, rfl⟩
theorem FreshR.up {v : Bool} {S : List UInt8} {r f c : Int} {σ : DM} (h : FreshR v S r f c σ) : σ.down = false := by
  rcases h with ⟨_, _, _, rfl⟩ | ⟨_, _, _, _, rfl⟩ | ⟨_, _, _, _, rfl⟩ <;> rfl
theorem great_flat (L : List (List Int)) (h : greatB L = false) : L.flatten.length ≤ 600 := by
  unfold greatB at h
  rw [Bool.or_eq_false_iff] at h
  have h1 : L.length ≤ 10 := by have := of_decide_eq_false h.2; omega
  have h2 : ∀ r ∈ L, r.length ≤ 60 := by
    intro r hr
    have := h.1
    rw [List.any_eq_false] at this
    have := this r hr
    simpa using this
  have : ∀ M : List (List Int), (∀ r ∈ M, r.length ≤ 60) → M.flatten.length ≤ 60 * M.length := by
    intro M
    induction M with
    | nil => intro _; simp
    | cons r M ih =>
      intro h
      have a1 := h r (by simp)
      have a2 := ih fun r hr => h r (by simp [hr])
      rw [List.flatten_cons, List.length_append, List.length_cons]
      omega
  have := this L h2
  omega
theorem put_zero : ∃ S : List UInt8, mputS 0 0 0 [] = (S, 0) ∧ S.length ≤ 300 := by
  have h : mvalid 0 0 [] = true := by decide
  exact ⟨_, by unfold mputS; rw [if_pos h], man_le 0 h⟩

theorem lit_str (w : World) (s : List UInt8) : Strs (w.alloc (.cells #[.string ⟨s.toArray⟩] 9)) (some ⟨w.heap.size, 0, none⟩) 1 1 [s] := ⟨rfl, Nat.le_refl _, by omega, (fun h => by cases h), Rd.lit w #[.string ⟨s.toArray⟩] 9⟩
theorem names_nil {w : World} {p : Option Addr} (h : NoD w p) : ∀ W, Ext w W → Calls Tryz.prog 7 #[.pointer p] W (RetS W []) := fun W hW => by
  refine (names_no W p (h.ext hW)).mono ?_
  rintro e w' ⟨rfl, rfl⟩
  exact ⟨none, 0, rfl, Own.nil _ _ _ _, Ext.refl _⟩

end Go.Proofs.YtjllhjlmjbpinaaGreatDoor
namespace Go.Proofs.YtjllhjlmjbpinaaGreatDoor
open Go.RowKit

set_option maxRecDepth 100000
set_option linter.unusedVariables false
set_option maxHeartbeats 6400000

theorem reforphans_c {w : World} {fa : Option Addr} {fn fc : Nat} {N : List (List UInt8)} (hF : Strs w fa fn fc N) (hNl : ∀ s ∈ N, s.length ≤ 9223372036854775807) (hNn : N.length ≤ 1000000)
    {nx ck sd : Int} {ao : Option Addr} {n cap : Nat} {L : List (List Int)} (hG : Grid w ao n cap L) (hsum : L.flatten.length ≤ 17592186044416) :
    Calls Tryz.prog 8 #[.slice fa fn fc, .agg #[.int .i64 nx, .int .i64 ck, .int .u64 sd, .slice ao n cap]] w (RetS w (N.filter (orphB L.flatten))) := by
  obtain ⟨w1, hw1⟩ : ∃ W, w.alloc (.cells #[.int .i64 nx, .int .i64 ck, .int .u64 sd, .slice ao n cap] 26) = W := ⟨_, rfl⟩
  have HX : Hid (Ext w w1) := Lib.hid (by rw [← hw1]; exact ext_a1 w _)
  have HBx : Hid (Blk w1 w.heap.size 26 #[.int .i64 nx, .int .i64 ck, .int .u64 sd, .slice ao n cap]) := Lib.hid (by rw [← hw1]; exact Blk.new w _ _)
  have HA := Lib.hid (fun W hW => refall_c ao n cap L W (hG.ext (HX.out.trans hW)) hsum)
  have HNl := Lib.hid hNl
  have HNs := Lib.hid (hF.ext HX.out)
  have hf1 := hF.fits; have hf2 := hF.bound
  obtain ⟨T, hT⟩ : ∃ T, L.flatten = T := ⟨_, rfl⟩
  rw [hT] at HA ⊢
  obtain ⟨m, hm⟩ : ∃ m, N.length = m := ⟨_, rfl⟩
  have hml : fn = m := by rw [← hm]; exact hF.len.symm
  subst hml
  have HM := Lib.hid hm
  have hm1 : fn ≤ 1000000 := by omega
  have HCnt : Hid (∀ k, ((N.take k).filter (orphB T)).length ≤ 1000000) := Lib.hid fun k => by
    have h1 := List.length_filter_le (orphB T) (N.take k)
    have h2 : (N.take k).length ≤ N.length := by rw [List.length_take]; omega
    omega
  clear hNl hG hsum hT hm hNn hF
  go_enter Tryz.func8, Tryz.ntmps8
  go_wp2_with fail
  try rw [hw1]
  have HW1 := Lib.hid hw1
  clear hw1
  go_loopw [5, 6] (fun v i wr => ∃ k : Nat, k ≤ fn ∧ i = .int .i64 k ∧ Own wr w1.heap.size 9 1 v ((N.take k).filter (orphB T)).length (((N.take k).filter (orphB T)).map encStr) ∧ Ext w1 wr) (fun _ i _ => fn - (intOf i).toNat)
  case atStart => exact ⟨0, Nat.zero_le _, rfl, Own.nil _ _ _ _, Ext.refl _⟩
  case round =>
  obtain ⟨k, hk, rfl, hown, hb⟩ := hrel
  have Hb := Lib.hid hb; have Hown := Lib.hid hown
  clear hb hown
  by_cases hlt : k < fn
  · have hkN : k < N.length := by rw [HM.out]; exact hlt
    obtain ⟨b, off, rfl, z1⟩ := (HNs.out.ext Hb.out).at sN hlt
    have HZ : Hid (∀ W, Ext wr W → W.cell? ⟨b, off + k, none⟩ = some (encStr (N.getD k sN))) := Lib.hid fun W hW => cell_ext hW z1
    have hxl : (N.getD k sN).length ≤ 9223372036854775807 := HNl.out _ (by rw [List.getD_eq_getElem?_getD, List.getElem?_eq_getElem hkN]; exact List.getElem_mem hkN)
    have ht := take_succ_getD N sN k hkN
    obtain ⟨x, hx⟩ : ∃ x, N.getD k sN = x := ⟨_, rfl⟩
    rw [hx] at z1 hxl ht HZ
    have HSk : Hid (orphB T x = false → (N.take (k + 1)).filter (orphB T) = (N.take k).filter (orphB T)) := Lib.hid fun h => by rw [ht, List.filter_append]; simp [h]
    have HAk : Hid (orphB T x = true → ∀ {W : World} {v : Value}, Own W w1.heap.size 9 1 v (((N.take k).filter (orphB T)).length + 1) (((N.take k).filter (orphB T)).map encStr ++ [encStr x]) = Own W w1.heap.size 9 1 v ((N.take (k + 1)).filter (orphB T)).length (((N.take (k + 1)).filter (orphB T)).map encStr)) := Lib.hid fun h => by
      intro W v; rw [ht, List.filter_append]; simp [h]
    have HOb : Hid (orphB T x = (x == newN || ((parseS x).2.2 && ((parseS x).1 == 116 || (parseS x).1 == 98) && !decide (((parseS x).2.1 : Int) ∈ T)))) := Lib.hid rfl
    have HPa := Lib.hid fun W => refparse_c x W hxl
    have HLe : Hid ((parseS x).2.2 = true → (parseS x).1 = 99 ∨ (parseS x).1 = 116 ∨ (parseS x).1 = 98) := Lib.hid fun h => by
      have h1 := (name_parse h).1
      unfold letterB at h1
      simp only [Bool.or_eq_true, beq_iff_eq] at h1
      rcases h1 with (h | h) | h
      · exact .inl h
      · exact .inr (.inl h)
      · exact .inr (.inr h)
    clear hx ht
    obtain ⟨K, hK⟩ : ∃ K : Int, ((parseS x).1.toNat : Int) = K := ⟨_, rfl⟩
    obtain ⟨M, hM⟩ : ∃ M : Int, ((parseS x).2.1 : Int) = M := ⟨_, rfl⟩
    obtain ⟨ok, hok⟩ : ∃ ok : Bool, (parseS x).2.2 = ok := ⟨_, rfl⟩
    have HK1 : Hid (((parseS x).1 == 116) = decide (K = 116)) := Lib.hid (by rw [← hK]; exact byte_eq_dec _ 116)
    have HK2 : Hid (((parseS x).1 == 98) = decide (K = 98)) := Lib.hid (by rw [← hK]; exact byte_eq_dec _ 98)
    have HKc : Hid (ok = true → K = 99 ∨ K = 116 ∨ K = 98) := Lib.hid fun h => by
      rcases HLe.out (hok.trans h) with h | h | h <;> rw [h] at hK
      · exact .inl hK.symm
      · exact .inr (.inl hK.symm)
      · exact .inr (.inr hK.symm)
    rw [hM, hok] at HOb
    rw [HK1.out, HK2.out] at HOb
    have HPb : Hid (∀ W, Calls Tryz.prog 22 #[.string ⟨x.toArray⟩] W fun e w' => e = .returned (.tuple #[.int .u8 K, .int .i64 M, .bool ok]) ∧ Ext W w') := Lib.hid (by rw [← hK, ← hM, ← hok]; exact HPa.out)
    clear hK hM hok HPa HK1 HK2 HLe
    go_wp2_with fail
    refine (HPb.out wr).mono ?_
    rintro e w3 ⟨rfl, hx⟩
    have HB3 := Lib.hid (Hb.out.trans hx)
    have HO3 := Lib.hid (Hown.out.ext hx)
    have z3 := HZ.out _ hx
    have q3 := (HBx.out.ext HB3.out).cell 3
    have HZ := Lib.hid fun W hW => HZ.out W (hx.trans hW)
    clear hx z1
    cases hnew : x == newN with
    | true =>
      have HY : Hid (orphB T x = true) := Lib.hid (by rw [HOb.out, hnew]; rfl)
      have hnew' : (x == [110, 101, 119]) = true := hnew
      clear hnew
      go_wp2_with (at_builtin; refine wpList_append_any rfl _ _ 31 rfl w1.heap.size 9 _ 1 16 Tryz.underlying31 info_s rfl (by decide) _ _ _ rfl (HO3.out.ext ((Ext.refl _).alloc _)) _ _ _ [encStr x] rfl rfl (fun h => by cases h) (Rd.lit _ _ _) (by intro u hu; rw [List.mem_singleton.1 hu]; rfl) (by have := HCnt.out k; omega) (by have := HCnt.out k; omega) (by have := HB3.out.size; simp; omega) ?_; intro v' w6 hown' hg hfr)
      have hb1 := below_own (HB3.out.alloc (.cells #[encStr x] 9)) (HO3.out.ext ((Ext.refl _).alloc _)) hg (by have := HB3.out.size; simp; omega)
      have HB6 := Lib.hid hb1; clear hb1
      have hown2 := (HAk.out HY.out).symm ▸ hown'
      have HO := Lib.hid hown2; clear hown2 hown' hg hfr
      go_wp2_with fail
      go_roundw
      case rel => exact ⟨k + 1, by omega, by go_num, HO.out, HB6.out⟩
      case measure => simp [intOf]; omega
    | false =>
      have hnew' : (x == [110, 101, 119]) = false := hnew
      rw [hnew] at HOb
      clear hnew
      cases ok with
      | false =>
        have HY : Hid (orphB T x = false) := Lib.hid (by rw [HOb.out]; rfl)
        go_wp2_with fail
        go_roundw
        case rel => exact ⟨k + 1, by omega, by go_num, by rw [HSk.out HY.out]; exact HO3.out, HB3.out⟩
        case measure => simp [intOf]; omega
      | true =>
        by_cases hk3 : K = 99
        case pos =>
          have HY : Hid (orphB T x = false) := Lib.hid (by rw [HOb.out, hk3]; rfl)
          have hk1 : (K == 99) = true := by simpa using hk3
          have hk2 : (K != 99) = false := by simpa using hk3
          go_wp2_with fail
          go_roundw
          case rel => exact ⟨k + 1, by omega, by go_num, by rw [HSk.out HY.out]; exact HO3.out, HB3.out⟩
          case measure => simp [intOf]; omega
        case neg =>
          have hk2 : (K != 99) = true := by simpa using hk3
          have HOc : Hid (orphB T x = !decide (M ∈ T)) := Lib.hid (by
            rw [HOb.out]; rcases HKc.out rfl with h | h | h
            · exact absurd h hk3
            · rw [decide_eq_true h]; simp
            · rw [decide_eq_true h]; simp)
          obtain ⟨dd, hdd⟩ : ∃ dd, decide (M ∈ T) = dd := ⟨_, rfl⟩
          rw [hdd] at HOc
          have HDd := Lib.hid hdd
          clear hdd
          go_wp2_with fail
          refine (HA.out w3 HB3.out).mono ?_
          rintro e w4 ⟨v4, rfl, hown4, hx4⟩
          obtain ⟨ta, tc, rfl, hti⟩ := own_ints hown4
          have HTi := Lib.hid hti
          have HB4 := Lib.hid (HB3.out.trans hx4)
          have HO4 := Lib.hid (HO3.out.ext hx4)
          have HZ := Lib.hid fun W hW => HZ.out W (hx4.trans hW)
          clear hown4 hx4 hti z3 q3
          go_wp2_with fail
          refine (has_c _ _ _ T M w4 HTi.out).mono ?_
          rw [HDd.out]
          rintro e w5 ⟨rfl, hx⟩
          have HB5 := Lib.hid (HB4.out.trans hx)
          have HO5 := Lib.hid (HO4.out.ext hx)
          have z5 := HZ.out _ hx
          clear hx
          cases dd with
          | true =>
            have HY : Hid (orphB T x = false) := Lib.hid HOc.out
            go_wp2_with fail
            go_roundw
            case rel => exact ⟨k + 1, by omega, by go_num, by rw [HSk.out HY.out]; exact HO5.out, HB5.out⟩
            case measure => simp [intOf]; omega
          | false =>
            have HY : Hid (orphB T x = true) := Lib.hid HOc.out
            go_wp2_with (at_builtin; refine wpList_append_any rfl _ _ 31 rfl w1.heap.size 9 _ 1 16 Tryz.underlying31 info_s rfl (by decide) _ _ _ rfl (HO5.out.ext ((Ext.refl _).alloc _)) _ _ _ [encStr x] rfl rfl (fun h => by cases h) (Rd.lit _ _ _) (by intro u hu; rw [List.mem_singleton.1 hu]; rfl) (by have := HCnt.out k; omega) (by have := HCnt.out k; omega) (by have := HB5.out.size; simp; omega) ?_; intro v' w6 hown' hg hfr)
            have hb1 := below_own (HB5.out.alloc (.cells #[encStr x] 9)) (HO5.out.ext ((Ext.refl _).alloc _)) hg (by have := HB5.out.size; simp; omega)
            have HB6 := Lib.hid hb1; clear hb1
            have hown2 := (HAk.out HY.out).symm ▸ hown'
            have HO := Lib.hid hown2; clear hown2 hown' hg hfr
            go_wp2_with fail
            go_roundw
            case rel => exact ⟨k + 1, by omega, by go_num, HO.out, HB6.out⟩
            case measure => simp [intOf]; omega
  · obtain rfl : k = fn := by omega
    have HTk : Hid (N.take k = N) := Lib.hid (List.take_of_length_le (by rw [HM.out]; exact Nat.le_refl _))
    have hown := Hown.out
    rw [HTk.out] at hown
    obtain ⟨oa, oc, rfl⟩ := hown.slice
    have HFin := Lib.hid hown
    clear hown
    go_wp2_with fail
    go_ret
    exact ⟨oa, oc, rfl, HFin.out.base HX.out.size, HX.out.trans Hb.out⟩

theorem names_dk {w : World} {g : Nat} {F : Nat → Prop} {σ : DM} (h : Dk w g F σ) : Calls Tryz.prog 7 #[.pointer (some ⟨g, 0, none⟩)] w (RetS w (namesM σ)) := by
  obtain ⟨ho, m, kv, L, hi, _⟩ := h
  have := ho.many
  have hl : L.length = σ.L.length := by rw [← hi.files, List.length_map]
  have hn := names_c w g m L hi.c0 hi.c3 hi.fs (by omega)
  have e : L.map FE.nm = namesM σ := by unfold namesM; rw [← hi.files, List.map_map]; rfl
  rw [e] at hn
  exact hn.mono fun _ _ h => h.s

theorem Slf.off {α : Type} {f : α → Value} {F : Nat → Prop} {w : World} {ka : Option Addr} {kn kc : Nat} {xs : List α} (h : Slf f w ka kn kc xs) (hn : ∀ a, ka = some a → ¬ F a.block) : ∀ W, OffS F w W → Slf f W ka kn kc xs := fun W hW => by
  refine ⟨h.len, h.fits, h.bound, h.nil, fun j u hj => ?_⟩
  obtain ⟨b, off, e, hc⟩ := h.rd j u hj
  refine ⟨b, off, e, ?_⟩
  have hb := hW.block b (World.block_lt_of_cell? (h := hc)) (hn _ e)
  simp only [World.cell?, hb] at hc ⊢
  exact hc

/-- files that are deleted, one by one -/
def delsM (σ : DM) (ns : List (List UInt8)) : DM := { σ with L := ns.foldl (fun L nm => delN FM.nm nm L) σ.L }
theorem dels_nil (σ : DM) : delsM σ [] = σ := rfl
theorem dels_snoc (σ : DM) (ns : List (List UInt8)) (x : List UInt8) : delsM σ (ns ++ [x]) = { σ with L := delN FM.nm x (delsM σ ns).L } := by unfold delsM; rw [List.foldl_append]; rfl
theorem dels_L : ∀ (ns : List (List UInt8)) (L : List FM), ns.foldl (fun L nm => delN FM.nm nm L) L = L.filter fun f => !ns.contains f.nm
  | [], L => (List.filter_eq_self.2 fun _ _ => rfl).symm
  | x :: r, L => by
    rw [List.foldl_cons, dels_L r]
    unfold delN
    rw [List.filter_filter]
    refine List.filter_congr fun y _ => ?_
    rw [List.contains_cons]
    cases y.nm == x <;> simp
theorem dels_step {σ : DM} (hup : σ.down = false) (hf : σ.fail = false) (hl : σ.left = 0) {ns : List (List UInt8)} {x : List UInt8} (hx : x ∈ namesM σ) (hn : x ∉ ns) : deleteM (delsM σ ns) x = (0, delsM σ (ns ++ [x])) := by
  have hL : (delsM σ ns).L = σ.L.filter fun f => !ns.contains f.nm := dels_L ns σ.L
  have hfind : (findN FM.nm x (delsM σ ns).L).isNone = false := by
    rw [hL]
    cases hq : findN FM.nm x (σ.L.filter fun f => !ns.contains f.nm) with
    | some _ => rfl
    | none =>
      obtain ⟨f, hfm, rfl⟩ := List.mem_map.1 hx
      exact absurd rfl (findN_none hq f (List.mem_filter.2 ⟨hfm, by simpa using hn⟩))
  unfold deleteM
  rw [if_neg (by show ¬ σ.down = true; rw [hup]; decide), if_neg (by rw [hfind]; decide), if_neg (by show ¬ (σ.fail && decide (σ.left = 0)) = true; rw [hf]; simp), dels_snoc]
  congr 1
  show DM.mk _ _ _ _ _ _ (max (σ.left - 1) 0) _ = DM.mk _ _ _ _ _ _ σ.left _
  rw [hl]; rfl
theorem dels_all {σ : DM} (p : List UInt8 → Bool) : delsM σ ((namesM σ).filter p) = { σ with L := σ.L.filter fun f => !p f.nm } := by
  unfold delsM
  rw [dels_L]
  congr 1
  refine List.filter_congr fun f hf => ?_
  congr 1
  rw [Bool.eq_iff_iff, List.contains_iff_mem, List.mem_filter]
  exact ⟨fun h => h.2, fun h => ⟨List.mem_map.2 ⟨f, hf, rfl⟩, h⟩⟩
theorem names_nodup {σ : DM} (h : okD σ) : (namesM σ).Nodup := by
  unfold namesM
  exact List.pairwise_map.2 (ord_ne h.ord)

theorem DkS.pre {w w2 wr : World} {g : Nat} {F : Nat → Prop} {τ : DM} (hx : Ext w w2) (hF : ∀ i, F i → i < w.heap.size) (h : DkS w2 g F τ wr) : DkS w g F τ wr := by
  have s1 := hx.size; have s2 := h.off.size
  refine ⟨h.dk.mono (fun i hi => ?_) (fun i hi => ?_), (OffS.of_ext hx).trans h.off⟩
  · rcases hi with h1 | h1
    · exact .inl h1
    · exact .inr (by omega)
  · rcases hi with h1 | h1
    · have := hF i h1; omega
    · exact h1.2

theorem clean_c {w : World} {g : Nat} {F : Nat → Prop} {σ : DM} (h : Dk w g F σ) (hup : σ.down = false) (hf : σ.fail = false) (hNl : ∀ s ∈ namesM σ, s.length ≤ 9223372036854775807)
    {nx ck sd : Int} {ao : Option Addr} {n cap : Nat} {L : List (List Int)} (hG : Grid w ao n cap L) (hsum : L.flatten.length ≤ 17592186044416) :
    Calls Tryz.prog 11 #[.pointer (some ⟨g, 0, none⟩), .agg #[.int .i64 nx, .int .i64 ck, .int .u64 sd, .slice ao n cap]] w fun e w' => e = .returned (.int .i64 0) ∧ DkS w g F { σ with L := σ.L.filter fun f => !orphB L.flatten f.nm } w' := by
  obtain ⟨w1, hw1⟩ : ∃ W, w.alloc (.cells #[.int .i64 nx, .int .i64 ck, .int .u64 sd, .slice ao n cap] 26) = W := ⟨_, rfl⟩
  have hx : Ext w w1 := by rw [← hw1]; exact ext_a1 w _
  have HX := Lib.hid hx
  have HD := Lib.hid (h.ext hx)
  have HOv : Hid (overM σ = 0) := Lib.hid (by unfold overM; rw [if_neg (by rw [hup]; decide)])
  have HSt : Hid (∀ (ns : List (List UInt8)) (x : List UInt8), x ∈ namesM σ → x ∉ ns → deleteM (delsM σ ns) x = (0, delsM σ (ns ++ [x]))) := Lib.hid fun ns x h1 h2 => dels_step hup hf (h.1.idle hf) h1 h2
  have HNd := Lib.hid (names_nodup h.1)
  have HLt : Hid (∀ i, F i → i < w.heap.size) := Lib.hid (by obtain ⟨_, _, _, _, _, _, h⟩ := h; exact h)
  have HNm : Hid ((namesM σ).length ≤ 1000000) := Lib.hid (by have := h.1.many; unfold namesM; rw [List.length_map]; omega)
  have HG := Lib.hid (hG.ext hx)
  have HNl := Lib.hid hNl
  have hb : Blk w1 w.heap.size 26 #[.int .i64 nx, .int .i64 ck, .int .u64 sd, .slice ao n cap] := by rw [← hw1]; exact Blk.new w _ _
  have d0 := hb.cell 0; have d1 := hb.cell 1; have d2 := hb.cell 2; have d3 := hb.cell 3
  clear h hup hf hNl hG hx hb
  go_enter Tryz.func11, Tryz.ntmps11
  go_wp2_with fail
  try rw [hw1]
  have HW1 := Lib.hid hw1
  clear hw1
  refine (over_c HD.out).mono ?_
  rw [HOv.out]
  rintro e w' ⟨rfl, rfl⟩
  go_wp2_with fail
  refine (orphans_c (fun W hW => names_dk (HD.out.ext hW)) HNl.out HNm.out HG.out hsum).mono ?_
  obtain ⟨O, hO⟩ : ∃ O, (namesM σ).filter (orphB L.flatten) = O := ⟨_, rfl⟩
  have HAll : Hid (delsM σ O = { σ with L := σ.L.filter fun f => !orphB L.flatten f.nm }) := Lib.hid (by rw [← hO]; exact dels_all _)
  have HOs : Hid (∀ x ∈ O, x ∈ namesM σ) := Lib.hid (by rw [← hO]; exact fun x hx => (List.mem_filter.1 hx).1)
  have HOd : Hid O.Nodup := Lib.hid (by rw [← hO]; exact HNd.out.filter _)
  rw [hO]
  intro e w2 hr
  obtain ⟨oa, oc, rfl, hown, hx⟩ := hr
  have HD2 := Lib.hid (HD.out.ext hx)
  have HX2 := Lib.hid (HX.out.trans hx)
  have hob := hown.lt
  obtain ⟨oa', oc', e2, hst⟩ := Slf.of_own hown
  cases e2
  have hf1 := hst.fits; have hf2 := hst.bound
  have HStr := Lib.hid (hst.off (F := F) (fun a e hfa => by
    subst e
    have h1 := (hob a.block rfl).1
    have h2 := HX.out.size
    have h3 := HLt.out _ hfa
    omega))
  obtain ⟨m, hm⟩ : ∃ m, O.length = m := ⟨_, rfl⟩
  rw [hm] at hf1 HStr ⊢
  have HM := Lib.hid hm
  clear hx hown hob hst hO hm d0 d1 d2 d3
  go_wp2_with fail
  go_loopw [18] (fun i wr => ∃ k : Nat, k ≤ m ∧ i = .int .i64 k ∧ DkS w2 g F (delsM σ (O.take k)) wr) (fun i _ => m - (intOf i).toNat)
  case atStart => exact ⟨0, Nat.zero_le _, rfl, by rw [List.take_zero, dels_nil]; exact DkS.refl HD2.out⟩
  case round =>
  obtain ⟨k, hk, rfl, hdk⟩ := hrel
  have HDk := Lib.hid hdk
  clear hdk
  by_cases hlt : k < m
  · have hkN : k < O.length := by rw [HM.out]; exact hlt
    obtain ⟨b, off, rfl, z1⟩ := (HStr.out wr HDk.out.off).at sN hlt
    have hxe : O.getD k sN = O[k] := by rw [List.getD_eq_getElem?_getD, List.getElem?_eq_getElem hkN]; rfl
    have HTk : Hid (O.take (k + 1) = O.take k ++ [O.getD k sN]) := Lib.hid (take_succ_getD O sN k hkN)
    have hmem : O.getD k sN ∈ namesM σ := HOs.out _ (by rw [hxe]; exact List.getElem_mem hkN)
    have hnot : O.getD k sN ∉ O.take k := by
      rw [hxe]
      have h2 : (O.take (k + 1)).Nodup := HOd.out.sublist (List.take_sublist _ _)
      rw [List.take_succ_eq_append_getElem hkN, List.nodup_append] at h2
      exact fun h => h2.2.2 _ h _ (List.mem_singleton.2 rfl) rfl
    have HSp := Lib.hid (HSt.out _ _ hmem hnot)
    have hxl := HNl.out _ hmem
    obtain ⟨x, hx⟩ : ∃ x, O.getD k sN = x := ⟨_, rfl⟩
    rw [hx] at z1 hxl HSp HTk
    clear hx hmem hnot hxe
    go_wp2_with fail
    refine (delete_c HDk.out.dk x hxl).mono ?_
    rw [HSp.out]
    rintro e w3 ⟨rfl, hd⟩
    have HD3 := Lib.hid (HDk.out.trans hd)
    clear hd z1
    go_wp2_with fail
    go_roundw
    case rel => exact ⟨k + 1, by omega, by go_num, by rw [HTk.out]; exact HD3.out⟩
    case measure => simp [intOf]; omega
  · obtain rfl : k = m := by omega
    have HTk : Hid (O.take k = O) := Lib.hid (List.take_of_length_le (by rw [HM.out]; exact Nat.le_refl _))
    have hd := HDk.out
    rw [HTk.out, HAll.out] at hd
    have HFin := Lib.hid (DkS.pre HX2.out HLt.out hd)
    clear hd
    go_wp2_with fail
    go_ret
    exact ⟨rfl, HFin.out⟩

end Go.Proofs.YtjllhjlmjbpinaaGreatDoor
namespace Go.Proofs.YtjllhjlmjbpinaaGreatDoor
open Go.RowKit

/-- a disk that is up and is not to fail, its names short -/
structure NmOk (σ : DM) : Prop where
  up : σ.down = false
  fail : σ.fail = false
  nm : ∀ f ∈ σ.L, f.nm.length ≤ 12
theorem NmOk.names {σ : DM} (h : NmOk σ) : ∀ s ∈ namesM σ, s.length ≤ 9223372036854775807 := fun s hs => by
  obtain ⟨f, hf, rfl⟩ := List.mem_map.1 hs
  have := h.nm f hf
  omega
theorem NmOk.create {σ : DM} (h : NmOk σ) (nm : List UInt8) {r : Int × DM} (hr : createM σ nm = r) : NmOk r.2 := by
  subst hr
  unfold createM
  rw [if_neg (by rw [h.up]; decide)]
  split
  · exact h
  split
  · exact h
  split
  · exact h
  split
  · rename_i h1 h2 h3 h4
    unfold failsM at h4
    rw [h.fail] at h4
    cases h4
  · rename_i h1 h2 h3 h4
    refine ⟨h.up, h.fail, fun f hf => ?_⟩
    rcases mem_insN.1 hf with rfl | hf
    · have : okName nm = true := by cases hq : okName nm with | true => rfl | false => rw [hq] at h1; exact absurd rfl h1
      unfold okName at this
      rw [Bool.and_eq_true] at this
      exact of_decide_eq_true this.2
    · exact h.nm f hf
theorem nameS_le (c : UInt8) (n : Int) : (nameS c n).length ≤ 9223372036854775807 := by
  unfold nameS
  split
  · rw [List.length_cons, digs_length]; omega
  · simp
theorem newM_ok (c : Int) : NmOk (newM c) := ⟨rfl, rfl, fun f hf => by cases hf⟩

set_option maxRecDepth 100000
set_option linter.unusedVariables false
set_option maxHeartbeats 12800000

theorem files_c {w : World} {co : Option Addr} {k cap3 : Nat} {bs : List Int} (hz : U8s w co k cap3 bs) (hwb : ∀ x ∈ bs, (Lit.int .u8 x).wf = true) :
    Calls Tryz.prog 6 #[.slice co k cap3] w fun e w' => ∃ g σ, e = .returned (.pointer (some ⟨g, 0, none⟩)) ∧ KD w w' g σ ∧ NmOk σ := by
  have Hz := Lib.hid hz
  have HWB := Lib.hid hwb
  have b1 := hz.fits; have b2 := hz.bound
  clear hz hwb
  go_enter Tryz.func6, Tryz.ntmps6
  go_wp2_with fail
  refine (KD.new w 30000 (by decide) (by decide) (Ext.refl _)).mono ?_
  rintro e w1 ⟨g, rfl, hkd⟩
  have HK := Lib.hid hkd
  clear hkd
  go_wp2_with fail
  go_loopw [5] (fun i wr => ∃ j : Nat, j ≤ k ∧ i = .int .i64 j ∧ ∃ σ, KD w wr g σ ∧ NmOk σ) (fun i _ => k - (intOf i).toNat)
  case atStart => exact ⟨0, Nat.zero_le _, rfl, _, HK.out, newM_ok _⟩
  case round =>
  obtain ⟨j, hj, rfl, σ, hkd, hok⟩ := hrel
  have HK := Lib.hid hkd; have HOk := Lib.hid hok
  clear hkd hok
  by_cases hlt : j < k
  · obtain ⟨b, off, rfl, z1⟩ := (Hz.out.ext HK.out.base).at 0 hlt
    have hwx := wf_getD HWB.out j (by decide)
    obtain ⟨X, hXe⟩ : ∃ X, bs.getD j 0 = X := ⟨_, rfl⟩
    rw [hXe] at z1 hwx
    have hX := bounds_u8 hwx
    clear hwx hXe
    obtain ⟨q, hq⟩ : ∃ q, Int.tdiv X 8 = q := ⟨_, rfl⟩
    obtain ⟨r, hr⟩ : ∃ r, Int.tmod X 8 = r := ⟨_, rfl⟩
    have hq0 : 0 ≤ q ∧ q ≤ 31 := by rw [← hq, Int.tdiv_eq_ediv_of_nonneg hX.1]; omega
    have hr0 : 0 ≤ r ∧ r ≤ 7 := by rw [← hr, Int.tmod_eq_emod_of_nonneg hX.1]; omega
    have hr8 : r = 0 ∨ r = 1 ∨ r = 2 ∨ r = 3 ∨ r = 4 ∨ r = 5 ∨ r = 6 ∨ r = 7 := by omega
    clear hr0
    rcases hr8 with rfl | rfl | rfl | rfl | rfl | rfl | rfl | rfl
    · go_wp2_with fail
      refine (chunk_c q wr).mono ?_
      rintro e w2 ⟨rfl, hx⟩
      have HK2 := Lib.hid (HK.out.ext hx)
      clear hx z1
      go_wp2_with fail
      obtain ⟨rr, hrr⟩ : ∃ rr, createM σ (nameS 99 q) = rr := ⟨_, rfl⟩
      have HOk2 := Lib.hid (HOk.out.create _ hrr)
      refine (KD.create HK2.out (nameS 99 q) (nameS_le _ _) (c := rr.1) (σ' := rr.2) hrr).mono ?_
      rintro e w3 ⟨rfl, hk⟩
      have HK3 := Lib.hid hk
      clear hk hrr
      go_wp2_with fail
      go_roundw
      case rel => exact ⟨j + 1, by omega, by go_num, _, HK3.out, HOk2.out⟩
      case measure => simp [intOf]; omega
    · go_wp2_with fail
      obtain ⟨rr, hrr⟩ : ∃ rr, createM σ [110, 101, 119] = rr := ⟨_, rfl⟩
      have HOk2 := Lib.hid (HOk.out.create _ hrr)
      clear z1
      refine (KD.create HK.out [110, 101, 119] (by decide) (c := rr.1) (σ' := rr.2) hrr).mono ?_
      rintro e w3 ⟨rfl, hk⟩
      have HK3 := Lib.hid hk
      clear hk hrr
      go_wp2_with fail
      go_roundw
      case rel => exact ⟨j + 1, by omega, by go_num, _, HK3.out, HOk2.out⟩
      case measure => simp [intOf]; omega
    · go_wp2_with fail
      obtain ⟨rr, hrr⟩ : ∃ rr, createM σ [120] = rr := ⟨_, rfl⟩
      have HOk2 := Lib.hid (HOk.out.create _ hrr)
      clear z1
      refine (KD.create HK.out [120] (by decide) (c := rr.1) (σ' := rr.2) hrr).mono ?_
      rintro e w3 ⟨rfl, hk⟩
      have HK3 := Lib.hid hk
      clear hk hrr
      go_wp2_with fail
      go_roundw
      case rel => exact ⟨j + 1, by omega, by go_num, _, HK3.out, HOk2.out⟩
      case measure => simp [intOf]; omega
    · go_wp2_with fail
      refine (table_c q wr).mono ?_
      rintro e w2 ⟨rfl, hx⟩
      have HK2 := Lib.hid (HK.out.ext hx)
      clear hx z1
      go_wp2_with fail
      obtain ⟨rr, hrr⟩ : ∃ rr, createM σ (nameS 116 q) = rr := ⟨_, rfl⟩
      have HOk2 := Lib.hid (HOk.out.create _ hrr)
      refine (KD.create HK2.out (nameS 116 q) (nameS_le _ _) (c := rr.1) (σ' := rr.2) hrr).mono ?_
      rintro e w3 ⟨rfl, hk⟩
      have HK3 := Lib.hid hk
      clear hk hrr
      go_wp2_with fail
      go_roundw
      case rel => exact ⟨j + 1, by omega, by go_num, _, HK3.out, HOk2.out⟩
      case measure => simp [intOf]; omega
    · go_wp2_with fail
      refine (table_c q wr).mono ?_
      rintro e w2 ⟨rfl, hx⟩
      have HK2 := Lib.hid (HK.out.ext hx)
      clear hx z1
      go_wp2_with fail
      obtain ⟨rr, hrr⟩ : ∃ rr, createM σ (nameS 116 q) = rr := ⟨_, rfl⟩
      have HOk2 := Lib.hid (HOk.out.create _ hrr)
      refine (KD.create HK2.out (nameS 116 q) (nameS_le _ _) (c := rr.1) (σ' := rr.2) hrr).mono ?_
      rintro e w3 ⟨rfl, hk⟩
      have HK3 := Lib.hid hk
      clear hk hrr
      go_wp2_with fail
      go_roundw
      case rel => exact ⟨j + 1, by omega, by go_num, _, HK3.out, HOk2.out⟩
      case measure => simp [intOf]; omega
    · go_wp2_with fail
      refine (table_c q wr).mono ?_
      rintro e w2 ⟨rfl, hx⟩
      have HK2 := Lib.hid (HK.out.ext hx)
      clear hx z1
      go_wp2_with fail
      obtain ⟨rr, hrr⟩ : ∃ rr, createM σ (nameS 116 q) = rr := ⟨_, rfl⟩
      have HOk2 := Lib.hid (HOk.out.create _ hrr)
      refine (KD.create HK2.out (nameS 116 q) (nameS_le _ _) (c := rr.1) (σ' := rr.2) hrr).mono ?_
      rintro e w3 ⟨rfl, hk⟩
      have HK3 := Lib.hid hk
      clear hk hrr
      go_wp2_with fail
      go_roundw
      case rel => exact ⟨j + 1, by omega, by go_num, _, HK3.out, HOk2.out⟩
      case measure => simp [intOf]; omega
    · go_wp2_with fail
      refine (bloom_c q wr).mono ?_
      rintro e w2 ⟨rfl, hx⟩
      have HK2 := Lib.hid (HK.out.ext hx)
      clear hx z1
      go_wp2_with fail
      obtain ⟨rr, hrr⟩ : ∃ rr, createM σ (nameS 98 q) = rr := ⟨_, rfl⟩
      have HOk2 := Lib.hid (HOk.out.create _ hrr)
      refine (KD.create HK2.out (nameS 98 q) (nameS_le _ _) (c := rr.1) (σ' := rr.2) hrr).mono ?_
      rintro e w3 ⟨rfl, hk⟩
      have HK3 := Lib.hid hk
      clear hk hrr
      go_wp2_with fail
      go_roundw
      case rel => exact ⟨j + 1, by omega, by go_num, _, HK3.out, HOk2.out⟩
      case measure => simp [intOf]; omega
    · go_wp2_with fail
      refine (bloom_c q wr).mono ?_
      rintro e w2 ⟨rfl, hx⟩
      have HK2 := Lib.hid (HK.out.ext hx)
      clear hx z1
      go_wp2_with fail
      obtain ⟨rr, hrr⟩ : ∃ rr, createM σ (nameS 98 q) = rr := ⟨_, rfl⟩
      have HOk2 := Lib.hid (HOk.out.create _ hrr)
      refine (KD.create HK2.out (nameS 98 q) (nameS_le _ _) (c := rr.1) (σ' := rr.2) hrr).mono ?_
      rintro e w3 ⟨rfl, hk⟩
      have HK3 := Lib.hid hk
      clear hk hrr
      go_wp2_with fail
      go_roundw
      case rel => exact ⟨j + 1, by omega, by go_num, _, HK3.out, HOk2.out⟩
      case measure => simp [intOf]; omega
  · go_wp2_with fail
    go_ret
    exact ⟨g, σ, rfl, HK.out, HOk.out⟩

end Go.Proofs.YtjllhjlmjbpinaaGreatDoor
namespace Go.Proofs.YtjllhjlmjbpinaaGreatDoor
open Go.RowKit

theorem filter_not_filter {α : Type} (p : α → Bool) (l : List α) : (l.filter fun x => !p x).filter p = [] := by
  rw [List.filter_filter]
  exact List.filter_eq_nil_iff.2 fun x _ => by cases p x <;> simp
theorem one_filter {α : Type} [DecidableEq α] (p : α → Bool) (x : α) : decide ([x].filter p = [x]) = p x := by
  cases h : p x <;> simp [h]

set_option maxRecDepth 100000
set_option linter.unusedVariables false
set_option maxHeartbeats 12800000

theorem orphlaw_c (co : Option Addr) (k cap3 : Nat) (bs : List Int) (nx ck sd : Int) (ao : Option Addr) (n cap : Nat) (L : List (List Int)) (w : World) (hz : U8s w co k cap3 bs) (hx : Grid w ao n cap L) (hwb : ∀ x ∈ bs, (Lit.int .u8 x).wf = true) :
    Calls Tryz.prog 3 #[.slice co k cap3, .agg #[.int .i64 nx, .int .i64 ck, .int .u64 sd, .slice ao n cap]] w fun e w' => e = .returned (.bool true) ∧ Ext w w' := by
  have Hx := Lib.hid hx; have Hz := Lib.hid hz; have HWB := Lib.hid hwb
  have b1 := hz.fits; have b2 := hz.bound
  clear hx hz hwb
  obtain ⟨W0, hW0⟩ : ∃ W, w.alloc (.cells #[.int .i64 nx, .int .i64 ck, .int .u64 sd, .slice ao n cap] 26) = W := ⟨_, rfl⟩
  have HE0 : Hid (Ext w W0) := Lib.hid (by rw [← hW0]; exact ext_a1 w _)
  have HC : Hid (∀ W, Ext W0 W → (W.cell? ⟨w.heap.size, 0, none⟩ = some (.int .i64 nx) ∧ W.cell? ⟨w.heap.size, 1, none⟩ = some (.int .i64 ck) ∧ W.cell? ⟨w.heap.size, 2, none⟩ = some (.int .u64 sd) ∧ W.cell? ⟨w.heap.size, 3, none⟩ = some (.slice ao n cap))) := Lib.hid fun W hW => by
    rw [← hW0] at hW
    have h1 := (Blk.new w 26 #[.int .i64 nx, .int .i64 ck, .int .u64 sd, .slice ao n cap]).ext hW
    exact ⟨h1.cell 0, h1.cell 1, h1.cell 2, h1.cell 3⟩
  obtain ⟨a0, a1, a2, a3⟩ := HC.out W0 (Ext.refl _)
  by_cases hk60 : 60 < k
  · go_enter Tryz.func3, Tryz.ntmps3
    go_wp2_with fail
    try rw [hW0]
    refine (mapped_c _).mono ?_
    rintro e w' ⟨rfl, hx⟩
    have HX := Lib.hid (HE0.out.trans hx)
    clear hx hW0
    go_wp2_with fail
    go_ret
    exact ⟨rfl, HX.out⟩
  go_enter Tryz.func3, Tryz.ntmps3
  go_wp2_with fail
  try rw [hW0]
  have HW0 := Lib.hid hW0
  clear hW0
  refine (great_c _ _ _ L _ (Hx.out.ext HE0.out)).mono ?_
  rintro e w1 ⟨rfl, hb1⟩
  have HB1 := Lib.hid hb1; clear hb1
  by_cases hgr : greatB L = true
  · go_wp2_with fail
    refine (mapped_c _).mono ?_
    rintro e w' ⟨rfl, hx⟩
    have HX := Lib.hid ((HE0.out.trans HB1.out).trans hx)
    clear hx
    go_wp2_with fail
    go_ret
    exact ⟨rfl, HX.out⟩
  have hgr' : greatB L = false := by simpa using hgr
  have HFl : Hid (L.flatten.length ≤ 17592186044416) := Lib.hid (by have := great_flat L hgr'; omega)
  clear hgr a0 a1 a2 a3
  have HBase := Lib.hid ((HE0.out.trans HB1.out))
  go_wp2_with fail
  refine (files_c (Hz.out.ext HBase.out) HWB.out).mono ?_
  rintro e w2 ⟨g, σ, rfl, hkd, hok⟩
  obtain ⟨F, hd, hF, hx⟩ := hkd
  have HLt : Hid (∀ i, F i → i < w2.heap.size) := Lib.hid (by obtain ⟨_, _, _, _, _, _, h⟩ := hd; exact h)
  have HD := Lib.hid hd; have HF := Lib.hid hF; have HOk := Lib.hid hok
  have HX2 := Lib.hid (HB1.out.trans hx)
  have HX21 := Lib.hid hx
  have HNl := Lib.hid hok.names
  have HNn : Hid ((namesM σ).length ≤ 1000000) := Lib.hid (by have := hd.1.many; unfold namesM; rw [List.length_map]; omega)
  have HNF : Hid (namesM { σ with L := σ.L.filter fun f => !orphB L.flatten f.nm } = (namesM σ).filter fun s => !orphB L.flatten s) := Lib.hid (by unfold namesM; rw [List.filter_map]; rfl)
  clear hd hF hx hok
  go_wp2_with fail
  refine (names_dk HD.out).mono ?_
  intro e w3 hr
  obtain ⟨na, nc, rfl, hown, hx⟩ := hr
  obtain ⟨N, hN⟩ : ∃ N, namesM σ = N := ⟨_, rfl⟩
  rw [hN] at hown HNl HNn HNF ⊢
  have HN := Lib.hid hN
  obtain ⟨m, hm⟩ : ∃ m, N.length = m := ⟨_, rfl⟩
  rw [hm] at hown ⊢
  have HM := Lib.hid hm
  have hob := hown.lt
  obtain ⟨na', nc', e2, hst⟩ := Slf.of_own hown
  cases e2
  have hf1 := hst.fits; have hf2 := hst.bound
  have HStr := Lib.hid (hst.off (F := F) (fun a e hfa => by subst e; have h1 := (hob a.block rfl).1; have h2 := HLt.out _ hfa; omega))
  have HD3 := Lib.hid (HD.out.ext hx)
  have HX3 := Lib.hid (HX2.out.trans hx)
  have HX31 := Lib.hid (HX21.out.trans hx)
  obtain ⟨a0, a1, a2, a3⟩ := HC.out w3 HX3.out
  clear hown hx hob hst hN hm
  go_wp2_with fail
  refine (reforphans_c (HStr.out w3 (OffS.refl _ _)) HNl.out HNn.out (Hx.out.ext (HE0.out.trans HX3.out)) HFl.out).mono ?_
  intro e w4 hr
  obtain ⟨ga, gc, rfl, hgs, hx⟩ := hr.strs
  obtain ⟨O, hO⟩ : ∃ O, N.filter (orphB L.flatten) = O := ⟨_, rfl⟩
  rw [hO] at hgs ⊢
  have HO := Lib.hid hO
  have HGs := Lib.hid hgs
  have hf3 := hgs.fits; have hf4 := hgs.bound
  have HE4 := Lib.hid hx
  have HX4 := Lib.hid (HX3.out.trans hx)
  obtain ⟨a0, a1, a2, a3⟩ := HC.out w4 HX4.out
  clear hr hgs hx hO
  go_wp2_with fail
  have hnm : ∀ W, Ext w4 W → Calls Tryz.prog 7 #[.pointer (some ⟨g, 0, none⟩)] W (RetS W N) := fun W hW => by
    have h := names_dk (HD3.out.ext (HE4.out.trans hW)); rwa [HN.out] at h
  refine (orphans_c hnm HNl.out HNn.out (Hx.out.ext (HE0.out.trans HX4.out)) HFl.out).mono ?_
  clear hnm
  intro e w5 hr
  obtain ⟨pa, pc, rfl, hps, hx⟩ := hr.strs
  rw [HO.out] at hps ⊢
  have HPs := Lib.hid hps
  have hf5 := hps.fits; have hf6 := hps.bound
  have HE5 := Lib.hid (HE4.out.trans hx)
  have HX5 := Lib.hid (HX4.out.trans hx)
  have HGs := Lib.hid (HGs.out.ext hx)
  clear hr hps hx
  go_wp2_with fail
  refine (nsame_c HPs.out HGs.out).mono ?_
  rw [decide_eq_true rfl]
  rintro e w6 ⟨rfl, hx⟩
  have HE6 := Lib.hid (HE5.out.trans hx)
  have HX6 := Lib.hid (HX5.out.trans hx)
  obtain ⟨a0, a1, a2, a3⟩ := HC.out w6 HX6.out
  clear hx
  go_wp2_with fail
  refine (clean_c (HD3.out.ext HE6.out) HOk.out.up HOk.out.fail (by rw [HN.out]; exact HNl.out) (Hx.out.ext (HE0.out.trans HX6.out)) HFl.out).mono ?_
  obtain ⟨σ2, hσ2⟩ : ∃ τ, ({ σ with L := σ.L.filter fun f => !orphB L.flatten f.nm } : DM) = τ := ⟨_, rfl⟩
  rw [hσ2] at HNF ⊢
  have HOk2 : Hid (NmOk σ2) := Lib.hid (by rw [← hσ2]; exact ⟨HOk.out.up, HOk.out.fail, fun f hf => HOk.out.nm f (List.mem_filter.1 hf).1⟩)
  rintro e w7 ⟨rfl, hd⟩
  have HD7 := Lib.hid hd.dk
  have HX7 := Lib.hid (hd.off.ext HX6.out fun i hi => by have h1 := HF.out i hi; have h2 := HB1.out.size; omega)
  have HS7 := Lib.hid (HStr.out w7 ((OffS.of_ext HE6.out).trans hd.off))
  clear hd hσ2 a0 a1 a2 a3 HStr HGs HPs HD3
  obtain ⟨T, hT⟩ : ∃ T, L.flatten = T := ⟨_, rfl⟩
  have hm1 : m ≤ 1000000 := by have h := HNn.out; rw [HM.out] at h; exact h
  have HCnt : Hid (∀ j, ((N.take j).filter fun s => !orphB T s).length ≤ 1000000) := Lib.hid fun j => by
    have h1 := List.length_filter_le (fun s => !orphB T s) (N.take j)
    have h2 : (N.take j).length ≤ N.length := by rw [List.length_take]; omega
    have h3 := HNn.out
    omega
  rw [hT] at HNF
  have HT := Lib.hid hT
  clear hT
  go_wp2_with fail
  go_loopw [8, 9] (fun v i wr => ∃ j : Nat, j ≤ m ∧ i = .int .i64 j ∧ Own wr w7.heap.size 9 1 v ((N.take j).filter fun s => !orphB T s).length (((N.take j).filter fun s => !orphB T s).map encStr) ∧ Ext w7 wr) (fun _ i _ => m - (intOf i).toNat)
  case atStart => exact ⟨0, Nat.zero_le _, rfl, Own.nil _ _ _ _, Ext.refl _⟩
  case round =>
  obtain ⟨j, hj, rfl, hown, hb⟩ := hrel
  have Hb := Lib.hid hb; have Hown := Lib.hid hown
  clear hb hown
  by_cases hlt : j < m
  · have hkN : j < N.length := by rw [HM.out]; exact hlt
    obtain ⟨b, off, rfl, z1⟩ := (HS7.out.ext Hb.out).at sN hlt
    have hxl : (N.getD j sN).length ≤ 9223372036854775807 := HNl.out _ (by rw [List.getD_eq_getElem?_getD, List.getElem?_eq_getElem hkN]; exact List.getElem_mem hkN)
    have ht := take_succ_getD N sN j hkN
    obtain ⟨x, hx⟩ : ∃ x, N.getD j sN = x := ⟨_, rfl⟩
    rw [hx] at z1 hxl ht
    have HSk : Hid (orphB T x = true → (N.take (j + 1)).filter (fun s => !orphB T s) = (N.take j).filter fun s => !orphB T s) := Lib.hid fun h => by rw [ht, List.filter_append]; simp [h]
    have HAk : Hid (orphB T x = false → ∀ {W : World} {v : Value}, Own W w7.heap.size 9 1 v (((N.take j).filter fun s => !orphB T s).length + 1) (((N.take j).filter fun s => !orphB T s).map encStr ++ [encStr x]) = Own W w7.heap.size 9 1 v ((N.take (j + 1)).filter fun s => !orphB T s).length (((N.take (j + 1)).filter fun s => !orphB T s).map encStr)) := Lib.hid fun h => by
      intro W v; rw [ht, List.filter_append]; simp [h]
    have HOne : Hid (∀ W, Ext wr W → Strs W (some ⟨b, off + j, none⟩) 1 (nc - j) [x]) := Lib.hid fun W hW => ⟨rfl, by omega, by omega, (fun h => by cases h), fun i u hi => by
      cases i with
      | zero =>
        refine ⟨b, off + j, rfl, ?_⟩
        have e : u = encStr x := by simpa using hi.symm
        rw [e, Nat.add_zero]
        exact cell_ext hW z1
      | succ i => simp at hi⟩
    have HOr : Hid (∀ W, Ext wr W → Calls Tryz.prog 8 #[.slice (some ⟨b, off + j, none⟩) 1 (nc - j), .agg #[.int .i64 nx, .int .i64 ck, .int .u64 sd, .slice ao n cap]] W (RetS W ([x].filter (orphB T)))) := Lib.hid fun W hW => by
      have h := reforphans_c (nx := nx) (ck := ck) (sd := sd) (HOne.out W hW) (fun s hs => by rw [List.mem_singleton.1 hs]; exact hxl) (by simp) (Hx.out.ext (HE0.out.trans ((HX7.out.trans Hb.out).trans hW))) HFl.out
      rwa [HT.out] at h
    have HSa := Lib.hid (one_filter (orphB T) x)
    have HCd := Lib.hid (fun W (hW : Ext wr W) => HC.out W ((HX7.out.trans Hb.out).trans hW))
    clear hx ht
    have hi0 : (0 : Int) ≤ (j : Int) := by omega
    have hi1 : (j : Int) ≤ (j : Int) + 1 := by omega
    have hi2 : (j : Int) + 1 ≤ (nc : Int) := by omega
    have hi3 : (0 : Int) ≤ (j : Int) + 1 := by omega
    have hw1 : IntKind.i64.wrap ((j : Int) + 1) = (j : Int) + 1 := IntWalk.i64_in _ (by omega)
    have hnc : ¬ nc = j := by omega
    have hE : Ext wr wr.drew := (Ext.refl wr).drew
    have HEd := Lib.hid hE
    obtain ⟨q0, q1, q2, q3⟩ := HCd.out _ hE
    go_wp2_with fail
    go_region_law (go_simp; first | (go_at_call 8; refine (HOr.out _ HEd.out).mono ?_; intro e wa hra; obtain ⟨av, cv, rfl, hka, hxa⟩ := hra.strs; have HKa := Lib.hid hka; have HXa := Lib.hid (HEd.out.trans hxa); have HKb := Lib.hid (HOne.out _ HXa.out); have hfa := hka.fits; have hfb := hka.bound; clear hra hka hxa) | (go_at_call 9; refine (nsame_c HKa.out HKb.out).mono ?_; rw [HSa.out]; rintro e wb ⟨rfl, hxb⟩; have HXb := Lib.hid (HXa.out.trans hxb); clear hxb))
    all_goals
      cases hor : orphB T x with
      | true =>
        have HSk := Lib.hid (HSk.out hor)
        have HOw := Lib.hid (Hown.out.ext HXb.out)
        have HBw := Lib.hid (Hb.out.trans HXb.out)
        clear hor
        go_wp2_with fail
        go_roundw
        case rel => exact ⟨j + 1, by omega, by go_num, by rw [HSk.out]; exact HOw.out, HBw.out⟩
        case measure => simp [intOf]; omega
      | false =>
        have HOw := Lib.hid (Hown.out.ext HXb.out)
        have HBw := Lib.hid (Hb.out.trans HXb.out)
        have HOf := Lib.hid hor
        have z2 := cell_ext HXb.out z1
        clear hor z1
        go_wp2_with (at_builtin; refine wpList_append_any rfl _ _ 31 rfl w7.heap.size 9 _ 1 16 Tryz.underlying31 info_s rfl (by decide) _ _ _ rfl (HOw.out.ext ((Ext.refl _).alloc _)) _ _ _ [encStr x] rfl rfl (fun h => by cases h) (Rd.lit _ _ _) (by intro u hu; rw [List.mem_singleton.1 hu]; rfl) (by have := HCnt.out j; omega) (by have := HCnt.out j; omega) (by have := HBw.out.size; simp; omega) ?_; intro v' w9 hown' hg hfr)
        have hb1 := below_own (HBw.out.alloc (.cells #[encStr x] 9)) (HOw.out.ext ((Ext.refl _).alloc _)) hg (by have := HBw.out.size; simp; omega)
        have HB9 := Lib.hid hb1; clear hb1
        have hown2 := (HAk.out HOf.out).symm ▸ hown'
        have HOo := Lib.hid hown2; clear hown2 hown' hg hfr
        go_wp2_with fail
        go_roundw
        case rel => exact ⟨j + 1, by omega, by go_num, HOo.out, HB9.out⟩
        case measure => simp [intOf]; omega
  · obtain rfl : j = m := by omega
    have HTk : Hid (N.take j = N) := Lib.hid (List.take_of_length_le (by rw [HM.out]; exact Nat.le_refl _))
    have hown := Hown.out
    rw [HTk.out] at hown
    obtain ⟨N', hN'⟩ : ∃ N', (N.filter fun s => !orphB T s) = N' := ⟨_, rfl⟩
    have HNN : Hid (N'.filter (orphB T) = []) := Lib.hid (by rw [← hN']; exact filter_not_filter _ _)
    rw [hN'] at hown HNF
    have HNl2 : Hid (∀ s ∈ N', s.length ≤ 9223372036854775807) := Lib.hid (by rw [← HNF.out]; exact HOk2.out.names)
    have HNn2 : Hid (N'.length ≤ 1000000) := Lib.hid (by have h := HCnt.out j; rw [HTk.out, hN'] at h; exact h)
    obtain ⟨oa, oc, e3, hst3⟩ := Slf.of_own hown
    subst e3
    have HLf := Lib.hid hst3
    have hg1 := hst3.fits; have hg2 := hst3.bound
    have HDr := Lib.hid (HD7.out.ext Hb.out)
    have HXr := Lib.hid (HX7.out.trans Hb.out)
    clear hown hst3 hN'
    have hnm : ∀ W, Ext wr W → Calls Tryz.prog 7 #[.pointer (some ⟨g, 0, none⟩)] W (RetS W N') := fun W hW => by
      have h := names_dk (HDr.out.ext hW); rwa [HNF.out] at h
    have HNm := Lib.hid hnm
    clear hnm
    go_wp2_with fail
    refine (HNm.out wr (Ext.refl _)).mono ?_
    intro e wa hr
    obtain ⟨ba, bc, rfl, hbs, hx⟩ := hr.strs
    have HBs := Lib.hid hbs
    have hh1 := hbs.fits; have hh2 := hbs.bound
    have HLf := Lib.hid (HLf.out.ext hx)
    have HEa := Lib.hid hx
    clear hr hbs hx
    go_wp2_with fail
    refine (nsame_c HBs.out HLf.out).mono ?_
    rw [decide_eq_true rfl]
    rintro e wb ⟨rfl, hx⟩
    have HEb := Lib.hid (HEa.out.trans hx)
    have HXb := Lib.hid (HXr.out.trans (HEa.out.trans hx))
    obtain ⟨a0, a1, a2, a3⟩ := HC.out wb HXb.out
    clear hx
    go_wp2_with fail
    refine (orphans_c (fun W hW => HNm.out W (HEb.out.trans hW)) HNl2.out HNn2.out (Hx.out.ext (HE0.out.trans HXb.out)) HFl.out).mono ?_
    rw [HT.out, HNN.out]
    intro e wc hr
    obtain ⟨da, dc, rfl, -, hx⟩ := hr
    have HXc := Lib.hid (HXb.out.trans hx)
    clear hx a0 a1 a2 a3
    go_wp2_with fail
    refine (mapped_c _).mono ?_
    rintro e w' ⟨rfl, hx⟩
    have HE := Lib.hid ((HE0.out.trans HXc.out).trans hx)
    clear hx
    go_wp2_with fail
    go_ret
    exact ⟨rfl, HE.out⟩

end Go.Proofs.YtjllhjlmjbpinaaGreatDoor
