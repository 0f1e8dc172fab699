/- Walks: the manifest of a disk that is down, or none; which files are orphans; they are deleted. -/
import Derived.Test.YtmgpffknmmoggaaGreatDoorG39PIndexPlay
import Derived.Test.YtmgpffknmmoggaaGreatDoorG35PIndexPlay
set_option linter.unusedVariables false
set_option linter.unusedSimpArgs false
namespace Go.Proofs.YtmgpffknmmoggaaGreatDoor
open Go.RowKit
abbrev Strs := Slf encStr
theorem byte_eq_dec (a b : UInt8) : (a == b) = decide ((a.toNat : Int) = (b.toNat : Int)) := by
  rw [Bool.eq_iff_iff]
  simp only [beq_iff_eq, decide_eq_true_eq]
  constructor
  · rintro rfl; rfl
  · intro h; exact UInt8.toNat_inj.1 (by omega)
def sN : List UInt8 := []
def RetNm (w : World) (N : List (List UInt8)) (e : Ending) (w' : World) : Prop :=
  ∃ ao cap, e = .returned (.slice ao N.length cap) ∧ Own w' w.heap.size 9 1 (.slice ao N.length cap) N.length (N.map encStr) ∧ Ext w w'
theorem RetN.s {w w' : World} {N : List (List UInt8)} {e : Ending} (h : RetN w N e w') : RetNm w N e w' := h.out
theorem RetNm.strs {w w' : World} {N : List (List UInt8)} {e : Ending} (h : RetNm w N e w') : ∃ ao cap, e = .returned (.slice ao N.length cap) ∧ Strs w' ao N.length cap N ∧ Ext w w' := by
  obtain ⟨ao, cap, rfl, h1, h2⟩ := h
  obtain ⟨a, c, e, h3⟩ := Slf.of_own h1
  cases e
  exact ⟨_, _, rfl, h3, h2⟩
set_option maxRecDepth 100000
set_option linter.unusedVariables false
set_option maxHeartbeats 6400000
def orphB (T : List Int) (nm : List UInt8) : Bool := nm == newN || ((parseS nm).2.2 && ((parseS nm).1 == 116 || (parseS nm).1 == 98) && !decide (((parseS nm).2.1 : Int) ∈ T))
theorem orphans_c {w : World} {p : Option Addr} {N : List (List UInt8)} (hN : ∀ W, Ext w W → Calls Tryz.prog 73 #[.pointer p] W (RetNm W N)) (hNl : ∀ s ∈ N, s.length ≤ 9223372036854775807) (hNn : N.length ≤ 1000000)
    {nx ck sd : Int} {ao : Option Addr} {n cap : Nat} {L : List (List Int)} (hG : Grid w ao n cap L) (hsum : L.flatten.length ≤ 17592186044416) :
    Calls Tryz.prog 27 #[.pointer p, .agg #[.int .i64 nx, .int .i64 ck, .int .u64 sd, .slice ao n cap]] w (RetNm w (N.filter (orphB L.flatten))) := by
  have hx := ext_a1 w (.cells #[.int .i64 nx, .int .i64 ck, .int .u64 sd, .slice ao n cap] 38)
  have HX := Lib.hid hx
  have HA := Lib.hid (all_c ao n cap L _ (hG.ext hx) hsum)
  have HN := Lib.hid hN; have HNl := Lib.hid hNl
  have hb := Blk.new w 38 #[.int .i64 nx, .int .i64 ck, .int .u64 sd, .slice ao n cap]
  have d3 := hb.cell 3
  obtain ⟨T, hT⟩ : ∃ T, L.flatten = T := ⟨_, rfl⟩
  rw [hT] at HA ⊢
  obtain ⟨m, hm⟩ : ∃ m, N.length = m := ⟨_, rfl⟩
  have HM := Lib.hid hm
  have hm1 : m ≤ 1000000 := by omega
  have HCnt : Hid (∀ k, ((N.take k).filter (orphB T)).length ≤ 1000000) := Lib.hid fun k => by
    have h1 := List.length_filter_le (orphB T) (N.take k)
    have h2 : (N.take k).length ≤ N.length := by rw [List.length_take]; omega
    omega
  clear hN hNl hG hsum hx hb hT hm hNn
  go_enter Tryz.func27, Tryz.ntmps27
  go_wp2_with fail
  refine HA.out.mono ?_
  rintro e w1 ⟨v1, rfl, hown, hx⟩
  obtain ⟨ta, tc, rfl, hti⟩ := own_ints hown
  have HX1 := Lib.hid (HX.out.trans hx)
  have HTi := Lib.hid hti
  clear hown hx hti d3
  go_wp2_with fail
  refine (HN.out _ HX1.out).mono ?_
  intro e w2 hr
  obtain ⟨na, nc, rfl, hns, hx⟩ := hr.strs
  have HX2 := Lib.hid (HX1.out.trans hx)
  have HTi := Lib.hid (HTi.out.ext hx)
  rw [HM.out] at hns
  have HNs := Lib.hid hns
  have hf1 := hns.fits; have hf2 := hns.bound
  rw [HM.out]
  clear hr hx hns
  go_wp2_with fail
  go_loopw [6, 18] (fun v i wr => ∃ k : Nat, k ≤ m ∧ i = .int .i64 k ∧ Own wr w2.heap.size 9 1 v ((N.take k).filter (orphB T)).length (((N.take k).filter (orphB T)).map encStr) ∧ Ext w2 wr) (fun _ i _ => m - (intOf i).toNat)
  case atStart => exact ⟨0, Nat.zero_le _, rfl, Own.nil _ _ _ _, Ext.refl _⟩
  case round =>
  obtain ⟨k, hk, rfl, hown, hb⟩ := hrel
  have Hb := Lib.hid hb; have Hown := Lib.hid hown
  clear hb hown
  by_cases hlt : k < m
  · have hkN : k < N.length := by rw [HM.out]; exact hlt
    obtain ⟨b, off, rfl, z1⟩ := (HNs.out.ext Hb.out).at sN hlt
    have hxl : (N.getD k sN).length ≤ 9223372036854775807 := HNl.out _ (by rw [List.getD_eq_getElem?_getD, List.getElem?_eq_getElem hkN]; exact List.getElem_mem hkN)
    have ht := take_succ_getD N sN k hkN
    obtain ⟨x, hx⟩ : ∃ x, N.getD k sN = x := ⟨_, rfl⟩
    rw [hx] at z1 hxl ht
    have HSk : Hid (orphB T x = false → (N.take (k + 1)).filter (orphB T) = (N.take k).filter (orphB T)) := Lib.hid fun h => by rw [ht, List.filter_append]; simp [h]
    have HAk : Hid (orphB T x = true → ∀ {W : World} {v : Value}, Own W w2.heap.size 9 1 v (((N.take k).filter (orphB T)).length + 1) (((N.take k).filter (orphB T)).map encStr ++ [encStr x]) = Own W w2.heap.size 9 1 v ((N.take (k + 1)).filter (orphB T)).length (((N.take (k + 1)).filter (orphB T)).map encStr)) := Lib.hid fun h => by
      intro W v; rw [ht, List.filter_append]; simp [h]
    have HOb : Hid (orphB T x = (x == newN || ((parseS x).2.2 && ((parseS x).1 == 116 || (parseS x).1 == 98) && !decide (((parseS x).2.1 : Int) ∈ T)))) := Lib.hid rfl
    have HPa := Lib.hid fun W => parse_c x W hxl
    clear hx ht
    obtain ⟨K, hK⟩ : ∃ K : Int, ((parseS x).1.toNat : Int) = K := ⟨_, rfl⟩
    obtain ⟨M, hM⟩ : ∃ M : Int, ((parseS x).2.1 : Int) = M := ⟨_, rfl⟩
    obtain ⟨ok, hok⟩ : ∃ ok : Bool, (parseS x).2.2 = ok := ⟨_, rfl⟩
    have HK1 : Hid (((parseS x).1 == 116) = decide (K = 116)) := Lib.hid (by rw [← hK]; exact byte_eq_dec _ 116)
    have HK2 : Hid (((parseS x).1 == 98) = decide (K = 98)) := Lib.hid (by rw [← hK]; exact byte_eq_dec _ 98)
    rw [hM, hok] at HOb
    rw [HK1.out, HK2.out] at HOb
    have HPb : Hid (∀ W, Calls Tryz.prog 74 #[.string ⟨x.toArray⟩] W fun e w' => e = .returned (.tuple #[.int .u8 K, .int .i64 M, .bool ok]) ∧ Ext W w') := Lib.hid (by rw [← hK, ← hM, ← hok]; exact HPa.out)
    clear hK hM hok HPa HK1 HK2
    go_wp2_with fail
    refine (HPb.out wr).mono ?_
    rintro e w3 ⟨rfl, hx⟩
    have HB3 := Lib.hid (Hb.out.trans hx)
    have HO3 := Lib.hid (Hown.out.ext hx)
    clear hx z1
    cases hnew : x == newN with
    | true =>
      have HY : Hid (orphB T x = true) := Lib.hid (by rw [HOb.out, hnew]; rfl)
      have hnew' : (x == [110, 101, 119]) = true := hnew
      clear hnew
      go_wp2_with (at_builtin; refine wpList_append_any rfl _ _ 61 rfl w2.heap.size 9 _ 1 16 Tryz.underlying61 info_s rfl (by decide) _ _ _ rfl (HO3.out.ext ((Ext.refl _).alloc _)) _ _ _ [encStr x] rfl rfl (fun h => by cases h) (Rd.lit _ _ _) (by intro u hu; rw [List.mem_singleton.1 hu]; rfl) (by have := HCnt.out k; omega) (by have := HCnt.out k; omega) (by have := HB3.out.size; simp; omega) ?_; intro v' w6 hown' hg hfr)
      have hb1 := below_own (HB3.out.alloc (.cells #[encStr x] 9)) (HO3.out.ext ((Ext.refl _).alloc _)) hg (by have := HB3.out.size; simp; omega)
      have HB6 := Lib.hid hb1; clear hb1
      have hown2 := (HAk.out HY.out).symm ▸ hown'
      have HO := Lib.hid hown2; clear hown2 hown' hg hfr
      go_wp2_with fail
      go_roundw
      case rel => exact ⟨k + 1, by omega, by go_num, HO.out, HB6.out⟩
      case measure => simp [intOf]; omega
    | false =>
      have hnew' : (x == [110, 101, 119]) = false := hnew
      rw [hnew] at HOb
      clear hnew
      cases ok with
      | false =>
        have HY : Hid (orphB T x = false) := Lib.hid (by rw [HOb.out]; rfl)
        go_wp2_with fail
        go_roundw
        case rel => exact ⟨k + 1, by omega, by go_num, by rw [HSk.out HY.out]; exact HO3.out, HB3.out⟩
        case measure => simp [intOf]; omega
      | true =>
        have HCo := Lib.hid (contains_c _ _ _ T M w3 (HTi.out.ext HB3.out))
        by_cases hk3 : K = 116 ∨ K = 98
        case neg =>
          have HY : Hid (orphB T x = false) := Lib.hid (by rw [HOb.out, decide_eq_false (fun h => hk3 (.inl h)), decide_eq_false (fun h => hk3 (.inr h))]; rfl)
          have hk1 : (K == 116) = false := by simpa using fun h => hk3 (.inl h)
          have hk2 : (K == 98) = false := by simpa using fun h => hk3 (.inr h)
          go_wp2_with fail
          go_roundw
          case rel => exact ⟨k + 1, by omega, by go_num, by rw [HSk.out HY.out]; exact HO3.out, HB3.out⟩
          case measure => simp [intOf]; omega
        case pos =>
          have HOc : Hid (orphB T x = !decide (M ∈ T)) := Lib.hid (by
            rw [HOb.out]; rcases hk3 with h | h
            · rw [decide_eq_true h]; simp
            · rw [decide_eq_true h]; simp)
          generalize hdd : decide (M ∈ T) = dd at HCo HOc
          rcases hk3 with rfl | rfl
          all_goals
            go_wp2_with fail
            refine HCo.out.mono ?_
            rintro e w4 ⟨rfl, hx⟩
            have HB4 := Lib.hid (HB3.out.trans hx)
            have HO4 := Lib.hid (HO3.out.ext hx)
            clear hx
            cases dd with
            | true =>
              have HY : Hid (orphB T x = false) := Lib.hid HOc.out
              go_wp2_with fail
              go_roundw
              case rel => exact ⟨k + 1, by omega, by go_num, by rw [HSk.out HY.out]; exact HO4.out, HB4.out⟩
              case measure => simp [intOf]; omega
            | false =>
              have HY : Hid (orphB T x = true) := Lib.hid HOc.out
              go_wp2_with (at_builtin; refine wpList_append_any rfl _ _ 61 rfl w2.heap.size 9 _ 1 16 Tryz.underlying61 info_s rfl (by decide) _ _ _ rfl (HO4.out.ext ((Ext.refl _).alloc _)) _ _ _ [encStr x] rfl rfl (fun h => by cases h) (Rd.lit _ _ _) (by intro u hu; rw [List.mem_singleton.1 hu]; rfl) (by have := HCnt.out k; omega) (by have := HCnt.out k; omega) (by have := HB4.out.size; simp; omega) ?_; intro v' w6 hown' hg hfr)
              have hb1 := below_own (HB4.out.alloc (.cells #[encStr x] 9)) (HO4.out.ext ((Ext.refl _).alloc _)) hg (by have := HB4.out.size; simp; omega)
              have HB6 := Lib.hid hb1; clear hb1
              have hown2 := (HAk.out HY.out).symm ▸ hown'
              have HO := Lib.hid hown2; clear hown2 hown' hg hfr
              go_wp2_with fail
              go_roundw
              case rel => exact ⟨k + 1, by omega, by go_num, HO.out, HB6.out⟩
              case measure => simp [intOf]; omega
  · obtain rfl : k = m := by omega
    have HTk : Hid (N.take k = N) := Lib.hid (List.take_of_length_le (by rw [HM.out]; exact Nat.le_refl _))
    have hown := Hown.out
    rw [HTk.out] at hown
    obtain ⟨oa, oc, rfl⟩ := hown.slice
    have HFin := Lib.hid hown
    clear hown
    go_wp2_with fail
    go_ret
    exact ⟨oa, oc, rfl, HFin.out.base HX2.out.size, HX2.out.trans Hb.out⟩
end Go.Proofs.YtmgpffknmmoggaaGreatDoor
