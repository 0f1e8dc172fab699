/- Walks: the entry of some bytes. Walks: the entries of a table's bytes. Walks: midpoints. Walks: from where to where an entry may stand. Walks: sorted entries out of any (law18's Made). Walks: the document's entries of a hash between two versions, and its last one (ref13, ref19). -/
import Derived.Test.YtmgpffknmmoggaaGreatDoorG10PIndexPlay
import Derived.Test.YtmgpffknmmoggaaGreatDoorG25PIndexPlay
import Derived.Test.YtmgpffknmmoggaaGreatDoorG17PIndexPlay
import Derived.Test.YtmgpffknmmoggaaGreatDoorG8PIndexPlay
set_option linter.unusedVariables false
set_option linter.unusedSimpArgs false
namespace Go.Proofs.YtmgpffknmmoggaaGreatDoor
open Go.RowKit
set_option maxRecDepth 100000
set_option linter.unusedVariables false
set_option maxHeartbeats 6400000
def getEV (s : List UInt8) : Value := match getE s with
  | none => .tuple #[enV en0, .bool false]
  | some e => .tuple #[enV e, .bool true]
theorem results_cell_tmp' {fn : Func} {p u : Tmp} {ty : TypeId} (h : fn.results = #[.cell p ty, .tmp u]) (tmps : Array Value) (P : Program) (w : World) :
    (results fn tmps).run P w =
      ((asAddr (tmps.getD p undef)).run P w).andThen fun a w₁ => ((loadVar ty a).run P w₁).andThen fun v w₂ => .ok (.tuple #[v, tmps.getD u undef]) w₂ := by
  simp only [results, h]
  simp [Sem.run_bind, Result.andThen]
theorem alloc_keep {X W' : World} {cs : Array Value} {t : TypeId} (h : Ext (X.alloc (.cells cs t)) W') : Blk W' X.heap.size t cs := (Blk.new X t cs).ext h
theorem alloc_keep' {X W' : World} {cs : Array Value} {t : TypeId} (h : Ext (X.alloc (.cells cs t)).drew W') : Blk W' X.heap.size t cs := (show Blk (X.alloc (.cells cs t)).drew X.heap.size t cs from Blk.new X t cs).ext h
theorem getent_c (s : List UInt8) (w : World) (hl : s.length ≤ 4611686018427387903) : Calls Tryz.prog 166 #[.string ⟨s.toArray⟩] w fun r w' => r = .returned (getEV s) ∧ Ext w w' := by
  have hb0 := Blk.new w 44 #[.int .u64 0, .int .i64 0, .int .i64 0]
  by_cases h24 : s.length = 24
  case neg =>
    have HM : Hid (getEV s = .tuple #[.agg #[.int .u64 0, .int .i64 0, .int .i64 0], .bool false]) := Lib.hid (by unfold getEV getE; rw [if_neg (fun h => h24 h.1)]; rfl)
    have hn : ((s.length : Int) != 24) = true := by simp; omega
    go_enter Tryz.func166, Tryz.ntmps166
    go_wp2_with fail
    ((try simp only [Exit.inBlock, Exit.then]); refine bodyPost_ret (v := .tuple #[.agg #[_, _, _], _]) (by rw [results_cell_tmp rfl]; go_simp; exact ⟨⟨rfl, rfl, rfl⟩, rfl⟩) rfl ?_)
    rw [HM.out]
    exact ⟨rfl, ext_a1 _ _⟩
  obtain ⟨X, hX⟩ : ∃ X, s.take 8 = X := ⟨_, rfl⟩
  obtain ⟨Y, hY⟩ : ∃ Y, (s.drop 8).take 8 = Y := ⟨_, rfl⟩
  obtain ⟨Z, hZ⟩ : ∃ Z, s.drop 16 = Z := ⟨_, rfl⟩
  have lX : X.length = 8 := by rw [← hX]; simp; omega
  have lY : Y.length = 8 := by rw [← hY]; simp; omega
  have lZ : Z.length = 8 := by rw [← hZ]; simp; omega
  have sX := slice_to s 8 8 rfl (by omega)
  have sY := slice_str s 8 16 8 16 rfl rfl (by omega) (by omega) (X := Y) (by rw [← hY]; exact cut_drop s 8 8)
  have sZ := slice_from s 16 16 rfl (by omega)
  rw [hX] at sX
  rw [hZ] at sZ
  have uX : (unbe (X.take 8) : Int) = (unbe X : Int) := by rw [List.take_of_length_le (by omega)]
  have uY : (unbe (Y.take 8) : Int) = (unbe Y : Int) := by rw [List.take_of_length_le (by omega)]
  have uZ : (unbe (Z.take 8) : Int) = (unbe Z : Int) := by rw [List.take_of_length_le (by omega)]
  have bX := unbe_lt X; have bY := unbe_lt Y; have bZ := unbe_lt Z
  rw [lX] at bX; rw [lY] at bY; rw [lZ] at bZ
  have hgE : getE s = if unbe Y ≤ 9223372036854775807 ∧ unbe Z ≤ 9223372036854775807 then some ((unbe X : Int), (unbe Y : Int), (unbe Z : Int)) else none := by
    unfold getE
    rw [hX, hY, hZ]
    by_cases hc : unbe Y ≤ 9223372036854775807 ∧ unbe Z ≤ 9223372036854775807
    · rw [if_pos ⟨h24, hc⟩, if_pos hc]
    · rw [if_neg (fun h => hc h.2), if_neg hc]
  obtain ⟨x, hx⟩ : ∃ x : Int, (unbe X : Int) = x := ⟨_, rfl⟩
  obtain ⟨y, hy⟩ : ∃ y : Int, IntKind.i64.wrap (unbe Y : Int) = y := ⟨_, rfl⟩
  obtain ⟨z, hz⟩ : ∃ z : Int, IntKind.i64.wrap (unbe Z : Int) = z := ⟨_, rfl⟩
  have hy2 := hy; have hz2 := hz
  rw [IntKind.wrap_i64] at hy2 hz2
  have hyc : (unbe Y ≤ 9223372036854775807 ∧ y = (unbe Y : Int) ∧ 0 ≤ y) ∨ (9223372036854775807 < unbe Y ∧ y < 0) := by
    rcases Nat.lt_or_ge 9223372036854775807 (unbe Y) with h | h
    · right; omega
    · left; omega
  have hzc : (unbe Z ≤ 9223372036854775807 ∧ z = (unbe Z : Int) ∧ 0 ≤ z) ∨ (9223372036854775807 < unbe Z ∧ z < 0) := by
    rcases Nat.lt_or_ge 9223372036854775807 (unbe Z) with h | h
    · right; omega
    · left; omega
  have HV : Hid (getEV s = if 0 ≤ y ∧ 0 ≤ z then .tuple #[.agg #[.int .u64 x, .int .i64 y, .int .i64 z], .bool true] else .tuple #[.agg #[.int .u64 0, .int .i64 0, .int .i64 0], .bool false]) := Lib.hid (by
    unfold getEV
    rw [hgE]
    by_cases hc : unbe Y ≤ 9223372036854775807 ∧ unbe Z ≤ 9223372036854775807
    · rw [if_pos hc, if_pos (by omega)]
      rw [hx, show (unbe Y : Int) = y by omega, show (unbe Z : Int) = z by omega]
      rfl
    · rw [if_neg hc, if_neg (by omega)]
      rfl)
  rw [hx] at uX
  have UX := Lib.hid uX
  generalize (unbe Y : Int) = uy at *
  generalize (unbe Z : Int) = uz at *
  have HW0 : Hid (∀ W, Ext (w.alloc (.cells #[.int .u64 0, .int .i64 0, .int .i64 0] 44)) W → Ext w W) := Lib.hid fun W h => (ext_a1 w _).trans h
  obtain ⟨w0, hw0⟩ : ∃ w0, w.alloc (.cells #[.int .u64 0, .int .i64 0, .int .i64 0] 44) = w0 := ⟨_, rfl⟩
  have h24' : ((s.length : Int) != 24) = false := by simp; omega
  have UY := Lib.hid uY; have UZ := Lib.hid uZ
  have LX : X.length ≤ 9223372036854775807 := by omega
  have LY : Y.length ≤ 9223372036854775807 := by omega
  have LZ : Z.length ≤ 9223372036854775807 := by omega
  clear uX uY uZ hX hY hZ lX lY lZ bX bY bZ hgE hx hy2 hz2 hyc hzc hw0 hb0
  go_enter Tryz.func166, Tryz.ntmps166
  go_wp2_with fail
  have HC := Lib.hid (Ext.refl (w.alloc (.cells #[.int .u64 0, .int .i64 0, .int .i64 0] 44)))
  go_region_law
    (go_simp; (go_at_call 165; refine (get_c _ _ (by assumption)).mono ?_; rintro e wa ⟨rfl, hb⟩; (first | rw [UX.out] | rw [UY.out] | rw [UZ.out]);
                        (first
                        | (have hc := Ext.trans HC.out hb; (first | (replace bk := bk.ext hb) | skip))
                        | (have hc := Ext.trans HC.out.drew hb; (first | (replace bk := bk.ext hb) | skip))
                        | (have hc := Ext.trans (HC.out.alloc _) hb; have bk := alloc_keep hb; have hq := HC.out.size)
                        | (have hc := Ext.trans (HC.out.alloc _).drew hb; have bk := alloc_keep' hb; have hq := HC.out.size)
                        | (have hc := Ext.trans (HC.out.drew.alloc _) hb; have bk := alloc_keep hb; have hq := HC.out.size));
                        replace HC := Lib.hid hc; have bR := alloc_keep hc; have r0 : _ = some (Value.int .u64 0) := bR.cell 0; have r1 : _ = some (Value.int .i64 0) := bR.cell 1; have r2 : _ = some (Value.int .i64 0) := bR.cell 2; have y0 := bR.free 0; have y1 := bR.free 1; have y2 := bR.free 2; have hs := hc.size; rw [World.size_alloc] at hs;
                        (try rw [World.size_alloc] at hq); (try (first | rw [World.size_alloc] at bk | skip; have k0 : _ = some (Value.int .u64 0) := bk.cell 0; have k1 : _ = some (Value.int .i64 0) := bk.cell 1; have k2 : _ = some (Value.int .i64 0) := bk.cell 2; have z0 := bk.free 0; have z1 := bk.free 1; have z2 := bk.free 2)); clear hb hc))
  all_goals
    have HV2 : Hid (getEV s = if 0 ≤ y ∧ 0 ≤ z then .tuple #[.agg #[.int .u64 x, .int .i64 y, .int .i64 z], .bool true] else .tuple #[.agg #[.int .u64 0, .int .i64 0, .int .i64 0], .bool false]) := HV
    have HX := Lib.hid (HW0.out _ HC.out)
    have bA := bR.ext (ext_a1 wa (.cells #[.int .u64 x, .int .i64 y, .int .i64 z] 44))
    have ca0 : (wa.alloc (.cells #[.int .u64 x, .int .i64 y, .int .i64 z] 44)).cell? ⟨w.heap.size, 0, none⟩ = some (Value.int .u64 0) := bA.cell 0
    have ca1 : (wa.alloc (.cells #[.int .u64 x, .int .i64 y, .int .i64 z] 44)).cell? ⟨w.heap.size, 1, none⟩ = some (Value.int .i64 0) := bA.cell 1
    have ca2 : (wa.alloc (.cells #[.int .u64 x, .int .i64 y, .int .i64 z] 44)).cell? ⟨w.heap.size, 2, none⟩ = some (Value.int .i64 0) := bA.cell 2
    have ya0 := bA.free 0; have ya1 := bA.free 1; have ya2 := bA.free 2
    by_cases hyz : 0 ≤ y ∧ 0 ≤ z
    · obtain ⟨y0', z0'⟩ := hyz
      have hd1 : decide (y < 0) = false := by simp; omega
      have hd2 : decide (z < 0) = false := by simp; omega
      go_wp2_with fail
      (try simp only [Exit.inBlock, Exit.then])
      refine bodyPost_ret (v := .tuple #[.agg #[.int .u64 x, .int .i64 y, .int .i64 z], .bool true]) (by rw [results_cell_tmp rfl]; go_simp) rfl ?_
      rw [HV2.out, if_pos ⟨y0', z0'⟩]
      refine ⟨rfl, ?_⟩
      repeat (first | refine Below.setCell ?_ (by first | exact Nat.le_refl _ | (simp; done) | (simp; omega)) _ | refine Ext.alloc ?_ _ | refine Ext.drew ?_)
      exact HX.out
    · have hcase : y < 0 ∨ (0 ≤ y ∧ z < 0) := by omega
      rcases hcase with hy0 | ⟨hy0, hz0⟩
      · have hd1 : decide (y < 0) = true := by simpa using hy0
        go_wp2_with fail
        (try simp only [Exit.inBlock, Exit.then])
        refine bodyPost_ret (v := .tuple #[.agg #[.int .u64 0, .int .i64 0, .int .i64 0], .bool false]) (by rw [results_cell_tmp rfl]; go_simp) rfl ?_
        rw [HV2.out, if_neg hyz]
        refine ⟨rfl, ?_⟩
        repeat (first | refine Below.setCell ?_ (by first | exact Nat.le_refl _ | (simp; done) | (simp; omega)) _ | refine Ext.alloc ?_ _ | refine Ext.drew ?_)
        exact HX.out
      · have hd1 : decide (y < 0) = false := by simp; omega
        have hd2 : decide (z < 0) = true := by simpa using hz0
        go_wp2_with fail
        (try simp only [Exit.inBlock, Exit.then])
        refine bodyPost_ret (v := .tuple #[.agg #[.int .u64 0, .int .i64 0, .int .i64 0], .bool false]) (by rw [results_cell_tmp rfl]; go_simp) rfl ?_
        rw [HV2.out, if_neg hyz]
        refine ⟨rfl, ?_⟩
        repeat (first | refine Below.setCell ?_ (by first | exact Nat.le_refl _ | (simp; done) | (simp; omega)) _ | refine Ext.alloc ?_ _ | refine Ext.drew ?_)
        exact HX.out
end Go.Proofs.YtmgpffknmmoggaaGreatDoor
namespace Go.Proofs.YtmgpffknmmoggaaGreatDoor
open Go.RowKit
set_option maxRecDepth 100000
set_option linter.unusedVariables false
set_option maxHeartbeats 6400000
theorem Tryz.infoE : (Tryz.prog.info? 44).map (fun i => (i.zero, i.size, i.bytes)) = some (some (.agg #[.int .u64 0, .int .i64 0, .int .i64 0]), 3, 24) := by kernel_rfl
theorem tsize_c (n : Nat) (w : World) (hn : n ≤ 1000000) : Calls Tryz.prog 213 #[.int .i64 (n : Int)] w fun e w' => e = .returned (.int .i64 (12 + 24 * (n : Int))) ∧ w = w' := by
  have hd : decide ((89478484 : Int) < (n : Int)) = false := by simp; omega
  go_enter Tryz.func213, Tryz.ntmps213
  go_wp2_with fail
  go_ret
  exact ⟨rn (by omega), rfl⟩
theorem tat_c (n : Nat) (w : World) (hn : n ≤ 1000000) : Calls Tryz.prog 182 #[.int .i64 (n : Int)] w fun e w' => e = .returned (.int .i64 (8 + 24 * (n : Int))) ∧ w = w' := by
  have HS := Lib.hid (fun W => tsize_c n W hn)
  have hz : ((12 + 24 * (n : Int)) == 0) = false := by simp; omega
  go_enter Tryz.func182, Tryz.ntmps182
  go_wp2_with fail
  refine (HS.out _).mono ?_
  rintro e w1 ⟨rfl, rfl⟩
  go_wp2_with fail
  go_ret
  exact ⟨rn (by omega), rfl⟩
def strLen : Value → Nat | .string b => b.size | _ => 0
def TabR (w : World) (r : Option (List En)) (e : Ending) (w' : World) : Prop :=
  match r with
  | none => e = .returned (.tuple #[.slice none 0 0, .int .i64 90]) ∧ Ext w w'
  | some l => ∃ v, e = .returned (.tuple #[v, .int .i64 0]) ∧ w'.ownsRow w.heap.size 44 3 v l.length (ecs l) ∧ Ext w w'
theorem getEs_more : ∀ (f g : Nat) (s : List UInt8), s.length < f → s.length < g → getEs f s = getEs g s
  | 0, _, _, h, _ => by omega
  | _, 0, _, _, h => by omega
  | f + 1, g + 1, s, h1, h2 => by
    unfold getEs
    by_cases hs : s = []
    · rw [if_pos hs, if_pos hs]
    · rw [if_neg hs, if_neg hs]
      have hl : (s.drop 24).length < s.length := by
        have : 0 < s.length := List.length_pos_iff.2 hs
        rw [List.length_drop]; omega
      cases getE (s.take 24) with
      | none => rfl
      | some e => simp only; rw [getEs_more f g (s.drop 24) (by omega) (by omega)]
theorem tget_c (s : List UInt8) (w : World) (hl : s.length ≤ 1048576) : Calls Tryz.prog 108 #[.string ⟨s.toArray⟩] w (TabR w (getT s)) := by
  have HO := Lib.hid (fun W => open_c s W (by omega))
  by_cases hob : openB s = true
  case neg =>
    have hob' : openB s = false := by simpa using hob
    have HN : Hid (getT s = none) := Lib.hid (by unfold getT; rw [if_neg (fun h => hob h.1)])
    have hT : openT s = [] := by unfold openT; rw [if_neg hob]
    rw [hob', hT] at HO
    clear hob hob' hT
    go_enter Tryz.func108, Tryz.ntmps108
    go_wp2_with fail
    refine (HO.out _).mono ?_
    rintro e w1 ⟨rfl, hb⟩
    have HB := Lib.hid hb; clear hb
    go_wp2_with fail
    go_ret2
    rw [HN.out]
    exact ⟨rfl, HB.out⟩
  rw [hob] at HO
  have h4 : 4 ≤ s.length := by unfold openB at hob; simp only [Bool.and_eq_true, decide_eq_true_eq] at hob; exact hob.1
  obtain ⟨T, hT⟩ : ∃ T, openT s = T := ⟨_, rfl⟩
  have hT2 : s.take (s.length - 4) = T := by rw [← hT]; unfold openT; rw [if_pos hob]
  have hTl : T.length = s.length - 4 := by rw [← hT2, List.length_take]; omega
  have htk : s.take 4 = T.take 4 ∨ T.length < 4 := by
    rcases Nat.lt_or_ge T.length 4 with h | h
    · exact .inr h
    · left; rw [← hT2, List.take_take, Nat.min_eq_left (by omega)]
  rw [hT] at HO
  have hgT : getT s = if 8 ≤ T.length ∧ s.take 4 = tabF ∧ (T.drop 8).length = unbe ((T.drop 4).take 4) * 24 then (match getEs (s.length + 1) (T.drop 8) with | none => none | some l => if sortB l then some l else none) else none := by
    unfold getT
    rw [hT2]
    by_cases hc : 8 ≤ T.length ∧ s.take 4 = tabF ∧ (T.drop 8).length = unbe ((T.drop 4).take 4) * 24
    · rw [if_pos hc, if_pos ⟨hob, by omega, hc.2.1, hc.2.2⟩]
      cases getEs (s.length + 1) (T.drop 8) with
      | none => rfl
      | some l => rfl
    · rw [if_neg hc, if_neg (fun h => hc ⟨by omega, h.2.2.1, h.2.2.2⟩)]
  have hT9 : T.length ≤ 1048576 := by omega
  have hTs : T.length ≤ s.length := by omega
  clear hTl
  by_cases h8 : 8 ≤ T.length
  case neg =>
    have HN : Hid (getT s = none) := Lib.hid (by rw [hgT, if_neg (fun h => h8 h.1)])
    have hd : decide ((T.length : Int) < 8) = true := by simp; omega
    clear hgT hT hT2 htk h8 hob
    go_enter Tryz.func108, Tryz.ntmps108
    go_wp2_with fail
    refine (HO.out _).mono ?_
    rintro e w1 ⟨rfl, hb⟩
    have HB := Lib.hid hb; clear hb
    go_wp2_with fail
    go_ret2
    rw [HN.out]
    exact ⟨rfl, HB.out⟩
  have hd8 : decide ((T.length : Int) < 8) = false := by simp; omega
  have htk4 : s.take 4 = T.take 4 := by
    rcases htk with h | h
    · exact h
    · omega
  rw [htk4] at hgT
  have sF := slice_to T 4 4 rfl (by omega)
  obtain ⟨A, hA⟩ : ∃ A, T.take 4 = A := ⟨_, rfl⟩
  rw [hA] at sF hgT
  by_cases hAF : A = tabF
  case neg =>
    have HN : Hid (getT s = none) := Lib.hid (by rw [hgT, if_neg (fun h => hAF h.2.1)])
    have hne : (A == [112, 116, 97, 98]) = false := by simpa [tabF] using hAF
    have hne' : (A != [112, 116, 97, 98]) = true := by simpa [tabF] using hAF
    clear hgT hT hT2 htk h8 hob htk4 hA
    go_enter Tryz.func108, Tryz.ntmps108
    go_wp2_with fail
    refine (HO.out _).mono ?_
    rintro e w1 ⟨rfl, hb⟩
    have HB := Lib.hid hb; clear hb
    go_wp2_with fail
    go_ret2
    rw [HN.out]
    exact ⟨rfl, HB.out⟩
  subst hAF
  obtain ⟨X, hX⟩ : ∃ X, (T.drop 4).take 4 = X := ⟨_, rfl⟩
  have lX : X.length = 4 := by rw [← hX]; simp; omega
  have sX := slice_str T 4 8 4 8 rfl rfl (by omega) h8 (X := X) (by rw [← hX]; exact cut_drop T 4 4)
  have sR := slice_from T 8 8 rfl h8
  obtain ⟨R0, hR0⟩ : ∃ R0, T.drop 8 = R0 := ⟨_, rfl⟩
  have hR0l : R0.length + 8 = T.length := by rw [← hR0, List.length_drop]; omega
  rw [hX, hR0] at hgT
  rw [hR0] at sR
  have hG := fun W => get_c X W (by omega)
  rw [List.take_of_length_le (by omega)] at hG
  have bX := unbe_lt X
  rw [lX] at bX
  obtain ⟨m, hm⟩ : ∃ m : Nat, unbe X = m := ⟨_, rfl⟩
  rw [hm] at hG bX hgT
  have HG := Lib.hid hG
  have hm4 : m < 4294967296 := bX
  have HGT := Lib.hid hgT
  have hR9 : R0.length ≤ 1048576 := by omega
  have hwR : IntKind.u64.wrap (R0.length : Int) = (R0.length : Int) := by rw [IntKind.wrap_u64]; omega
  have hwm : IntKind.u64.wrap ((m : Int) * 24) = (m : Int) * 24 := by rw [IntKind.wrap_u64]; omega
  have hRs : R0.length < s.length + 1 := by omega
  have h8' := h8
  clear hgT hG bX hT hT2 htk hob htk4 hA hX hR0 lX hR0l h8
  have hAe : (tabF == [112, 116, 97, 98]) = true := by decide
  have hAe' : (tabF != [112, 116, 97, 98]) = false := by decide
  have sF' : ∀ w, (Instr.slice 9 (.string ⟨T.toArray⟩) none (some (.int .i64 4)) none).run Tryz.prog w = .ok (.string ⟨#[112, 116, 97, 98]⟩) w := sF
  clear sF
  by_cases hlen : R0.length = m * 24
  case neg =>
    have HN : Hid (getT s = none) := Lib.hid (by rw [HGT.out, if_neg (fun h => hlen h.2.2)])
    have hne : ((R0.length : Int) == (m : Int) * 24) = false := by simp; omega
    have hne' : ((R0.length : Int) != (m : Int) * 24) = true := by simp; omega
    go_enter Tryz.func108, Tryz.ntmps108
    go_wp2_with fail
    refine (HO.out _).mono ?_
    rintro e w1 ⟨rfl, hb⟩
    have HB := Lib.hid hb; clear hb
    go_wp2_with fail
    refine (HG.out _).mono ?_
    rintro e w2 ⟨rfl, hb⟩
    have HB2 := Lib.hid (HB.out.trans hb); clear hb
    go_wp2_with fail
    go_ret2
    rw [HN.out]
    exact ⟨rfl, HB2.out⟩
  case pos =>
    have HE : Hid (getT s = match getEs (s.length + 1) R0 with | none => none | some l => if sortB l then some l else none) := Lib.hid (by
      rw [HGT.out, if_pos ⟨h8', rfl, hlen⟩])
    have HEs : Hid (getEs (s.length + 1) R0 = getEs (R0.length + 1) R0) := Lib.hid (getEs_more _ _ _ hRs (Nat.lt_succ_self _))
    have hne : ((R0.length : Int) == (m : Int) * 24) = true := by simp; omega
    have hne' : ((R0.length : Int) != (m : Int) * 24) = false := by simp; omega
    have HLn := Lib.hid hlen
    clear hlen h8' hRs
    go_enter Tryz.func108, Tryz.ntmps108
    go_wp2_with fail
    refine (HO.out _).mono ?_
    rintro e w1 ⟨rfl, hb⟩
    have HB := Lib.hid hb; clear hb
    go_wp2_with fail
    refine (HG.out _).mono ?_
    rintro e w2 ⟨rfl, hb⟩
    have HB2 := Lib.hid (HB.out.trans hb); clear hb
    go_wp2_with fail
    have HBs := Lib.hid (HB2.out.size)
    go_loopw [7, 8] (fun r v W => ∃ (R : List UInt8) (L : List En) (va : Value), r = .string ⟨R.toArray⟩ ∧ v = va ∧ W.ownsRow w.heap.size 44 3 va L.length (ecs L) ∧ Ext w W ∧ getEs (s.length + 1) R0 = (getEs (R.length + 1) R).map (L ++ ·) ∧ R.length % 24 = 0 ∧ R.length + 24 * L.length = R0.length) (fun r _ _ => strLen r)
    case atStart => exact ⟨R0, [], .slice none 0 0, rfl, rfl, World.ownsRow_nil _ _ _ _, HB2.out, by rw [HEs.out]; cases getEs (R0.length + 1) R0 <;> simp, by rw [HLn.out]; omega, by simp⟩
    case round =>
      obtain ⟨R, L, va, rfl, rfl, hrow, hb, hes, h24, hsum⟩ := hrel
      obtain ⟨va1, vc, rfl⟩ := row_slice hrow
      have HRow := Lib.hid hrow; have HBk := Lib.hid hb; have HEk := Lib.hid hes; have HSum := Lib.hid hsum
      have hLl : L.length ≤ 1048576 := by omega
      have hRl9 : R.length ≤ 1048576 := by omega
      by_cases hR : R = []
      · subst hR
        have hes2 : getEs (s.length + 1) R0 = some L := by
          rw [hes]
          show (getEs 1 []).map (L ++ ·) = some L
          have : getEs 1 [] = some [] := rfl
          rw [this]; simp
        have HS := Lib.hid (fun (W : World) (k : Ext wr W) => by
          obtain ⟨ao, cap, e1, e2⟩ := Ens.of_own (Own.of_row (row_ext hrow k))
          cases e1
          exact sorted_e W e2)
        have HE2 : Hid (getT s = if sortB L then some L else none) := Lib.hid (by rw [HE.out, hes2])
        clear hes hes2 h24 hsum hrow hb
        go_wp2_with fail
        refine (HS.out _ (Ext.refl _)).mono ?_
        rintro e w3 ⟨rfl, hb⟩
        have HB3 := Lib.hid hb; clear hb
        cases hq : sortB L with
        | true =>
          rw [hq] at HE2
          go_wp2_with fail
          go_ret2
          rw [HE2.out]
          exact ⟨_, rfl, row_ext HRow.out HB3.out, HBk.out.trans HB3.out⟩
        | false =>
          rw [hq] at HE2
          go_wp2_with fail
          go_ret2
          rw [HE2.out]
          exact ⟨rfl, HBk.out.trans HB3.out⟩
      · have hR24 : 24 ≤ R.length := by
          have : 0 < R.length := List.length_pos_iff.2 hR
          omega
        have hRn : (R == []) = false := by simpa using hR
        have hRn' : (R != []) = true := by simpa using hR
        have s1 := slice_to R 24 24 rfl hR24
        have s2 := slice_from R 24 24 rfl hR24
        have hstep : getEs (R.length + 1) R = match getE (R.take 24) with | none => none | some e => (getEs ((R.drop 24).length + 1) (R.drop 24)).map (e :: ·) := by
          conv => lhs; unfold getEs
          rw [if_neg hR]
          cases getE (R.take 24) with
          | none => rfl
          | some e => simp only; rw [getEs_more R.length ((R.drop 24).length + 1) (R.drop 24) (by rw [List.length_drop]; omega) (Nat.lt_succ_self _)]
        have hD : (R.drop 24).length = R.length - 24 := by rw [List.length_drop]
        obtain ⟨E, hE⟩ : ∃ E, R.take 24 = E := ⟨_, rfl⟩
        obtain ⟨R', hR'⟩ : ∃ R', R.drop 24 = R' := ⟨_, rfl⟩
        have lE : E.length = 24 := by rw [← hE, List.length_take]; omega
        rw [hE] at s1
        rw [hR'] at s2 hD
        rw [hE, hR'] at hstep
        have HGe := Lib.hid (fun W => getent_c E W (by omega))
        cases hge : getE E with
        | none =>
          have hev : getEV E = .tuple #[.agg #[.int .u64 0, .int .i64 0, .int .i64 0], .bool false] := by unfold getEV; rw [hge]; rfl
          rw [hev] at HGe
          have HN : Hid (getT s = none) := Lib.hid (by rw [HE.out, hes, hstep, hge]; rfl)
          clear hes hstep hev hge hE hR' hR lE hrow hb h24 hsum hD
          go_wp2_with fail
          refine (HGe.out _).mono ?_
          rintro e w3 ⟨rfl, hb⟩
          have HB3 := Lib.hid (HBk.out.trans hb); clear hb
          go_wp2_with fail
          go_ret2
          rw [HN.out]
          exact ⟨rfl, HB3.out.alloc _⟩
        | some e =>
          obtain ⟨x, y, z⟩ := e
          have hev : getEV E = .tuple #[.agg #[.int .u64 x, .int .i64 y, .int .i64 z], .bool true] := by unfold getEV; rw [hge]; rfl
          rw [hev] at HGe
          have HEn : Hid (getEs (s.length + 1) R0 = (getEs (R'.length + 1) R').map ((L ++ [(x, y, z)]) ++ ·)) := Lib.hid (by
            rw [hes, hstep, hge]
            simp only
            cases getEs (R'.length + 1) R' <;> simp)
          have HM24 : Hid (R'.length % 24 = 0 ∧ R'.length + 24 * (L.length + 1) = R0.length ∧ R'.length < R.length) := Lib.hid (by omega)
          clear hes hstep hev hge hE hR' hR lE hrow hb h24 hsum hD
          go_wp2_with fail
          refine (HGe.out _).mono ?_
          rintro e w3 ⟨rfl, hb⟩
          have HB3 := Lib.hid (HBk.out.trans hb)
          have HR3 := Lib.hid (row_ext HRow.out hb)
          have HB3s := Lib.hid HB3.out.size
          clear hb
          go_wp2_with (at_builtin; refine wpList_append_hat rfl _ _ 40 rfl w.heap.size 44 _ 3 24 Tryz.underlying40 Tryz.infoE (by decide) (by decide) _ L.length (ecs L) rfl (row_ext (row_ext HR3.out (ext_a1 _ _)) (ext_a1 _ _)) _ 1 1 (ec (x, y, z)) rfl rfl (fun h => by cases h) (by have h := Rd.lit (w3.alloc (Obj.cells #[.int .u64 x, .int .i64 y, .int .i64 z] 44)) #[.int .u64 x, .int .i64 y, .int .i64 z] 44; have e : (w3.alloc (Obj.cells #[.int .u64 x, .int .i64 y, .int .i64 z] 44)).heap.size = w3.heap.size + 1 := Array.size_push _; rw [e] at h; exact h) (by unfold ec; simp [Value.oneCell']) (by unfold maxLen; omega) (by omega) (by have := HB3s.out; simp; omega) ?_; intro v2 w5 hown hgrow hat; obtain ⟨a2, k2, rfl⟩ := row_slice hown; have HO5 := Lib.hid hown; have HB5 := Lib.hid (below_own ((HB3.out.alloc _).alloc _) (Own.of_row (row_ext (row_ext HR3.out (ext_a1 _ _)) (ext_a1 _ _))) hgrow (by have := HB3s.out; simp; omega)); clear hown hgrow hat)
          go_roundw
          case rel => exact ⟨R', L ++ [(x, y, z)], _, rfl, rfl, by rw [List.length_append, ecs_snoc]; exact HO5.out, HB5.out, HEn.out, HM24.out.1, by rw [List.length_append]; exact HM24.out.2.1⟩
          case measure => exact HM24.out.2.2
end Go.Proofs.YtmgpffknmmoggaaGreatDoor
namespace Go.Proofs.YtmgpffknmmoggaaGreatDoor
open Go.RowKit
set_option maxRecDepth 100000
set_option linter.unusedVariables false
set_option maxHeartbeats 6400000
def md0 : En × Nat := (en0, 0)
def mc (m : En × Nat) : List Value := [.int .u64 m.1.1, .int .i64 m.1.2.1, .int .i64 m.1.2.2, .int .i64 (m.2 : Int)]
def mcs (L : List (En × Nat)) : List Value := L.flatMap mc
theorem mcs_snoc (L : List (En × Nat)) (e : En × Nat) : mcs (L ++ [e]) = mcs L ++ mc e := by unfold mcs; simp
theorem mcs_cons (e : En × Nat) (L : List (En × Nat)) : mcs (e :: L) = mc e ++ mcs L := rfl
theorem mcs_at : ∀ (L : List (En × Nat)) (i j : Nat), i < L.length → j < 4 → (mcs L)[i * 4 + j]? = (mc (L.getD i md0))[j]?
  | [], i, j, h, _ => by simp at h
  | k :: L, 0, j, _, hj => by
    rw [mcs_cons, List.getElem?_append_left (by simp [mc]; omega)]
    simp
  | k :: L, i + 1, j, h, hj => by
    rw [mcs_cons, List.getElem?_append_right (by simp [mc]; omega), show (i + 1) * 4 + j - (mc k).length = i * 4 + j from by simp [mc]; omega, mcs_at L i j (by simpa using h) hj]
    simp
structure Mds (w : World) (ao : Option Addr) (n cap : Nat) (L : List (En × Nat)) : Prop where
  len : L.length = n
  fits : n ≤ cap
  bound : cap ≤ 9223372036854775807
  nil : ao = none → cap = 0
  rd : Rd w ao (mcs L)
theorem Mds.ext {w w' : World} {ao : Option Addr} {n cap : Nat} {L : List (En × Nat)} (h : Mds w ao n cap L) (k : Ext w w') : Mds w' ao n cap L := ⟨h.len, h.fits, h.bound, h.nil, h.rd.ext k⟩
theorem Mds.at {w : World} {ao : Option Addr} {n cap : Nat} {L : List (En × Nat)} (h : Mds w ao n cap L) {i : Nat} (hi : i < n) :
    ∃ b off, ao = some ⟨b, off, none⟩ ∧ w.cell? ⟨b, off + i * 4, none⟩ = some (.int .u64 (L.getD i md0).1.1) ∧ w.cell? ⟨b, off + i * 4 + 1, none⟩ = some (.int .i64 (L.getD i md0).1.2.1) ∧ w.cell? ⟨b, off + i * 4 + 2, none⟩ = some (.int .i64 (L.getD i md0).1.2.2) ∧ w.cell? ⟨b, off + i * 4 + 3, none⟩ = some (.int .i64 ((L.getD i md0).2 : Int)) := by
  have hl := h.len
  have k0 := mcs_at L i 0 (by omega) (by decide)
  have k1 := mcs_at L i 1 (by omega) (by decide)
  have k2 := mcs_at L i 2 (by omega) (by decide)
  have k3 := mcs_at L i 3 (by omega) (by decide)
  obtain ⟨b, off, rfl, h0⟩ := h.rd _ _ k0
  obtain ⟨_, _, e1, h1⟩ := h.rd _ _ k1
  cases e1
  obtain ⟨_, _, e2, h2⟩ := h.rd _ _ k2
  cases e2
  obtain ⟨_, _, e3, h3⟩ := h.rd _ _ k3
  cases e3
  exact ⟨b, off, rfl, h0, h1, h2, h3⟩
theorem Mds.of_own {w : World} {B : Nat} {e : TypeId} {v : Value} {L : List (En × Nat)} (h : Own w B e 4 v L.length (mcs L)) : ∃ ao cap, v = .slice ao L.length cap ∧ Mds w ao L.length cap L := by
  obtain ⟨ao, cap, rfl, h1, h2, h3, h4⟩ := h.rd
  exact ⟨ao, cap, rfl, rfl, h1, h2, h3, h4⟩
theorem Tryz.infoM : (Tryz.prog.info? 218).map (fun i => (i.zero, i.size, i.bytes)) = some (some (.agg #[.int .u64 0, .int .i64 0, .int .i64 0, .int .i64 0]), 4, 32) := by kernel_rfl
theorem midsF_length (m : Nat) : ∀ (i : Nat) (l : List En), (midsF m i l).length ≤ l.length
  | _, [] => by unfold midsF; simp
  | i, e :: r => by
    have := midsF_length m (i + 1) r
    unfold midsF
    split <;> simp <;> omega
theorem mids_c {ao : Option Addr} {n cap : Nat} {L : List En} (w : World) (hx : Ens w ao n cap L) (hn : n ≤ 1000000) : Calls Tryz.prog 110 #[.slice ao n cap] w fun r w' => ∃ v, r = .returned v ∧ w'.ownsRow w.heap.size 218 4 v (midsL L).length (mcs (midsL L)) ∧ Ext w w' := by
  have Hx := Lib.hid hx
  have b1 := hx.fits; have b2 := hx.bound
  have HLen := Lib.hid hx.len
  clear hx
  go_enter Tryz.func110, Tryz.ntmps110
  go_wp2_with fail
  go_loopw [3, 8] (fun v i W => ∃ (k : Nat) (M : List (En × Nat)), k ≤ n ∧ i = .int .i64 (k : Int) ∧ W.ownsRow w.heap.size 218 4 v M.length (mcs M) ∧ M ++ midsF n k (L.drop k) = midsL L ∧ Ext w W) (fun _ i _ => n - (intOf i).toNat)
  case atStart => exact ⟨0, [], Nat.zero_le _, rfl, World.ownsRow_nil _ _ _ _, by rw [List.nil_append, List.drop_zero]; unfold midsL; rw [HLen.out], Ext.refl _⟩
  case round =>
    obtain ⟨k, M, hk, rfl, hrow, hM, hb⟩ := hrel
    have HRow := Lib.hid hrow; have HBk := Lib.hid hb
    obtain ⟨va, vc, rfl⟩ := row_slice hrow
    have HBs := Lib.hid (hb : Ext w wr).size
    by_cases hlt : k < n
    · have hd : decide ((k : Int) < (n : Int)) = true := by simp; omega
      obtain ⟨b, off, rfl, c0, c1, c2⟩ := (Hx.out.ext hb).at hlt
      have hL : L.drop k = L.getD k en0 :: L.drop (k + 1) := by
        rw [List.drop_eq_getElem_cons (by rw [HLen.out]; exact hlt)]
        simp [List.getD, List.getElem?_eq_getElem (show k < L.length by rw [HLen.out]; exact hlt)]
      rw [hL] at hM
      have hMl := congrArg List.length hM
      have hm1 := midsF_length L.length 0 L
      have hm2 : (midsL L).length ≤ n := by unfold midsL; rw [← HLen.out]; exact hm1
      rw [List.length_append] at hMl
      have hMl9 : M.length ≤ n := by omega
      generalize L.getD k en0 = z at *
      have u0 := cell_of c0; have u1 := cell_of c1; have u2 := cell_of c2
      have hw1 : IntKind.i64.wrap ((n : Int) - 1) = (n : Int) - 1 := by rw [IntKind.wrap_i64]; omega
      unfold midsF at hM
      obtain ⟨z1, z2, z3⟩ := z
      have hw9 : IntKind.i64.wrap (Int.tmod (k : Int) 8) = ((k % 8 : Nat) : Int) := by
        have : Int.tmod (k : Int) 8 = ((k % 8 : Nat) : Int) := by rw [Int.tmod_eq_emod_of_nonneg (by omega)]; omega
        rw [this, IntKind.wrap_i64]; omega
      by_cases hm : k % 8 = 0
      · rw [if_pos (.inl hm)] at hM
        have hd8 : (((k % 8 : Nat) : Int) == 0) = true := by simp; omega
        have HM := Lib.hid hM
        clear hM hrow hb hL hMl
        go_wp2_with (at_builtin; refine wpList_append_hat rfl (.tmp 23) (.tmp 27) 169 rfl w.heap.size 218 _ 4 32 Tryz.underlying169 Tryz.infoM (by decide) (by decide) _ M.length (mcs M) rfl (row_ext (row_ext HRow.out (ext_a1 _ _)) (ext_a1 _ _)) _ 1 1 (mc ((z1, z2, z3), k)) rfl rfl (fun h => by cases h) (by have h := Rd.lit (wr.alloc (Obj.cells #[.int .u64 z1, .int .i64 z2, .int .i64 z3] 44)) #[.int .u64 z1, .int .i64 z2, .int .i64 z3, .int .i64 (k : Int)] 218; have e : (wr.alloc (Obj.cells #[.int .u64 z1, .int .i64 z2, .int .i64 z3] 44)).heap.size = wr.heap.size + 1 := Array.size_push _; rw [e] at h; exact h) (by unfold mc; simp [Value.oneCell']) (by unfold maxLen; omega) (by omega) (by have := HBs.out; simp; omega) ?_; intro v2 w5 hown hgrow hat; obtain ⟨a2, k2, rfl⟩ := row_slice hown; have HO5 := Lib.hid hown; have HB5 := Lib.hid (below_own ((HBk.out.alloc _).alloc _) (Own.of_row (row_ext (row_ext HRow.out (ext_a1 _ _)) (ext_a1 _ _))) hgrow (by have := HBs.out; simp; omega)); clear hown hgrow hat)
        go_roundw
        case rel => exact ⟨k + 1, M ++ [((z1, z2, z3), k)], hlt, by go_num, by rw [List.length_append, mcs_snoc]; exact HO5.out, by rw [List.append_assoc]; exact HM.out, HB5.out⟩
        case measure => simp [intOf]; omega
      · have hd8 : (((k % 8 : Nat) : Int) == 0) = false := by simp; omega
        by_cases hm2 : k + 1 = n
        · rw [if_pos (.inr hm2)] at hM
          have hdn : ((k : Int) == (n : Int) - 1) = true := by simp; omega
          have HM := Lib.hid hM
          clear hM hrow hb hL hMl
          go_wp2_with (at_builtin; refine wpList_append_hat rfl (.tmp 23) (.tmp 27) 169 rfl w.heap.size 218 _ 4 32 Tryz.underlying169 Tryz.infoM (by decide) (by decide) _ M.length (mcs M) rfl (row_ext (row_ext HRow.out (ext_a1 _ _)) (ext_a1 _ _)) _ 1 1 (mc ((z1, z2, z3), k)) rfl rfl (fun h => by cases h) (by have h := Rd.lit (wr.alloc (Obj.cells #[.int .u64 z1, .int .i64 z2, .int .i64 z3] 44)) #[.int .u64 z1, .int .i64 z2, .int .i64 z3, .int .i64 (k : Int)] 218; have e : (wr.alloc (Obj.cells #[.int .u64 z1, .int .i64 z2, .int .i64 z3] 44)).heap.size = wr.heap.size + 1 := Array.size_push _; rw [e] at h; exact h) (by unfold mc; simp [Value.oneCell']) (by unfold maxLen; omega) (by omega) (by have := HBs.out; simp; omega) ?_; intro v2 w5 hown hgrow hat; obtain ⟨a2, k2, rfl⟩ := row_slice hown; have HO5 := Lib.hid hown; have HB5 := Lib.hid (below_own ((HBk.out.alloc _).alloc _) (Own.of_row (row_ext (row_ext HRow.out (ext_a1 _ _)) (ext_a1 _ _))) hgrow (by have := HBs.out; simp; omega)); clear hown hgrow hat)
          go_roundw
          case rel => exact ⟨k + 1, M ++ [((z1, z2, z3), k)], hlt, by go_num, by rw [List.length_append, mcs_snoc]; exact HO5.out, by rw [List.append_assoc]; exact HM.out, HB5.out⟩
          case measure => simp [intOf]; omega
        · rw [if_neg (fun h => h.elim hm hm2)] at hM
          have hdn : ((k : Int) == (n : Int) - 1) = false := by simp; omega
          have HM := Lib.hid hM
          clear hM hrow hb hL hMl
          go_wp2_with fail
          go_roundw
          case rel => exact ⟨k + 1, M, hlt, by go_num, row_ext HRow.out (ext_a1 _ _), HM.out, HBk.out.alloc _⟩
          case measure => simp [intOf]; omega
    · have hd : decide ((k : Int) < (n : Int)) = false := by simp; omega
      have hM' : M = midsL L := by
        rw [List.drop_of_length_le (by rw [HLen.out]; omega)] at hM
        unfold midsF at hM
        simpa using hM
      have HM := Lib.hid hM'
      clear hrow hb hM hM'
      go_wp2_with fail
      go_ret
      exact ⟨_, rfl, by rw [← HM.out]; exact HRow.out, HBk.out⟩
end Go.Proofs.YtmgpffknmmoggaaGreatDoor
namespace Go.Proofs.YtmgpffknmmoggaaGreatDoor
open Go.RowKit
set_option maxRecDepth 100000
set_option linter.unusedVariables false
set_option maxHeartbeats 6400000
theorem narrow_c {ao : Option Addr} {n cap m : Nat} {M : List (En × Nat)} (x : En) (w : World) (hx : Mds w ao n cap M) (hn : m ≤ 1000000) (hm : ∀ y ∈ M, y.2 < m) : Calls Tryz.prog 181 #[.slice ao n cap, .int .i64 (m : Int), enV x] w fun r w' => r = .returned (.tuple #[.int .i64 ((narrowL m x 0 M).1 : Int), .int .i64 ((narrowL m x 0 M).2 : Int)]) ∧ Ext w w' := by
  have Hx := Lib.hid hx
  have b1 := hx.fits; have b2 := hx.bound
  have HLen := Lib.hid hx.len
  have HM := Lib.hid hm
  clear hx hm
  obtain ⟨x1, x2, x3⟩ := x
  have hbk := Blk.new w 44 #[.int .u64 x1, .int .i64 x2, .int .i64 x3]
  have HE0 := Lib.hid (ext_a1 w (.cells #[.int .u64 x1, .int .i64 x2, .int .i64 x3] 44))
  have e0 := Lib.hid (show (w.alloc (.cells #[.int .u64 x1, .int .i64 x2, .int .i64 x3] 44)).cell? ⟨w.heap.size, 0, none⟩ = some (.int .u64 x1) from hbk.cell 0)
  have e1 := Lib.hid (show (w.alloc (.cells #[.int .u64 x1, .int .i64 x2, .int .i64 x3] 44)).cell? ⟨w.heap.size, 1, none⟩ = some (.int .i64 x2) from hbk.cell 1)
  have e2 := Lib.hid (show (w.alloc (.cells #[.int .u64 x1, .int .i64 x2, .int .i64 x3] 44)).cell? ⟨w.heap.size, 2, none⟩ = some (.int .i64 x3) from hbk.cell 2)
  clear hbk
  have HF : Hid (∀ W, Ext (w.alloc (.cells #[.int .u64 x1, .int .i64 x2, .int .i64 x3] 44)) W → W.cell? ⟨w.heap.size, 0, none⟩ = some (.int .u64 x1) ∧ W.cell? ⟨w.heap.size, 1, none⟩ = some (.int .i64 x2) ∧ W.cell? ⟨w.heap.size, 2, none⟩ = some (.int .i64 x3)) := Lib.hid fun W k => ⟨cell_ext k e0.out, cell_ext k e1.out, cell_ext k e2.out⟩
  clear e0 e1 e2
  have hmx : ¬ ((m : Int) < 0) := by omega
  show Calls Tryz.prog 181 #[.slice ao n cap, .int .i64 (m : Int), .agg #[.int .u64 x1, .int .i64 x2, .int .i64 x3]] w _
  go_enter Tryz.func181, Tryz.ntmps181
  go_wp2_with fail
  go_step3
  go_wp2_with fail
  go_step3
  go_wp2_with fail
  generalize w.alloc (.cells #[.int .u64 x1, .int .i64 x2, .int .i64 x3] 44) = w1 at *
  generalize w.heap.size = p at *
  go_loopw [6, 7, 16] (fun l h i W => ∃ (k lo : Nat), k ≤ n ∧ i = .int .i64 (k : Int) ∧ l = .int .i64 (lo : Int) ∧ h = .int .i64 (m : Int) ∧ lo ≤ m + 1 ∧ narrowL m (x1, x2, x3) lo (M.drop k) = narrowL m (x1, x2, x3) 0 M ∧ Ext w1 W) (fun _ _ i _ => n - (intOf i).toNat)
  case atStart => exact ⟨0, 0, Nat.zero_le _, rfl, rfl, rfl, by omega, by rw [List.drop_zero], Ext.refl _⟩
  case round =>
    obtain ⟨k, lo, hk, rfl, rfl, rfl, hlo, hN, hb⟩ := hrel
    have HBk := Lib.hid hb
    by_cases hlt : k < n
    · have hd : decide ((k : Int) < (n : Int)) = true := by simp; omega
      obtain ⟨b, off, rfl, c0, c1, c2, c3⟩ := (Hx.out.ext (HE0.out.trans hb)).at hlt
      have hL : M.drop k = M.getD k md0 :: M.drop (k + 1) := by
        rw [List.drop_eq_getElem_cons (by rw [HLen.out]; exact hlt)]
        simp [List.getD, List.getElem?_eq_getElem (show k < M.length by rw [HLen.out]; exact hlt)]
      have hm2 : (M.getD k md0).2 < m := HM.out _ (by rw [List.getD, List.getElem?_eq_getElem (show k < M.length by rw [HLen.out]; exact hlt)]; simp)
      rw [hL] at hN
      generalize M.getD k md0 = z at *
      obtain ⟨z, a⟩ := z
      obtain ⟨d0, d1, d2⟩ := HF.out _ hb
      obtain ⟨R, hR⟩ : ∃ R, narrowL m (x1, x2, x3) 0 M = R := ⟨_, rfl⟩
      rw [hR] at hN
      unfold narrowL at hN
      have HLs := Lib.hid (fun W => less_e z (x1, x2, x3) W)
      obtain ⟨q, hq⟩ : ∃ q, lessE z (x1, x2, x3) = q := ⟨_, rfl⟩
      rw [hq] at hN HLs
      obtain ⟨z1, z2, z3⟩ := z
      unfold enV ec at HLs
      simp only at c0 c1 c2 c3
      have u0 := cell_of c0; have u1 := cell_of c1; have u2 := cell_of c2; have u3 := cell_of c3
      have hxa := ext_a1 wr (.cells #[.int .u64 z1, .int .i64 z2, .int .i64 z3, .int .i64 (a : Int)] 218)
      have v0 := cell_ext hxa d0; have v1 := cell_ext hxa d1; have v2 := cell_ext hxa d2
      have HXa := Lib.hid hxa
      clear hxa
      simp only at hm2
      have ha0 : ¬ ((a : Int) < 0) := by omega
      have ha1 : ¬ ((m : Int) < (a : Int)) := by omega
      have ha2 : ¬ ((m : Int) - 1 < (a : Int)) := by omega
      have ha3 : IntKind.i64.wrap ((a : Int) + 1) = (a : Int) + 1 := by rw [IntKind.wrap_i64]; omega
      have hma : min a (m - 1) + 1 = a + 1 := by omega
      have hmb : min a m = a := by omega
      rw [hma, hmb, ← hR] at hN
      clear hR
      have hmx1 : IntKind.i64.wrap ((m : Int) - 1) = (m : Int) - 1 := by rw [IntKind.wrap_i64]; omega
      have HN := Lib.hid hN
      clear hN hL hb hq
      cases q with
      | true =>
        rw [if_pos rfl] at HN
        go_wp2_with fail
        refine (HLs.out _).mono ?_
        rintro e w5 ⟨rfl, hb⟩
        have HB5 := Lib.hid (HBk.out.trans (HXa.out.trans hb)); clear hb
        go_wp2_with fail
        go_roundw
        case rel => exact ⟨k + 1, a + 1, hlt, by go_num, by go_num, rfl, by omega, HN.out, HB5.out⟩
        case measure => simp [intOf]; omega
      | false =>
        have HNN : Hid (narrowL m (x1, x2, x3) 0 M = (lo, max lo a)) := Lib.hid (by rw [← HN.out, if_neg (by decide)])
        go_wp2_with fail
        refine (HLs.out _).mono ?_
        rintro e w5 ⟨rfl, hb⟩
        have HB5 := Lib.hid (HE0.out.trans (HBk.out.trans (HXa.out.trans hb))); clear hb
        go_wp2_with fail
        all_goals
          go_ret2
          refine ⟨?_, HB5.out⟩
          rw [HNN.out]
          show _ = Ending.returned (.tuple #[.int .i64 (lo : Int), .int .i64 ((max lo a : Nat) : Int)])
          first
            | (rw [Nat.max_eq_right (by omega)]; rfl)
            | (rw [Nat.max_eq_left (by omega)]; rfl)
    · have hd : decide ((k : Int) < (n : Int)) = false := by simp; omega
      have hN' : narrowL m (x1, x2, x3) 0 M = (lo, max lo m) := by
        rw [List.drop_of_length_le (by rw [HLen.out]; omega)] at hN
        rw [← hN]; rfl
      have HN := Lib.hid hN'
      clear hN hN' hb
      go_wp2_with fail
      all_goals
        go_ret2
        refine ⟨?_, HE0.out.trans HBk.out⟩
        rw [HN.out]
        show _ = Ending.returned (.tuple #[.int .i64 (lo : Int), .int .i64 ((max lo m : Nat) : Int)])
        first
          | (rw [Nat.max_eq_right (by omega)]; rfl)
          | (rw [Nat.max_eq_left (by omega)]; rfl)
end Go.Proofs.YtmgpffknmmoggaaGreatDoor
namespace Go.Proofs.YtmgpffknmmoggaaGreatDoor
open Go.RowKit
set_option maxRecDepth 100000
set_option linter.unusedVariables false
set_option maxHeartbeats 12800000
theorem ecs_take : ∀ (L : List En) (j : Nat), (ecs L).take (j * 3) = ecs (L.take j)
  | [], j => by simp [ecs]
  | e :: r, 0 => by simp [ecs]
  | e :: r, j + 1 => by
    rw [List.take_succ_cons, ecs_cons, ecs_cons, ← ecs_take r j]
    have h : (ec e).length = 3 := rfl
    rw [show (j + 1) * 3 = (ec e).length + j * 3 by rw [h]; omega, List.take_length_add_append]
theorem ecs_drop : ∀ (L : List En) (j : Nat), (ecs L).drop (j * 3) = ecs (L.drop j)
  | [], j => by simp [ecs]
  | e :: r, 0 => by simp [ecs]
  | e :: r, j + 1 => by
    rw [List.drop_succ_cons, ecs_cons, ← ecs_drop r j]
    have h : (ec e).length = 3 := rfl
    rw [show (j + 1) * 3 = (ec e).length + j * 3 by rw [h]; omega, List.drop_length_add_append]
def insE (x : En) (L : List En) : List En := if L[lbE L x]? = some x then L else L.take (lbE L x) ++ x :: L.drop (lbE L x)
theorem insE_ok {x : En} {L : List En} (hx : okEn x = true) (hs : sortE L) (ho : ∀ e ∈ L, okEn e = true) : sortE (insE x L) ∧ ∀ e ∈ insE x L, okEn e = true := by
  unfold insE
  split
  · exact ⟨hs, ho⟩
  · rename_i hne
    refine ⟨?_, fun e he => ?_⟩
    · have hle := lbE_le L x
      refine List.pairwise_append.2 ⟨hs.sublist (List.take_sublist _ _), List.pairwise_cons.2 ⟨fun y hy => ?_, hs.sublist (List.drop_sublist _ _)⟩, fun a ha b hb => ?_⟩
      · obtain ⟨j, hj, rfl⟩ := List.getElem_of_mem hy
        rw [List.getElem_drop]
        rw [List.length_drop] at hj
        have h1 := lbE_at x hs (i := lbE L x + j) (List.getElem?_eq_getElem (by omega))
        rw [decide_eq_false (by omega)] at h1
        cases h2 : lessE x L[lbE L x + j]
        · have h3 := lessE_total h1 h2
          exfalso
          cases j with
          | zero => exact hne (by simp only [Nat.add_zero] at h3; rw [List.getElem?_eq_getElem (by omega), h3])
          | succ j =>
            have h4 : lessE L[lbE L x] L[lbE L x + (j + 1)] = true := List.pairwise_iff_getElem.1 hs _ _ _ _ (by omega)
            have h5 := lbE_at x hs (i := lbE L x) (List.getElem?_eq_getElem (by omega))
            rw [decide_eq_false (by omega)] at h5
            rw [h3] at h4
            rw [h4] at h5
            cases h5
        · rfl
      · obtain ⟨i, hi, rfl⟩ := List.getElem_of_mem ha
        rw [List.length_take] at hi
        have h1 := lbE_at x hs (i := i) (List.getElem?_eq_getElem (by omega))
        rw [decide_eq_true (by omega)] at h1
        rw [List.getElem_take]
        rcases List.mem_cons.1 hb with rfl | hb
        · exact h1
        · obtain ⟨j, hj, rfl⟩ := List.getElem_of_mem hb
          rw [List.length_drop] at hj
          rw [List.getElem_drop]
          exact List.pairwise_iff_getElem.1 hs _ _ _ _ (by omega)
    · rcases List.mem_append.1 he with h | h
      · exact ho e (List.mem_of_mem_take h)
      · rcases List.mem_cons.1 h with rfl | h
        · exact hx
        · exact ho e (List.mem_of_mem_drop h)
end Go.Proofs.YtmgpffknmmoggaaGreatDoor
namespace Go.Proofs.YtmgpffknmmoggaaGreatDoor
open Go.RowKit
set_option maxRecDepth 100000
set_option linter.unusedVariables false
set_option maxHeartbeats 6400000
def inR (h f t : Int) (e : En) : Bool := decide (e.1 = h) && decide (f ≤ e.2.1) && decide (e.2.1 ≤ t)
theorem rangeE_eq (L : List En) (h f t : Int) : rangeE L h f t = L.filter (inR h f t) := rfl
theorem take_filter {L : List En} {p : En → Bool} {k : Nat} (hk : k < L.length) : (L.take (k + 1)).filter p = (L.take k).filter p ++ if p (L.getD k en0) then [L.getD k en0] else [] := by
  rw [List.take_succ_eq_append_getElem hk, List.filter_append]
  simp [List.getD, List.getElem?_eq_getElem hk, List.filter_cons]
theorem range13_c {ao : Option Addr} {n cap : Nat} {L : List En} (h f t : Int) (w : World) (hx : Ens w ao n cap L) (hn : n ≤ 1000000) :
    Calls Tryz.prog 68 #[.slice ao n cap, .int .u64 h, .int .i64 f, .int .i64 t] w fun r w' => ∃ v, r = .returned v ∧ w'.ownsRow w.heap.size 44 3 v (rangeE L h f t).length (ecs (rangeE L h f t)) ∧ Ext w w' := by
  have Hx := Lib.hid hx
  have b1 := hx.fits; have b2 := hx.bound
  have HLen := Lib.hid hx.len
  rw [rangeE_eq]
  clear hx
  go_enter Tryz.func68, Tryz.ntmps68
  go_wp2_with fail
  go_loopw [9, 10] (fun v i W => ∃ (k m : Nat) (M : List En), k ≤ n ∧ i = .int .i64 (k : Int) ∧ m ≤ k ∧ M.length = m ∧ M = (L.take k).filter (inR h f t) ∧ W.ownsRow w.heap.size 44 3 v m (ecs M) ∧ Ext w W) (fun _ i _ => n - (intOf i).toNat)
  case atStart => exact ⟨0, 0, [], Nat.zero_le _, rfl, Nat.le_refl _, rfl, by simp, World.ownsRow_nil _ _ _ _, Ext.refl _⟩
  case round =>
    obtain ⟨k, m, M, hk, rfl, hm, hMl, hM, hrow, hb⟩ := hrel
    have HRow := Lib.hid hrow; have HBk := Lib.hid hb; have HM := Lib.hid hM; have HMl := Lib.hid hMl
    obtain ⟨va, vc, rfl⟩ := row_slice hrow
    have HBs := Lib.hid (hb : Ext w wr).size
    by_cases hlt : k < n
    · have hd : decide ((k : Int) < (n : Int)) = true := by simp; omega
      have q1 : IntKind.i64.wrap ((k : Int) + 1) = (k : Int) + 1 := by rw [IntKind.wrap_i64]; omega
      obtain ⟨b, off, rfl, c0, c1, c2⟩ := (Hx.out.ext hb).at hlt
      have HTk := Lib.hid (take_filter (p := inR h f t) (L := L) (k := k) (by rw [HLen.out]; exact hlt))
      rw [← hM] at HTk
      generalize L.getD k en0 = z at *
      obtain ⟨z1, z2, z3⟩ := z
      have HIn : Hid (inR h f t (z1, z2, z3) = (decide (z1 = h) && decide (f ≤ z2) && decide (z2 ≤ t))) := Lib.hid rfl
      clear hb hrow hM hMl
      by_cases hin : z1 = h ∧ f ≤ z2 ∧ z2 ≤ t
      · have HT2 := HTk.out
        rw [HIn.out, decide_eq_true hin.1, decide_eq_true hin.2.1, decide_eq_true hin.2.2] at HT2
        have HT3 := Lib.hid HT2
        have b3 : (z1 == h) = true := by simpa using hin.1
        have b4 : decide (f ≤ z2) = true := decide_eq_true hin.2.1
        have b5 : decide (z2 ≤ t) = true := decide_eq_true hin.2.2
        have HLit : Hid (Rd (wr.alloc (.cells #[.int .u64 z1, .int .i64 z2, .int .i64 z3] 44)) (some ⟨wr.heap.size, 0, none⟩) (ec (z1, z2, z3))) := Lib.hid (Rd.lit wr #[.int .u64 z1, .int .i64 z2, .int .i64 z3] 44)
        clear hin HTk HT2
        go_wp2_with (at_builtin; refine wpList_append_hat rfl (.tmp 42) (.tmp 47) 40 rfl w.heap.size 44 _ 3 24 Tryz.underlying40 Tryz.infoE (by decide) (by decide) _ m (ecs M) rfl (row_ext HRow.out (ext_a1 _ _)) _ 1 1 (ec (z1, z2, z3)) rfl rfl (fun h => by cases h) HLit.out (by unfold ec; simp [Value.oneCell']) (by unfold maxLen; omega) (by omega) (by have := HBs.out; simp; omega) ?_; intro v2 w5 hown hgrow hat; obtain ⟨a2, k2, rfl⟩ := row_slice hown; have HO5 := Lib.hid hown; have HB5 := Lib.hid (below_own (HBk.out.alloc _) (Own.of_row (row_ext HRow.out (ext_a1 _ _))) hgrow (by have := HBs.out; simp; omega)); clear hown hgrow hat)
        go_roundw
        case rel => exact ⟨k + 1, m + 1, M ++ [(z1, z2, z3)], hlt, by go_num, by omega, by simp; exact HMl.out, HT3.out.symm, by rw [ecs_snoc]; exact HO5.out, HB5.out⟩
        case measure => simp [intOf]; omega
      · have HT3 : Hid (List.filter (inR h f t) (L.take (k + 1)) = M) := Lib.hid (by
          rw [HTk.out, HIn.out, if_neg, List.append_nil]
          simp only [Bool.and_eq_true, decide_eq_true_eq]
          exact fun h => hin ⟨h.1.1, h.1.2, h.2⟩)
        have h3 : ((z1 == h) = false) ∨ ((z1 == h) = true ∧ decide (f ≤ z2) = false) ∨ ((z1 == h) = true ∧ decide (f ≤ z2) = true ∧ decide (z2 ≤ t) = false) := by
          by_cases e1 : z1 = h
          · by_cases e2 : f ≤ z2
            · exact .inr (.inr ⟨by simpa using e1, decide_eq_true e2, decide_eq_false fun e3 => hin ⟨e1, e2, e3⟩⟩)
            · exact .inr (.inl ⟨by simpa using e1, decide_eq_false e2⟩)
          · exact .inl (by simpa using e1)
        clear hin HTk
        rcases h3 with b3 | ⟨b3, b4⟩ | ⟨b3, b4, b5⟩
        all_goals
          go_wp2_with fail
          go_roundw
          case rel => exact ⟨k + 1, m, M, hlt, by go_num, by omega, HMl.out, HT3.out.symm, HRow.out, HBk.out⟩
          case measure => simp [intOf]; omega
    · have hd : decide ((k : Int) < (n : Int)) = false := by simp; omega
      rw [List.take_of_length_le (by rw [HLen.out]; omega)] at HM
      clear hb hrow hM hMl
      go_wp2_with fail
      go_ret
      exact ⟨_, rfl, by rw [← HM.out, HMl.out]; exact HRow.out, HBk.out⟩
end Go.Proofs.YtmgpffknmmoggaaGreatDoor
