/- Walks: how many bytes of each file of a disk are not sure. -/
import Derived.Test.YtmpiepkkikmpmaaG9PDiskPlays
import Derived.IntWalk
import Derived.Deep.RegionHeld3
set_option linter.unusedVariables false
set_option linter.unusedSimpArgs false
namespace Go.Proofs.Ytmpiepkkikmpmaa
open Go.RowKit

theorem info_i : (Try.prog.info? 3).map (fun i => (i.zero, i.size, i.bytes)) = some (some (.int .i64 0), 1, 8) := by kernel_rfl

theorem take_loose {L : List FM} {k : Nat} (h : k < L.length) : (L.map fun f => (f.da.length : Int) - (f.sy : Int)).take (k + 1) = (L.map fun f => (f.da.length : Int) - (f.sy : Int)).take k ++ [(L[k].da.length : Int) - (L[k].sy : Int)] := by
  rw [List.take_succ_eq_append_getElem (by simpa using h), List.getElem_map]

set_option maxRecDepth 100000
set_option linter.unusedVariables false
set_option maxHeartbeats 1600000

theorem unsynced_no (w : World) (p : Option Addr) (h : NoD w p) : Calls Try.prog 40 #[.pointer p] w fun e w' => e = .returned (.slice none 0 0) ∧ w = w' := by
  have H := Lib.hid (names_no w p h); clear h
  go_enter Try.func40, Try.ntmps40
  go_wp2_with fail
  refine H.out.mono ?_
  rintro e w' ⟨rfl, rfl⟩
  go_wp2_with fail
  refine wp_loop_rounds 1 ?_
  rw [rounds_succ]
  go_wp2_with fail
  go_ret
  exact ⟨rfl, rfl⟩

theorem unsynced_c {w : World} {g : Nat} {F : Nat → Prop} {σ : DM} (h : Dk w g F σ) : Calls Try.prog 40 #[.pointer (some ⟨g, 0, none⟩)] w (RetI 3 w (looseM σ)) := by
  obtain ⟨i0, hi0, hz0, hz1, hz2⟩ := info_parts info_i
  obtain ⟨ho, m, kv, L, hi, _⟩ := h
  have hLl : L.length = σ.L.length := by rw [← hi.files, List.length_map]
  have hmany := ho.many
  have HN := Lib.hid (names_c w g m L hi.c0 hi.c3 hi.fs (by omega))
  have HI := Lib.hid hi; have HO := Lib.hid ho
  have HNn : Hid (L.map FE.nm = σ.L.map FM.nm) := Lib.hid (by rw [← hi.files, List.map_map]; rfl)
  obtain ⟨n, hn⟩ : ∃ n, σ.L.length = n := ⟨_, rfl⟩
  have hn400 : n ≤ 400 := by omega
  have HLn := Lib.hid hn
  clear ho hi hLl hmany
  go_enter Try.func40, Try.ntmps40
  go_wp2_with fail
  refine HN.out.mono ?_
  intro e w1 hret
  obtain ⟨na, nc, rfl, hown, hext⟩ := hret.out
  have hlen : (L.map FE.nm).length = n := by rw [HNn.out, List.length_map, HLn.out]
  rw [hlen] at hown ⊢
  have HOwn := Lib.hid hown; have HE := Lib.hid hext
  have hfits : n ≤ nc ∧ nc ≤ 9223372036854775807 := by
    obtain ⟨ao, cap, e1, h1, h2, _⟩ := hown.rd
    cases e1; exact ⟨h1, h2⟩
  clear hret hown hext hn hlen
  go_wp2_with fail
  go_loopw [3, 9] (fun v i wr => ∃ k : Nat, k ≤ n ∧ i = .int .i64 k ∧ wr.ownsRow w1.heap.size 3 1 v k (((looseM σ).take k).map (Value.int .i64)) ∧ Ext w1 wr) (fun _ i _ => n - (intOf i).toNat)
  case atStart => exact ⟨0, Nat.zero_le _, rfl, World.ownsRow_nil _ _ _ _, Ext.refl _⟩
  case round =>
    obtain ⟨k, hk, rfl, hrow, hx⟩ := hrel
    obtain ⟨av, cv, rfl⟩ := row_slice hrow
    have HRow := Lib.hid hrow; have HX := Lib.hid hx
    by_cases hlt : k < n
    · have hkL : k < σ.L.length := by rw [HLn.out]; exact hlt
      have hi := HI.out.ext (HE.out.trans hx)
      have hown := HOwn.out.ext hx
      obtain ⟨gb, cap, hv, hcell, _, _⟩ := hown.cell (j := k) (by simp only [List.length_map]; rw [← List.length_map (f := FE.nm), HNn.out, List.length_map]; exact hkL)
      cases hv
      have hnm : ((L.map FE.nm).map encStr)[k]? = some (.string ⟨σ.L[k].nm.toArray⟩) := by
        rw [HNn.out, List.getElem?_map, List.getElem?_map, List.getElem?_eq_getElem hkL]; rfl
      rw [← List.getElem?_eq_getElem, hnm] at hcell
      have hfm : findN FM.nm σ.L[k].nm σ.L = some σ.L[k] := findN_of HO.out.ord (List.getElem_mem hkL) rfl
      have hfm' : findN FM.nm σ.L[k].nm (L.map FE.f) = some σ.L[k] := by rw [hi.files]; exact hfm
      obtain ⟨e, hfe, hef⟩ := findE hfm'
      have he := (findN_some hfe).1
      have hsy : e.f.sy ≤ e.f.da.length := by rw [hef]; exact HO.out.sy _ (List.getElem_mem hkL)
      have hnl : σ.L[k].nm.length ≤ 9223372036854775807 := by rw [← hef]; exact hi.fs.nm_le he
      have hrun := look1_yes hi.fs hnl hfe
      have hS : ∀ W, Ext w W → W.cell? ⟨g, 3, none⟩ = some (.map (some m)) ∧ W.cell? ⟨e.b, 0, none⟩ = some e.v ∧ W.cell? ⟨e.b, 1, none⟩ = some (.int .i64 (e.f.sy : Int)) ∧ (Instr.lookup 53 (.map (some m)) (.string ⟨σ.L[k].nm.toArray⟩) false).run Try.prog W = .ok (.pointer (some ⟨e.b, 0, none⟩)) W := fun W hW =>
        have hI := HI.out.ext hW
        ⟨hI.c3, hI.f0 he, hI.f1 he, look1_yes hI.fs hnl hfe⟩
      obtain ⟨ao, fc, hv2, hf1, hf2, hf3, _⟩ := (hi.fs.row e he).rd
      rw [hv2] at hS
      have hus : e.f.da.length ≤ usedM σ.L := by rw [hef]; exact usedM_mem (List.getElem_mem hkL)
      have hus3 := HO.out.used; have hus4 := HO.out.cap1
      have hcapl : e.f.da.length ≤ 1048576 := by omega
      have hst : (looseM σ).take (k + 1) = (looseM σ).take k ++ [(σ.L[k].da.length : Int) - (σ.L[k].sy : Int)] := take_loose hkL
      rw [← hef] at hst
      obtain ⟨nm, hnmE⟩ : ∃ nm, σ.L[k].nm = nm := ⟨_, rfl⟩
      rw [hnmE] at hrun hcell hS
      obtain ⟨dl, hdl⟩ : ∃ dl, e.f.da.length = dl := ⟨_, rfl⟩
      obtain ⟨sy, hsy2⟩ : ∃ sy, e.f.sy = sy := ⟨_, rfl⟩
      rw [hdl] at hsy hS hf1 hcapl hst
      rw [hsy2] at hsy hS hst
      have HS := Lib.hid hS
      have HSt := Lib.hid hst
      have hl1 : ((looseM σ).take k).length = k := by rw [List.length_take]; unfold looseM; rw [List.length_map]; omega
      have HL1 := Lib.hid hl1
      generalize e.b = bb at *
      clear hrun hS hi hown hnm hfm hfm' hfe hef he hnl hv2 hus hus3 hus4 hdl hsy2 hst hl1 hnmE hkL hrow hx
      go_wp2_with fail
      have HEW : Hid (Ext w1 ((wr.alloc (.cells #[.int .i64 ((dl : Int) - (sy : Int))] 3)).drew)) := Lib.hid (HX.out.trans (Ext.drew (ext_a1 _ _)))
      have HEa : Hid (Ext w wr.drew) := Lib.hid ((HE.out.trans HX.out).trans (Ext.drew (Ext.refl _)))
      have HEb : Hid (Ext w ((wr.alloc (.cells #[.int .i64 ((dl : Int) - (sy : Int))] 3)).drew)) := Lib.hid (HE.out.trans HEW.out)
      have HRW : Hid (((wr.alloc (.cells #[.int .i64 ((dl : Int) - (sy : Int))] 3)).drew).ownsRow w1.heap.size 3 1 (.slice av k cv) k (((looseM σ).take k).map (Value.int .i64))) := Lib.hid (row_drew (row_ext HRow.out (ext_a1 _ _)))
      have HSz : Hid (w1.heap.size ≤ wr.heap.size) := Lib.hid HX.out.size
      have HSw : Hid (w.heap.size ≤ w1.heap.size) := Lib.hid HE.out.size
      have hwr : IntKind.i64.wrap ((dl : Int) - (sy : Int)) = (dl : Int) - (sy : Int) := IntWalk.i64_in _ (by omega)
      go_region_held3 (fun W => W.cell? ⟨g, 3, none⟩ = some (.map (some m)) ∧ W.cell? ⟨bb, 0, none⟩ = some (.slice ao dl fc) ∧ W.cell? ⟨bb, 1, none⟩ = some (.int .i64 (sy : Int)) ∧ (Instr.lookup 53 (.map (some m)) (.string ⟨nm.toArray⟩) false).run Try.prog W = .ok (.pointer (some ⟨bb, 0, none⟩)) W)
        (first | exact HS.out _ HEa.out | exact HS.out _ HEb.out | exact HS.out _ ((HEb.out : Below w.heap.size w _).grown HGr.out HEb.out.size (fun q hq => Nat.le_trans HSw.out (row_lt HRW.out q hq).1)))
        ((refine step_append_lies _ (by rfl) (.tmp 13) (.tmp 34) 32 (by rfl) w1.heap.size 3 i0 _ 1 8 Try.underlying32 hi0 hz0 hz1 hz2 (by decide) (by decide) _ k (((looseM σ).take k).map (Value.int .i64)) (by simp [Act.eval]) HRW.out ⟨wr.heap.size, 0, none⟩ 1 1 [.int .i64 ((dl : Int) - (sy : Int))] (by simp [Act.eval]) (by rfl) (news_drew _ _ _) (ints_oneCell .i64 [(dl : Int) - (sy : Int)]) (by decide) (by unfold maxLen; omega) (by omega) (by have := HSz.out; simp; omega) _ (by rfl) ?_; intro g1 cap1 w2 hown hgrow hat hlt2; have HOw := Lib.hid hown; have HGr := Lib.hid hgrow; clear hown hgrow hat))
      all_goals
        have hx2 : Ext w1 w2 := (HEW.out : Below w1.heap.size w1 _).grown HGr.out HEW.out.size (fun q hq => (row_lt HRW.out q hq).1)
        have HX2 := Lib.hid hx2
        clear hx2 hwr
        go_wp2_with fail
        go_roundw
        case rel => exact ⟨k + 1, by omega, by go_num, by rw [HSt.out, List.map_append]; exact HOw.out, HX2.out⟩
        case measure => simp [intOf]; omega
    · obtain rfl : k = n := by omega
      have HFull : Hid ((looseM σ).take k = looseM σ) := Lib.hid (List.take_of_length_le (by unfold looseM; rw [List.length_map, HLn.out]; exact Nat.le_refl _))
      have HLen : Hid ((looseM σ).length = k) := Lib.hid (by unfold looseM; rw [List.length_map, HLn.out])
      clear hrow hx
      go_wp2_with fail
      go_ret
      refine ⟨_, rfl, ?_, HE.out.trans HX.out⟩
      have hr := (Own.of_row HRow.out).base HE.out.size
      rw [HFull.out] at hr
      rw [HLen.out]
      exact hr

end Go.Proofs.Ytmpiepkkikmpmaa
