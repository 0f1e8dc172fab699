/- Walks: the state of bytes. -/
import Derived.Test.YtkkafjknogfdnaaChecked
import Derived.Test.YtkkafjknogfdnaaFH
import Derived.Test.YtkkafjknogfdnaaFA
import Derived.Test.YtkkafjknogfdnaaFT
import Derived.Laws.ResultCell
namespace Go.Proofs.Ytkkafjknogfdnaa
open Go.RowKit

theorem Try.infoKi : (Try.prog.info? 103).map (fun i => (i.zero, i.size, i.bytes)) = some (some (.agg #[.string ⟨#[]⟩, .int .i64 0, .int .i64 0]), 3, 32) := by kernel_rfl
theorem kc_one' (k : Kd) : ∀ u ∈ kc k, u.oneCell' = true := by
  intro u hu
  unfold kc at hu
  simp only [List.mem_cons, List.not_mem_nil, or_false] at hu
  rcases hu with rfl | rfl | rfl <;> rfl

/-- hands back this state and this error's number, of memory of the call's own -/
def RetSE (w : World) (e : TypeId) (g : GotS) (er : Ending) (w' : World) : Prop :=
  ∃ v, er = .returned (.tuple #[.agg #[.int .i64 g.nx, v], .int .i64 g.en]) ∧ w'.ownsRow w.heap.size e 3 v g.K.length (kcs g.K) ∧ Ext w w'

theorem ext_set2 {w w1 : World} (h : Ext w w1) (g : Nat) (hg : w.heap.size ≤ g) (a b : Value) : Ext w ((w1.setCell ⟨g, 0, none⟩ a).setCell ⟨g, 1, none⟩ b) :=
  Below.setCell (Below.setCell h hg a) hg b

set_option maxRecDepth 100000 in
set_option maxHeartbeats 6400000 in
theorem fget_c (s : List UInt8) (w : World) (hl : s.length ≤ 1000000) :
    Calls Try.prog 49 #[.string ⟨s.toArray⟩] w (RetSE w 103 (fgetS s)) := by
  have HGet : Hid (∀ P, fparse (openT s) (openB s) = P → fgetS s = (open Classical in if P.2.2.2 = true ∧ P.2.2.1 = [] ∧ okState P.1 P.2.1 then ⟨P.1, P.2.1, 0⟩ else badS)) := Lib.hid (fun P h => by unfold fgetS; rw [h])
  have hot : (openT s).length ≤ s.length := by unfold openT; split <;> simp
  obtain ⟨i, hi, hz, hsize, hby⟩ := info_parts Try.infoKi
  have HI := Lib.hid hi; have HZ := Lib.hid hz; have HSz := Lib.hid hsize; have HBy := Lib.hid hby
  clear hi hz hsize hby
  obtain ⟨t, ht⟩ : ∃ t, openT s = t := ⟨_, rfl⟩
  obtain ⟨o, ho⟩ : ∃ o, openB s = o := ⟨_, rfl⟩
  rw [ht, ho] at HGet
  rw [ht] at hot
  have HT := Lib.hid ht; have HO := Lib.hid ho
  obtain ⟨nx, hnx⟩ : ∃ v, nuV 4 t = v := ⟨_, rfl⟩
  obtain ⟨r1, hr1⟩ : ∃ v, nuR 4 t = v := ⟨_, rfl⟩
  obtain ⟨o1, ho1⟩ : ∃ v, nuO 4 t o = v := ⟨_, rfl⟩
  obtain ⟨c, hc⟩ : ∃ c : Nat, nuV 2 r1 = (c : Int) := ⟨(nuV 2 r1).toNat, by have := nuV_b (k := 2) r1; omega⟩
  obtain ⟨r2, hr2⟩ : ∃ v, nuR 2 r1 = v := ⟨_, rfl⟩
  obtain ⟨o2, ho2⟩ : ∃ v, nuO 2 r1 o1 = v := ⟨_, rfl⟩
  have HP : Hid (fparse t o = (nx, kdG c r2 o2 [])) := Lib.hid (by unfold fparse; rw [hnx, hr1, ho1, hr2, ho2, hc, Int.toNat_natCast])
  have hc5 : (c : Int) ≤ 65535 := by rw [← hc]; exact nuV_2 r1
  have hnb := nuV_b (k := 4) t
  rw [hnx] at hnb
  have hnx0 : 0 ≤ nx := hnb.1
  have hnx1 : nx ≤ 4611686018427387904 := hnb.2
  have HN1 := Lib.hid hnx; have HR1 := Lib.hid hr1; have HO1 := Lib.hid ho1; have HN2 := Lib.hid hc; have HR2 := Lib.hid hr2; have HO2 := Lib.hid ho2
  have hr1l : r1.length ≤ s.length := by rw [← hr1]; exact Nat.le_trans (nuR_le 4 t) hot
  have hr2l : r2.length ≤ s.length := by rw [← hr2]; exact Nat.le_trans (nuR_le 2 r1) hr1l
  have HR1l := Lib.hid hr1l; have HR2l := Lib.hid hr2l; have HTl := Lib.hid hot
  clear ht ho hnx hr1 ho1 hc hr2 ho2 hnb hr1l hr2l hot
  go_enter Try.func49, Try.ntmps49
  go_wp2_with fail
  refine (open_c s _ (by omega)).mono ?_
  rw [HT.out, HO.out]
  rintro e w1 ⟨rfl, hb1⟩
  have HB1 := Lib.hid hb1
  have HG0 : Hid (Blk w1 w.heap.size 55 #[.int .i64 0, .slice none 0 0]) := Lib.hid ((Blk.new w _ _).ext hb1)
  have hsz1 : w.heap.size < w1.heap.size := HG0.out.lt
  clear hb1
  go_wp2_with fail
  refine (number_v HN1.out HR1.out HO1.out rfl (Blk.new w1 111 #[.string ⟨t.toArray⟩, .bool o]) (by have := HTl.out; omega) (by decide)).mono ?_
  rintro e w2 ⟨rfl, hr, hof⟩
  have HX2 : Hid (Ext w1 w2) := Lib.hid (Off.ext (ext_a1 w1 _) (Nat.le_refl _) hof)
  have HRd2 := Lib.hid hr
  have hsz2 : w1.heap.size < w2.heap.size := hr.lt
  clear hr hof
  go_wp2_with fail
  have hr2' := HRd2.out.ext (ext_a1 w2 (.cells #[.int .i64 nx, .slice none 0 0] 55))
  refine (number_v HN2.out HR2.out HO2.out rfl hr2' (by have := HR1l.out; omega) (by decide)).mono ?_
  clear hr2'
  rintro e w3 ⟨rfl, hr, hof⟩
  have HX3 : Hid (Ext w1 w3) := Lib.hid (Off.ext (HX2.out.trans (ext_a1 w2 _)) (Nat.le_refl _) hof)
  have HRd3 := Lib.hid hr
  have HS3 : Hid (Blk w3 w2.heap.size 55 #[.int .i64 nx, .slice none 0 0]) := Lib.hid (Off.blk (Blk.new w2 _ _) (by omega) hof)
  have hsz3 : w2.heap.size < w3.heap.size := HS3.out.lt
  clear hr hof
  go_wp2_with fail
  go_loopw [8] (fun i w' => ∃ (j : Nat) (rs : List UInt8) (ok : Bool) (K : List Kd) (v : Value), j ≤ c ∧ K.length + j ≤ c ∧ i = .int .i64 j ∧ kdG j rs ok K = kdG c r2 o2 [] ∧ FRd w' w1.heap.size rs ok ∧ rs.length ≤ s.length ∧ Blk w' w2.heap.size 55 #[.int .i64 nx, v] ∧ w'.ownsRow w3.heap.size 103 3 v K.length (kcs K) ∧ w3.heap.size ≤ w'.heap.size ∧ Ext w1 w') (fun i _ => (intOf i).toNat)
  case atStart => exact ⟨c, r2, o2, [], _, Nat.le_refl _, by simp, rfl, rfl, HRd3.out, HR2l.out, HS3.out, World.ownsRow_nil _ _ _ _, Nat.le_refl _, HX3.out⟩
  case round =>
    obtain ⟨j, rs, ok, K, v, hj, hkj, rfl, hkd, hrd, hrl, hst, hrow, hsz, hb⟩ := hrel
    obtain ⟨av, cv, rfl⟩ := row_slice hrow
    have HKd := Lib.hid hkd; have HRd := Lib.hid hrd; have HRl := Lib.hid hrl; have HSt := Lib.hid hst; have HRow := Lib.hid hrow; have HSz3 := Lib.hid hsz; have Hb := Lib.hid hb
    have c0 : wr.cell? ⟨w1.heap.size, 0, none⟩ = some (.string ⟨rs.toArray⟩) := hrd.cell 0
    have c1 : wr.cell? ⟨w1.heap.size, 1, none⟩ = some (.bool ok) := hrd.cell 1
    have d1 : wr.cell? ⟨w2.heap.size, 1, none⟩ = some (.slice av K.length cv) := hst.cell 1
    have d0 : wr.cell? ⟨w2.heap.size, 0, none⟩ = some (.int .i64 nx) := hst.cell 0
    clear hkd hrd hrl hst hrow hsz hb
    by_cases hgo : ok = true ∧ 0 < j
    · obtain ⟨rfl, hj0⟩ := hgo
      obtain ⟨j', rfl⟩ : ∃ j', j = j' + 1 := ⟨j - 1, by omega⟩
      obtain ⟨T, hT⟩ : ∃ v, rdT rs = v := ⟨_, rfl⟩
      obtain ⟨s1, hs1⟩ : ∃ v, rdR rs = v := ⟨_, rfl⟩
      obtain ⟨q1, hq1⟩ : ∃ v, (true && rdOk rs) = v := ⟨_, rfl⟩
      obtain ⟨mm, hmm⟩ : ∃ v, nuV 4 s1 = v := ⟨_, rfl⟩
      obtain ⟨s2, hs2⟩ : ∃ v, nuR 4 s1 = v := ⟨_, rfl⟩
      obtain ⟨q2, hq2⟩ : ∃ v, nuO 4 s1 q1 = v := ⟨_, rfl⟩
      obtain ⟨bb, hbb⟩ : ∃ v, nuV 8 s2 = v := ⟨_, rfl⟩
      obtain ⟨s3, hs3⟩ : ∃ v, nuR 8 s2 = v := ⟨_, rfl⟩
      obtain ⟨q3, hq3⟩ : ∃ v, nuO 8 s2 q2 = v := ⟨_, rfl⟩
      have HNext : Hid (kdG j' s3 q3 (K ++ [⟨T, mm, bb⟩]) = kdG c r2 o2 []) := Lib.hid (by rw [← HKd.out, kdG, if_pos rfl, hT, hs1, hq1, hmm, hs2, hq2, hbb, hs3, hq3])
      have l1 : s1.length ≤ s.length := by rw [← hs1]; exact Nat.le_trans (rdR_le _) HRl.out
      have l2 : s2.length ≤ s.length := by rw [← hs2]; exact Nat.le_trans (nuR_le _ _) l1
      have l3 : s3.length ≤ s.length := by rw [← hs3]; exact Nat.le_trans (nuR_le _ _) l2
      have HT' := Lib.hid hT; have HS1 := Lib.hid hs1; have HQ1 := Lib.hid hq1; have HMm := Lib.hid hmm; have HS2 := Lib.hid hs2; have HQ2 := Lib.hid hq2; have HBb := Lib.hid hbb; have HS3' := Lib.hid hs3; have HQ3 := Lib.hid hq3
      have L0 : Hid (rs.length ≤ 4611686018427387903) := Lib.hid (by have := HRl.out; omega)
      have L1 : Hid (s1.length ≤ 4611686018427387903) := Lib.hid (by omega)
      have L2 : Hid (s2.length ≤ 4611686018427387903) := Lib.hid (by omega)
      have L3 := Lib.hid l3
      have HRdW : Hid (FRd wr.drew w1.heap.size rs true) := Lib.hid HRd.out.drew
      have HStW : Hid (Blk wr.drew w2.heap.size 55 #[.int .i64 nx, .slice av K.length cv]) := Lib.hid HSt.out.drew
      have HRowW : Hid (wr.drew.ownsRow w3.heap.size 103 3 (.slice av K.length cv) K.length (kcs K)) := Lib.hid (row_drew HRow.out)
      have HbW : Hid (Ext w1 wr.drew) := Lib.hid Hb.out.drew
      have HSzW : Hid (w3.heap.size ≤ wr.drew.heap.size) := HSz3
      have hK5 : K.length ≤ 65535 := by omega
      clear hT hs1 hq1 hmm hs2 hq2 hbb hs3 hq3 l1 l2 l3
      have HNe : Hid (w2.heap.size ≠ w1.heap.size) := Lib.hid (by omega)
      have HNeR : Hid ((Value.slice av K.length cv).ownBlock ≠ some w1.heap.size) := Lib.hid (fun e => by have := (row_lt HRow.out _ e).1; omega)
      have HNeS : Hid ((Value.slice av K.length cv).ownBlock ≠ some w2.heap.size) := Lib.hid (fun e => by have := (row_lt HRow.out _ e).1; omega)
      have HSW := HStW; have HXW := HbW; have HZW := HSzW
      clear HN1 HN2 HR1 HR2 HO1 HO2 HP HGet HT HO HTl HR1l HR2l HX2 HX3 HB1 HG0 HRd2 HRd3 HS3
      go_wp2_with fail
      go_region_law (first | (refine step_append_lies _ rfl (.tmp 34) (.tmp 42) 53 rfl w3.heap.size 103 i _ 3 32 Try.underlying53 HI.out HZ.out HSz.out HBy.out (by decide) (by decide) _ K.length (kcs K) (by simp [Act.eval]) HRW.out ⟨wc.heap.size, 0, none⟩ 1 1 (kc ⟨T, mm, bb⟩) (by simp [Act.eval]) rfl (news_new _ _ _) (kc_one' _) (by decide) (by unfold maxLen; omega) (by omega) (by simp; omega) _ rfl ?_; intro g cap1 w5 hown hgrow hat hlt2; have HB5 := Lib.hid (HKW.out.same (hgrow.block _ HKW.out.lt (fun e => HNeS.out e.symm))); have HR5 : Hid (FRd w5 w1.heap.size s3 q3) := Lib.hid (HRK.out.same (hgrow.block _ HRK.out.lt (fun e => HNeR.out e.symm))); have HOw := Lib.hid hown; have HGr := Lib.hid hgrow; have m1 : w5.cell? ⟨w2.heap.size, 1, none⟩ = some (.slice av K.length cv) := HB5.out.cell 1; have m2 := HB5.out.free 1; clear hown hgrow hat) | (go_simp; first | (go_at_call 77; refine (ftext_v HT'.out HS1.out HQ1.out HRdW.out L0.out).mono ?_; rintro e wa ⟨rfl, hra, hoa⟩; have HRa := Lib.hid hra; have HSa := Lib.hid (Off.blk HSW.out HNe.out hoa); have HRowa := Lib.hid (Off.row HRowW.out HNeR.out hoa); have HXa : Hid (Ext w1 wa) := Lib.hid (Off.ext HXW.out (Nat.le_refl _) hoa); have HZa : Hid (w3.heap.size ≤ wa.heap.size) := Lib.hid (Nat.le_trans HZW.out hoa.size); have ea : wa.cell? ⟨w2.heap.size, 1, none⟩ = some (.slice av K.length cv) := HSa.out.cell 1; clear hra hoa) | (go_at_call_of 76 (Value.int IntKind.i64 4); refine (number_v HMm.out HS2.out HQ2.out rfl HRa.out L1.out (by decide)).mono ?_; rintro e wb ⟨rfl, hrb, hob⟩; have HRb := Lib.hid hrb; have HSb := Lib.hid (Off.blk HSa.out HNe.out hob); have HRowb := Lib.hid (Off.row HRowa.out HNeR.out hob); have HXb : Hid (Ext w1 wb) := Lib.hid (Off.ext HXa.out (Nat.le_refl _) hob); have HZb : Hid (w3.heap.size ≤ wb.heap.size) := Lib.hid (Nat.le_trans HZa.out hob.size); have eb : wb.cell? ⟨w2.heap.size, 1, none⟩ = some (.slice av K.length cv) := HSb.out.cell 1; clear hrb hob) | (go_at_call_of 76 (Value.int IntKind.i64 8); refine (number_v HBb.out HS3'.out HQ3.out rfl HRb.out L2.out (by decide)).mono ?_; rintro e wc ⟨rfl, hrc, hoc⟩; have HRc := Lib.hid hrc; have HSc := Lib.hid (Off.blk HSb.out HNe.out hoc); have HRowc := Lib.hid (Off.row HRowb.out HNeR.out hoc); have HXc : Hid (Ext w1 wc) := Lib.hid (Off.ext HXb.out (Nat.le_refl _) hoc); have HZc : Hid (w3.heap.size ≤ wc.heap.size) := Lib.hid (Nat.le_trans HZb.out hoc.size); have ec : wc.cell? ⟨w2.heap.size, 1, none⟩ = some (.slice av K.length cv) := HSc.out.cell 1; clear hrc hoc; have HRW : Hid ((wc.alloc (.cells #[.string ⟨T.toArray⟩, .int .i64 mm, .int .i64 bb] 103)).ownsRow w3.heap.size 103 3 (.slice av K.length cv) K.length (kcs K)) := Lib.hid (row_ext HRowc.out (ext_a1 _ _)); have HKW : Hid (Blk (wc.alloc (.cells #[.string ⟨T.toArray⟩, .int .i64 mm, .int .i64 bb] 103)) w2.heap.size 55 #[.int .i64 nx, .slice av K.length cv]) := Lib.hid (HSc.out.ext (ext_a1 _ _)); have HRK : Hid (FRd (wc.alloc (.cells #[.string ⟨T.toArray⟩, .int .i64 mm, .int .i64 bb] 103)) w1.heap.size s3 q3) := Lib.hid (HRc.out.ext (ext_a1 _ _)); have hzc := HZc.out; have hlc : w2.heap.size < wc.heap.size := HSc.out.lt; have hnc : w2.heap.size ≠ wc.heap.size := Nat.ne_of_lt hlc)))
      all_goals
        have hbel : Below w1.heap.size w1 w5 := (HXc.out.trans (ext_a1 wc (.cells #[.string ⟨T.toArray⟩, .int .i64 mm, .int .i64 bb] 103)) : Below w1.heap.size w1 _).grown HGr.out (HXc.out.trans (ext_a1 wc (.cells #[.string ⟨T.toArray⟩, .int .i64 mm, .int .i64 bb] 103))).size (fun q hq => Nat.le_trans (by omega) (row_lt HRW.out q hq).1)
        have HBel := Lib.hid hbel
        have hs5 := HGr.out.size
        have HS5 : Hid (w3.heap.size ≤ w5.heap.size) := Lib.hid (by simp at hs5; omega)
        clear hbel hs5
        go_wp2_with fail
        go_roundw
        case rel =>
          refine ⟨j', s3, q3, K ++ [⟨T, mm, bb⟩], .slice (some ⟨g, 0, none⟩) (K.length + 1) cap1, by omega, by simp; omega, by go_num, HNext.out, HR5.out.same (Below.heap_setCell _ _ _ _ (show w1.heap.size ≠ w2.heap.size by omega)), L3.out, HB5.out.set 1 _, ?_, by have := (Off.set (g := w2.heap.size) w5 1 (.slice (some ⟨g, 0, none⟩) (K.length + 1) cap1)).size; have := HS5.out; omega, Below.setCell HBel.out (p := ⟨w2.heap.size, 1, none⟩) (by show _ ≤ w2.heap.size; omega) _⟩
          rw [kcs_snoc, List.length_append]
          exact row_setOther HOw.out _ (HB5.out.apart HOw.out (by decide))
        case measure => simp [intOf]
    · have HE : Hid (fparse t o = (nx, K, rs, ok)) := Lib.hid (by
        rw [HP.out, ← HKd.out]
        cases ok with
        | false => rw [kdG_no]
        | true =>
          obtain rfl : j = 0 := by
            rcases Nat.eq_zero_or_pos j with h | h
            · exact h
            · exact absurd ⟨rfl, h⟩ hgo
          rfl)
      have HF := Lib.hid (HGet.out _ HE.out)
      have hg0 := HG0.out.ext Hb.out
      have x0 : wr.cell? ⟨w.heap.size, 0, none⟩ = some (.int .i64 0) := hg0.cell 0
      have x1 : wr.cell? ⟨w.heap.size, 1, none⟩ = some (.slice none 0 0) := hg0.cell 1
      have y0 := hg0.free 0; have y1 := hg0.free 1
      have HG1 := Lib.hid hg0
      have HEx : Hid (Ext w wr) := Lib.hid ((ext_a1 w (.cells #[.int .i64 0, .slice none 0 0] 55)).trans (HB1.out.trans Hb.out))
      clear hg0
      cases ok with
      | false =>
        have HS : Hid (fgetS s = badS) := Lib.hid (by rw [HF.out, if_neg]; rintro ⟨h, _⟩; cases h)
        clear hgo
        go_wp2_with fail
        ((try simp only [Exit.inBlock, Exit.then]); refine bodyPost_ret (v := .tuple #[.agg #[_, _], _]) (by rw [results_cell_tmp rfl]; go_simp; exact ⟨⟨rfl, rfl⟩, rfl⟩) rfl ?_)
        rw [HS.out]
        exact ⟨.slice none 0 0, rfl, World.ownsRow_nil _ _ _ _, ext_set2 HEx.out _ (Nat.le_refl _) _ _⟩
      | true =>
        obtain rfl : j = 0 := by
          rcases Nat.eq_zero_or_pos j with h | h
          · exact h
          · exact absurd ⟨rfl, h⟩ hgo
        clear hgo
        by_cases hrs : rs = []
        case neg =>
          have HS : Hid (fgetS s = badS) := Lib.hid (by rw [HF.out, if_neg]; rintro ⟨_, h, _⟩; exact hrs h)
          have hrs' : (rs == []) = false := by simpa using hrs
          have hrs2 : (rs != []) = true := by simpa using hrs
          clear hrs
          go_wp2_with fail
          ((try simp only [Exit.inBlock, Exit.then]); refine bodyPost_ret (v := .tuple #[.agg #[_, _], _]) (by rw [results_cell_tmp rfl]; go_simp; exact ⟨⟨rfl, rfl⟩, rfl⟩) rfl ?_)
          rw [HS.out]
          exact ⟨.slice none 0 0, rfl, World.ownsRow_nil _ _ _ _, ext_set2 HEx.out _ (Nat.le_refl _) _ _⟩
        subst hrs
        obtain ⟨av', cv', hk1, hks⟩ := Kds.of_own (Own.of_row HRow.out)
        cases hk1
        have HKs := Lib.hid hks
        clear hks
        go_wp2_with fail
        refine (fcheck_c nx _ _ _ K _ HKs.out).mono ?_
        rcases check_cases nx K with hc | hc
        case inr =>
          have HS : Hid (fgetS s = badS) := Lib.hid (by rw [HF.out, if_neg]; rintro ⟨_, _, h⟩; have h2 := checkN_yes h; rw [hc] at h2; cases h2)
          rw [hc]
          rintro e w4 ⟨rfl, hb4⟩
          have u0 := cell_ext hb4 x0; have u1 := cell_ext hb4 x1; have z0 := frozen_ext hb4 x0 y0; have z1 := frozen_ext hb4 x1 y1
          have HE4 := Lib.hid (HEx.out.trans hb4)
          clear hb4 x0 x1 y0 y1 hc
          go_wp2_with fail
          ((try simp only [Exit.inBlock, Exit.then]); refine bodyPost_ret (v := .tuple #[.agg #[_, _], _]) (by rw [results_cell_tmp rfl]; go_simp; exact ⟨⟨rfl, rfl⟩, rfl⟩) rfl ?_)
          rw [HS.out]
          exact ⟨.slice none 0 0, rfl, World.ownsRow_nil _ _ _ _, ext_set2 HE4.out _ (Nat.le_refl _) _ _⟩
        have HS : Hid (fgetS s = ⟨nx, K, 0⟩) := Lib.hid (by rw [HF.out, if_pos ⟨rfl, rfl, check_ok hc⟩])
        rw [hc]
        rintro e w4 ⟨rfl, hb4⟩
        have u0 := cell_ext hb4 x0; have u1 := cell_ext hb4 x1; have z0 := frozen_ext hb4 x0 y0; have z1 := frozen_ext hb4 x1 y1
        have f0 := cell_ext hb4 d0; have f1 := cell_ext hb4 d1
        have HE4 := Lib.hid (HEx.out.trans hb4)
        have HRow4 := Lib.hid (row_ext HRow.out hb4)
        have HG4 := Lib.hid (HG1.out.ext hb4)
        clear hb4 x0 x1 y0 y1 hc d0 d1
        go_wp2_with fail
        ((try simp only [Exit.inBlock, Exit.then]); refine bodyPost_ret (v := .tuple #[.agg #[_, _], _]) (by rw [results_cell_tmp rfl]; go_simp; exact ⟨⟨rfl, rfl⟩, rfl⟩) rfl ?_)
        rw [HS.out]
        have hne : (Value.slice av K.length cv).ownBlock ≠ some w.heap.size := HG4.out.apart HRow4.out (by decide)
        exact ⟨.slice av K.length cv, rfl, row_setOther (row_setOther (row_base HRow4.out (by omega)) _ hne) _ hne, ext_set2 HE4.out _ (Nat.le_refl _) _ _⟩

end Go.Proofs.Ytkkafjknogfdnaa
