/- Walks: a file renamed, spoilt, cut off; a failure set. -/
import Derived.Test.YtmpiepkkikmpmaaG9PDiskPlays
set_option linter.unusedVariables false
set_option linter.unusedSimpArgs false
namespace Go.Proofs.Ytmpiepkkikmpmaa
open Go.RowKit

/-- a file got another name -/
theorem Fin.rename {w2 w3 w4 : World} {g m : Nat} {kv : Value} {L1 : List FE} {us : Int} {σ1 σ' : DM} (h : DkI w2 g m kv L1 us σ1) {a b : List UInt8} {e : FE} (hf : findN FE.nm a L1 = some e) (hnb : ∀ y ∈ L1, FE.nm y ≠ b) {n3 n4 : Nat}
    (hmap3 : w3.ownsMap Try.prog 9 ptrE m n3 ((dmap L1).del (.string a))) (ht3 : w2.mapTurned w3 m) (hmap4 : w4.ownsMap Try.prog 9 ptrE m n4 ((dmap (delN FE.nm a L1)).put (.string b) (.lit (.int .i64 e.b)))) (ht4 : w3.mapTurned w4 m)
    (ho : okD σ') (hL : σ'.L = insN FM.nm { e.f with nm := b } (delN FM.nm a σ1.L)) (hus : us = (usedM σ'.L : Int)) (hh : headC σ' us m kv = headC σ1 us m kv) (hK : σ'.keep = σ1.keep) : Fin w2 g m kv L1 σ' w4 := by
  obtain ⟨he, hen⟩ := findN_some hf
  obtain ⟨x, hx⟩ : ∃ x : FE, x = ⟨{ e.f with nm := b }, e.b, e.v⟩ := ⟨_, rfl⟩
  have hw3 : ∀ i, i < w2.heap.size → i ≠ m → w3.heap[i]? = w2.heap[i]? := fun i hl hm => ht3.grown.block i hl fun e1 => hm (by cases e1; rfl)
  have hw4 : ∀ i, i < w2.heap.size → i ≠ m → w4.heap[i]? = w2.heap[i]? := fun i hl hm => (ht4.grown.block i (Nat.lt_of_lt_of_le hl ht3.grown.size) fun e1 => hm (by cases e1; rfl)).trans (hw3 i hl hm)
  have hbm : e.b ≠ m := map_blk h.fs.map (h.fs.blk e he)
  have hbl := (h.fs.blk e he).lt
  have hfs3 := h.fs.del a hmap3 fun i hi hm => hw3 i (h.fs.lt hi) hm
  have hfs4 : FS w4 m (insN FE.nm x (delN FE.nm a L1)) := by
    refine hfs3.put x (findN_of_none fun y hy => by rw [hx]; exact hnb y (mem_delN.1 hy).1) (by rw [hx]; exact hmap4) (fun i hi hm => (hw4 i (h.fs.lt hi.del) hm).trans (hw3 i (h.fs.lt hi.del) hm).symm) ?_ ?_ (fun y hy => ?_)
    · rw [hx]; exact (h.fs.blk e he).same (hw4 _ hbl hbm)
    · rw [hx]; exact (h.fs.row e he).same fun i hi => hw4 i ((h.fs.row e he).lt i hi).2 fun e1 => map_own h.fs.map (h.fs.row e he) (e1 ▸ hi)
    · rw [hx]
      have hy' := mem_delN.1 hy
      have hs := h.fs.sepOf he hy'.1 fun e1 => hy'.2 (e1.symm.trans hen)
      exact ⟨hs.1, hs.2⟩
  refine ⟨ho, m, kv, _, ⟨?_, hfs4, ?_, ?_⟩, fun i hi => ?_, ?_⟩
  · have h1 := h.head.same (hw4 g h.head.lt fun e1 => h.ne (.inl e1))
    rw [← hus, hh]
    exact h1
  · rw [insN_map (k := FE.nm) (k' := FM.nm) (h := FE.f) (fun x => rfl), delN_map (k := FE.nm) (k' := FM.nm) (h := FE.f) (fun x => rfl), h.files, hL, hx]
  · rw [hK]
    exact h.keep.same fun i hi => hw4 i (h.keep.lt i hi).2 fun e1 => (h.keepF hi).2 (.inl e1)
  · rcases hi with h1 | h1 | h1
    · exact .inl (.inl h1)
    · rcases InF.ins h1 with h2 | h2 | h2
      · exact .inl (.inr (.inl (.inr ⟨e, he, .inl (by rw [h2, hx])⟩)))
      · exact .inl (.inr (.inl (.inr ⟨e, he, .inr (by rw [hx] at h2; exact h2)⟩)))
      · exact .inl (.inr (.inl h2.del))
    · exact .inl (.inr (.inr h1))
  · exact ⟨ht4.grown.os.trans ht3.grown.os, ht4.grown.tape.trans ht3.grown.tape, ht4.grown.output.trans ht3.grown.output, Nat.le_trans ht3.grown.size ht4.grown.size, fun i hl hn => hw4 i hl fun e1 => hn (.inr (.inl (.inl e1)))⟩

set_option maxRecDepth 100000
set_option linter.unusedVariables false
set_option maxHeartbeats 1600000

theorem rename_no (w : World) (p : Option Addr) (h : NoD w p) (s t : ByteArray) : Calls Try.prog 29 #[.pointer p, .string s, .string t] w fun e w' => e = .returned (.int .i64 1) ∧ w = w' := by
  have H := Lib.hid h; clear h
  go_enter Try.func29, Try.ntmps29
  go_wp2_with fail
  refine (find_no _ p H.out s).mono ?_
  rintro e w' ⟨rfl, rfl⟩
  go_wp2_with fail
  go_ret
  exact ⟨rfl, rfl⟩

theorem rename_c {w : World} {g : Nat} {F : Nat → Prop} {σ : DM} (h : Dk w g F σ) (a b : List UInt8) (hla : a.length ≤ 9223372036854775807) (hlb : b.length ≤ 9223372036854775807) :
    Calls Try.prog 29 #[.pointer (some ⟨g, 0, none⟩), .string ⟨a.toArray⟩, .string ⟨b.toArray⟩] w fun e w' => e = .returned (.int .i64 (renameM σ a b).1) ∧ DkS w g F (renameM σ a b).2 w' := by
  obtain ⟨ho, m, kv, L, hi, fin⟩ := h.openD
  have HF := Lib.hid fin; have HI := Lib.hid hi; have HO := Lib.hid ho
  clear h fin
  rcases find_c hi a hla with ⟨hd, R, _⟩ | ⟨hd, hf, _, R, _⟩ | ⟨hd, e, hfe, hf, he, R, _⟩
  · have HM : Hid (renameM σ a b = (61, σ)) := Lib.hid (by unfold renameM; rw [if_pos hd])
    clear hi ho hd
    go_enter Try.func29, Try.ntmps29
    go_wp2_with fail
    refine R.out.mono ?_
    rintro e w' ⟨rfl, rfl⟩
    go_wp2_with fail
    go_ret
    rw [HM.out]
    exact ⟨rfl, HF.out _ _ (Fin.same HO.out HI.out)⟩
  · have HM : Hid (renameM σ a b = (4, σ)) := Lib.hid (by unfold renameM; rw [if_neg (by rw [hd]; decide), hf])
    clear hi ho hd hf
    go_enter Try.func29, Try.ntmps29
    go_wp2_with fail
    refine R.out.mono ?_
    rintro e w' ⟨rfl, rfl⟩
    go_wp2_with fail
    go_ret
    rw [HM.out]
    exact ⟨rfl, HF.out _ _ (Fin.same HO.out HI.out)⟩
  · have HM0 : Hid (renameM σ a b = if !okName b then (2, σ) else if failsM σ then (61, sinkM σ) else if a = b then (0, tickM σ) else (0, { tickM σ with L := renL a b e.f σ.L })) := Lib.hid (by unfold renameM; rw [if_neg (by rw [hd]; decide), hf])
    have HN := Lib.hid (fun W => name_c W b hlb)
    cases hn : okName b with
    | false =>
      have HM : Hid (renameM σ a b = (2, σ)) := Lib.hid (by rw [HM0.out, hn]; rfl)
      rw [hn] at HN
      clear hi ho hd hf hfe he hn HM0
      generalize e.b = bb at *
      go_enter Try.func29, Try.ntmps29
      go_wp2_with fail
      refine R.out.mono ?_
      rintro e w' ⟨rfl, rfl⟩
      go_wp2_with fail
      refine (HN.out _).mono ?_
      rintro e w' ⟨rfl, rfl⟩
      go_wp2_with fail
      go_ret
      rw [HM.out]
      exact ⟨rfl, HF.out _ _ (Fin.same HO.out HI.out)⟩
    | true =>
      rw [hn] at HN
      cases hfl : failsM σ with
      | true =>
        have HM : Hid (renameM σ a b = (61, sinkM σ)) := Lib.hid (by rw [HM0.out, hn, hfl]; rfl)
        have HS := Lib.hid (stop_c hi hfl)
        have HK := Lib.hid (sink_c hi ho hd)
        clear hi ho hd hf hfe he hfl hn HM0
        generalize e.b = bb at *
        go_enter Try.func29, Try.ntmps29
        go_wp2_with fail
        refine R.out.mono ?_
        rintro e w' ⟨rfl, rfl⟩
        go_wp2_with fail
        refine (HN.out _).mono ?_
        rintro e w' ⟨rfl, rfl⟩
        go_wp2_with fail
        refine HS.out.mono ?_
        rintro e w' ⟨rfl, rfl⟩
        go_wp2_with fail
        refine HK.out.mono ?_
        rintro e w' ⟨rfl, hfin⟩
        have HX := Lib.hid hfin
        clear hfin
        go_wp2_with fail
        go_ret
        rw [HM.out]
        exact ⟨rfl, HF.out _ _ HX.out⟩
      | false =>
        have HS := Lib.hid (tick_c hi ho hfl)
        have HOt := Lib.hid ho.tick
        by_cases hab : a = b
        · have HM : Hid (renameM σ a b = (0, tickM σ)) := Lib.hid (by rw [HM0.out, hn, hfl, if_pos hab]; rfl)
          clear hi ho hd hf hfe he hfl hn HM0
          subst hab
          generalize e.b = bb at *
          go_enter Try.func29, Try.ntmps29
          go_wp2_with fail
          refine R.out.mono ?_
          rintro e w' ⟨rfl, rfl⟩
          go_wp2_with fail
          refine (HN.out _).mono ?_
          rintro e w' ⟨rfl, rfl⟩
          go_wp2_with fail
          refine HS.out.mono ?_
          rintro en w1 ⟨rfl, hi1, hof, hsz, hsame⟩
          have HI1 := Lib.hid hi1; have HOf : Hid (OffS (InD g m kv L) w w1) := Lib.hid hof.inD
          clear hi1 hof hsz hsame
          go_wp2_with fail
          go_ret
          rw [HM.out]
          exact ⟨rfl, HF.out _ _ (Fin.after (fun i hi => .inl hi) HOf.out (Fin.same HOt.out HI1.out))⟩
        · have HM : Hid (renameM σ a b = (0, { tickM σ with L := renL a b e.f (tickM σ).L })) := Lib.hid (by rw [HM0.out, hn, hfl, if_neg hab]; rfl)
          have HO' := Lib.hid (ho.tick.rename (σ := tickM σ) hf hab)
          have hf1 : findN FE.nm a (delN FE.nm b L) = some e := findN_of (delN_ord hi.fs.ord) (mem_delN.2 ⟨he, fun e1 => hab ((findN_some hfe).2.symm.trans e1)⟩) (findN_some hfe).2
          have HF1 := Lib.hid hf1
          have HKa := Lib.hid (hkeyS a hla); have HKb := Lib.hid (hkeyS b hlb)
          have hll : (delN FE.nm b L).length ≤ 400 := by
            have h1 : (delN FE.nm b L).length ≤ L.length := List.length_filter_le _ _
            have h2 : L.length = σ.L.length := by rw [← hi.files, List.length_map]
            have := ho.many
            omega
          have HLl := Lib.hid hll
          obtain ⟨bb, hbb⟩ : ∃ bb, e.b = bb := ⟨_, rfl⟩
          have HBb := Lib.hid hbb
          rw [hbb] at R
          have hab' : (a == b) = false := by simpa using hab
          clear hi ho hd hf hfe he hfl hn HM0 hf1 hll hbb
          go_enter Try.func29, Try.ntmps29
          go_wp2_with fail
          refine R.out.mono ?_
          rintro e w' ⟨rfl, rfl⟩
          go_wp2_with fail
          refine (HN.out _).mono ?_
          rintro e w' ⟨rfl, rfl⟩
          go_wp2_with fail
          refine HS.out.mono ?_
          rintro en w1 ⟨rfl, hi1, hof, hsz, hsame⟩
          have HI1 := Lib.hid hi1; have HOf : Hid (OffS (InD g m kv L) w w1) := Lib.hid hof.inD
          clear hi1 hof hsz hsame
          go_wp2_with fail
          refine (drop_c HI1.out HOt.out b hlb).mono ?_
          rintro en w2 ⟨rfl, hi2, hof2⟩
          have HI2 := Lib.hid hi2; have HOf2 : Hid (OffS (InD g m kv L) w1 w2) := Lib.hid hof2.inD
          have c3 := hi2.c3
          clear hi2 hof2
          have hgm : g ≠ m := map_blk HI2.out.fs.map HI2.out.head
          go_wp2_with (first | (at_delete; refine wpList_delete_own _ rfl _ _ 53 9 rfl 61 lawS Try.underlying53 ptrE m _ (dmap (delN FE.nm b L)) rfl HI2.out.fs.map _ (.string a) rfl HKa.out ?_; intro w3 hown3 hturn3; have c3' : w3.cell? ⟨g, 3, none⟩ = some (.map (some m)) := (HI2.out.head.same (hturn3.grown.block g HI2.out.head.lt (fun e1 => hgm (by cases e1; rfl)))).cell 3; have HM3 := Lib.hid hown3; have HT3 := Lib.hid hturn3; have HM3' := Lib.hid (map_to hown3 (dmap_del a (delN FE.nm b L))); clear hown3 hturn3) | (at_mapUpdate; refine wpList_mapUpdate_in _ rfl _ _ _ 53 rfl 9 61 lawS Try.underlying53 ptrE m _ (dmap (delN FE.nm a (delN FE.nm b L))) rfl HM3'.out (by have h1 := HLl.out; have h2 : (delN FE.nm a (delN FE.nm b L)).length ≤ (delN FE.nm b L).length := List.length_filter_le _ _; unfold maxLen; omega) _ _ (.string b) rfl rfl HKb.out (.lit (.int .i64 bb)) [] (ptrE_mk _) ?_; intro w4 hown4 hturn4; have HM4 := Lib.hid hown4; have HT4 := Lib.hid hturn4; clear hown4 hturn4))
          go_ret
          rw [HM.out]
          have hus : ((usedM (delN FM.nm b (tickM σ).L) : Nat) : Int) = (usedM (renL a b e.f (tickM σ).L) : Int) := by rw [HO'.out.2]
          have hX := Fin.rename (σ' := { tickM σ with L := renL a b e.f (tickM σ).L }) HI2.out HF1.out (fun y hy => (mem_delN.1 hy).2) HM3.out HT3.out (by rw [HBb.out]; exact HM4.out) HT4.out HO'.out.1 rfl hus rfl rfl
          refine ⟨rfl, HF.out _ _ (Fin.after (fun i hi => .inl hi) HOf.out (Fin.after (fun i hi => ?_) HOf2.out hX))⟩
          rcases hi with h1 | h1 | h1
          · exact .inl (.inl h1)
          · exact .inl (.inr (.inl h1.del))
          · exact .inl (.inr (.inr h1))

/-- 'slices.Clone' of numbers -/
theorem cloneI_c {w : World} {ka : Option Addr} {kn kc : Nat} {xs : List Int} (h : Ints w ka kn kc xs) (hn : kn ≤ 1000000) :
    Calls Try.prog 50 #[.slice ka kn kc] w fun e w' => ∃ v, e = .returned v ∧ Own w' w.heap.size 3 1 v xs.length (xs.map (Value.int .i64)) ∧ Ext w w' := by
  have hl := h.len
  cases ka with
  | none =>
    have hc := h.nil rfl
    have hf := h.fits
    obtain rfl : xs = [] := List.eq_nil_of_length_eq_zero (by omega)
    refine (Any.slices_Clone_int_nil Try.lays2_15 kn kc w).mono ?_
    rintro e w' ⟨rfl, rfl⟩
    exact ⟨_, rfl, Own.nil _ _ _ _, Ext.refl _⟩
  | some ad =>
    by_cases h0 : kn = 0
    · subst h0
      obtain rfl : xs = [] := List.eq_nil_of_length_eq_zero hl
      refine (Any.slices_Clone_int_zero Try.lays2_15 ad kc w).mono ?_
      rintro e w' ⟨v, rfl, hrow, _, hb⟩
      exact ⟨v, rfl, Own.of_row hrow, hb⟩
    · obtain ⟨b, off, e1, _⟩ := h.at (j := 0) (by omega)
      cases e1
      refine (Any.slices_Clone_int Try.lays2_15 b off kn kc xs w (by omega) (by omega) (fun j hj => ?_)).mono ?_
      · obtain ⟨b', off', e2, hc⟩ := h.at (j := j) (by omega)
        cases e2
        exact hc
      · rintro e w' ⟨v, rfl, hrow, _, hb⟩
        have hr := Own.of_row hrow
        rw [List.take_of_length_le (by omega)] at hr
        rw [hl]
        exact ⟨v, rfl, hr, hb⟩

theorem fail_no (w : World) (p : Option Addr) (h : NoD w p) (n v : Value) : Calls Try.prog 22 #[.pointer p, n, v] w fun e w' => e = .returned (.int .i64 1) ∧ w = w' := by
  have H := Lib.hid h; clear h
  go_enter Try.func22, Try.ntmps22
  go_wp2_with fail
  refine (ready_no _ p H.out).mono ?_
  rintro e w' ⟨rfl, rfl⟩
  go_wp2_with fail
  go_ret
  exact ⟨rfl, rfl⟩

theorem fail_c {w : World} {g : Nat} {F : Nat → Prop} {σ : DM} (h : Dk w g F σ) (n : Int) (hn1 : n ≤ 9223372036854775807) {ka : Option Addr} {kn kc : Nat} {xs : List Int} (hk : Ints w ka kn kc xs) (hkn : kn ≤ 1000000) :
    Calls Try.prog 22 #[.pointer (some ⟨g, 0, none⟩), .int .i64 n, .slice ka kn kc] w fun e w' => e = .returned (.int .i64 (failD σ n xs).1) ∧ DkS w g F (failD σ n xs).2 w' := by
  obtain ⟨ho, m, kv, L, hi, fin⟩ := h.openD
  have HF := Lib.hid fin; have HI := Lib.hid hi; have HO := Lib.hid ho
  have HC := Lib.hid (cloneI_c hk hkn)
  have HKl := Lib.hid (show xs.length ≤ 1000000 by have := hk.len; omega)
  have c6 := hi.c6
  clear h fin hk
  cases hd : σ.down with
  | true =>
    rw [hd] at c6
    have HR := Lib.hid (ready_down w g hi.c0 c6)
    have HM : Hid (failD σ n xs = (61, σ)) := Lib.hid (by unfold failD; rw [if_pos hd])
    clear hi ho hd c6
    go_enter Try.func22, Try.ntmps22
    go_wp2_with fail
    refine HR.out.mono ?_
    rintro e w' ⟨rfl, rfl⟩
    go_wp2_with fail
    go_ret
    rw [HM.out]
    exact ⟨rfl, HF.out _ _ (Fin.same HO.out HI.out)⟩
  | false =>
    rw [hd] at c6
    have HR := Lib.hid (ready_up w g hi.c0 c6)
    by_cases hn : n < 0
    · have HM : Hid (failD σ n xs = (2, σ)) := Lib.hid (by unfold failD; rw [if_neg (by rw [hd]; decide), if_pos hn])
      clear hi ho hd c6
      go_enter Try.func22, Try.ntmps22
      go_wp2_with fail
      refine HR.out.mono ?_
      rintro e w' ⟨rfl, rfl⟩
      go_wp2_with fail
      go_ret
      rw [HM.out]
      exact ⟨rfl, HF.out _ _ (Fin.same HO.out HI.out)⟩
    · have HM : Hid (failD σ n xs = (0, { σ with fail := true, left := n, keep := xs })) := Lib.hid (by unfold failD; rw [if_neg (by rw [hd]; decide), if_neg hn])
      have HO' := Lib.hid (ho.failing (by omega : 0 ≤ n) hn1 HKl.out)
      clear hi ho hd c6
      go_enter Try.func22, Try.ntmps22
      go_wp2_with fail
      refine HR.out.mono ?_
      rintro e w' ⟨rfl, rfl⟩
      go_wp2_with fail
      refine HC.out.mono ?_
      rintro e w1 ⟨v, rfl, hown, hext⟩
      obtain ⟨av, cv, rfl⟩ := hown.slice
      have hi1 := HI.out.ext hext
      have HI1 := Lib.hid hi1; have HOw := Lib.hid hown; have HE := Lib.hid hext
      have c7 := hi1.c7; have c8 := hi1.c8; have c9 := hi1.c9
      have z7 := hi1.z 7; have z8 := hi1.z 8; have z9 := hi1.z 9
      clear hi1 hown hext
      go_wp2_with fail
      go_ret
      rw [HM.out]
      have hw : ∀ i, i < w1.heap.size → i ≠ g → (((w1.setCell ⟨g, 7, none⟩ (.bool true)).setCell ⟨g, 8, none⟩ (.int .i64 n)).setCell ⟨g, 9, none⟩ (.slice av xs.length cv)).heap[i]? = w1.heap[i]? := fun i _ hg => by rw [heap_set_ne _ _ hg, heap_set_ne _ _ hg, heap_set_ne _ _ hg]
      have hvg : ∀ i, (Value.slice av xs.length cv).ownBlock = some i → i ≠ g := fun i hi e1 => by
        have := (HOw.out.lt i hi).1
        have := HI.out.head.lt
        omega
      refine ⟨rfl, HF.out _ _ ⟨HO'.out, m, .slice av xs.length cv, L, HI1.out.headKv hw (((HI1.out.head.set 7 _).set 8 _).set 9 _) rfl (((HOw.out.base (Nat.zero_le _)).same fun i hi => hw i (HOw.out.lt i hi).2 (hvg i hi))), fun i hi => ?_, ?_⟩⟩
      · rcases hi with h1 | h1 | h1
        · exact .inl (.inl h1)
        · exact .inl (.inr (.inl h1))
        · exact .inr (HOw.out.lt i h1).1
      · exact ⟨HE.out.os, HE.out.tape, HE.out.output, by simpa [World.setCell] using HE.out.size, fun i hl hn => (hw i (Nat.lt_of_lt_of_le hl HE.out.size) (fun e1 => hn (.inl e1))).trans (HE.out.block i hl)⟩

end Go.Proofs.Ytmpiepkkikmpmaa
