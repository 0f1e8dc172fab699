/- Walks: files made, synced, taken away, renamed; the disk taken up; a failure set. -/
import Derived.Test.YtoibjhoebjcfeaaZF
namespace Go.Proofs.Ytoibjhoebjcfeaa
open Go.RowKit

theorem wpList_len_files {w : World} {m : Nat} {L : List FE} {ops : Array Oper} {rest : List Oper} {o : Oper} {a : Act} {Q : Exit → Act → World → Prop} (hfs : FS w m L) (hg : o.guard = none) (x : Operand)
    (hop : o.op = Op.call { callee := Callee.builtin Builtin.len, args := #[x], argTypes := #[59] }) (hm : a.eval x = .map (some m))
    (hK : wpList Try.prog ops Q rest (a.put o.dst (.int .i64 (L.length : Nat))) w) : wpList Try.prog ops Q (o :: rest) a w :=
  wpList_len_own w hg x 59 hop 9 72 Try.underlying59 ptrE m L.length (dmap L) hm hfs.map (by rw [dmap_size]; exact hK)

/-- an empty file was laid -/
theorem Fin.create {w w3 : World} {g m : Nat} {kv : Value} {L : List FE} {σ : DM} (h : DkI w g m kv L (usedM σ.L : Int) σ) {nm : List UInt8} (ho : okD { σ with L := insN FM.nm ⟨nm, [], 0⟩ σ.L }) (hno : findN FE.nm nm L = none) {n : Nat}
    (hmap : w3.ownsMap Try.prog 9 ptrE m n ((dmap L).put (.string nm) (.lit (.int .i64 w.heap.size)))) (hturn : (w.alloc (.cells #[.slice none 0 0, .int .i64 0] 76)).mapTurned w3 m) :
    Fin w g m kv L { σ with L := insN FM.nm ⟨nm, [], 0⟩ σ.L } w3 := by
  obtain ⟨x, hx⟩ : ∃ x : FE, x = ⟨⟨nm, [], 0⟩, w.heap.size, .slice none 0 0⟩ := ⟨_, rfl⟩
  have hb0 := Blk.new w 76 #[.slice none 0 0, .int .i64 0]
  have hext := ext_a1 w (.cells #[.slice none 0 0, .int .i64 0] 76)
  have hmb : m ≠ w.heap.size := Nat.ne_of_lt h.fs.map.lt
  have hw : ∀ i, i ≠ m → i < w.heap.size + 1 → w3.heap[i]? = (w.alloc (.cells #[.slice none 0 0, .int .i64 0] 76)).heap[i]? := fun i hi hl => hturn.grown.block i (by rw [World.size_alloc]; exact hl) (fun e => hi (by cases e; rfl))
  have hw2 : ∀ i, i < w.heap.size → i ≠ m → w3.heap[i]? = w.heap[i]? := fun i hl hi => (hw i hi (by omega)).trans (hext.block i hl)
  have hfs : FS w3 m (insN FE.nm x L) := by
    refine (h.fs.ext hext).put x (by rw [hx]; exact hno) (by rw [hx]; exact hmap) (fun i hi hne => hw i hne (by have := h.fs.lt hi; omega)) ?_ ?_ (fun y hy => ?_)
    · rw [hx]; exact hb0.same (hw _ (Ne.symm hmb) (Nat.lt_succ_self _))
    · rw [hx]; exact Own.nil _ _ _ _
    · rw [hx]
      exact ⟨Nat.ne_of_gt (h.fs.blk y hy).lt, fun i hi => by cases hi⟩
  refine ⟨ho, m, kv, _, ⟨?_, hfs, ?_, ?_⟩, fun i hi => ?_, ?_⟩
  · have hh := h.head.same (hw2 g h.head.lt fun e => h.ne (.inl e))
    have e1 : (usedM (insN FM.nm ⟨nm, [], 0⟩ σ.L) : Int) = usedM σ.L := by rw [usedM_ins]; simp
    show Blk w3 g _ (headC { σ with L := insN FM.nm ⟨nm, [], 0⟩ σ.L } (usedM (insN FM.nm ⟨nm, [], 0⟩ σ.L) : Int) m kv)
    rw [e1]; exact hh
  · show (insN FE.nm x L).map FE.f = insN FM.nm ⟨nm, [], 0⟩ σ.L
    rw [insN_map (k := FE.nm) (k' := FM.nm) (h := FE.f) (fun x => rfl), h.files, hx]
  · exact h.keep.same fun i hi => hw2 i (h.keep.lt i hi).2 fun e => (h.keepF hi).2 (.inl e)
  · rcases hi with h1 | h1 | h1
    · exact .inl (.inl h1)
    · rcases InF.ins h1 with h2 | h2 | h2
      · right; rw [h2, hx]; exact Nat.le_refl _
      · rw [hx] at h2; cases h2
      · exact .inl (.inr (.inl h2))
    · exact .inl (.inr (.inr h1))
  · refine ⟨hturn.grown.os, hturn.grown.tape, hturn.grown.output, ?_, fun i hl hn => hw2 i hl fun e => hn (.inr (.inl (.inl e)))⟩
    have := hturn.grown.size
    rw [World.size_alloc] at this
    omega

set_option maxRecDepth 100000
set_option linter.unusedVariables false
set_option maxHeartbeats 1600000

theorem create_no (w : World) (p : Option Addr) (h : NoD w p) (s : ByteArray) : Calls Try.prog 11 #[.pointer p, .string s] w fun e w' => e = .returned (.int .i64 1) ∧ w = w' := by
  have H := Lib.hid h; clear h
  go_enter Try.func11, Try.ntmps11
  go_wp2_with fail
  refine (ready_no _ p H.out).mono ?_
  rintro e w' ⟨rfl, rfl⟩
  go_wp2_with fail
  go_ret
  exact ⟨rfl, rfl⟩

theorem create_c {w : World} {g : Nat} {F : Nat → Prop} {σ : DM} (h : Dk w g F σ) (nm : List UInt8) (hl : nm.length ≤ 9223372036854775807) :
    Calls Try.prog 11 #[.pointer (some ⟨g, 0, none⟩), .string ⟨nm.toArray⟩] w fun e w' => e = .returned (.int .i64 (createM σ nm).1) ∧ DkS w g F (createM σ nm).2 w' := by
  obtain ⟨ho, m, kv, L, hi, fin⟩ := h.openD
  have HF := Lib.hid fin; have HI := Lib.hid hi; have HO := Lib.hid ho
  have c6 := hi.c6; have c3 := hi.c3
  have HLen := Lib.hid (show L.length = σ.L.length by rw [← hi.files, List.length_map])
  have hm := ho.many
  have HN := Lib.hid (fun W => name_c W nm hl)
  clear h fin
  cases hd : σ.down with
  | true =>
    rw [hd] at c6
    have HR := Lib.hid (ready_down w g hi.c0 c6)
    have HM : Hid (createM σ nm = (61, σ)) := Lib.hid (by unfold createM; rw [if_pos hd])
    clear hi ho hd c6 hm c3
    go_enter Try.func11, Try.ntmps11
    go_wp2_with fail
    refine HR.out.mono ?_
    rintro e w' ⟨rfl, rfl⟩
    go_wp2_with fail
    go_ret
    rw [HM.out]
    exact ⟨rfl, HF.out _ _ (Fin.same HO.out HI.out)⟩
  | false =>
    rw [hd] at c6
    have HR := Lib.hid (ready_up w g hi.c0 c6)
    have hM : createM σ nm = if !okName nm then (2, σ) else if (findN FM.nm nm σ.L).isSome then (62, σ) else if 400 ≤ σ.L.length then (60, σ) else if failsM σ then (61, sinkM σ) else (0, { tickM σ with L := insN FM.nm ⟨nm, [], 0⟩ σ.L }) := by
      unfold createM; rw [if_neg (by rw [hd]; decide)]
    cases hf : findN FE.nm nm L with
    | some e0 =>
      have hrun := look_yes hi.fs hl hf
      have hfm : (findN FM.nm nm σ.L).isSome = true := by rw [← hi.files, findN_map (k := FE.nm) (k' := FM.nm) (h := FE.f) (fun x => rfl), hf]; rfl
      cases hn : okName nm with
      | false =>
        have HM : Hid (createM σ nm = (2, σ)) := Lib.hid (by rw [hM, hn]; rfl)
        rw [hn] at HN
        clear hi ho hd c6 hm hf hM hn hfm
        generalize e0.b = bb at *
        go_enter Try.func11, Try.ntmps11
        go_wp2_with fail
        refine HR.out.mono ?_
        rintro e w' ⟨rfl, rfl⟩
        go_wp2_with fail
        refine (HN.out _).mono ?_
        rintro e w' ⟨rfl, rfl⟩
        go_wp2_with fail
        go_ret
        rw [HM.out]
        exact ⟨rfl, HF.out _ _ (Fin.same HO.out HI.out)⟩
      | true =>
        have HM : Hid (createM σ nm = (62, σ)) := Lib.hid (by rw [hM, hn, hfm]; rfl)
        rw [hn] at HN
        clear hi ho hd c6 hm hf hM hn hfm
        generalize e0.b = bb at *
        go_enter Try.func11, Try.ntmps11
        go_wp2_with fail
        refine HR.out.mono ?_
        rintro e w' ⟨rfl, rfl⟩
        go_wp2_with fail
        refine (HN.out _).mono ?_
        rintro e w' ⟨rfl, rfl⟩
        go_wp2_with fail
        go_ret
        rw [HM.out]
        exact ⟨rfl, HF.out _ _ (Fin.same HO.out HI.out)⟩
    | none =>
      have hrun := look_no hi.fs hl hf
      have hfm : findN FM.nm nm σ.L = none := by rw [← hi.files, findN_map (k := FE.nm) (k' := FM.nm) (h := FE.f) (fun x => rfl), hf]; rfl
      cases hn : okName nm with
      | false =>
        have HM : Hid (createM σ nm = (2, σ)) := Lib.hid (by rw [hM, hn]; rfl)
        rw [hn] at HN
        clear hi ho hd c6 hm hf hM hn hfm
        go_enter Try.func11, Try.ntmps11
        go_wp2_with fail
        refine HR.out.mono ?_
        rintro e w' ⟨rfl, rfl⟩
        go_wp2_with fail
        refine (HN.out _).mono ?_
        rintro e w' ⟨rfl, rfl⟩
        go_wp2_with fail
        go_ret
        rw [HM.out]
        exact ⟨rfl, HF.out _ _ (Fin.same HO.out HI.out)⟩
      | true =>
        rw [hn] at HN
        have HFs := Lib.hid hi.fs
        have HNo := Lib.hid hf
        by_cases h4 : 400 ≤ σ.L.length
        · have HM : Hid (createM σ nm = (60, σ)) := Lib.hid (by rw [hM, hn, hfm]; simp [h4])
          have hL4 : ((400 : Int) ≤ (L.length : Int)) := by rw [HLen.out]; omega
          have hd4 : decide ((400 : Int) ≤ (L.length : Int)) = true := by simpa using hL4
          clear hi ho hd c6 hm hf hM hn hfm h4
          go_enter Try.func11, Try.ntmps11
          go_wp2_with fail
          refine HR.out.mono ?_
          rintro e w' ⟨rfl, rfl⟩
          go_wp2_with fail
          refine (HN.out _).mono ?_
          rintro e w' ⟨rfl, rfl⟩
          go_wp2_with (at_len; refine wpList_len_files HFs.out rfl _ rfl rfl ?_)
          go_ret
          rw [HM.out]
          exact ⟨rfl, HF.out _ _ (Fin.same HO.out HI.out)⟩
        · have hL4 : ((L.length : Int) < 400) := by rw [HLen.out]; omega
          have hL4' : L.length < 400 := by omega
          cases hfl : failsM σ with
          | true =>
            have HM : Hid (createM σ nm = (61, sinkM σ)) := Lib.hid (by rw [hM, hn, hfm]; simp [h4, hfl])
            have HS := Lib.hid (stop_c hi hfl)
            have HK := Lib.hid (sink_c hi ho hd)
            clear hi ho hd c6 hm hf hM hn hfm h4 hfl
            go_enter Try.func11, Try.ntmps11
            go_wp2_with fail
            refine HR.out.mono ?_
            rintro e w' ⟨rfl, rfl⟩
            go_wp2_with fail
            refine (HN.out _).mono ?_
            rintro e w' ⟨rfl, rfl⟩
            go_wp2_with (at_len; refine wpList_len_files HFs.out rfl _ rfl rfl ?_)
            refine HS.out.mono ?_
            rintro e w' ⟨rfl, rfl⟩
            go_wp2_with fail
            refine HK.out.mono ?_
            rintro e w' ⟨rfl, hfin⟩
            have HX := Lib.hid hfin
            clear hfin
            go_wp2_with fail
            go_ret
            rw [HM.out]
            exact ⟨rfl, HF.out _ _ HX.out⟩
          | false =>
            have HM : Hid (createM σ nm = (0, { tickM σ with L := insN FM.nm ⟨nm, [], 0⟩ σ.L })) := Lib.hid (by rw [hM, hn, hfm]; simp [h4, hfl])
            have HS := Lib.hid (tick_c hi ho hfl)
            have HO' : Hid (okD { tickM σ with L := insN FM.nm ⟨nm, [], 0⟩ (tickM σ).L }) := Lib.hid (ho.tick.create hfm (by show σ.L.length < 400; omega))
            have HKey := Lib.hid (hkeyS nm hl)
            clear hi ho hd c6 hm hf hM hn hfm h4 hfl
            go_enter Try.func11, Try.ntmps11
            go_wp2_with fail
            refine HR.out.mono ?_
            rintro e w' ⟨rfl, rfl⟩
            go_wp2_with fail
            refine (HN.out _).mono ?_
            rintro e w' ⟨rfl, rfl⟩
            go_wp2_with (at_len; refine wpList_len_files HFs.out rfl _ rfl rfl ?_)
            refine HS.out.mono ?_
            rintro e w1 ⟨rfl, hi1, hof, hsz, hsame⟩
            have HI1 := Lib.hid hi1; have HOf : Hid (OffS (InD g m kv L) w w1) := Lib.hid hof.inD
            have c3' := hi1.c3
            have HMp := Lib.hid (hi1.fs.map.alloc (.cells #[.slice none 0 0, .int .i64 0] 76))
            clear hi1 hof hsz hsame c3 hrun
            go_wp2_with (at_mapUpdate; refine wpList_mapUpdate_in _ rfl _ _ _ 59 rfl 9 72 lawS Try.underlying59 ptrE m L.length (dmap L) rfl HMp.out (by unfold maxLen; omega) _ _ (.string nm) rfl rfl HKey.out (.lit (.int .i64 w1.heap.size)) [] (ptrE_mk _) ?_; intro w3 hown3 hturn3)
            have HFin := Lib.hid (Fin.after (fun i hi => .inl hi) HOf.out (Fin.create HI1.out HO'.out HNo.out hown3 hturn3))
            clear hown3 hturn3
            go_wp2_with fail
            go_ret
            rw [HM.out]
            exact ⟨rfl, HF.out _ _ HFin.out⟩

end Go.Proofs.Ytoibjhoebjcfeaa
