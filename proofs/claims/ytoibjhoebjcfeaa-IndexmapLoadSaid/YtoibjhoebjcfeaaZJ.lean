/- Walks: a file synced, taken away; the disk taken up. -/
import Derived.Test.YtoibjhoebjcfeaaZI
namespace Go.Proofs.Ytoibjhoebjcfeaa
open Go.RowKit

set_option maxRecDepth 100000
set_option linter.unusedVariables false
set_option maxHeartbeats 1600000

theorem start_no (w : World) (p : Option Addr) (h : NoD w p) : Calls Try.prog 18 #[.pointer p] w fun e w' => e = .returned (.int .i64 1) ∧ w = w' := by
  have H := Lib.hid h; clear h
  go_enter Try.func18, Try.ntmps18
  go_wp2_with fail
  refine (none_no _ p H.out).mono ?_
  rintro e w' ⟨rfl, rfl⟩
  go_wp2_with fail
  go_ret
  exact ⟨rfl, rfl⟩

theorem start_c {w : World} {g : Nat} {F : Nat → Prop} {σ : DM} (h : Dk w g F σ) :
    Calls Try.prog 18 #[.pointer (some ⟨g, 0, none⟩)] w fun e w' => e = .returned (.int .i64 (startM σ).1) ∧ DkS w g F (startM σ).2 w' := by
  obtain ⟨ho, m, kv, L, hi, fin⟩ := h.openD
  have HF := Lib.hid fin; have HI := Lib.hid hi; have HO := Lib.hid ho
  have c6 := hi.c6
  have HN := Lib.hid (none_at w g true hi.c0)
  clear h fin
  cases hd : σ.down with
  | false =>
    rw [hd] at c6
    have HM : Hid (startM σ = (2, σ)) := Lib.hid (by unfold startM; rw [if_neg (by rw [hd]; decide)])
    clear hi ho hd
    go_enter Try.func18, Try.ntmps18
    go_wp2_with fail
    refine HN.out.mono ?_
    rintro e w' ⟨rfl, rfl⟩
    go_wp2_with fail
    go_ret
    rw [HM.out]
    exact ⟨rfl, HF.out _ _ (Fin.same HO.out HI.out)⟩
  | true =>
    rw [hd] at c6
    have HM : Hid (startM σ = (0, { σ with down := false, starts := wrap64 (σ.starts + 1) })) := Lib.hid (by unfold startM; rw [if_pos hd])
    have c5 := hi.c5; have z6 := hi.z 6; have z5 := hi.z 5
    obtain ⟨st, hst⟩ : ∃ st, σ.starts = st := ⟨_, rfl⟩
    have HSt := Lib.hid hst
    rw [hst] at c5
    clear hi ho hd hst
    go_enter Try.func18, Try.ntmps18
    go_wp2_with fail
    refine HN.out.mono ?_
    rintro e w' ⟨rfl, rfl⟩
    go_wp2_with fail
    go_ret
    rw [HM.out]
    refine ⟨rfl, HF.out _ _ (Fin.head (HO.out.start _) HI.out (by simp [World.setCell]) rfl rfl rfl (fun i _ hg => by rw [heap_set_ne _ _ hg, heap_set_ne _ _ hg]) ?_ rfl rfl)⟩
    rw [HSt.out]
    exact (HI.out.head.set 6 _).set 5 _

theorem sync_no (w : World) (p : Option Addr) (h : NoD w p) (s : ByteArray) : Calls Try.prog 13 #[.pointer p, .string s] w fun e w' => e = .returned (.int .i64 1) ∧ w = w' := by
  have H := Lib.hid h; clear h
  go_enter Try.func13, Try.ntmps13
  go_wp2_with fail
  refine (find_no _ p H.out s).mono ?_
  rintro e w' ⟨rfl, rfl⟩
  go_wp2_with fail
  go_ret
  exact ⟨rfl, rfl⟩

theorem sync_c {w : World} {g : Nat} {F : Nat → Prop} {σ : DM} (h : Dk w g F σ) (nm : List UInt8) (hl : nm.length ≤ 9223372036854775807) :
    Calls Try.prog 13 #[.pointer (some ⟨g, 0, none⟩), .string ⟨nm.toArray⟩] w fun e w' => e = .returned (.int .i64 (syncM σ nm).1) ∧ DkS w g F (syncM σ nm).2 w' := by
  obtain ⟨ho, m, kv, L, hi, fin⟩ := h.openD
  have HF := Lib.hid fin; have HI := Lib.hid hi; have HO := Lib.hid ho
  clear h fin
  rcases find_c hi nm hl with ⟨hd, R, _⟩ | ⟨hd, hf, _, R, _⟩ | ⟨hd, e, hfe, hf, he, R, _⟩
  · have HM : Hid (syncM σ nm = (61, σ)) := Lib.hid (by unfold syncM; rw [if_pos hd])
    clear hi ho hd
    go_enter Try.func13, Try.ntmps13
    go_wp2_with fail
    refine R.out.mono ?_
    rintro e w' ⟨rfl, rfl⟩
    go_wp2_with fail
    go_ret
    rw [HM.out]
    exact ⟨rfl, HF.out _ _ (Fin.same HO.out HI.out)⟩
  · have HM : Hid (syncM σ nm = (4, σ)) := Lib.hid (by unfold syncM; rw [if_neg (by rw [hd]; decide), hf]; rfl)
    clear hi ho hd hf
    go_enter Try.func13, Try.ntmps13
    go_wp2_with fail
    refine R.out.mono ?_
    rintro e w' ⟨rfl, rfl⟩
    go_wp2_with fail
    go_ret
    rw [HM.out]
    exact ⟨rfl, HF.out _ _ (Fin.same HO.out HI.out)⟩
  · cases hfl : failsM σ with
    | true =>
      have HM : Hid (syncM σ nm = (61, sinkM σ)) := Lib.hid (by unfold syncM; rw [if_neg (by rw [hd]; decide), hf, hfl]; rfl)
      have HS := Lib.hid (stop_c hi hfl)
      have HK := Lib.hid (sink_c hi ho hd)
      clear hi ho hd hf hfe he hfl
      generalize e.b = bb at *
      go_enter Try.func13, Try.ntmps13
      go_wp2_with fail
      refine R.out.mono ?_
      rintro e w' ⟨rfl, rfl⟩
      go_wp2_with fail
      refine HS.out.mono ?_
      rintro e w' ⟨rfl, rfl⟩
      go_wp2_with fail
      refine HK.out.mono ?_
      rintro e w' ⟨rfl, hfin⟩
      have HX := Lib.hid hfin
      clear hfin
      go_wp2_with fail
      go_ret
      rw [HM.out]
      exact ⟨rfl, HF.out _ _ HX.out⟩
    | false =>
      have HM : Hid (syncM σ nm = (0, { tickM σ with L := updN FM.nm nm (fun f => { f with sy := f.da.length }) σ.L })) := Lib.hid (by unfold syncM; rw [if_neg (by rw [hd]; decide), hf, hfl]; rfl)
      have HS := Lib.hid (tick_c hi ho hfl)
      have HO' := Lib.hid (ho.tick.sync (σ := tickM σ) hf)
      have HFe := Lib.hid hfe
      have HE := Lib.hid he
      obtain ⟨ao, cap, hv, _⟩ := (hi.fs.row e he).rd
      have HV := Lib.hid hv
      obtain ⟨dl, hdl⟩ : ∃ dl, e.f.da.length = dl := ⟨_, rfl⟩
      obtain ⟨bb, hbb⟩ : ∃ bb, e.b = bb := ⟨_, rfl⟩
      have HDl := Lib.hid hdl; have HBb := Lib.hid hbb
      rw [hbb] at R
      clear hi ho hd hf hfe he hfl hv hdl hbb
      go_enter Try.func13, Try.ntmps13
      go_wp2_with fail
      refine R.out.mono ?_
      rintro e w' ⟨rfl, rfl⟩
      go_wp2_with fail
      refine HS.out.mono ?_
      rintro en w1 ⟨rfl, hi1, hof, hsz, hsame⟩
      have HI1 := Lib.hid hi1; have HOf : Hid (OffS (InD g m kv L) w w1) := Lib.hid hof.inD
      have f0 := hi1.f0 HE.out
      have f1 := hi1.f1 HE.out
      have y1 := hi1.fz HE.out 1
      rw [HV.out, HDl.out, HBb.out] at f0
      rw [HBb.out] at f1 y1
      generalize e.f.sy = sy at *
      clear hi1 hof hsz hsame
      go_wp2_with fail
      go_ret
      rw [HM.out]
      have hgb := HI1.out.neB HE.out
      have hrb := (HI1.out.fs.blk e HE.out).own (HI1.out.fs.row e HE.out) (by decide)
      rw [← HDl.out, ← HBb.out]
      refine ⟨rfl, HF.out _ _ (Fin.after (fun i hi => .inl hi) HOf.out (Fin.file HO'.out.1 HI1.out HFe.out (⟨{ e.f with sy := e.f.da.length }, e.b, e.v⟩ : FE) (findN_some HFe.out).2 rfl (by simp [World.setCell]) rfl rfl rfl (fun i _ _ hb _ => heap_set_ne _ _ hb) ?_ ((HI1.out.fs.blk e HE.out).set 1 _) ((HI1.out.fs.row e HE.out).same fun i hi => heap_set_ne _ _ fun e1 => hrb (e1 ▸ hi)) (fun i hi => .inl hi) (fun f => { f with sy := f.da.length }) rfl rfl rfl))⟩
      have hus : (usedM (updN FM.nm nm (fun f => { f with sy := f.da.length }) (tickM σ).L) : Int) = usedM σ.L := by rw [HO'.out.2]; rfl
      have hh := HI1.out.head.out hgb 1 (.int .i64 (e.f.da.length : Int))
      rw [← hus] at hh
      exact hh

theorem delete_no (w : World) (p : Option Addr) (h : NoD w p) (s : ByteArray) : Calls Try.prog 28 #[.pointer p, .string s] w fun e w' => e = .returned (.int .i64 1) ∧ w = w' := by
  have H := Lib.hid h; clear h
  go_enter Try.func28, Try.ntmps28
  go_wp2_with fail
  refine (find_no _ p H.out s).mono ?_
  rintro e w' ⟨rfl, rfl⟩
  go_wp2_with fail
  go_ret
  exact ⟨rfl, rfl⟩

/-- 'drop', of a file that is there -/
theorem drop_some {w : World} {g m : Nat} {kv : Value} {L : List FE} {σ : DM} (h : DkI w g m kv L (usedM σ.L : Int) σ) (ho : okD σ) {nm : List UInt8} (hl : nm.length ≤ 9223372036854775807) {e : FE} (hf : findN FE.nm nm L = some e) :
    Calls Try.prog 48 #[.pointer (some ⟨g, 0, none⟩), .string ⟨nm.toArray⟩] w fun en w' => en = .returned (.tuple #[]) ∧ DkI w' g m kv (delN FE.nm nm L) (usedM (delN FM.nm nm σ.L) : Int) { σ with L := delN FM.nm nm σ.L } ∧ OffS (MutD g m L) w w' := by
  obtain ⟨he, hen⟩ := findN_some hf
  obtain ⟨ao, cap, hv, h1, h2, h3, _⟩ := (h.fs.row e he).rd
  have hfm : findN FM.nm nm σ.L = some e.f := by
    rw [← h.files, findN_map (k := FE.nm) (k' := FM.nm) (h := FE.f) (fun x => rfl), hf]; rfl
  have hsum := usedM_del ho.ord hfm
  have hus := ho.used; have hcap := ho.cap1
  have hrun := look_yes h.fs hl hf
  have f0 := h.f0 he
  rw [hv] at f0
  have c2 := h.c2; have c3 := h.c3; have z2 := h.z 2
  have hgb := h.neB he
  have hgm : g ≠ m := map_blk h.fs.map h.head
  have HI := Lib.hid h
  have HSum := Lib.hid hsum
  obtain ⟨us, hu⟩ : ∃ us, usedM σ.L = us := ⟨_, rfl⟩
  obtain ⟨dl, hdl⟩ : ∃ dl, e.f.da.length = dl := ⟨_, rfl⟩
  rw [hdl] at f0 hsum h1
  rw [hu] at c2 hsum hus
  have HU := Lib.hid hu; have HD := Lib.hid hdl
  have hle : (dl : Int) ≤ (us : Int) := by omega
  have hus1 : (us : Int) ≤ 1048576 := by omega
  have HKey := Lib.hid (hkeyS nm hl)
  clear h ho hfm hsum hus hcap hf he hen hv hu hdl
  generalize e.b = bb at *
  go_enter Try.func48, Try.ntmps48
  go_wp2_with fail
  go_region
  have hblk0 := Lib.hid (((HI.out.head.set 2 (.int .i64 ((us : Int) - (dl : Int)))).drew))
  have hmp : ((w.setCell ⟨g, 2, none⟩ (.int .i64 ((us : Int) - (dl : Int)))).drew).ownsMap Try.prog 9 ptrE m L.length (dmap L) := map_same HI.out.fs.map (heap_set_ne _ _ (Ne.symm hgm))
  have HMp := Lib.hid hmp
  clear hmp
  have c3' : ((w.setCell ⟨g, 2, none⟩ (.int .i64 ((us : Int) - (dl : Int)))).drew).cell? ⟨g, 3, none⟩ = some (.map (some m)) := hblk0.out.cell 3
  go_wp2_with (at_delete; refine wpList_delete_own _ rfl _ _ 59 9 rfl 72 lawS Try.underlying59 ptrE m L.length (dmap L) rfl HMp.out _ (.string nm) rfl HKey.out ?_; intro w3 hown3 hturn3)
  have HOw := Lib.hid hown3; have HTu := Lib.hid hturn3
  clear hown3 hturn3
  go_wp2_with fail
  go_end0
  have hw : ∀ i, i ≠ g → i ≠ m → i < w.heap.size → w3.heap[i]? = w.heap[i]? := fun i hg hm hl => (HTu.out.grown.block i (by simpa [World.setCell, World.drew] using hl) (fun e1 => hm (by cases e1; rfl))).trans (by rw [heap_drew, heap_set_ne _ _ hg])
  refine ⟨rfl, ⟨?_, ?_, ?_, ?_⟩, ?_⟩
  · have hh := hblk0.out.same (w' := w3) (HTu.out.grown.block g hblk0.out.lt (fun e1 => hgm (by cases e1; rfl)))
    have e1 : ((us : Int) - (dl : Int)) = (usedM (delN FM.nm nm σ.L) : Int) := by
      have := HSum.out
      rw [HU.out, HD.out] at this
      omega
    rw [e1] at hh
    exact hh
  · refine HI.out.fs.del nm HOw.out fun i hi hm => hw i (fun e1 => HI.out.ne (e1 ▸ hi)) hm (HI.out.fs.lt hi)
  · show (delN FE.nm nm L).map FE.f = delN FM.nm nm σ.L
    rw [delN_map (k := FE.nm) (k' := FM.nm) (h := FE.f) (fun x => rfl), HI.out.files]
  · exact HI.out.keep.same fun i hi => hw i (HI.out.keepF hi).1 (fun e1 => (HI.out.keepF hi).2 (.inl e1)) (HI.out.keep.lt i hi).2
  · refine ⟨HTu.out.grown.os, HTu.out.grown.tape, HTu.out.grown.output, by simpa [World.setCell, World.drew] using HTu.out.grown.size, fun i hl hn => hw i (fun e1 => hn (.inl e1)) (fun e1 => hn (.inr (.inl e1))) hl⟩

theorem drop_none {w : World} {g m : Nat} {L : List FE} (c3 : w.cell? ⟨g, 3, none⟩ = some (.map (some m))) (hfs : FS w m L) {nm : List UInt8} (hl : nm.length ≤ 9223372036854775807) (hf : findN FE.nm nm L = none) :
    Calls Try.prog 48 #[.pointer (some ⟨g, 0, none⟩), .string ⟨nm.toArray⟩] w fun en w' => en = .returned (.tuple #[]) ∧ w = w' := by
  have hrun := look_no hfs hl hf
  clear hfs hf
  go_enter Try.func48, Try.ntmps48
  go_wp2_with fail
  go_end0
  exact ⟨rfl, rfl⟩

/-- 'drop' -/
theorem drop_c {w : World} {g m : Nat} {kv : Value} {L : List FE} {σ : DM} (h : DkI w g m kv L (usedM σ.L : Int) σ) (ho : okD σ) (nm : List UInt8) (hl : nm.length ≤ 9223372036854775807) :
    Calls Try.prog 48 #[.pointer (some ⟨g, 0, none⟩), .string ⟨nm.toArray⟩] w fun en w' => en = .returned (.tuple #[]) ∧ DkI w' g m kv (delN FE.nm nm L) (usedM (delN FM.nm nm σ.L) : Int) { σ with L := delN FM.nm nm σ.L } ∧ OffS (MutD g m L) w w' := by
  cases hf : findN FE.nm nm L with
  | some e => exact drop_some h ho hl hf
  | none =>
    refine (drop_none h.c3 h.fs hl hf).mono ?_
    rintro en w' ⟨rfl, rfl⟩
    have hfm : findN FM.nm nm σ.L = none := by rw [← h.files, findN_map (k := FE.nm) (k' := FM.nm) (h := FE.f) (fun x => rfl), hf]; rfl
    refine ⟨rfl, ?_, OffS.refl _ _⟩
    rw [delN_none hf, delN_none hfm]
    exact h

theorem delete_c {w : World} {g : Nat} {F : Nat → Prop} {σ : DM} (h : Dk w g F σ) (nm : List UInt8) (hl : nm.length ≤ 9223372036854775807) :
    Calls Try.prog 28 #[.pointer (some ⟨g, 0, none⟩), .string ⟨nm.toArray⟩] w fun e w' => e = .returned (.int .i64 (deleteM σ nm).1) ∧ DkS w g F (deleteM σ nm).2 w' := by
  obtain ⟨ho, m, kv, L, hi, fin⟩ := h.openD
  have HF := Lib.hid fin; have HI := Lib.hid hi; have HO := Lib.hid ho
  clear h fin
  rcases find_c hi nm hl with ⟨hd, R, _⟩ | ⟨hd, hf, _, R, _⟩ | ⟨hd, e, hfe, hf, he, R, _⟩
  · have HM : Hid (deleteM σ nm = (61, σ)) := Lib.hid (by unfold deleteM; rw [if_pos hd])
    clear hi ho hd
    go_enter Try.func28, Try.ntmps28
    go_wp2_with fail
    refine R.out.mono ?_
    rintro e w' ⟨rfl, rfl⟩
    go_wp2_with fail
    go_ret
    rw [HM.out]
    exact ⟨rfl, HF.out _ _ (Fin.same HO.out HI.out)⟩
  · have HM : Hid (deleteM σ nm = (4, σ)) := Lib.hid (by unfold deleteM; rw [if_neg (by rw [hd]; decide), hf]; rfl)
    clear hi ho hd hf
    go_enter Try.func28, Try.ntmps28
    go_wp2_with fail
    refine R.out.mono ?_
    rintro e w' ⟨rfl, rfl⟩
    go_wp2_with fail
    go_ret
    rw [HM.out]
    exact ⟨rfl, HF.out _ _ (Fin.same HO.out HI.out)⟩
  · cases hfl : failsM σ with
    | true =>
      have HM : Hid (deleteM σ nm = (61, sinkM σ)) := Lib.hid (by unfold deleteM; rw [if_neg (by rw [hd]; decide), hf, hfl]; rfl)
      have HS := Lib.hid (stop_c hi hfl)
      have HK := Lib.hid (sink_c hi ho hd)
      clear hi ho hd hf hfe he hfl
      generalize e.b = bb at *
      go_enter Try.func28, Try.ntmps28
      go_wp2_with fail
      refine R.out.mono ?_
      rintro e w' ⟨rfl, rfl⟩
      go_wp2_with fail
      refine HS.out.mono ?_
      rintro e w' ⟨rfl, rfl⟩
      go_wp2_with fail
      refine HK.out.mono ?_
      rintro e w' ⟨rfl, hfin⟩
      have HX := Lib.hid hfin
      clear hfin
      go_wp2_with fail
      go_ret
      rw [HM.out]
      exact ⟨rfl, HF.out _ _ HX.out⟩
    | false =>
      have HM : Hid (deleteM σ nm = (0, { tickM σ with L := delN FM.nm nm σ.L })) := Lib.hid (by unfold deleteM; rw [if_neg (by rw [hd]; decide), hf, hfl]; rfl)
      have HS := Lib.hid (tick_c hi ho hfl)
      have HO' : Hid (okD { tickM σ with L := delN FM.nm nm (tickM σ).L }) := Lib.hid (ho.tick.delete nm)
      have HOt := Lib.hid ho.tick
      clear hi ho hd hf hfe he hfl
      generalize e.b = bb at *
      go_enter Try.func28, Try.ntmps28
      go_wp2_with fail
      refine R.out.mono ?_
      rintro e w' ⟨rfl, rfl⟩
      go_wp2_with fail
      refine HS.out.mono ?_
      rintro en w1 ⟨rfl, hi1, hof, hsz, hsame⟩
      have HI1 := Lib.hid hi1; have HOf : Hid (OffS (InD g m kv L) w w1) := Lib.hid hof.inD
      clear hi1 hof hsz hsame
      go_wp2_with fail
      refine (drop_c HI1.out HOt.out nm hl).mono ?_
      rintro en w2 ⟨rfl, hi2, hof2⟩
      have HX : Fin w1 g m kv L { tickM σ with L := delN FM.nm nm (tickM σ).L } w2 := by
        refine ⟨HO'.out, m, kv, _, hi2, fun i hx => ?_, hof2.inD⟩
        rcases hx with h1 | h1 | h1
        · exact .inl (.inl h1)
        · exact .inl (.inr (.inl h1.del))
        · exact .inl (.inr (.inr h1))
      have HX := Lib.hid (Fin.after (fun i hi => .inl hi) HOf.out HX)
      clear hi2 hof2
      go_wp2_with fail
      go_ret
      rw [HM.out]
      exact ⟨rfl, HF.out _ _ HX.out⟩

end Go.Proofs.Ytoibjhoebjcfeaa
