/- Walks: the crash of a disk. -/
import Derived.Test.YtoibjhoebjcfeaaZC
import Derived.Test.YtoibjhoebjcfeaaZD
import Derived.StillTailTactics
namespace Go.Proofs.Ytoibjhoebjcfeaa
open Go.RowKit

/-- the disk, of which k files are cut off -/
def CrR (w1 : World) (g m : Nat) (kv : Value) (L : List FE) (σ : DM) (xs : List Int) (k : Nat) (wr : World) : Prop :=
  ∃ Lk, DkI wr g m kv Lk (usedM (crsL σ.L xs k) : Int) { σ with L := crsL σ.L xs k } ∧ (∀ j, InF m Lk j → InF m L j) ∧ OffS (MutD g m L) w1 wr

theorem CrR.start {w1 : World} {g m : Nat} {kv : Value} {L : List FE} {σ : DM} (h : DkI w1 g m kv L (usedM σ.L : Int) σ) (xs : List Int) : CrR w1 g m kv L σ xs 0 w1 := by
  unfold CrR
  rw [crsL_zero]
  exact ⟨L, h, fun j hj => hj, OffS.refl _ _⟩

theorem findE {L : List FE} {nm : List UInt8} {f : FM} (h : findN FM.nm nm (L.map FE.f) = some f) : ∃ e, findN FE.nm nm L = some e ∧ e.f = f := by
  rw [findN_map (k := FE.nm) (k' := FM.nm) (h := FE.f) (fun x => rfl)] at h
  cases hf : findN FE.nm nm L with
  | none => rw [hf] at h; cases h
  | some e => rw [hf] at h; exact ⟨e, rfl, Option.some.inj h⟩
theorem findE_none {L : List FE} {nm : List UInt8} (h : findN FM.nm nm (L.map FE.f) = none) : findN FE.nm nm L = none := by
  rw [findN_map (k := FE.nm) (k' := FM.nm) (h := FE.f) (fun x => rfl)] at h
  cases hf : findN FE.nm nm L with
  | none => rfl
  | some e => rw [hf] at h; cases h

theorem crashF_cut (f : FM) (x : Int) (n : Int) (hn : n = (f.sy : Int) + min (max x 0) ((f.da.length : Int) - f.sy)) (hs : f.sy ≤ f.da.length) : ({ cutF n.toNat f with sy := (cutF n.toNat f).da.length } : FM) = crashF f x := by
  have e1 : n.toNat = f.sy + min (max x 0).toNat (f.da.length - f.sy) := by omega
  unfold cutF crashF
  rw [e1]
  congr 1
  simp
  omega

theorem updN_congr {α : Type} {k : α → List UInt8} {nm : List UInt8} {f g : α → α} {l : List α} (ho : OrdN k l) {e : α} (hf : findN k nm l = some e) (hfe : f e = g e) : updN k nm f l = updN k nm g l := by
  have := updN_map2 (k := k) (k' := k) (h := fun x => x) (fun x => rfl) (nm := nm) (f := f) (g := g) ho hf hfe
  simpa using this

theorem CrR.step {w1 wr wd wc : World} {g m : Nat} {kv : Value} {L Lk : List FE} {σ : DM} {xs : List Int} {k : Nat} (ho : okD σ) (hk : k < σ.L.length) (hi : DkI wr g m kv Lk (usedM (crsL σ.L xs k) : Int) { σ with L := crsL σ.L xs k }) (hin : ∀ j, InF m Lk j → InF m L j) (hoff : OffS (MutD g m L) w1 wr)
    (hwd : OffS (MutD g m L) wr wd) {e e' : FE} (hf : findN FE.nm σ.L[k].nm Lk = some e) (hef : e.f = σ.L[k]) {n : Int} (hn : n = (e.f.sy : Int) + min (max (xs.getD k 0) 0) ((e.f.da.length : Int) - e.f.sy)) (h1 : e'.f = cutF n.toNat e.f) (h2 : e'.b = e.b) (h3 : ∀ i, e'.v.ownBlock = some i → e.v.ownBlock = some i)
    (hd : DkI wc g m kv (updN FE.nm σ.L[k].nm (fun _ => e') Lk) (usedM (updN FM.nm σ.L[k].nm (cutF n.toNat) (crsL σ.L xs k)) : Int) { σ with L := updN FM.nm σ.L[k].nm (cutF n.toNat) (crsL σ.L xs k) }) (hc : OffS (MutD g m Lk) wd wc) :
    CrR w1 g m kv L σ xs (k + 1) (wc.setCell ⟨e'.b, 1, none⟩ (.int .i64 (e'.f.da.length : Int))) := by
  obtain ⟨hfm, hst⟩ := crsL_step xs hk ho.ord
  have hsy := ho.sy _ (List.getElem_mem hk)
  have hoL : OrdN FM.nm (crsL σ.L xs k) := ord_nm ho.ord (crsL_nm _ _ _)
  obtain ⟨he, hen⟩ := findN_some hf
  have hn' : FE.nm e' = σ.L[k].nm := by show e'.f.nm = _; rw [h1]; exact hen
  have hf' : findN FE.nm σ.L[k].nm (updN FE.nm σ.L[k].nm (fun _ => e') Lk) = some e' := findN_of hd.fs.ord ((mem_updN (f := fun _ => e') hi.fs.ord hf).2 (.inl rfl)) hn'
  have he' := (findN_some hf').1
  have hgb := hd.neB he'
  have hrowb : e'.v.ownBlock ≠ some e'.b := (hd.fs.blk e' he').own (hd.fs.row e' he') (by decide)
  have hcr : ({ cutF n.toNat σ.L[k] with sy := (cutF n.toNat σ.L[k]).da.length } : FM) = crashF σ.L[k] (xs.getD k 0) := crashF_cut _ _ _ (by rw [← hef]; exact hn) hsy
  have hup : updN FM.nm σ.L[k].nm (fun f => { f with sy := f.da.length }) (updN FM.nm σ.L[k].nm (cutF n.toNat) (crsL σ.L xs k)) = crsL σ.L xs (k + 1) := by
    rw [updN_twice (h := cutF n.toNat) (fun y => rfl)]
    exact hst _ hcr
  have hus : usedM (updN FM.nm σ.L[k].nm (cutF n.toNat) (crsL σ.L xs k)) = usedM (crsL σ.L xs (k + 1)) := by
    have o2 : OrdN FM.nm (updN FM.nm σ.L[k].nm (cutF n.toNat) (crsL σ.L xs k)) := updN_ord hoL fun y hy => hy
    have f2 : findN FM.nm σ.L[k].nm (updN FM.nm σ.L[k].nm (cutF n.toNat) (crsL σ.L xs k)) = some (cutF n.toNat σ.L[k]) := findN_of o2 ((mem_updN (f := cutF n.toNat) hoL hfm).2 (.inl rfl)) rfl
    have := sumN_upd (fun f : FM => f.da.length) (f := fun f : FM => { f with sy := f.da.length }) o2 f2
    rw [← hup]
    exact (Nat.add_right_cancel (show sumN (fun f : FM => f.da.length) _ + (cutF n.toNat σ.L[k]).da.length = sumN (fun f : FM => f.da.length) _ + (cutF n.toNat σ.L[k]).da.length from this)).symm
  have hkeepw : ∀ i, i < wc.heap.size → i ≠ g → i ≠ e'.b → e'.v.ownBlock ≠ some i → (wc.setCell ⟨e'.b, 1, none⟩ (.int .i64 (e'.f.da.length : Int))).heap[i]? = wc.heap[i]? := fun i _ _ hb _ => heap_set_ne _ _ hb
  have hin' : ∀ j, InF m (updN FE.nm σ.L[k].nm (fun _ => e') Lk) j → InF m L j := fun j hj => by
    rcases InF.upd hi.fs.ord hf h2 hj with h | h
    · exact hin j h
    · exact hin j (.inr ⟨e, he, .inr (h3 j h)⟩)
  have hstep := hd.fileSet (σ' := { σ with L := crsL σ.L xs (k + 1) }) (us' := (usedM (crsL σ.L xs (k + 1)) : Int)) hf' ⟨{ e'.f with sy := e'.f.da.length }, e'.b, e'.v⟩ hn' rfl hkeepw (by rw [← hus]; exact hd.head.out hgb _ _) ((hd.fs.blk e' he').set 1 _) ((hd.fs.row e' he').same fun i hi2 => heap_set_ne _ _ fun e1 => hrowb (e1 ▸ hi2)) (fun i hi2 => .inl hi2) (fun f => { f with sy := f.da.length }) rfl hup.symm rfl
  refine ⟨_, hstep, fun j hj => ?_, (hoff.trans hwd).trans ((hc.mono fun i _ hm => ?_).trans ?_)⟩
  · rcases InF.upd (e' := (⟨{ e'.f with sy := e'.f.da.length }, e'.b, e'.v⟩ : FE)) hd.fs.ord hf' rfl hj with h | h
    · exact hin' j h
    · exact hin j (.inr ⟨e, he, .inr (h3 j h)⟩)
  · rcases hm with rfl | hm
    · exact .inl rfl
    · exact .inr (hin i hm)
  · have hof : OffS (MutD g m (updN FE.nm σ.L[k].nm (fun _ => e') Lk)) wc (wc.setCell ⟨e'.b, 1, none⟩ (.int .i64 (e'.f.da.length : Int))) := off_file he' (by simp [World.setCell]) rfl rfl rfl hkeepw
    exact hof.mono fun i _ hm => hm.elim (fun h => Or.inl h) (fun h => Or.inr (hin' i h))

/-- .. all of it is done -/
theorem CrR.done {w1 wr : World} {g m : Nat} {kv : Value} {L : List FE} {σ : DM} {xs : List Int} (h : CrR w1 g m kv L σ xs σ.L.length wr) :
    ∃ L', DkI ((((wr.setCell ⟨g, 6, none⟩ (.bool true)).setCell ⟨g, 7, none⟩ (.bool false)).setCell ⟨g, 8, none⟩ (.int .i64 0)).setCell ⟨g, 9, none⟩ (.slice none 0 0)) g m (.slice none 0 0) L' (usedM (crashL σ.L xs) : Int) (crashM σ xs) ∧ (∀ i, InF m L' i → InF m L i) ∧
      OffS (MutD g m L) w1 ((((wr.setCell ⟨g, 6, none⟩ (.bool true)).setCell ⟨g, 7, none⟩ (.bool false)).setCell ⟨g, 8, none⟩ (.int .i64 0)).setCell ⟨g, 9, none⟩ (.slice none 0 0)) := by
  obtain ⟨Lk, hi, hin, hoff⟩ := h
  rw [crsL_all] at hi
  have hw : ∀ i, i < wr.heap.size → i ≠ g → ((((wr.setCell ⟨g, 6, none⟩ (.bool true)).setCell ⟨g, 7, none⟩ (.bool false)).setCell ⟨g, 8, none⟩ (.int .i64 0)).setCell ⟨g, 9, none⟩ (.slice none 0 0)).heap[i]? = wr.heap[i]? := by
    intro i _ hg
    rw [heap_set_ne _ _ hg, heap_set_ne _ _ hg, heap_set_ne _ _ hg, heap_set_ne _ _ hg]
  refine ⟨Lk, hi.headKv hw ((((hi.head.set 6 _).set 7 _).set 8 _).set 9 _) rfl (Own.nil _ _ _ _), hin, hoff.trans ⟨rfl, rfl, rfl, by simp [World.setCell], fun i hl hn => hw i hl fun e => hn (.inl e)⟩⟩

set_option maxRecDepth 100000
set_option linter.unusedVariables false
set_option maxHeartbeats 1600000

theorem crash_no (w : World) (p : Option Addr) (h : NoD w p) (v : Value) : Calls Try.prog 16 #[.pointer p, v] w fun e w' => e = .returned (.int .i64 1) ∧ w = w' := by
  have H := Lib.hid h; clear h
  go_enter Try.func16, Try.ntmps16
  go_wp2_with fail
  refine (ready_no _ p H.out).mono ?_
  rintro e w' ⟨rfl, rfl⟩
  go_wp2_with fail
  go_ret
  exact ⟨rfl, rfl⟩
theorem crash_down (w : World) (g : Nat) (c0 : w.cell? ⟨g, 0, none⟩ = some (.bool true)) (c6 : w.cell? ⟨g, 6, none⟩ = some (.bool true)) (v : Value) : Calls Try.prog 16 #[.pointer (some ⟨g, 0, none⟩), v] w fun e w' => e = .returned (.int .i64 61) ∧ w = w' := by
  have H := Lib.hid (ready_down w g c0 c6); clear c0 c6
  go_enter Try.func16, Try.ntmps16
  go_wp2_with fail
  refine H.out.mono ?_
  rintro e w' ⟨rfl, rfl⟩
  go_wp2_with fail
  go_ret
  exact ⟨rfl, rfl⟩

theorem crash_c {w : World} {g m : Nat} {kv : Value} {L : List FE} {σ : DM} (h : DkI w g m kv L (usedM σ.L : Int) σ) (ho : okD σ) (hup : σ.down = false) (ka : Option Addr) (kn kc : Nat) (xs : List Int)
    (hkeep : ∀ W, OffS (MutD g m L) w W → Ints W ka kn kc xs) :
    Calls Try.prog 16 #[.pointer (some ⟨g, 0, none⟩), .slice ka kn kc] w fun e w' => e = .returned (.int .i64 0) ∧
      ∃ L', DkI w' g m (.slice none 0 0) L' (usedM (crashL σ.L xs) : Int) (crashM σ xs) ∧ (∀ i, InF m L' i → InF m L i) ∧ OffS (MutD g m L) w w' := by
  have c6 := h.c6; rw [hup] at c6
  have HR := Lib.hid (ready_up w g h.c0 c6)
  have hLl : L.length = σ.L.length := by rw [← h.files, List.length_map]
  have hmany := ho.many
  have HN := Lib.hid (names_c w g m L h.c0 h.c3 h.fs (by omega))
  have HI := Lib.hid h; have HO := Lib.hid ho; have HK := Lib.hid hkeep
  have hNn : L.map FE.nm = σ.L.map FM.nm := by rw [← h.files, List.map_map]; rfl
  obtain ⟨n, hn⟩ : ∃ n, σ.L.length = n := ⟨_, rfl⟩
  have hn400 : n ≤ 400 := by omega
  have HNn := Lib.hid hNn; have HLn := Lib.hid hn
  clear h ho hkeep hup c6 hLl hmany hNn
  go_enter Try.func16, Try.ntmps16
  go_wp2_with fail
  refine HR.out.mono ?_
  rintro e w' ⟨rfl, rfl⟩
  go_wp2_with fail
  refine HN.out.mono ?_
  intro e w1 hret
  obtain ⟨na, nc, rfl, hown, hext⟩ := hret.out
  have hlen : (L.map FE.nm).length = n := by rw [HNn.out, List.length_map, HLn.out]
  rw [hlen] at hown ⊢
  have HOwn := Lib.hid hown; have HE := Lib.hid hext
  have HI1 := Lib.hid (HI.out.ext hext)
  have hfits : n ≤ nc ∧ nc ≤ 9223372036854775807 := by
    obtain ⟨ao, cap, e1, h1, h2, _⟩ := hown.rd
    cases e1; exact ⟨h1, h2⟩
  have hkn := HK.out w (OffS.refl _ _)
  have hkfit := hkn.fits; have hkb := hkn.bound
  have HKl := Lib.hid hkn.len
  clear hret hown hext hn hlen hkn
  go_wp2_with fail
  go_loopw [18] (fun i wr => ∃ k : Nat, k ≤ n ∧ i = .int .i64 k ∧ CrR w1 g m kv L σ xs k wr) (fun i _ => n - (intOf i).toNat)
  case atStart => exact ⟨0, Nat.zero_le _, rfl, CrR.start HI1.out xs⟩
  case round =>
    obtain ⟨k, hk, rfl, hcr⟩ := hrel
    by_cases hlt : k < n
    · obtain ⟨Lk, hi, hin, hoff⟩ := hcr
      have hkL : k < σ.L.length := by rw [HLn.out]; exact hlt
      have hmw : ∀ j, MutD g m L j → j < w.heap.size := fun j hj => HI.out.mut_lt hj
      have hown := hoff.own HOwn.out fun i hb hm => by have := (HOwn.out.lt i hb).1; have := hmw i hm; omega
      obtain ⟨gb, cap, hv, hcell, _, _⟩ := hown.cell (j := k) (by simp only [List.length_map]; rw [← List.length_map (f := FE.nm), HNn.out, List.length_map]; exact hkL)
      cases hv
      have hnm : ((L.map FE.nm).map encStr)[k]? = some (.string ⟨σ.L[k].nm.toArray⟩) := by
        rw [HNn.out, List.getElem?_map, List.getElem?_map, List.getElem?_eq_getElem hkL]; rfl
      rw [← List.getElem?_eq_getElem, hnm] at hcell
      have hfm := (crsL_step xs hkL HO.out.ord).1
      have hfm' : findN FM.nm σ.L[k].nm (Lk.map FE.f) = some σ.L[k] := by rw [hi.files]; exact hfm
      obtain ⟨e, hfe, hef⟩ := findE hfm'
      have he := (findN_some hfe).1
      have hsy : e.f.sy ≤ e.f.da.length := by rw [hef]; exact HO.out.sy _ (List.getElem_mem hkL)
      have hnl : σ.L[k].nm.length ≤ 9223372036854775807 := by rw [← hef]; exact hi.fs.nm_le he
      have hrun := look1_yes hi.fs hnl hfe
      obtain ⟨ao, fc, hv2, hf1, hf2, hf3, _⟩ := (hi.fs.row e he).rd
      have f0 := hi.f0 he
      rw [hv2] at f0
      have f1 := hi.f1 he
      have c3 := hi.c3
      have hkr := HK.out wr ((OffS.of_ext HE.out).trans hoff)
      have hus : e.f.da.length ≤ usedM (crsL σ.L xs k) := by rw [hef]; exact sumN_mem (fun f : FM => f.da.length) (findN_some hfm).1
      have hus2 := usedM_crsL σ.L xs k
      have hus3 := HO.out.used; have hus4 := HO.out.cap1
      have hcapl : e.f.da.length ≤ 1048576 := by omega
      have hcapu : (usedM (crsL σ.L xs k) : Int) ≤ 1048576 := by omega
      obtain ⟨nm, hnmE⟩ : ∃ nm, σ.L[k].nm = nm := ⟨_, rfl⟩
      have hdr : DkI wr.drew g m kv Lk (usedM (crsL σ.L xs k) : Int) { σ with L := crsL σ.L xs k } := hi.ext (Ext.drew (Ext.refl _))
      have HCut := Lib.hid (fun nn h0 h1 => cut_c hdr rfl hcapu (ord_nm HO.out.ord (crsL_nm _ _ _)) hfe hsy nn h0 h1)
      have HStep := Lib.hid (fun wc e' (nn : Int) => CrR.step (wc := wc) (e' := e') (n := nn) HO.out hkL hi hin hoff (OffS.of_ext (Ext.drew (Ext.refl _))) hfe hef)
      rw [hnmE] at hrun hcell HCut HStep
      obtain ⟨dl, hdl⟩ : ∃ dl, e.f.da.length = dl := ⟨_, rfl⟩
      obtain ⟨sy, hsy2⟩ : ∃ sy, e.f.sy = sy := ⟨_, rfl⟩
      obtain ⟨bb, hbb⟩ : ∃ bb, e.b = bb := ⟨_, rfl⟩
      rw [hdl] at hsy f0 hf1 HStep hcapl
      rw [hsy2] at hsy f1 HStep
      rw [hbb] at f0 f1 hrun HCut HStep
      have HM : Hid (∀ e' : FE, e' ∈ updN FE.nm nm (fun _ => e') Lk) := Lib.hid (fun e' => by rw [← hnmE]; exact (mem_updN (f := fun _ => e') hi.fs.ord hfe).2 (.inl rfl))
      obtain ⟨x, hx⟩ : ∃ x, xs.getD k 0 = x := ⟨_, rfl⟩
      rw [hx] at HStep
      have HX := Lib.hid hx
      clear hi hin hoff hkL hmw hown hnm hfm hfm' hfe hef he hnl hv2 hus hus2 hus3 hus4 hnmE hdr hdl hsy2 hbb hx
      by_cases hkk : k < kn
      · obtain ⟨bk, ok, rfl, hck⟩ := hkr.at hkk
        rw [HX.out] at hck
        clear hkr
        go_wp2_with fail
        go_still_tail 19, (by kernel_rfl)
        go_wp2_with fail
        refine (HCut.out _ (by omega) (by omega)).mono ?_
        rintro en wc ⟨rfl, e', h1, h2, h3, hd, hc⟩
        have he' := HM.out e'
        have HS := Lib.hid (HStep.out wc e' _ (by omega) h1 h2 h3 hd hc)
        obtain ⟨ao', fc', hv', hg1, hg2, hg3, _⟩ := (hd.fs.row e' he').rd
        have f0' := hd.f0 he'
        have y1' := hd.fz he' 1
        have f1' := hd.f1 he'
        rw [hv'] at f0'
        rw [h2] at f0' y1' f1' HS
        generalize e'.f.da.length = dl' at *
        clear hd hc h1 h3 hv' he' h2
        go_wp2_with fail
        go_roundw
        case rel => exact ⟨k + 1, by omega, by go_num, HS.out⟩
        case measure => simp [intOf]; omega
      · obtain rfl : x = 0 := by
          rw [← HX.out, List.getD_eq_getElem?_getD, List.getElem?_eq_none (by rw [HKl.out]; omega)]; rfl
        clear hkr
        go_wp2_with fail
        go_still_tail 19, (by kernel_rfl)
        go_wp2_with fail
        refine (HCut.out _ (by omega) (by omega)).mono ?_
        rintro en wc ⟨rfl, e', h1, h2, h3, hd, hc⟩
        have he' := HM.out e'
        have HS := Lib.hid (HStep.out wc e' _ (by omega) h1 h2 h3 hd hc)
        obtain ⟨ao', fc', hv', hg1, hg2, hg3, _⟩ := (hd.fs.row e' he').rd
        have f0' := hd.f0 he'
        have y1' := hd.fz he' 1
        have f1' := hd.f1 he'
        rw [hv'] at f0'
        rw [h2] at f0' y1' f1' HS
        generalize e'.f.da.length = dl' at *
        clear hd hc h1 h3 hv' he' h2
        go_wp2_with fail
        go_roundw
        case rel => exact ⟨k + 1, by omega, by go_num, HS.out⟩
        case measure => simp [intOf]; omega
    · obtain rfl : k = n := by omega
      have HC := Lib.hid (by rw [← HLn.out] at hcr; exact CrR.done hcr)
      obtain ⟨Lk, hi, hin, hoff⟩ := hcr
      have c6 := hi.c6; have c7 := hi.c7; have c8 := hi.c8; have c9 := hi.c9
      have z6 := hi.z 6; have z7 := hi.z 7; have z8 := hi.z 8; have z9 := hi.z 9
      clear hi hin hoff
      go_wp2_with fail
      go_ret
      obtain ⟨L', h1, h2, h3⟩ := HC.out
      exact ⟨rfl, L', h1, h2, (OffS.of_ext HE.out).trans h3⟩

end Go.Proofs.Ytoibjhoebjcfeaa
