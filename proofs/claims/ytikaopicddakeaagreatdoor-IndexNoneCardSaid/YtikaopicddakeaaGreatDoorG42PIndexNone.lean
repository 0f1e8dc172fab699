/- Walks: the manifest that lies on a disk. Walks: the chapter's manifest on a disk; the law IndexmapLoad. Plain laws: a manifest that is laid on a disk, whenever the disk goes down. Walks: a manifest is laid on any disk. -/
import Derived.Test.YtikaopicddakeaaGreatDoorG18PIndexNone
import Derived.Test.YtikaopicddakeaaGreatDoorG41PIndexNone
import Derived.Test.YtikaopicddakeaaGreatDoorG40PIndexNone
import Derived.Test.YtikaopicddakeaaGreatDoorG7PIndexNone
set_option linter.unusedVariables false
set_option linter.unusedSimpArgs false
namespace Go.Proofs.YtikaopicddakeaaGreatDoor
open Go.RowKit

def mapN : List UInt8 := [109, 97, 112]
def newN : List UInt8 := [110, 101, 119]

/-- a manifest and an error's number are handed back by what reads a disk -/
def RetL (w : World) (g : Nat) (F : Nat → Prop) (σ' : DM) (r : Got) (e : Ending) (w' : World) : Prop :=
  ∃ a c, e = .returned (.tuple #[.agg #[.int .i64 r.nx, .int .i64 r.ck, .int .u64 r.sd, .slice a r.L.length c], .int .i64 r.en]) ∧ Grid w' a r.L.length c r.L ∧ DkS w g F σ' w'

theorem box4f {w : World} {a b c d : Value} {t : TypeId} : ∀ i, i < 4 → ((w.alloc (.cells #[a, b, c, d] t)).frozen? ⟨w.heap.size, i, none⟩ = false) := fun i _ => (Blk.new w t #[a, b, c, d]).free i

set_option maxRecDepth 100000
set_option linter.unusedVariables false
set_option maxHeartbeats 3200000

end Go.Proofs.YtikaopicddakeaaGreatDoor
namespace Go.Proofs.YtikaopicddakeaaGreatDoor
open Go.RowKit

theorem msame_self (nx ck sd : Int) (L : List (List Int)) : msame nx ck sd L nx ck sd L = true := by rw [msame_yes]; simp

theorem lit_grid {w : World} {b1 b2 : Nat} (h1 : Blk w b1 3 #[.int .i64 1, .int .i64 2]) (h2 : Blk w b2 51 #[.slice (some ⟨b1, 0, none⟩) 2 2]) : Grid w (some ⟨b2, 0, none⟩) 1 1 [[1, 2]] := by
  refine ⟨rfl, Nat.le_refl _, by omega, (fun h => by cases h), fun i hi => ?_⟩
  have : i = 0 := by simp at hi; omega
  subst this
  refine ⟨b2, 0, some ⟨b1, 0, none⟩, 2, rfl, h2.cell 0, ⟨rfl, Nat.le_refl _, by omega, (fun h => by cases h), fun j u hj => ⟨b1, 0, rfl, ?_⟩⟩⟩
  rw [Nat.zero_add, h1.cell j, ← hj]
  match j with
  | 0 => rfl
  | 1 => rfl
  | (k + 2) => simp

def RetK (w0 : World) (g : Nat) (σ' : DM) (r : Got) (e : Ending) (w' : World) : Prop :=
  ∃ a c, e = .returned (.tuple #[.agg #[.int .i64 r.nx, .int .i64 r.ck, .int .u64 r.sd, .slice a r.L.length c], .int .i64 r.en]) ∧ Grid w' a r.L.length c r.L ∧ KD w0 w' g σ'
set_option maxRecDepth 100000
set_option linter.unusedVariables false
set_option maxHeartbeats 3200000

theorem over_ok {w : World} {g : Nat} {F : Nat → Prop} {σ : DM} (h : Dk w g F σ) (hm : sizeM σ [] = (0, 4)) : Calls Tryz.prog 133 #[.pointer (some ⟨g, 0, none⟩)] w fun e w' => e = .returned (.int .i64 0) ∧ w = w' := by
  have HS := Lib.hid (size_c h [] (by decide))
  rw [hm] at HS
  clear h hm
  go_enter Tryz.func133, Tryz.ntmps133
  go_wp2_with fail
  refine HS.out.mono ?_
  rintro e w' ⟨rfl, rfl⟩
  go_wp2_with fail
  go_ret
  exact ⟨rfl, rfl⟩

theorem gone_none {w : World} {g : Nat} {F : Nat → Prop} {σ : DM} (h : Dk w g F σ) (nm : List UInt8) (hl : nm.length ≤ 9223372036854775807) (hm : deleteM σ nm = (4, σ)) : Calls Tryz.prog 134 #[.pointer (some ⟨g, 0, none⟩), .string ⟨nm.toArray⟩] w fun e w' => e = .returned (.int .i64 0) ∧ DkS w g F σ w' := by
  have HS := Lib.hid (delete_c h nm hl)
  rw [hm] at HS
  clear h hm
  go_enter Tryz.func134, Tryz.ntmps134
  go_wp2_with fail
  refine HS.out.mono ?_
  rintro e w' ⟨rfl, hd⟩
  have HD := Lib.hid hd
  clear hd
  go_wp2_with fail
  go_ret
  exact ⟨rfl, HD.out⟩

theorem swap0_c {w : World} {g : Nat} {F : Nat → Prop} (h : Dk w g F (newM 20000)) {ao : Option Addr} {n cap : Nat} (hG : Grid w ao n cap [[1, 2]]) {S : List UInt8} (hS : mputS 3 9 0 [[1, 2]] = (S, 0)) (hSl : (S.length : Int) ≤ 100) :
    Calls Tryz.prog 86 #[.pointer (some ⟨g, 0, none⟩), .agg #[.int .i64 3, .int .i64 9, .int .u64 0, .slice ao n cap]] w fun e w' => e = .returned (.int .i64 0) ∧ DkS w g F (one ⟨mapN, S, S.length⟩ 20000 0 0 false) w' := by
  have hx := ext_a1 w (.cells #[.int .i64 3, .int .i64 9, .int .u64 0, .slice ao n cap] 25)
  have HH := Lib.hid ((DkS.refl h).ext hx)
  have HP := Lib.hid (mput_c 3 9 0 ao n cap [[1, 2]] _ (hG.ext hx) (by decide) (by decide) (by decide) (by decide))
  rw [hS] at HP
  have hb := Blk.new w 25 #[.int .i64 3, .int .i64 9, .int .u64 0, .slice ao n cap]
  have d0 := hb.cell 0; have d1 := hb.cell 1; have d2 := hb.cell 2; have d3 := hb.cell 3
  clear h hG hS hx hb
  go_enter Tryz.func86, Tryz.ntmps86
  go_wp2_with fail
  refine HP.out.mono ?_
  rintro e w1 ⟨rfl, hx⟩
  have HH := Lib.hid (HH.out.ext hx)
  clear hx d0 d1 d2 d3
  go_wp2_with fail
  refine (over_ok HH.out.dk (by kernel_rfl)).mono ?_
  rintro e w' ⟨rfl, rfl⟩
  go_wp2_with fail
  refine (gone_none HH.out.dk newN (by decide) (by kernel_rfl)).mono ?_
  rintro e w2 ⟨rfl, hd⟩
  have HH := Lib.hid (HH.out.trans hd)
  clear hd
  go_wp2_with fail
  refine (free_c HH.out.dk).mono ?_
  rw [show freeM (newM 20000) = 20000 by kernel_rfl]
  rintro e w3 ⟨rfl, hx⟩
  have HH := Lib.hid (HH.out.ext hx)
  clear hx
  go_wp2_with fail
  refine (create_c HH.out.dk newN (by decide)).mono ?_
  rw [show createM (newM 20000) newN = (0, one ⟨newN, [], 0⟩ 20000 0 0 false) by kernel_rfl]
  rintro e w4 ⟨rfl, hd⟩
  have HH := Lib.hid (HH.out.trans hd)
  clear hd
  go_wp2_with fail
  refine (append_c HH.out.dk newN S (by decide) (by omega)).mono ?_
  rw [one_append (f := ⟨newN, [], 0⟩) rfl (by show ((0 : Nat) : Int) + _ ≤ _; omega)]
  rintro e w5 ⟨rfl, hd⟩
  have HH := Lib.hid (HH.out.trans hd)
  clear hd
  go_wp2_with fail
  refine (sync_c HH.out.dk newN (by decide)).mono ?_
  rw [one_sync rfl]
  rintro e w6 ⟨rfl, hd⟩
  have HH : Hid (DkS w g F (one ⟨newN, S, S.length⟩ 20000 0 0 false) w6) := Lib.hid (HH.out.trans hd)
  clear hd
  go_wp2_with fail
  refine (rename_c HH.out.dk newN mapN (by decide) (by decide)).mono ?_
  rw [show renameM (one ⟨newN, S, S.length⟩ 20000 0 0 false) newN mapN = (0, one ⟨mapN, S, S.length⟩ 20000 0 0 false) from rfl]
  rintro e w7 ⟨rfl, hd⟩
  have HH := Lib.hid (HH.out.trans hd)
  clear hd
  go_wp2_with fail
  go_ret
  exact ⟨rfl, HH.out⟩

end Go.Proofs.YtikaopicddakeaaGreatDoor
namespace Go.Proofs.YtikaopicddakeaaGreatDoor
open Go.RowKit


def stepM (r : Int × DM) (k : DM → Int × DM) : Int × DM := if r.1 = 0 then k r.2 else r
def overM (σ : DM) : Int := if σ.down then 61 else 0
def goneM (σ : DM) (nm : List UInt8) : Int × DM := if (deleteM σ nm).1 = 4 then (0, (deleteM σ nm).2) else deleteM σ nm
def layM (σ : DM) (S : List UInt8) : Int × DM :=
  if freeM σ - (S.length : Int) < 6000 then (60, σ) else
  stepM (createM σ newN) fun b => stepM (appendM b newN S) fun c => stepM (syncM c newN) fun d => renameM d newN mapN
def swapM (σ : DM) (S : List UInt8) (e : Int) : Int × DM :=
  if e ≠ 0 then (e, σ) else if σ.down then (61, σ) else stepM (goneM σ newN) fun a => layM a S

/-- the file of this name is there, all of it sure; or there is none -/
def HasS (σ : DM) (nm : List UInt8) (o : Option (List UInt8)) : Prop := findN FM.nm nm σ.L = o.map fun S => ⟨nm, S, S.length⟩

theorem find_crash : ∀ (L : List FM) (ks : List Int) (nm : List UInt8) (o : Option (List UInt8)), findN FM.nm nm L = (o.map fun S => (⟨nm, S, S.length⟩ : FM)) → findN FM.nm nm (crashL L ks) = o.map fun S => (⟨nm, S, S.length⟩ : FM)
  | [], _, _, _, h => h
  | f :: r, ks, nm, o, h => by
    rw [crashL]
    by_cases hn : f.nm = nm
    · have e1 : findN FM.nm nm (f :: r) = some f := by unfold findN; rw [List.find?_cons_of_pos (by simpa using hn)]
      rw [e1] at h
      have e2 : findN FM.nm nm (crashF f (ks.headD 0) :: crashL r ks.tail) = some (crashF f (ks.headD 0)) := by
        unfold findN; rw [List.find?_cons_of_pos (by simpa [crashF_nm] using hn)]
      rw [e2, ← h]
      cases o with
      | none => cases h
      | some S =>
        have e3 : f = ⟨nm, S, S.length⟩ := by simpa using h
        rw [e3]
        simp [crashF]
    · have e1 : findN FM.nm nm (f :: r) = findN FM.nm nm r := by unfold findN; rw [List.find?_cons_of_neg (by simpa using hn)]
      have e2 : findN FM.nm nm (crashF f (ks.headD 0) :: crashL r ks.tail) = findN FM.nm nm (crashL r ks.tail) := by
        unfold findN; rw [List.find?_cons_of_neg (by simpa [crashF_nm] using hn)]
      rw [e1] at h
      rw [e2]
      exact find_crash r ks.tail nm o h

theorem HasS.crash {σ : DM} {nm : List UInt8} {o : Option (List UInt8)} (h : HasS σ nm o) (ks : List Int) : HasS (crashM σ ks) nm o := find_crash _ _ _ _ h
theorem HasS.sink {σ : DM} {nm : List UInt8} {o : Option (List UInt8)} (h : HasS σ nm o) : HasS (sinkM σ) nm o := h.crash _

theorem find_ins_ne {x : FM} {nm : List UInt8} (hne : x.nm ≠ nm) : ∀ L : List FM, findN FM.nm nm (insN FM.nm x L) = findN FM.nm nm L
  | [] => by simp [insN, findN, hne]
  | y :: r => by
    unfold insN
    split
    · unfold findN; rw [List.find?_cons_of_neg (by simpa using hne)]
    · have ih := find_ins_ne hne r
      unfold findN at ih ⊢
      by_cases hy : y.nm = nm
      · rw [List.find?_cons_of_pos (by simpa using hy), List.find?_cons_of_pos (by simpa using hy)]
      · rw [List.find?_cons_of_neg (by simpa using hy), List.find?_cons_of_neg (by simpa using hy), ih]
theorem find_ins_self {x : FM} {nm : List UInt8} (he : x.nm = nm) : ∀ L : List FM, (∀ y ∈ L, y.nm ≠ nm) → findN FM.nm nm (insN FM.nm x L) = some x
  | [], _ => by simp [insN, findN, he]
  | y :: r, h => by
    unfold insN
    split
    · unfold findN; rw [List.find?_cons_of_pos (by simpa using he)]
    · have ih := find_ins_self he r fun z hz => h z (List.mem_cons_of_mem _ hz)
      have hy := h y List.mem_cons_self
      unfold findN at ih ⊢
      rw [List.find?_cons_of_neg (by simpa using hy), ih]
theorem find_del_ne {a nm : List UInt8} (hne : a ≠ nm) (L : List FM) : findN FM.nm nm (delN FM.nm a L) = findN FM.nm nm L := by
  unfold findN delN
  rw [List.find?_filter]
  congr 1
  funext y
  by_cases hy : y.nm = nm
  · have h2 : y.nm ≠ a := fun e => hne (e.symm.trans hy)
    simp [hy, beq_eq_false_iff_ne.2 (fun e => hne e.symm)]
  · simp [hy]
theorem find_upd_ne {a nm : List UInt8} {k : FM → FM} (hk : ∀ y, (k y).nm = y.nm) (hne : a ≠ nm) : ∀ L : List FM, findN FM.nm nm (updN FM.nm a k L) = findN FM.nm nm L
  | [] => rfl
  | y :: r => by
    have ih := find_upd_ne hk hne r
    unfold findN updN at ih ⊢
    rw [List.map_cons]
    by_cases hy : y.nm = nm
    · have h1 : (y.nm == a) = false := by rw [hy]; exact beq_eq_false_iff_ne.2 fun e => hne e.symm
      rw [h1, if_neg (by decide), List.find?_cons_of_pos (by simpa using hy), List.find?_cons_of_pos (by simpa using hy)]
    · have h2 : (if (y.nm == a) = true then k y else y).nm = y.nm := by split; exact hk y; rfl
      rw [List.find?_cons_of_neg (by rw [h2]; simpa using hy), List.find?_cons_of_neg (by simpa using hy), ih]
theorem find_upd_self {a : List UInt8} {k : FM → FM} (hk : ∀ y, (k y).nm = y.nm) : ∀ L : List FM, findN FM.nm a (updN FM.nm a k L) = (findN FM.nm a L).map k
  | [] => rfl
  | y :: r => by
    have ih := find_upd_self (a := a) hk r
    unfold findN updN at ih ⊢
    rw [List.map_cons]
    by_cases hy : y.nm = a
    · have h1 : (y.nm == a) = true := by simpa using hy
      have h2 : ((if (y.nm == a) = true then k y else y).nm == a) = true := by rw [if_pos h1, hk]; exact h1
      rw [List.find?_cons_of_pos (p := fun y : FM => y.nm == a) h2, List.find?_cons_of_pos (p := fun y : FM => y.nm == a) h1, if_pos h1]; rfl
    · have h1 : ¬ (y.nm == a) = true := by simpa using hy
      have h2 : ¬ ((if (y.nm == a) = true then k y else y).nm == a) = true := by rw [if_neg h1]; exact h1
      rw [List.find?_cons_of_neg (p := fun y : FM => y.nm == a) h2, List.find?_cons_of_neg (p := fun y : FM => y.nm == a) h1, ih]

theorem new_ne_map : newN ≠ mapN := by decide

/-- a change of another file: it is done, or the disk went down -/
structure Keeps (σ : DM) (r : Int × DM) (nm : List UInt8) (o : Option (List UInt8)) : Prop where
  has : HasS r.2 nm o
  ok : r.1 = 0 → r.2.down = false
  code : r.1 ≠ 2

variable {σ : DM} {o : Option (List UInt8)}
theorem keeps_delete (h : HasS σ mapN o) (hup : σ.down = false) : HasS (deleteM σ newN).2 mapN o ∧ ((deleteM σ newN).1 = 0 ∨ (deleteM σ newN).1 = 4 → (deleteM σ newN).2.down = false) ∧ (deleteM σ newN).1 ≠ 2 := by
  unfold deleteM
  rw [if_neg (by rw [hup]; decide)]
  split
  · exact ⟨h, fun _ => hup, by simp⟩
  · split
    · exact ⟨h.sink, fun e => absurd e (by simp), by simp⟩
    · exact ⟨(find_del_ne new_ne_map _).trans h, fun _ => hup, by simp⟩
theorem keeps_gone (h : HasS σ mapN o) (hup : σ.down = false) : Keeps σ (goneM σ newN) mapN o := by
  obtain ⟨h1, h2, h3⟩ := keeps_delete h hup
  unfold goneM
  split
  · rename_i e; exact ⟨h1, fun _ => h2 (.inr e), by simp⟩
  · exact ⟨h1, fun e => h2 (.inl e), h3⟩
theorem keeps_create (h : HasS σ mapN o) (hup : σ.down = false) : Keeps σ (createM σ newN) mapN o := by
  unfold createM
  rw [if_neg (by rw [hup]; decide), if_neg (by decide)]
  split
  · exact ⟨h, fun e => absurd e (by simp), by simp⟩
  split
  · exact ⟨h, fun e => absurd e (by simp), by simp⟩
  split
  · exact ⟨h.sink, fun e => absurd e (by simp), by simp⟩
  · exact ⟨(find_ins_ne new_ne_map _).trans h, fun _ => hup, by simp⟩
theorem app_has (h : HasS σ mapN o) (S : List UInt8) : HasS (appM σ newN S) mapN o := (find_upd_ne (k := fun f : FM => { f with da := f.da ++ S }) (fun _ => rfl) new_ne_map _).trans h
theorem keeps_append (h : HasS σ mapN o) (hup : σ.down = false) (S : List UInt8) : Keeps σ (appendM σ newN S) mapN o := by
  unfold appendM
  rw [if_neg (by rw [hup]; decide)]
  split
  · exact ⟨h, fun e => absurd e (by simp), by simp⟩
  split
  · exact ⟨h, fun e => absurd e (by simp), by simp⟩
  split
  · exact ⟨(app_has h S).sink, fun e => absurd e (by simp), by simp⟩
  · exact ⟨app_has h S, fun _ => hup, by simp⟩
theorem keeps_sync (h : HasS σ mapN o) (hup : σ.down = false) : Keeps σ (syncM σ newN) mapN o := by
  unfold syncM
  rw [if_neg (by rw [hup]; decide)]
  split
  · exact ⟨h, fun e => absurd e (by simp), by simp⟩
  split
  · exact ⟨h.sink, fun e => absurd e (by simp), by simp⟩
  · exact ⟨(find_upd_ne (k := fun f : FM => { f with sy := f.da.length }) (fun _ => rfl) new_ne_map _).trans h, fun _ => hup, by simp⟩

/-- what the new file has, behind each step that was done -/
theorem new_create {r : Int × DM} (hr : createM σ newN = r) (h0 : r.1 = 0) : findN FM.nm newN r.2.L = some ⟨newN, [], 0⟩ := by
  subst hr
  unfold createM at h0 ⊢
  split at h0
  · cases h0
  split at h0
  · cases h0
  split at h0
  · cases h0
  split at h0
  · cases h0
  split at h0
  · cases h0
  rename_i h1 h2 h3 h4 h5
  rw [if_neg h1, if_neg h2, if_neg h3, if_neg h4, if_neg h5]
  have hno : findN FM.nm newN σ.L = none := by cases hf : findN FM.nm newN σ.L with | none => rfl | some x => rw [hf] at h3; exact absurd rfl h3
  exact find_ins_self (x := ⟨newN, [], 0⟩) (nm := newN) rfl _ (findN_none hno)
theorem new_append {S : List UInt8} {f : FM} {r : Int × DM} (hr : appendM σ newN S = r) (h0 : r.1 = 0) (hf : findN FM.nm newN σ.L = some f) : findN FM.nm newN r.2.L = some { f with da := f.da ++ S } := by
  subst hr
  unfold appendM at h0 ⊢
  split at h0
  · cases h0
  split at h0
  · cases h0
  split at h0
  · cases h0
  split at h0
  · cases h0
  rename_i h1 h2 h3 h4
  rw [if_neg h1, if_neg h2, if_neg h3, if_neg h4]
  show findN FM.nm newN (updN FM.nm newN _ σ.L) = _
  rw [find_upd_self (k := fun f : FM => { f with da := f.da ++ S }) (fun _ => rfl), hf]; rfl
theorem new_sync {f : FM} {r : Int × DM} (hr : syncM σ newN = r) (h0 : r.1 = 0) (hf : findN FM.nm newN σ.L = some f) : findN FM.nm newN r.2.L = some { f with sy := f.da.length } := by
  subst hr
  unfold syncM at h0 ⊢
  split at h0
  · cases h0
  split at h0
  · cases h0
  split at h0
  · cases h0
  rename_i h1 h2 h3
  rw [if_neg h1, if_neg h2, if_neg h3]
  show findN FM.nm newN (updN FM.nm newN _ σ.L) = _
  rw [find_upd_self (k := fun f : FM => { f with sy := f.da.length }) (fun _ => rfl), hf]; rfl

theorem swap_rename {S : List UInt8} (h : HasS σ mapN o) (hup : σ.down = false) (hn : findN FM.nm newN σ.L = some ⟨newN, S, S.length⟩) :
    ((renameM σ newN mapN).1 = 0 ∧ (renameM σ newN mapN).2.down = false ∧ HasS (renameM σ newN mapN).2 mapN (some S)) ∨ ((renameM σ newN mapN).1 ≠ 0 ∧ (renameM σ newN mapN).1 ≠ 2 ∧ HasS (renameM σ newN mapN).2 mapN o) := by
  unfold renameM
  rw [if_neg (by rw [hup]; decide), hn]
  simp only
  rw [if_neg (by decide)]
  split
  · exact .inr ⟨by simp, by simp, h.sink⟩
  · rw [if_neg new_ne_map]
    refine .inl ⟨rfl, hup, ?_⟩
    show findN FM.nm mapN (renL newN mapN ⟨newN, S, S.length⟩ σ.L) = _
    unfold renL
    rw [find_ins_self (x := ⟨mapN, S, S.length⟩) (nm := mapN) rfl _ ?_]
    · rfl
    · intro y hy e
      have h1 := (mem_delN.1 hy).1
      exact (mem_delN.1 h1).2 e

theorem lay_cases (h : HasS σ mapN o) (hup : σ.down = false) (S : List UInt8) :
    ((layM σ S).1 = 0 ∧ (layM σ S).2.down = false ∧ HasS (layM σ S).2 mapN (some S)) ∨ ((layM σ S).1 ≠ 0 ∧ (layM σ S).1 ≠ 2 ∧ HasS (layM σ S).2 mapN o) := by
  unfold layM
  split
  · exact .inr ⟨by simp, by simp, h⟩
  have k1 := keeps_create h hup
  obtain ⟨r1, e1⟩ : ∃ r, createM σ newN = r := ⟨_, rfl⟩
  rw [e1] at k1 ⊢
  by_cases h1 : r1.1 = 0
  · have n1 := new_create e1 h1
    rw [stepM, if_pos h1]
    have k2 := keeps_append k1.has (k1.ok h1) S
    obtain ⟨r2, e2⟩ : ∃ r, appendM r1.2 newN S = r := ⟨_, rfl⟩
    rw [e2] at k2 ⊢
    by_cases h2 : r2.1 = 0
    · have n2 := new_append e2 h2 n1
      rw [stepM, if_pos h2]
      have k3 := keeps_sync k2.has (k2.ok h2)
      obtain ⟨r3, e3⟩ : ∃ r, syncM r2.2 newN = r := ⟨_, rfl⟩
      rw [e3] at k3 ⊢
      by_cases h3 : r3.1 = 0
      · have n3 := new_sync e3 h3 n2
        rw [stepM, if_pos h3]
        exact swap_rename k3.has (k3.ok h3) n3
      · rw [stepM, if_neg h3]
        exact .inr ⟨h3, k3.code, k3.has⟩
    · rw [stepM, if_neg h2]
      exact .inr ⟨h2, k2.code, k2.has⟩
  · rw [stepM, if_neg h1]
    exact .inr ⟨h1, k1.code, k1.has⟩

theorem swap_cases (h : HasS σ mapN o) (hup : σ.down = false) (S : List UInt8) :
    ((swapM σ S 0).1 = 0 ∧ (swapM σ S 0).2.down = false ∧ HasS (swapM σ S 0).2 mapN (some S)) ∨ ((swapM σ S 0).1 ≠ 0 ∧ (swapM σ S 0).1 ≠ 2 ∧ HasS (swapM σ S 0).2 mapN o) := by
  unfold swapM
  rw [if_neg (by decide), if_neg (by rw [hup]; decide)]
  have k1 := keeps_gone h hup
  obtain ⟨r1, e1⟩ : ∃ r, goneM σ newN = r := ⟨_, rfl⟩
  rw [e1] at k1 ⊢
  by_cases h1 : r1.1 = 0
  · rw [stepM, if_pos h1]
    exact lay_cases k1.has (k1.ok h1) S
  · rw [stepM, if_neg h1]
    exact .inr ⟨h1, k1.code, k1.has⟩

/-- on a disk without files: it is laid, or there is no room -/
theorem swap_fresh {c : Int} (S : List UInt8) (hc : (S.length : Int) + 6000 ≤ c) : swapM (newM c) S 0 = (0, one ⟨mapN, S, S.length⟩ c 0 0 false) := by
  have hfree : freeM (newM c) = c := by show c - ((0 : Nat) : Int) = c; omega
  have e1 : swapM (newM c) S 0 = layM (newM c) S := rfl
  rw [e1, layM, hfree, if_neg (by omega)]
  rw [show createM (newM c) newN = (0, one ⟨newN, [], 0⟩ c 0 0 false) from rfl, stepM, if_pos rfl]
  rw [one_append (f := ⟨newN, [], 0⟩) rfl (by show ((0 : Nat) : Int) + _ ≤ _; omega), stepM, if_pos rfl, one_sync rfl, stepM, if_pos rfl]
  rfl
theorem swap_full {c : Int} (S : List UInt8) (hc : ¬ (S.length : Int) + 6000 ≤ c) : swapM (newM c) S 0 = (60, newM c) := by
  have hfree : freeM (newM c) = c := by show c - ((0 : Nat) : Int) = c; omega
  have e1 : swapM (newM c) S 0 = layM (newM c) S := rfl
  rw [e1, layM, hfree, if_pos (by omega)]
theorem swap_bad (σ : DM) (S : List UInt8) : swapM σ S 2 = (2, σ) := rfl

end Go.Proofs.YtikaopicddakeaaGreatDoor
namespace Go.Proofs.YtikaopicddakeaaGreatDoor
open Go.RowKit

theorem man_le {nx ck : Int} (sd : Int) {L : List (List Int)} (h : mvalid nx ck L = true) : (sealS (manBody nx ck sd L)).length ≤ 300 := by
  have hv := validB_parts (mvalid_parts h).2.1
  have h1 : (trimL L).length ≤ L.length := by unfold trimL; rw [List.length_take]; omega
  have h2 : (trimL L).flatten.length ≤ L.flatten.length := by unfold trimL; exact flatten_take_le L _
  have h3 := hv.1; have h4 := hv.2.1
  rw [sealS_length]
  unfold manBody
  rw [List.length_append, manHead_length, levs_length]
  omega

set_option maxRecDepth 100000
set_option linter.unusedVariables false
set_option maxHeartbeats 3200000

theorem over_c {w : World} {g : Nat} {F : Nat → Prop} {σ : DM} (h : Dk w g F σ) : Calls Tryz.prog 133 #[.pointer (some ⟨g, 0, none⟩)] w fun e w' => e = .returned (.int .i64 (overM σ)) ∧ w = w' := by
  have HS := Lib.hid (size_c h [] (by decide))
  have hc : ∃ z c, sizeM σ [] = (z, c) ∧ ((c = 61 ∧ overM σ = 61) ∨ (c = 4 ∧ overM σ = 0) ∨ (c = 0 ∧ overM σ = 0)) := by
    unfold sizeM overM
    split
    · exact ⟨_, _, rfl, .inl ⟨rfl, rfl⟩⟩
    · split
      · exact ⟨_, _, rfl, .inr (.inl ⟨rfl, rfl⟩)⟩
      · exact ⟨_, _, rfl, .inr (.inr ⟨rfl, rfl⟩)⟩
  obtain ⟨z, c, hz, hc⟩ := hc
  rw [hz] at HS
  clear h hz
  rcases hc with ⟨rfl, ho⟩ | ⟨rfl, ho⟩ | ⟨rfl, ho⟩ <;> rw [ho] <;> clear ho
  all_goals
    go_enter Tryz.func133, Tryz.ntmps133
    go_wp2_with fail
    refine HS.out.mono ?_
    rintro e w' ⟨rfl, rfl⟩
    go_wp2_with fail
    go_ret
    exact ⟨rfl, rfl⟩

theorem gone_c {w : World} {g : Nat} {F : Nat → Prop} {σ : DM} (h : Dk w g F σ) (nm : List UInt8) (hl : nm.length ≤ 9223372036854775807) : Calls Tryz.prog 134 #[.pointer (some ⟨g, 0, none⟩), .string ⟨nm.toArray⟩] w fun e w' => e = .returned (.int .i64 (goneM σ nm).1) ∧ DkS w g F (goneM σ nm).2 w' := by
  have HS := Lib.hid (delete_c h nm hl)
  obtain ⟨r, hr⟩ : ∃ r, deleteM σ nm = r := ⟨_, rfl⟩
  rw [hr] at HS
  have HG : Hid (goneM σ nm = if r.1 = 4 then (0, r.2) else r) := Lib.hid (by unfold goneM; rw [hr])
  obtain ⟨c, τ⟩ := r
  clear h hr
  by_cases h4 : c = 4
  · have HE : Hid (goneM σ nm = (0, τ)) := Lib.hid (by rw [HG.out]; simp only; rw [if_pos h4])
    subst h4
    rw [HE.out]
    go_enter Tryz.func134, Tryz.ntmps134
    go_wp2_with fail
    refine HS.out.mono ?_
    rintro e w' ⟨rfl, hd⟩
    have HD := Lib.hid hd
    clear hd
    go_wp2_with fail
    go_ret
    exact ⟨rfl, HD.out⟩
  · have HE : Hid (goneM σ nm = (c, τ)) := Lib.hid (by rw [HG.out]; simp only; rw [if_neg h4])
    rw [HE.out]
    have hb1 : (c != 4) = true := by simpa using h4
    have hb2 : (c == 4) = false := by simpa using h4
    clear h4
    go_enter Tryz.func134, Tryz.ntmps134
    go_wp2_with fail
    refine HS.out.mono ?_
    rintro e w' ⟨rfl, hd⟩
    have HD := Lib.hid hd
    clear hd
    go_wp2_with fail
    go_ret
    exact ⟨rfl, HD.out⟩

theorem free_bounds {w : World} {g : Nat} {F : Nat → Prop} {σ : DM} (h : Dk w g F σ) : 0 ≤ freeM σ ∧ freeM σ ≤ 1048576 := by
  have h1 := h.1.used; have h2 := h.1.cap1; unfold freeM; omega

theorem swap_c {w : World} {g : Nat} {F : Nat → Prop} {σ : DM} (h : Dk w g F σ) {ao : Option Addr} {n cap : Nat} {nx ck sd : Int} {L : List (List Int)} (hG : Grid w ao n cap L) (hsum : L.flatten.length ≤ 17592186044416) (hwf : ∀ x ∈ L.flatten, (Lit.int .i64 x).wf = true) (hs0 : 0 ≤ sd) (hs1 : sd < 18446744073709551616) {S : List UInt8} {E : Int} (hS : mputS nx ck sd L = (S, E)) (hSl : (S.length : Int) ≤ 1000000) :
    Calls Tryz.prog 86 #[.pointer (some ⟨g, 0, none⟩), .agg #[.int .i64 nx, .int .i64 ck, .int .u64 sd, .slice ao n cap]] w fun e w' => e = .returned (.int .i64 (swapM σ S E).1) ∧ DkS w g F (swapM σ S E).2 w' := by
  have hx := ext_a1 w (.cells #[.int .i64 nx, .int .i64 ck, .int .u64 sd, .slice ao n cap] 25)
  have HH := Lib.hid ((DkS.refl h).ext hx)
  have HP := Lib.hid (mput_c nx ck sd ao n cap L _ (hG.ext hx) hsum hwf hs0 hs1)
  rw [hS] at HP
  have hb := Blk.new w 25 #[.int .i64 nx, .int .i64 ck, .int .u64 sd, .slice ao n cap]
  have d0 := hb.cell 0; have d1 := hb.cell 1; have d2 := hb.cell 2; have d3 := hb.cell 3
  clear h hG hsum hwf hs0 hs1 hS hx hb
  by_cases hE : E = 0
  case neg =>
    have HM : Hid (swapM σ S E = (E, σ)) := Lib.hid (by unfold swapM; rw [if_pos hE])
    rw [HM.out]
    have hb1 : (E != 0) = true := by simpa using hE
    clear hE
    have ho : overM σ = 61 ∨ overM σ = 0 := by unfold overM; split; exact .inl rfl; exact .inr rfl
    go_enter Tryz.func86, Tryz.ntmps86
    go_wp2_with fail
    refine HP.out.mono ?_
    rintro e w1 ⟨rfl, hx⟩
    have HH := Lib.hid (HH.out.ext hx)
    clear hx d0 d1 d2 d3
    go_wp2_with fail
    refine (over_c HH.out.dk).mono ?_
    rcases ho with ho | ho <;> rw [ho] <;> clear ho
    all_goals
      rintro e w' ⟨rfl, rfl⟩
      go_wp2_with fail
      go_ret
      exact ⟨rfl, HH.out⟩
  case pos =>
  subst hE
  cases hd : σ.down with
  | true =>
    have HM : Hid (swapM σ S 0 = (61, σ)) := Lib.hid (by unfold swapM; rw [if_neg (by decide), if_pos hd])
    have HO : Hid (overM σ = 61) := Lib.hid (by unfold overM; rw [if_pos hd])
    rw [HM.out]
    clear hd
    go_enter Tryz.func86, Tryz.ntmps86
    go_wp2_with fail
    refine HP.out.mono ?_
    rintro e w1 ⟨rfl, hx⟩
    have HH := Lib.hid (HH.out.ext hx)
    clear hx d0 d1 d2 d3
    go_wp2_with fail
    refine (over_c HH.out.dk).mono ?_
    rw [HO.out]
    rintro e w' ⟨rfl, rfl⟩
    go_wp2_with fail
    go_ret
    exact ⟨rfl, HH.out⟩
  | false =>
  have HO : Hid (overM σ = 0) := Lib.hid (by unfold overM; rw [if_neg (by rw [hd]; decide)])
  obtain ⟨r0, e0⟩ : ∃ r, goneM σ newN = r := ⟨_, rfl⟩
  have HM0 : Hid (swapM σ S 0 = stepM r0 fun a => layM a S) := Lib.hid (by unfold swapM; rw [if_neg (by decide), if_neg (by rw [hd]; decide), e0])
  have HE0 := Lib.hid e0
  obtain ⟨c0, s0⟩ := r0
  clear hd e0
  go_enter Tryz.func86, Tryz.ntmps86
  go_wp2_with fail
  refine HP.out.mono ?_
  rintro e w1 ⟨rfl, hx⟩
  have HH := Lib.hid (HH.out.ext hx)
  clear hx d0 d1 d2 d3
  go_wp2_with fail
  refine (over_c HH.out.dk).mono ?_
  rw [HO.out]
  rintro e w' ⟨rfl, rfl⟩
  go_wp2_with fail
  refine (gone_c HH.out.dk newN (by decide)).mono ?_
  rw [HE0.out]
  rintro e w2 ⟨rfl, hd⟩
  have HH := Lib.hid (HH.out.trans hd)
  clear hd
  by_cases h0 : c0 = 0
  case neg =>
    have hb : (c0 != 0) = true := by simpa using h0
    have HR : Hid (swapM σ S 0 = (c0, s0)) := Lib.hid (by rw [HM0.out, stepM, if_neg h0])
    clear h0
    go_wp2_with fail
    go_ret
    rw [HR.out]
    exact ⟨rfl, HH.out⟩
  case pos =>
  subst h0
  have HM1 : Hid (swapM σ S 0 = layM s0 S) := Lib.hid (by rw [HM0.out, stepM, if_pos rfl])
  have hfb := free_bounds HH.out.dk
  obtain ⟨fr, hfr⟩ : ∃ fr, freeM s0 = fr := ⟨_, rfl⟩
  have HFr := Lib.hid hfr
  rw [hfr] at hfb
  obtain ⟨hf0, hf1⟩ := hfb
  have hw : IntKind.i64.wrap (fr - (S.length : Int)) = fr - (S.length : Int) := IntWalk.i64_in _ (by omega)
  clear hfr
  go_wp2_with fail
  refine (free_c HH.out.dk).mono ?_
  rw [HFr.out]
  rintro e w3 ⟨rfl, hx⟩
  have HH := Lib.hid (HH.out.ext hx)
  clear hx
  by_cases hlt : fr - (S.length : Int) < 6000
  case pos =>
    have HR : Hid (swapM σ S 0 = (60, s0)) := Lib.hid (by rw [HM1.out, layM, HFr.out, if_pos hlt])
    go_wp2_with fail
    go_ret
    rw [HR.out]
    exact ⟨rfl, HH.out⟩
  case neg =>
  obtain ⟨r1, e1⟩ : ∃ r, createM s0 newN = r := ⟨_, rfl⟩
  have HM2 : Hid (swapM σ S 0 = stepM r1 fun b => stepM (appendM b newN S) fun c => stepM (syncM c newN) fun d => renameM d newN mapN) := Lib.hid (by rw [HM1.out, layM, HFr.out, if_neg hlt, e1])
  have HE1 := Lib.hid e1
  obtain ⟨c1, s1⟩ := r1
  clear e1
  go_wp2_with fail
  refine (create_c HH.out.dk newN (by decide)).mono ?_
  rw [HE1.out]
  rintro e w4 ⟨rfl, hd⟩
  have HH := Lib.hid (HH.out.trans hd)
  clear hd hw hf0 hf1 hlt
  by_cases hc1 : c1 = 0
  case neg =>
    have hb : (c1 != 0) = true := by simpa using hc1
    have HR : Hid (swapM σ S 0 = (c1, s1)) := Lib.hid (by rw [HM2.out, stepM, if_neg hc1])
    clear hc1
    go_wp2_with fail
    go_ret
    rw [HR.out]
    exact ⟨rfl, HH.out⟩
  case pos =>
  subst hc1
  obtain ⟨r2, e2⟩ : ∃ r, appendM s1 newN S = r := ⟨_, rfl⟩
  have HM3 : Hid (swapM σ S 0 = stepM r2 fun c => stepM (syncM c newN) fun d => renameM d newN mapN) := Lib.hid (by rw [HM2.out, stepM, if_pos rfl]; rw [e2])
  have HE2 := Lib.hid e2
  obtain ⟨c2, s2⟩ := r2
  clear e2
  go_wp2_with fail
  refine (append_c HH.out.dk newN S (by decide) (by omega)).mono ?_
  rw [HE2.out]
  rintro e w5 ⟨rfl, hd⟩
  have HH := Lib.hid (HH.out.trans hd)
  clear hd
  by_cases hc2 : c2 = 0
  case neg =>
    have hb : (c2 != 0) = true := by simpa using hc2
    have HR : Hid (swapM σ S 0 = (c2, s2)) := Lib.hid (by rw [HM3.out, stepM, if_neg hc2])
    clear hc2
    go_wp2_with fail
    go_ret
    rw [HR.out]
    exact ⟨rfl, HH.out⟩
  case pos =>
  subst hc2
  obtain ⟨r3, e3⟩ : ∃ r, syncM s2 newN = r := ⟨_, rfl⟩
  have HM4 : Hid (swapM σ S 0 = stepM r3 fun d => renameM d newN mapN) := Lib.hid (by rw [HM3.out, stepM, if_pos rfl]; rw [e3])
  have HE3 := Lib.hid e3
  obtain ⟨c3, s3⟩ := r3
  clear e3
  go_wp2_with fail
  refine (sync_c HH.out.dk newN (by decide)).mono ?_
  rw [HE3.out]
  rintro e w6 ⟨rfl, hd⟩
  have HH := Lib.hid (HH.out.trans hd)
  clear hd
  by_cases hc3 : c3 = 0
  case neg =>
    have hb : (c3 != 0) = true := by simpa using hc3
    have HR : Hid (swapM σ S 0 = (c3, s3)) := Lib.hid (by rw [HM4.out, stepM, if_neg hc3])
    clear hc3
    go_wp2_with fail
    go_ret
    rw [HR.out]
    exact ⟨rfl, HH.out⟩
  case pos =>
  subst hc3
  obtain ⟨r4, e4⟩ : ∃ r, renameM s3 newN mapN = r := ⟨_, rfl⟩
  have HM5 : Hid (swapM σ S 0 = r4) := Lib.hid (by rw [HM4.out, stepM, if_pos rfl]; exact e4)
  have HE4 := Lib.hid e4
  obtain ⟨c4, s4⟩ := r4
  clear e4
  go_wp2_with fail
  refine (rename_c HH.out.dk newN mapN (by decide) (by decide)).mono ?_
  rw [HE4.out]
  rintro e w7 ⟨rfl, hd⟩
  have HH := Lib.hid (HH.out.trans hd)
  clear hd
  go_wp2_with fail
  go_ret
  rw [HM5.out]
  exact ⟨rfl, HH.out⟩

end Go.Proofs.YtikaopicddakeaaGreatDoor
