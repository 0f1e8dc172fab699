/- Walks: a file cut off; the crash of a disk. -/
import Derived.Test.YtoibjhoebjcfeaaZB
namespace Go.Proofs.Ytoibjhoebjcfeaa
open Go.RowKit

set_option maxRecDepth 100000
set_option linter.unusedVariables false
set_option maxHeartbeats 1600000

theorem cut_walk (w : World) (g b : Nat) (ao : Option Addr) (len cap : Nat) (us sy n : Int) (c2 : w.cell? ⟨g, 2, none⟩ = some (.int .i64 us)) (z2 : w.frozen? ⟨g, 2, none⟩ = false)
    (f0 : w.cell? ⟨b, 0, none⟩ = some (.slice ao len cap)) (f1 : w.cell? ⟨b, 1, none⟩ = some (.int .i64 sy)) (y0 : w.frozen? ⟨b, 0, none⟩ = false) (y1 : w.frozen? ⟨b, 1, none⟩ = false) (hgb : g ≠ b)
    (hl : len ≤ cap) (hc : cap ≤ 9223372036854775807) (hnil : ao = none → cap = 0) (hn0 : 0 ≤ n) (hn1 : n ≤ 9223372036854775807) (hs0 : 0 ≤ sy) (hs1 : sy ≤ len) (hu0 : (len : Int) ≤ us) (hu1 : us ≤ 1048576) :
    Calls Try.prog 45 #[.pointer (some ⟨g, 0, none⟩), .pointer (some ⟨b, 0, none⟩), .int .i64 n] w fun e w' => e = .returned (.tuple #[]) ∧
      w' = (((w.setCell ⟨g, 2, none⟩ (.int .i64 (us - (len - min n len)))).drew.setCell ⟨b, 0, none⟩ (.slice ao (min n len).toNat (min n len).toNat)).setCell ⟨b, 1, none⟩ (.int .i64 (min sy (min n len)))) := by
  go_enter Try.func45, Try.ntmps45
  go_wp2_with fail
  go_region
  go_wp2_with fail
  go_end0
  exact ⟨rfl, rfl⟩

theorem ownB (ao : Option Addr) (n c n' c' : Nat) : (Value.slice ao n c).ownBlock = (Value.slice ao n' c').ownBlock := by cases ao <;> rfl

/-- what a file's cells hold, written over -/
theorem Blk.set2 {w : World} {b : Nat} {t : TypeId} {u0 u1 : Value} (h : Blk w b t #[u0, u1]) (v0 v1 : Value) : Blk ((w.setCell ⟨b, 0, none⟩ v0).setCell ⟨b, 1, none⟩ v1) b t #[v0, v1] := (h.set 0 v0).set 1 v1
theorem Blk.out {w : World} {g i : Nat} {t : TypeId} {cs : Array Value} (h : Blk w g t cs) (hne : g ≠ i) (k : Nat) (u : Value) : Blk (w.setCell ⟨i, k, none⟩ u) g t cs := h.same (Below.heap_setCell _ _ _ _ hne)

/-- all files of an intact disk lie apart from its head -/
theorem DkI.ne {w : World} {g m : Nat} {kv : Value} {L : List FE} {us : Int} {σ : DM} (h : DkI w g m kv L us σ) : ¬ InF m L g := h.fs.out h.head (by decide) (by decide)
theorem DkI.neB {w : World} {g m : Nat} {kv : Value} {L : List FE} {us : Int} {σ : DM} (h : DkI w g m kv L us σ) {e : FE} (he : e ∈ L) : g ≠ e.b := fun e1 => h.ne (.inr ⟨e, he, .inl e1⟩)
/-- .. and from what is kept -/
theorem DkI.keepF {w : World} {g m : Nat} {kv : Value} {L : List FE} {us : Int} {σ : DM} (h : DkI w g m kv L us σ) {i : Nat} (hi : kv.ownBlock = some i) : i ≠ g ∧ ¬ InF m L i := by
  obtain ⟨cur, hc⟩ := h.keep.etype hi
  have hb : Blk w i 3 cur := hc
  exact ⟨Blk.ne hb h.head (by decide), h.fs.out hb (by decide) (by decide)⟩

/-- a change of the head's cells -/
theorem DkI.headSet {w w' : World} {g m : Nat} {kv : Value} {L : List FE} {us us' : Int} {σ σ' : DM} (h : DkI w g m kv L us σ) (hk : ∀ i, i < w.heap.size → i ≠ g → w'.heap[i]? = w.heap[i]?)
    (hb : Blk w' g 61 (headC σ' us' m kv)) (hL : σ'.L = σ.L) (hK : σ'.keep = σ.keep) : DkI w' g m kv L us' σ' :=
  ⟨hb, h.fs.same fun i hi => hk i (h.fs.lt hi) fun e => h.ne (e ▸ hi), h.files.trans hL.symm, by rw [hK]; exact h.keep.same fun i hi => hk i (h.keep.lt i hi).2 (h.keepF hi).1⟩

theorem heap_drew (w : World) : w.drew.heap = w.heap := rfl
theorem heap_set_ne (w : World) {g k i : Nat} (u : Value) (h : i ≠ g) : (w.setCell ⟨g, k, none⟩ u).heap[i]? = w.heap[i]? := Below.heap_setCell _ _ _ _ h

/-- a file of a disk is written, its row stays in its place -/
theorem DkI.fileSet {w w' : World} {g m : Nat} {kv : Value} {L : List FE} {us us' : Int} {σ σ' : DM} (h : DkI w g m kv L us σ) {nm : List UInt8} {e : FE} (hf : findN FE.nm nm L = some e) (e' : FE) (hn : e'.f.nm = nm) (hb : e'.b = e.b)
    (hw : ∀ i, i < w.heap.size → i ≠ g → i ≠ e.b → e.v.ownBlock ≠ some i → w'.heap[i]? = w.heap[i]?) (hhd : Blk w' g 61 (headC σ' us' m kv))
    (hblk : Blk w' e.b 76 #[e'.v, .int .i64 (e'.f.sy : Int)]) (hrow : Own w' 0 5 1 e'.v e'.f.da.length (e'.f.da.map byteV)) (hsep : ∀ i, e'.v.ownBlock = some i → e.v.ownBlock = some i ∨ w.heap.size ≤ i)
    (f : FM → FM) (hfe : e'.f = f e.f) (hL : σ'.L = updN FM.nm nm f σ.L) (hK : σ'.keep = σ.keep) : DkI w' g m kv (updN FE.nm nm (fun _ => e') L) us' σ' := by
  have he := (findN_some hf).1
  refine ⟨hhd, h.fs.upd hf e' hn hb (fun i hi h1 h2 => hw i (h.fs.lt hi) (fun e1 => h.ne (e1 ▸ hi)) h1 h2) hblk hrow (fun i hi => ?_), ?_, ?_⟩
  · rcases hsep i hi with h1 | h1
    · exact .inl h1
    · exact .inr fun h2 => by have := h.fs.lt h2; omega
  · rw [hL, ← h.files]
    exact updN_map2 (fun x => rfl) h.fs.ord hf hfe
  · rw [hK]
    refine h.keep.same fun i hi => hw i (h.keep.lt i hi).2 (h.keepF hi).1 (fun e1 => ?_) (fun e1 => ?_)
    · exact (h.keepF hi).2 (.inr ⟨e, he, .inl e1⟩)
    · exact (h.keepF hi).2 (.inr ⟨e, he, .inr e1⟩)

/-- the blocks that a change may write -/
def MutD (g m : Nat) (L : List FE) (i : Nat) : Prop := i = g ∨ InF m L i
theorem MutD.inD {g m : Nat} {kv : Value} {L : List FE} {i : Nat} (h : MutD g m L i) : InD g m kv L i := h.elim .inl fun h => .inr (.inl h)
theorem DkI.mut_lt {w : World} {g m : Nat} {kv : Value} {L : List FE} {us : Int} {σ : DM} (h : DkI w g m kv L us σ) {i : Nat} (hi : MutD g m L i) : i < w.heap.size := h.inD_lt hi.inD
theorem OffS.inD {w w' : World} {g m : Nat} {kv : Value} {L : List FE} (h : OffS (MutD g m L) w w') : OffS (InD g m kv L) w w' := h.mono fun i _ hi => hi.inD

/-- a change of the head's cells, and of what is kept -/
theorem DkI.headKv {w w' : World} {g m : Nat} {kv kv' : Value} {L : List FE} {us us' : Int} {σ σ' : DM} (h : DkI w g m kv L us σ) (hk : ∀ i, i < w.heap.size → i ≠ g → w'.heap[i]? = w.heap[i]?)
    (hb : Blk w' g 61 (headC σ' us' m kv')) (hL : σ'.L = σ.L) (hK : Own w' 0 3 1 kv' σ'.keep.length (σ'.keep.map (Value.int .i64))) : DkI w' g m kv' L us' σ' :=
  ⟨hb, h.fs.same fun i hi => hk i (h.fs.lt hi) fun e => h.ne (e ▸ hi), h.files.trans hL.symm, hK⟩

/-- the frame of a step that writes the head and a file -/
theorem off_file {w w' : World} {g m : Nat} {L : List FE} {e : FE} (he : e ∈ L) (hs : w.heap.size ≤ w'.heap.size) (ho : w'.os = w.os) (ht : w'.tape = w.tape) (hu : w'.output = w.output)
    (hw : ∀ i, i < w.heap.size → i ≠ g → i ≠ e.b → e.v.ownBlock ≠ some i → w'.heap[i]? = w.heap[i]?) : OffS (MutD g m L) w w' :=
  ⟨ho, ht, hu, hs, fun i hi hn => hw i hi (fun e1 => hn (.inl e1)) (fun e1 => hn (.inr (.inr ⟨e, he, .inl e1⟩))) (fun e1 => hn (.inr (.inr ⟨e, he, .inr e1⟩)))⟩

theorem cutF_sy {n : Nat} {f : FM} (h : f.sy ≤ f.da.length) : (cutF n f).sy ≤ (cutF n f).da.length := by simp [cutF]; omega

/-- 'cut' -/
theorem cut_c {w : World} {g m : Nat} {kv : Value} {L : List FE} {σ : DM} {us : Int} (h : DkI w g m kv L us σ) (hus : us = (usedM σ.L : Int)) (hcap : us ≤ 1048576) (hord : OrdN FM.nm σ.L) {nm : List UInt8} {e : FE} (hf : findN FE.nm nm L = some e) (hsy : e.f.sy ≤ e.f.da.length)
    (n : Int) (hn0 : 0 ≤ n) (hn1 : n ≤ 9223372036854775807) :
    Calls Try.prog 45 #[.pointer (some ⟨g, 0, none⟩), .pointer (some ⟨e.b, 0, none⟩), .int .i64 n] w fun en w' => en = .returned (.tuple #[]) ∧
      ∃ e' : FE, e'.f = cutF n.toNat e.f ∧ e'.b = e.b ∧ (∀ i, e'.v.ownBlock = some i → e.v.ownBlock = some i) ∧
        DkI w' g m kv (updN FE.nm nm (fun _ => e') L) (usedM (updN FM.nm nm (cutF n.toNat) σ.L) : Int) { σ with L := updN FM.nm nm (cutF n.toNat) σ.L } ∧ OffS (MutD g m L) w w' := by
  obtain ⟨he, hen⟩ := findN_some hf
  obtain ⟨ao, cap, hv, h1, h2, h3, h4⟩ := (h.fs.row e he).rd
  have hfm : findN FM.nm nm σ.L = some e.f := by
    rw [← h.files, findN_map (k := FE.nm) (k' := FM.nm) (h := FE.f) (fun x => rfl), hf]; rfl
  have hsum := sumN_upd (fun f : FM => f.da.length) (f := cutF n.toNat) hord hfm
  have hmem := sumN_mem (fun f : FM => f.da.length) (findN_some hfm).1
  have hle : e.f.da.length ≤ usedM σ.L := hmem
  have f0 := h.f0 he
  rw [hv] at f0
  have hgb := h.neB he
  refine (cut_walk w g e.b ao e.f.da.length cap us e.f.sy n h.c2 (h.z 2) f0 (h.f1 he) (h.fz he 0) (h.fz he 1) hgb h1 h2 h3 hn0 hn1 (by omega) (by omega) (by omega) (by omega)).mono ?_
  rintro en w' ⟨rfl, rfl⟩
  have hmn : (min n (e.f.da.length : Int)).toNat = min n.toNat e.f.da.length := by omega
  have hss : min (e.f.sy : Int) (min n (e.f.da.length : Int)) = ((min e.f.sy (min n.toNat e.f.da.length) : Nat) : Int) := by omega
  have hlen : (e.f.da.take n.toNat).length = min n.toNat e.f.da.length := List.length_take
  have hw : ∀ i, i < w.heap.size → i ≠ g → i ≠ e.b → e.v.ownBlock ≠ some i → ((((w.setCell ⟨g, 2, none⟩ (.int .i64 (us - (e.f.da.length - min n e.f.da.length)))).drew.setCell ⟨e.b, 0, none⟩ (.slice ao (min n e.f.da.length).toNat (min n e.f.da.length).toNat)).setCell ⟨e.b, 1, none⟩ (.int .i64 (min e.f.sy (min n e.f.da.length)))).heap[i]?) = w.heap[i]? := by
    intro i _ hg hb _
    rw [heap_set_ne _ _ hb, heap_set_ne _ _ hb, heap_drew, heap_set_ne _ _ hg]
  have hus' : us - ((e.f.da.length : Int) - min n e.f.da.length) = (usedM (updN FM.nm nm (cutF n.toNat) σ.L) : Int) := by
    unfold usedM at hus ⊢
    have : (cutF n.toNat e.f).da.length = min n.toNat e.f.da.length := hlen
    omega
  refine ⟨rfl, ⟨cutF n.toNat e.f, e.b, .slice ao (min n e.f.da.length).toNat (min n e.f.da.length).toNat⟩, rfl, rfl, fun i hi => ?_, ?_, off_file he (by simp [World.setCell, World.drew]) rfl rfl rfl hw⟩
  · rw [hv, ownB ao _ _ (min n e.f.da.length).toNat (min n e.f.da.length).toNat]; exact hi
  · refine h.fileSet hf _ hen rfl hw ?_ ?_ ?_ (fun i hi => .inl (by rw [hv, ownB ao _ _ (min n e.f.da.length).toNat (min n e.f.da.length).toNat]; exact hi)) (cutF n.toNat) rfl rfl rfl
    · have h5 := (h.head.set 2 (.int .i64 (us - (e.f.da.length - min n e.f.da.length)))).drew
      have h6 := (h5.out hgb 0 (.slice ao (min n e.f.da.length).toNat (min n e.f.da.length).toNat)).out hgb 1 (.int .i64 (min e.f.sy (min n e.f.da.length)))
      rw [hus'] at h6 ⊢
      exact h6
    · have h5 := ((h.fs.blk e he).out (Ne.symm hgb) 2 (.int .i64 (us - (e.f.da.length - min n e.f.da.length)))).drew
      have h6 := h5.set2 (.slice ao (min n e.f.da.length).toNat (min n e.f.da.length).toNat) (.int .i64 (min e.f.sy (min n e.f.da.length)))
      rw [hss] at h6 ⊢
      exact h6
    · have hr := (h.fs.row e he).cut (m := min n.toNat e.f.da.length) (c := min n.toNat e.f.da.length) (Nat.le_refl _) hv (by omega) (by omega)
      have hr2 : Own w 0 5 1 (.slice ao (min n e.f.da.length).toNat (min n e.f.da.length).toNat) (cutF n.toNat e.f).da.length ((cutF n.toNat e.f).da.map byteV) := by
        have e1 : (cutF n.toNat e.f).da.length = min n.toNat e.f.da.length := hlen
        rw [e1, hmn]
        have e2 : (cutF n.toNat e.f).da.map byteV = (e.f.da.map byteV).take (min n.toNat e.f.da.length * 1) := by
          rw [← List.map_take, Nat.mul_one]
          show (e.f.da.take n.toNat).map byteV = _
          congr 1
          rw [List.take_eq_take_iff]; omega
        rw [e2]
        exact hr
      refine hr2.same fun i hi => ?_
      have hi' : e.v.ownBlock = some i := by rw [hv, ownB ao _ _ (min n e.f.da.length).toNat (min n e.f.da.length).toNat]; exact hi
      have n1 : i ≠ g := fun e1 => h.ne (.inr ⟨e, he, .inr (e1 ▸ hi')⟩)
      have n2 : i ≠ e.b := fun e1 => (h.fs.blk e he).own (h.fs.row e he) (by decide) (e1 ▸ hi')
      show (((w.setCell _ _).drew.setCell _ _).setCell _ _).heap[i]? = _
      rw [heap_set_ne _ _ n2, heap_set_ne _ _ n2, heap_drew, heap_set_ne _ _ n1]

end Go.Proofs.Ytoibjhoebjcfeaa
