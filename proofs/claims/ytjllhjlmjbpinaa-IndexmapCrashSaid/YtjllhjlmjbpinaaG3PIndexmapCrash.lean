/- Walks: the names of a disk's files. Walks: a file cut off; the crash of a disk. Plain laws: a crash of a disk, file by file. Walks: the crash of a disk. Plain laws: each change leaves a disk that may be. -/
import Derived.Test.YtjllhjlmjbpinaaG2PIndexmapCrash
import Derived.Shelf.Slices.In.SortNone
import Derived.Sort.OwnSorted
import Derived.Sort.KeysCollected
import Derived.Lib.OwnBridge
import Derived.Test.YtjllhjlmjbpinaaG1PIndexmapCrash
import Derived.StillTailTactics
namespace Go.Proofs.Ytjllhjlmjbpinaa
open Go.RowKit Go.Maps Go.Sort

theorem names_sorted {L : List FE} (h : OrdN FE.nm L) : (L.map FE.nm).mergeSort (fun x y => decide (x ≤ y)) = L.map FE.nm := by
  refine List.mergeSort_of_pairwise (List.pairwise_map.2 (h.imp fun {x y} hxy => ?_))
  rw [bytesBefore_lt, decide_eq_true_eq] at hxy
  rw [decide_eq_true_eq]
  exact List.le_of_lt hxy

theorem sort_names {L : List FE} (h : OrdN FE.nm L) {ss : List (List UInt8)} (hp : ss.Perm (strKeys (dmap L))) : ss.mergeSort (fun x y => decide (x ≤ y)) = L.map FE.nm := by
  rw [dmap_keys] at hp
  exact (mergeSort_of_perm hp).trans (names_sorted h)

theorem FS.nm_le {w : World} {m : Nat} {L : List FE} (h : FS w m L) {e : FE} (he : e ∈ L) : e.f.nm.length ≤ 9223372036854775807 := by
  have := strKeys_le h.map Try.underlying9 e.f.nm (by rw [dmap_keys]; exact List.mem_map.2 ⟨e, he, rfl⟩)
  unfold maxLen at this
  exact this

/-- names in new memory are handed back -/
def RetN (w : World) (N : List (List UInt8)) (e : Ending) (w' : World) : Prop :=
  ∃ v, e = .returned v ∧ w'.ownsRow w.heap.size 9 1 v N.length (N.map encStr) ∧ Ext w w'

theorem RetN.out {w w' : World} {N : List (List UInt8)} {e : Ending} (h : RetN w N e w') : ∃ ao cap, e = .returned (.slice ao N.length cap) ∧ Own w' w.heap.size 9 1 (.slice ao N.length cap) N.length (N.map encStr) ∧ Ext w w' := by
  obtain ⟨v, rfl, h1, h2⟩ := h
  obtain ⟨ao, cap, rfl⟩ := row_slice h1
  exact ⟨ao, cap, rfl, Own.of_row h1, h2⟩

theorem RetN.mk {w W : World} {N ss : List (List UInt8)} {a : Option Addr} {cap : Nat} (h : W.ownsRow w.heap.size 9 1 (.slice a ss.length cap) ss.length ((ss.mergeSort (fun x y => decide (x ≤ y))).map encStr))
    (hs : ss.mergeSort (fun x y => decide (x ≤ y)) = N) (hl : ss.length = N.length) (hb : Ext w W) : RetN w N (.returned (.slice a ss.length cap)) W := by
  rw [hs, hl] at h
  rw [hl]
  exact ⟨_, rfl, h, hb⟩

theorem info_s : (Try.prog.info? 9).map (fun i => (i.zero, i.size, i.bytes)) = some (some (.string ⟨#[]⟩), 1, 16) := by kernel_rfl

set_option maxRecDepth 100000
set_option maxHeartbeats 1600000

theorem names_no (w : World) (p : Option Addr) (h : NoD w p) : Calls Try.prog 48 #[.pointer p] w fun e w' => e = .returned (.slice none 0 0) ∧ w = w' := by
  have H := Lib.hid h; clear h
  go_enter Try.func48, Try.ntmps48
  go_wp2_with fail
  refine (none_no _ p H.out).mono ?_
  rintro e w' ⟨rfl, rfl⟩
  go_wp2_with fail
  go_ret
  exact ⟨rfl, rfl⟩

theorem names_c (w : World) (g m : Nat) (L : List FE) (c0 : w.cell? ⟨g, 0, none⟩ = some (.bool true)) (c3 : w.cell? ⟨g, 3, none⟩ = some (.map (some m))) (hfs : FS w m L) (hlen : L.length ≤ 1000000) :
    Calls Try.prog 48 #[.pointer (some ⟨g, 0, none⟩)] w (RetN w (L.map FE.nm)) := by
  obtain ⟨i0, hi, hz0, hz1, hz2⟩ := info_parts info_s
  have hown := hfs.map
  have HO := Lib.hid hfs.ord
  have hsz : Maps.size (dmap L) = L.length := dmap_size L
  have H := Lib.hid (none_at w g true c0)
  obtain ⟨D, hD⟩ : ∃ D, dmap L = D := ⟨_, rfl⟩
  have HD := Lib.hid hD
  rw [hD] at hown hsz
  have HS := Lib.hid hsz
  clear hfs hsz hD c0
  have hbl := hown.lt
  go_enter Try.func48, Try.ntmps48
  go_wp2_with fail
  refine H.out.mono ?_
  rintro e w' ⟨rfl, rfl⟩
  go_wp2_with (at_range; refine wpList_range_own _ rfl _ 67 rfl 9 75 lawS Try.underlying67 _ m L.length D rfl hown ?_; intro w0 hrg0 hg0 hs0)
  have HS0 := Lib.hid hs0
  clear hs0
  go_frame
  go_loopw [3] (fun v wr => ∃ (left : Lit → Bool) (cnt : Nat) (ss : List (List UInt8)), wr.ranges Try.prog 9 ptrE m w.heap.size L.length D left cnt ∧ ss.length + cnt ≤ L.length ∧
      wr.ownsRow w.heap.size 9 1 v ss.length (ss.map encStr) ∧ Collected D left ss ∧ Below w.heap.size w wr)
    (fun _ wr => wr.rangeLeft m w.heap.size)
  case atStart =>
    exact ⟨_, _, [], hrg0, by simp [HS.out], World.ownsRow_nil _ _ _ _, Collected.start D, (Below.refl _ _).grown hg0 (Nat.le_refl _) (fun j hj => by cases hj)⟩
  case round =>
    obtain ⟨left, cnt, ss, hrg, hcs, hrow, hC, hnx⟩ := hrel
    go_wp2_with (at_next; refine wpList_next_ranges _ rfl _ rfl 9 lawS ptrE encStr (fun x : Value => x) (fun key kl hk => by obtain ⟨x, hx, _⟩ := Maps.keyOf_str Try.underlying9 hk; exact ⟨x, hx⟩) (fun v y hv => ⟨v, rfl⟩) m w.heap.size L.length _ _ _ rfl hrg ?_ ?_)
    · intro hc0 hl0
      have hp := hC.perm hrg.owns lawS Try.underlying9 hl0
      rw [← HD.out] at hp
      have HSn := Lib.hid (sort_names HO.out hp)
      have HLn := Lib.hid (show ss.length = L.length by have := hp.length_eq; rw [dmap_keys] at this; simpa using this)
      clear hp hl0
      rcases hrow.2 with ⟨rfl, hnil⟩ | ⟨gb, cap, cur, rfl, hbase, hb, h1, h2, h3, h4⟩
      · have HL := Lib.hid (show L = [] from List.eq_nil_of_length_eq_zero (by have := HLn.out; omega))
        clear hnil
        have hs := Any.slices_Sort_string_none Try.lays190 none 0 wr
        have HX := Lib.hid hs
        clear hs
        go_wp2_with fail
        refine HX.out.mono ?_
        rintro e w' ⟨rfl, rfl⟩
        go_wp2_with fail
        go_ret
        refine ⟨_, rfl, ?_, hnx⟩
        rw [HL.out]
        exact World.ownsRow_nil _ _ _ _
      · have hH : Holds encStr wr gb 0 ss.toArray := holds_of_block hb (by simpa using h4)
        have hgl : gb < wr.heap.size := (Array.getElem?_eq_some_iff.1 hb).1
        have HX := Lib.hid (Any.slices_Sort_string Try.lays190 gb 0 cap ss wr hH hgl (by omega))
        have HR := Lib.hid (fun (nn : Nat) (os : Array Obj) => ownsRow_sorted (n := nn) (os := os) (ts := ss.mergeSort fun x y => decide (x ≤ y)) (List.length_mergeSort ss) hbase hb h1 h2 h3)
        clear hH hb h4 h3
        go_wp2_with fail
        refine HX.out.mono ?_
        rintro e w' ⟨rfl, nn, os, rfl⟩
        go_wp2_with fail
        go_ret
        exact RetN.mk (HR.out nn os) HSn.out (by rw [HLn.out, List.length_map]) (hnx.grown (grownBy_sorted _) hnx.size (fun j hj => by cases hj; exact hbase))
    · intro x c kl yd yp w2 cnt2 hkey hlk hv hat hrg2 hlt hg2 hs2 hen
      obtain ⟨x', ex, rfl, _⟩ := Maps.keyOf_str Try.underlying9 hkey
      obtain rfl : x = x' := encStr_inj ex
      have hrow2 := hrow.kept hg2 (Or.inr (row_ne_iter hrow hrg).symm)
      clear hs2
      go_wp2_with (at_builtin; refine wpList_append_own _ rfl _ _ 70 rfl w.heap.size 9 i0 (.string ⟨#[]⟩) 1 16 Try.underlying70 hi hz0 hz1 hz2 rfl (by decide) _ _ _ rfl (hrow2.alloc _) ⟨w2.heap.size, 0, none⟩ 1 1 [encStr x] rfl rfl (cell_one_new _ _ _) (by simp [Value.oneCell', encStr]) (by unfold maxLen at *; omega) (by omega) (by have := hnx.size; have := hg2.size; simp; omega) ?_; intro v' w3 hown' hg3 hnil3)
      have hrg3 := (hrg2.alloc _).kept hg3 (row_ne_low hrow2 hbl) (row_ne_iter hrow2 hrg2)
      go_roundw
      case rel =>
        refine ⟨_, cnt2, ss ++ [x], hrg3, by simp; omega, by simpa using hown', hC.step hlk hat, ?_⟩
        exact ((hnx.grown hg2 hnx.size (fun j hj => by cases hj; exact Nat.le_refl _)).alloc (by have := hnx.size; have := hg2.size; omega) _).grown hg3 (by have := hnx.size; have := hg2.size; simp; omega) (fun j hj => (hrow2.lt j hj).1)
      case measure => rw [hrg3.left_eq, hrg.left_eq]; exact hlt

end Go.Proofs.Ytjllhjlmjbpinaa
namespace Go.Proofs.Ytjllhjlmjbpinaa
open Go.RowKit

set_option maxRecDepth 100000
set_option linter.unusedVariables false
set_option maxHeartbeats 1600000

theorem cut_walk (w : World) (g b : Nat) (ao : Option Addr) (len cap : Nat) (us sy n : Int) (c2 : w.cell? ⟨g, 2, none⟩ = some (.int .i64 us)) (z2 : w.frozen? ⟨g, 2, none⟩ = false)
    (f0 : w.cell? ⟨b, 0, none⟩ = some (.slice ao len cap)) (f1 : w.cell? ⟨b, 1, none⟩ = some (.int .i64 sy)) (y0 : w.frozen? ⟨b, 0, none⟩ = false) (y1 : w.frozen? ⟨b, 1, none⟩ = false) (hgb : g ≠ b)
    (hl : len ≤ cap) (hc : cap ≤ 9223372036854775807) (hnil : ao = none → cap = 0) (hn0 : 0 ≤ n) (hn1 : n ≤ 9223372036854775807) (hs0 : 0 ≤ sy) (hs1 : sy ≤ len) (hu0 : (len : Int) ≤ us) (hu1 : us ≤ 1048576) :
    Calls Try.prog 71 #[.pointer (some ⟨g, 0, none⟩), .pointer (some ⟨b, 0, none⟩), .int .i64 n] w fun e w' => e = .returned (.tuple #[]) ∧
      w' = (((w.setCell ⟨g, 2, none⟩ (.int .i64 (us - (len - min n len)))).drew.setCell ⟨b, 0, none⟩ (.slice ao (min n len).toNat (min n len).toNat)).setCell ⟨b, 1, none⟩ (.int .i64 (min sy (min n len)))) := by
  go_enter Try.func71, Try.ntmps71
  go_wp2_with fail
  go_region
  go_wp2_with fail
  go_end0
  exact ⟨rfl, rfl⟩

theorem ownB (ao : Option Addr) (n c n' c' : Nat) : (Value.slice ao n c).ownBlock = (Value.slice ao n' c').ownBlock := by cases ao <;> rfl

/-- what a file's cells hold, written over -/
theorem Blk.set2 {w : World} {b : Nat} {t : TypeId} {u0 u1 : Value} (h : Blk w b t #[u0, u1]) (v0 v1 : Value) : Blk ((w.setCell ⟨b, 0, none⟩ v0).setCell ⟨b, 1, none⟩ v1) b t #[v0, v1] := (h.set 0 v0).set 1 v1
theorem Blk.out {w : World} {g i : Nat} {t : TypeId} {cs : Array Value} (h : Blk w g t cs) (hne : g ≠ i) (k : Nat) (u : Value) : Blk (w.setCell ⟨i, k, none⟩ u) g t cs := h.same (Below.heap_setCell _ _ _ _ hne)

/-- all files of an intact disk lie apart from its head -/
theorem DkI.ne {w : World} {g m : Nat} {kv : Value} {L : List FE} {us : Int} {σ : DM} (h : DkI w g m kv L us σ) : ¬ InF m L g := h.fs.out h.head (by decide) (by decide)
theorem DkI.neB {w : World} {g m : Nat} {kv : Value} {L : List FE} {us : Int} {σ : DM} (h : DkI w g m kv L us σ) {e : FE} (he : e ∈ L) : g ≠ e.b := fun e1 => h.ne (.inr ⟨e, he, .inl e1⟩)
/-- .. and from what is kept -/
theorem DkI.keepF {w : World} {g m : Nat} {kv : Value} {L : List FE} {us : Int} {σ : DM} (h : DkI w g m kv L us σ) {i : Nat} (hi : kv.ownBlock = some i) : i ≠ g ∧ ¬ InF m L i := by
  obtain ⟨cur, hc⟩ := h.keep.etype hi
  have hb : Blk w i 3 cur := hc
  exact ⟨Blk.ne hb h.head (by decide), h.fs.out hb (by decide) (by decide)⟩

/-- a change of the head's cells -/
theorem DkI.headSet {w w' : World} {g m : Nat} {kv : Value} {L : List FE} {us us' : Int} {σ σ' : DM} (h : DkI w g m kv L us σ) (hk : ∀ i, i < w.heap.size → i ≠ g → w'.heap[i]? = w.heap[i]?)
    (hb : Blk w' g 69 (headC σ' us' m kv)) (hL : σ'.L = σ.L) (hK : σ'.keep = σ.keep) : DkI w' g m kv L us' σ' :=
  ⟨hb, h.fs.same fun i hi => hk i (h.fs.lt hi) fun e => h.ne (e ▸ hi), h.files.trans hL.symm, by rw [hK]; exact h.keep.same fun i hi => hk i (h.keep.lt i hi).2 (h.keepF hi).1⟩

theorem heap_drew (w : World) : w.drew.heap = w.heap := rfl
theorem heap_set_ne (w : World) {g k i : Nat} (u : Value) (h : i ≠ g) : (w.setCell ⟨g, k, none⟩ u).heap[i]? = w.heap[i]? := Below.heap_setCell _ _ _ _ h

/-- a file of a disk is written, its row stays in its place -/
theorem DkI.fileSet {w w' : World} {g m : Nat} {kv : Value} {L : List FE} {us us' : Int} {σ σ' : DM} (h : DkI w g m kv L us σ) {nm : List UInt8} {e : FE} (hf : findN FE.nm nm L = some e) (e' : FE) (hn : e'.f.nm = nm) (hb : e'.b = e.b)
    (hw : ∀ i, i < w.heap.size → i ≠ g → i ≠ e.b → e.v.ownBlock ≠ some i → w'.heap[i]? = w.heap[i]?) (hhd : Blk w' g 69 (headC σ' us' m kv))
    (hblk : Blk w' e.b 78 #[e'.v, .int .i64 (e'.f.sy : Int)]) (hrow : Own w' 0 5 1 e'.v e'.f.da.length (e'.f.da.map byteV)) (hsep : ∀ i, e'.v.ownBlock = some i → e.v.ownBlock = some i ∨ w.heap.size ≤ i)
    (f : FM → FM) (hfe : e'.f = f e.f) (hL : σ'.L = updN FM.nm nm f σ.L) (hK : σ'.keep = σ.keep) : DkI w' g m kv (updN FE.nm nm (fun _ => e') L) us' σ' := by
  have he := (findN_some hf).1
  refine ⟨hhd, h.fs.upd hf e' hn hb (fun i hi h1 h2 => hw i (h.fs.lt hi) (fun e1 => h.ne (e1 ▸ hi)) h1 h2) hblk hrow (fun i hi => ?_), ?_, ?_⟩
  · rcases hsep i hi with h1 | h1
    · exact .inl h1
    · exact .inr fun h2 => by have := h.fs.lt h2; omega
  · rw [hL, ← h.files]
    exact updN_map2 (fun x => rfl) h.fs.ord hf hfe
  · rw [hK]
    refine h.keep.same fun i hi => hw i (h.keep.lt i hi).2 (h.keepF hi).1 (fun e1 => ?_) (fun e1 => ?_)
    · exact (h.keepF hi).2 (.inr ⟨e, he, .inl e1⟩)
    · exact (h.keepF hi).2 (.inr ⟨e, he, .inr e1⟩)

/-- the blocks that a change may write -/
def MutD (g m : Nat) (L : List FE) (i : Nat) : Prop := i = g ∨ InF m L i
theorem MutD.inD {g m : Nat} {kv : Value} {L : List FE} {i : Nat} (h : MutD g m L i) : InD g m kv L i := h.elim .inl fun h => .inr (.inl h)
theorem DkI.mut_lt {w : World} {g m : Nat} {kv : Value} {L : List FE} {us : Int} {σ : DM} (h : DkI w g m kv L us σ) {i : Nat} (hi : MutD g m L i) : i < w.heap.size := h.inD_lt hi.inD
theorem OffS.inD {w w' : World} {g m : Nat} {kv : Value} {L : List FE} (h : OffS (MutD g m L) w w') : OffS (InD g m kv L) w w' := h.mono fun i _ hi => hi.inD

/-- a change of the head's cells, and of what is kept -/
theorem DkI.headKv {w w' : World} {g m : Nat} {kv kv' : Value} {L : List FE} {us us' : Int} {σ σ' : DM} (h : DkI w g m kv L us σ) (hk : ∀ i, i < w.heap.size → i ≠ g → w'.heap[i]? = w.heap[i]?)
    (hb : Blk w' g 69 (headC σ' us' m kv')) (hL : σ'.L = σ.L) (hK : Own w' 0 3 1 kv' σ'.keep.length (σ'.keep.map (Value.int .i64))) : DkI w' g m kv' L us' σ' :=
  ⟨hb, h.fs.same fun i hi => hk i (h.fs.lt hi) fun e => h.ne (e ▸ hi), h.files.trans hL.symm, hK⟩

/-- the frame of a step that writes the head and a file -/
theorem off_file {w w' : World} {g m : Nat} {L : List FE} {e : FE} (he : e ∈ L) (hs : w.heap.size ≤ w'.heap.size) (ho : w'.os = w.os) (ht : w'.tape = w.tape) (hu : w'.output = w.output)
    (hw : ∀ i, i < w.heap.size → i ≠ g → i ≠ e.b → e.v.ownBlock ≠ some i → w'.heap[i]? = w.heap[i]?) : OffS (MutD g m L) w w' :=
  ⟨ho, ht, hu, hs, fun i hi hn => hw i hi (fun e1 => hn (.inl e1)) (fun e1 => hn (.inr (.inr ⟨e, he, .inl e1⟩))) (fun e1 => hn (.inr (.inr ⟨e, he, .inr e1⟩)))⟩

theorem cutF_sy {n : Nat} {f : FM} (h : f.sy ≤ f.da.length) : (cutF n f).sy ≤ (cutF n f).da.length := by simp [cutF]; omega

/-- 'cut' -/
theorem cut_c {w : World} {g m : Nat} {kv : Value} {L : List FE} {σ : DM} {us : Int} (h : DkI w g m kv L us σ) (hus : us = (usedM σ.L : Int)) (hcap : us ≤ 1048576) (hord : OrdN FM.nm σ.L) {nm : List UInt8} {e : FE} (hf : findN FE.nm nm L = some e) (hsy : e.f.sy ≤ e.f.da.length)
    (n : Int) (hn0 : 0 ≤ n) (hn1 : n ≤ 9223372036854775807) :
    Calls Try.prog 71 #[.pointer (some ⟨g, 0, none⟩), .pointer (some ⟨e.b, 0, none⟩), .int .i64 n] w fun en w' => en = .returned (.tuple #[]) ∧
      ∃ e' : FE, e'.f = cutF n.toNat e.f ∧ e'.b = e.b ∧ (∀ i, e'.v.ownBlock = some i → e.v.ownBlock = some i) ∧
        DkI w' g m kv (updN FE.nm nm (fun _ => e') L) (usedM (updN FM.nm nm (cutF n.toNat) σ.L) : Int) { σ with L := updN FM.nm nm (cutF n.toNat) σ.L } ∧ OffS (MutD g m L) w w' := by
  obtain ⟨he, hen⟩ := findN_some hf
  obtain ⟨ao, cap, hv, h1, h2, h3, h4⟩ := (h.fs.row e he).rd
  have hfm : findN FM.nm nm σ.L = some e.f := by
    rw [← h.files, findN_map (k := FE.nm) (k' := FM.nm) (h := FE.f) (fun x => rfl), hf]; rfl
  have hsum := sumN_upd (fun f : FM => f.da.length) (f := cutF n.toNat) hord hfm
  have hmem := sumN_mem (fun f : FM => f.da.length) (findN_some hfm).1
  have hle : e.f.da.length ≤ usedM σ.L := hmem
  have f0 := h.f0 he
  rw [hv] at f0
  have hgb := h.neB he
  refine (cut_walk w g e.b ao e.f.da.length cap us e.f.sy n h.c2 (h.z 2) f0 (h.f1 he) (h.fz he 0) (h.fz he 1) hgb h1 h2 h3 hn0 hn1 (by omega) (by omega) (by omega) (by omega)).mono ?_
  rintro en w' ⟨rfl, rfl⟩
  have hmn : (min n (e.f.da.length : Int)).toNat = min n.toNat e.f.da.length := by omega
  have hss : min (e.f.sy : Int) (min n (e.f.da.length : Int)) = ((min e.f.sy (min n.toNat e.f.da.length) : Nat) : Int) := by omega
  have hlen : (e.f.da.take n.toNat).length = min n.toNat e.f.da.length := List.length_take
  have hw : ∀ i, i < w.heap.size → i ≠ g → i ≠ e.b → e.v.ownBlock ≠ some i → ((((w.setCell ⟨g, 2, none⟩ (.int .i64 (us - (e.f.da.length - min n e.f.da.length)))).drew.setCell ⟨e.b, 0, none⟩ (.slice ao (min n e.f.da.length).toNat (min n e.f.da.length).toNat)).setCell ⟨e.b, 1, none⟩ (.int .i64 (min e.f.sy (min n e.f.da.length)))).heap[i]?) = w.heap[i]? := by
    intro i _ hg hb _
    rw [heap_set_ne _ _ hb, heap_set_ne _ _ hb, heap_drew, heap_set_ne _ _ hg]
  have hus' : us - ((e.f.da.length : Int) - min n e.f.da.length) = (usedM (updN FM.nm nm (cutF n.toNat) σ.L) : Int) := by
    unfold usedM at hus ⊢
    have : (cutF n.toNat e.f).da.length = min n.toNat e.f.da.length := hlen
    omega
  refine ⟨rfl, ⟨cutF n.toNat e.f, e.b, .slice ao (min n e.f.da.length).toNat (min n e.f.da.length).toNat⟩, rfl, rfl, fun i hi => ?_, ?_, off_file he (by simp [World.setCell, World.drew]) rfl rfl rfl hw⟩
  · rw [hv, ownB ao _ _ (min n e.f.da.length).toNat (min n e.f.da.length).toNat]; exact hi
  · refine h.fileSet hf _ hen rfl hw ?_ ?_ ?_ (fun i hi => .inl (by rw [hv, ownB ao _ _ (min n e.f.da.length).toNat (min n e.f.da.length).toNat]; exact hi)) (cutF n.toNat) rfl rfl rfl
    · have h5 := (h.head.set 2 (.int .i64 (us - (e.f.da.length - min n e.f.da.length)))).drew
      have h6 := (h5.out hgb 0 (.slice ao (min n e.f.da.length).toNat (min n e.f.da.length).toNat)).out hgb 1 (.int .i64 (min e.f.sy (min n e.f.da.length)))
      rw [hus'] at h6 ⊢
      exact h6
    · have h5 := ((h.fs.blk e he).out (Ne.symm hgb) 2 (.int .i64 (us - (e.f.da.length - min n e.f.da.length)))).drew
      have h6 := h5.set2 (.slice ao (min n e.f.da.length).toNat (min n e.f.da.length).toNat) (.int .i64 (min e.f.sy (min n e.f.da.length)))
      rw [hss] at h6 ⊢
      exact h6
    · have hr := (h.fs.row e he).cut (m := min n.toNat e.f.da.length) (c := min n.toNat e.f.da.length) (Nat.le_refl _) hv (by omega) (by omega)
      have hr2 : Own w 0 5 1 (.slice ao (min n e.f.da.length).toNat (min n e.f.da.length).toNat) (cutF n.toNat e.f).da.length ((cutF n.toNat e.f).da.map byteV) := by
        have e1 : (cutF n.toNat e.f).da.length = min n.toNat e.f.da.length := hlen
        rw [e1, hmn]
        have e2 : (cutF n.toNat e.f).da.map byteV = (e.f.da.map byteV).take (min n.toNat e.f.da.length * 1) := by
          rw [← List.map_take, Nat.mul_one]
          show (e.f.da.take n.toNat).map byteV = _
          congr 1
          rw [List.take_eq_take_iff]; omega
        rw [e2]
        exact hr
      refine hr2.same fun i hi => ?_
      have hi' : e.v.ownBlock = some i := by rw [hv, ownB ao _ _ (min n e.f.da.length).toNat (min n e.f.da.length).toNat]; exact hi
      have n1 : i ≠ g := fun e1 => h.ne (.inr ⟨e, he, .inr (e1 ▸ hi')⟩)
      have n2 : i ≠ e.b := fun e1 => (h.fs.blk e he).own (h.fs.row e he) (by decide) (e1 ▸ hi')
      show (((w.setCell _ _).drew.setCell _ _).setCell _ _).heap[i]? = _
      rw [heap_set_ne _ _ n2, heap_set_ne _ _ n2, heap_drew, heap_set_ne _ _ n1]

end Go.Proofs.Ytjllhjlmjbpinaa
namespace Go.Proofs.Ytjllhjlmjbpinaa
open Go.RowKit

def crsL (L : List FM) (xs : List Int) (i : Nat) : List FM := crashL (L.take i) xs ++ L.drop i

theorem crashL_length : ∀ (L : List FM) (xs : List Int), (crashL L xs).length = L.length
  | [], _ => rfl
  | f :: r, xs => by simp [crashL, crashL_length r]
theorem crashF_nm (f : FM) (x : Int) : (crashF f x).nm = f.nm := rfl
theorem crashL_nm : ∀ (L : List FM) (xs : List Int), (crashL L xs).map FM.nm = L.map FM.nm
  | [], _ => rfl
  | f :: r, xs => by simp [crashL, crashL_nm r, crashF_nm]
theorem crsL_zero (L : List FM) (xs : List Int) : crsL L xs 0 = L := by simp [crsL, crashL]
theorem crsL_all (L : List FM) (xs : List Int) : crsL L xs L.length = crashL L xs := by simp [crsL]
theorem crsL_nm (L : List FM) (xs : List Int) (i : Nat) : (crsL L xs i).map FM.nm = L.map FM.nm := by
  unfold crsL; rw [List.map_append, crashL_nm, ← List.map_append, List.take_append_drop]
theorem crsL_length (L : List FM) (xs : List Int) (i : Nat) : (crsL L xs i).length = L.length := by
  have := congrArg List.length (crsL_nm L xs i); simpa using this
theorem ord_nm {L L' : List FM} (h : OrdN FM.nm L) (e : L'.map FM.nm = L.map FM.nm) : OrdN FM.nm L' := by
  have h1 : OrdN (fun x : List UInt8 => x) (L.map FM.nm) := (ord_map (k := FM.nm) (h := FM.nm) fun x => rfl).2 h
  rw [← e] at h1
  exact (ord_map (k := FM.nm) (h := FM.nm) fun x => rfl).1 h1

theorem getD_tail (xs : List Int) (i : Nat) : xs.tail.getD i 0 = xs.getD (i + 1) 0 := by
  cases xs <;> simp [List.getD_eq_getElem?_getD]
theorem headD_getD (xs : List Int) : xs.headD 0 = xs.getD 0 0 := by cases xs <;> simp
theorem crashL_snoc : ∀ (l : List FM) (f : FM) (xs : List Int), crashL (l ++ [f]) xs = crashL l xs ++ [crashF f (xs.getD l.length 0)]
  | [], f, xs => by simp only [List.nil_append, crashL, List.length_nil, headD_getD]
  | a :: r, f, xs => by
    rw [List.cons_append, crashL, crashL, crashL_snoc r f xs.tail, getD_tail]
    rfl

theorem updN_append {nm : List UInt8} {h : FM → FM} {a c : List FM} {f : FM} (hf : f.nm = nm) (ho : OrdN FM.nm (a ++ f :: c)) : updN FM.nm nm h (a ++ f :: c) = a ++ h f :: c := by
  have hne := ord_ne ho
  rw [List.pairwise_append] at hne
  obtain ⟨_, h2, h3⟩ := hne
  have ha : updN FM.nm nm h a = a := updN_none (findN_of_none fun y hy e => h3 y hy f (by simp) (e.trans hf.symm))
  have hc : updN FM.nm nm h c = c := updN_none (findN_of_none fun y hy e => (List.pairwise_cons.1 h2).1 y hy (hf.trans e.symm))
  unfold updN at ha hc ⊢
  rw [List.map_append, List.map_cons, ha, hc, if_pos (by simpa using hf)]

/-- the step of a crash -/
theorem crsL_step {L : List FM} (xs : List Int) {i : Nat} (hi : i < L.length) (ho : OrdN FM.nm L) :
    findN FM.nm L[i].nm (crsL L xs i) = some L[i] ∧ ∀ h : FM → FM, h L[i] = crashF L[i] (xs.getD i 0) → updN FM.nm L[i].nm h (crsL L xs i) = crsL L xs (i + 1) := by
  have e1 : crsL L xs i = crashL (L.take i) xs ++ L[i] :: L.drop (i + 1) := by unfold crsL; rw [List.drop_eq_getElem_cons hi]
  have o1 : OrdN FM.nm (crsL L xs i) := ord_nm ho (crsL_nm L xs i)
  have hm : L[i] ∈ crsL L xs i := by rw [e1]; exact List.mem_append_right _ List.mem_cons_self
  refine ⟨findN_of o1 hm rfl, fun h hh => ?_⟩
  rw [e1] at o1 ⊢
  rw [updN_append rfl o1, hh]
  unfold crsL
  rw [List.take_succ_eq_append_getElem hi, crashL_snoc, List.length_take, Nat.min_eq_left (Nat.le_of_lt hi)]
  simp

theorem updN_twice {nm : List UInt8} {h h' : FM → FM} {L : List FM} (hk : ∀ y, (h y).nm = y.nm) : updN FM.nm nm h' (updN FM.nm nm h L) = updN FM.nm nm (fun y => h' (h y)) L := by
  unfold updN
  rw [List.map_map]
  refine List.map_congr_left fun y _ => ?_
  simp only [Function.comp]
  by_cases e : (y.nm == nm) = true
  · rw [if_pos e, if_pos (by rw [hk]; exact e), if_pos e]
  · rw [if_neg e, if_neg e, if_neg e]

theorem usedM_upd_le {L : List FM} {nm : List UInt8} {h : FM → FM} (hh : ∀ y, (h y).da.length ≤ y.da.length) : usedM (updN FM.nm nm h L) ≤ usedM L := by
  unfold usedM updN sumN
  rw [List.map_map]
  induction L with
  | nil => exact Nat.le_refl _
  | cons a r ih =>
    simp only [List.map_cons, List.sum_cons, Function.comp] at ih ⊢
    split
    · have := hh a; omega
    · omega
theorem crashF_le (f : FM) (x : Int) : (crashF f x).da.length ≤ f.da.length := by simp [crashF]; omega
theorem crashF_sy (f : FM) (x : Int) (h : f.sy ≤ f.da.length) : (crashF f x).sy = (crashF f x).da.length := by simp [crashF]; omega
theorem usedM_crs : ∀ (L : List FM) (xs : List Int), usedM (crashL L xs) ≤ usedM L
  | [], _ => Nat.le_refl _
  | f :: r, xs => by
    have := usedM_crs r xs.tail
    have := crashF_le f (xs.headD 0)
    unfold usedM sumN at *
    simp only [crashL, List.map_cons, List.sum_cons]
    omega
theorem usedM_append (a b : List FM) : usedM (a ++ b) = usedM a + usedM b := by simp [usedM, sumN]
theorem usedM_crsL (L : List FM) (xs : List Int) (i : Nat) : usedM (crsL L xs i) ≤ usedM L := by
  unfold crsL
  have e : usedM L = usedM (L.take i) + usedM (L.drop i) := by rw [← usedM_append, List.take_append_drop]
  rw [usedM_append, e]
  have := usedM_crs (L.take i) xs
  omega
theorem crashL_sy : ∀ (L : List FM) (xs : List Int), (∀ f ∈ L, f.sy ≤ f.da.length) → ∀ f ∈ crashL L xs, f.sy = f.da.length
  | [], _, _ => by simp [crashL]
  | a :: r, xs, h => by
    intro f hf
    rw [crashL] at hf
    rcases List.mem_cons.1 hf with rfl | hf
    · exact crashF_sy _ _ (h a (by simp))
    · exact crashL_sy r xs.tail (fun g hg => h g (by simp [hg])) f hf

theorem crash_ok {σ : DM} (h : okD σ) (xs : List Int) : okD (crashM σ xs) := by
  refine ⟨h.cap0, h.cap1, ?_, ord_nm h.ord (crashL_nm _ _), fun f hf => Nat.le_of_eq (crashL_sy _ _ h.sy f hf), ?_, Int.le_refl _, fun _ => rfl, Nat.zero_le _, by show (0 : Int) ≤ _; decide⟩
  · have := h.used
    have := usedM_crs σ.L xs
    show (usedM (crashL σ.L xs) : Int) ≤ σ.cap
    omega
  · show (crashL σ.L xs).length ≤ 400
    rw [crashL_length]; exact h.many

end Go.Proofs.Ytjllhjlmjbpinaa
namespace Go.Proofs.Ytjllhjlmjbpinaa
open Go.RowKit

/-- the disk, of which k files are cut off -/
def CrR (w1 : World) (g m : Nat) (kv : Value) (L : List FE) (σ : DM) (xs : List Int) (k : Nat) (wr : World) : Prop :=
  ∃ Lk, DkI wr g m kv Lk (usedM (crsL σ.L xs k) : Int) { σ with L := crsL σ.L xs k } ∧ (∀ j, InF m Lk j → InF m L j) ∧ OffS (MutD g m L) w1 wr

theorem CrR.start {w1 : World} {g m : Nat} {kv : Value} {L : List FE} {σ : DM} (h : DkI w1 g m kv L (usedM σ.L : Int) σ) (xs : List Int) : CrR w1 g m kv L σ xs 0 w1 := by
  unfold CrR
  rw [crsL_zero]
  exact ⟨L, h, fun j hj => hj, OffS.refl _ _⟩

theorem findE {L : List FE} {nm : List UInt8} {f : FM} (h : findN FM.nm nm (L.map FE.f) = some f) : ∃ e, findN FE.nm nm L = some e ∧ e.f = f := by
  rw [findN_map (k := FE.nm) (k' := FM.nm) (h := FE.f) (fun x => rfl)] at h
  cases hf : findN FE.nm nm L with
  | none => rw [hf] at h; cases h
  | some e => rw [hf] at h; exact ⟨e, rfl, Option.some.inj h⟩
theorem findE_none {L : List FE} {nm : List UInt8} (h : findN FM.nm nm (L.map FE.f) = none) : findN FE.nm nm L = none := by
  rw [findN_map (k := FE.nm) (k' := FM.nm) (h := FE.f) (fun x => rfl)] at h
  cases hf : findN FE.nm nm L with
  | none => rfl
  | some e => rw [hf] at h; cases h

theorem crashF_cut (f : FM) (x : Int) (n : Int) (hn : n = (f.sy : Int) + min (max x 0) ((f.da.length : Int) - f.sy)) (hs : f.sy ≤ f.da.length) : ({ cutF n.toNat f with sy := (cutF n.toNat f).da.length } : FM) = crashF f x := by
  have e1 : n.toNat = f.sy + min (max x 0).toNat (f.da.length - f.sy) := by omega
  unfold cutF crashF
  rw [e1]
  congr 1
  simp
  omega

theorem updN_congr {α : Type} {k : α → List UInt8} {nm : List UInt8} {f g : α → α} {l : List α} (ho : OrdN k l) {e : α} (hf : findN k nm l = some e) (hfe : f e = g e) : updN k nm f l = updN k nm g l := by
  have := updN_map2 (k := k) (k' := k) (h := fun x => x) (fun x => rfl) (nm := nm) (f := f) (g := g) ho hf hfe
  simpa using this

theorem CrR.step {w1 wr wd wc : World} {g m : Nat} {kv : Value} {L Lk : List FE} {σ : DM} {xs : List Int} {k : Nat} (ho : okD σ) (hk : k < σ.L.length) (hi : DkI wr g m kv Lk (usedM (crsL σ.L xs k) : Int) { σ with L := crsL σ.L xs k }) (hin : ∀ j, InF m Lk j → InF m L j) (hoff : OffS (MutD g m L) w1 wr)
    (hwd : OffS (MutD g m L) wr wd) {e e' : FE} (hf : findN FE.nm σ.L[k].nm Lk = some e) (hef : e.f = σ.L[k]) {n : Int} (hn : n = (e.f.sy : Int) + min (max (xs.getD k 0) 0) ((e.f.da.length : Int) - e.f.sy)) (h1 : e'.f = cutF n.toNat e.f) (h2 : e'.b = e.b) (h3 : ∀ i, e'.v.ownBlock = some i → e.v.ownBlock = some i)
    (hd : DkI wc g m kv (updN FE.nm σ.L[k].nm (fun _ => e') Lk) (usedM (updN FM.nm σ.L[k].nm (cutF n.toNat) (crsL σ.L xs k)) : Int) { σ with L := updN FM.nm σ.L[k].nm (cutF n.toNat) (crsL σ.L xs k) }) (hc : OffS (MutD g m Lk) wd wc) :
    CrR w1 g m kv L σ xs (k + 1) (wc.setCell ⟨e'.b, 1, none⟩ (.int .i64 (e'.f.da.length : Int))) := by
  obtain ⟨hfm, hst⟩ := crsL_step xs hk ho.ord
  have hsy := ho.sy _ (List.getElem_mem hk)
  have hoL : OrdN FM.nm (crsL σ.L xs k) := ord_nm ho.ord (crsL_nm _ _ _)
  obtain ⟨he, hen⟩ := findN_some hf
  have hn' : FE.nm e' = σ.L[k].nm := by show e'.f.nm = _; rw [h1]; exact hen
  have hf' : findN FE.nm σ.L[k].nm (updN FE.nm σ.L[k].nm (fun _ => e') Lk) = some e' := findN_of hd.fs.ord ((mem_updN (f := fun _ => e') hi.fs.ord hf).2 (.inl rfl)) hn'
  have he' := (findN_some hf').1
  have hgb := hd.neB he'
  have hrowb : e'.v.ownBlock ≠ some e'.b := (hd.fs.blk e' he').own (hd.fs.row e' he') (by decide)
  have hcr : ({ cutF n.toNat σ.L[k] with sy := (cutF n.toNat σ.L[k]).da.length } : FM) = crashF σ.L[k] (xs.getD k 0) := crashF_cut _ _ _ (by rw [← hef]; exact hn) hsy
  have hup : updN FM.nm σ.L[k].nm (fun f => { f with sy := f.da.length }) (updN FM.nm σ.L[k].nm (cutF n.toNat) (crsL σ.L xs k)) = crsL σ.L xs (k + 1) := by
    rw [updN_twice (h := cutF n.toNat) (fun y => rfl)]
    exact hst _ hcr
  have hus : usedM (updN FM.nm σ.L[k].nm (cutF n.toNat) (crsL σ.L xs k)) = usedM (crsL σ.L xs (k + 1)) := by
    have o2 : OrdN FM.nm (updN FM.nm σ.L[k].nm (cutF n.toNat) (crsL σ.L xs k)) := updN_ord hoL fun y hy => hy
    have f2 : findN FM.nm σ.L[k].nm (updN FM.nm σ.L[k].nm (cutF n.toNat) (crsL σ.L xs k)) = some (cutF n.toNat σ.L[k]) := findN_of o2 ((mem_updN (f := cutF n.toNat) hoL hfm).2 (.inl rfl)) rfl
    have := sumN_upd (fun f : FM => f.da.length) (f := fun f : FM => { f with sy := f.da.length }) o2 f2
    rw [← hup]
    exact (Nat.add_right_cancel (show sumN (fun f : FM => f.da.length) _ + (cutF n.toNat σ.L[k]).da.length = sumN (fun f : FM => f.da.length) _ + (cutF n.toNat σ.L[k]).da.length from this)).symm
  have hkeepw : ∀ i, i < wc.heap.size → i ≠ g → i ≠ e'.b → e'.v.ownBlock ≠ some i → (wc.setCell ⟨e'.b, 1, none⟩ (.int .i64 (e'.f.da.length : Int))).heap[i]? = wc.heap[i]? := fun i _ _ hb _ => heap_set_ne _ _ hb
  have hin' : ∀ j, InF m (updN FE.nm σ.L[k].nm (fun _ => e') Lk) j → InF m L j := fun j hj => by
    rcases InF.upd hi.fs.ord hf h2 hj with h | h
    · exact hin j h
    · exact hin j (.inr ⟨e, he, .inr (h3 j h)⟩)
  have hstep := hd.fileSet (σ' := { σ with L := crsL σ.L xs (k + 1) }) (us' := (usedM (crsL σ.L xs (k + 1)) : Int)) hf' ⟨{ e'.f with sy := e'.f.da.length }, e'.b, e'.v⟩ hn' rfl hkeepw (by rw [← hus]; exact hd.head.out hgb _ _) ((hd.fs.blk e' he').set 1 _) ((hd.fs.row e' he').same fun i hi2 => heap_set_ne _ _ fun e1 => hrowb (e1 ▸ hi2)) (fun i hi2 => .inl hi2) (fun f => { f with sy := f.da.length }) rfl hup.symm rfl
  refine ⟨_, hstep, fun j hj => ?_, (hoff.trans hwd).trans ((hc.mono fun i _ hm => ?_).trans ?_)⟩
  · rcases InF.upd (e' := (⟨{ e'.f with sy := e'.f.da.length }, e'.b, e'.v⟩ : FE)) hd.fs.ord hf' rfl hj with h | h
    · exact hin' j h
    · exact hin j (.inr ⟨e, he, .inr (h3 j h)⟩)
  · rcases hm with rfl | hm
    · exact .inl rfl
    · exact .inr (hin i hm)
  · have hof : OffS (MutD g m (updN FE.nm σ.L[k].nm (fun _ => e') Lk)) wc (wc.setCell ⟨e'.b, 1, none⟩ (.int .i64 (e'.f.da.length : Int))) := off_file he' (by simp [World.setCell]) rfl rfl rfl hkeepw
    exact hof.mono fun i _ hm => hm.elim (fun h => Or.inl h) (fun h => Or.inr (hin' i h))

/-- .. all of it is done -/
theorem CrR.done {w1 wr : World} {g m : Nat} {kv : Value} {L : List FE} {σ : DM} {xs : List Int} (h : CrR w1 g m kv L σ xs σ.L.length wr) :
    ∃ L', DkI ((((wr.setCell ⟨g, 6, none⟩ (.bool true)).setCell ⟨g, 7, none⟩ (.bool false)).setCell ⟨g, 8, none⟩ (.int .i64 0)).setCell ⟨g, 9, none⟩ (.slice none 0 0)) g m (.slice none 0 0) L' (usedM (crashL σ.L xs) : Int) (crashM σ xs) ∧ (∀ i, InF m L' i → InF m L i) ∧
      OffS (MutD g m L) w1 ((((wr.setCell ⟨g, 6, none⟩ (.bool true)).setCell ⟨g, 7, none⟩ (.bool false)).setCell ⟨g, 8, none⟩ (.int .i64 0)).setCell ⟨g, 9, none⟩ (.slice none 0 0)) := by
  obtain ⟨Lk, hi, hin, hoff⟩ := h
  rw [crsL_all] at hi
  have hw : ∀ i, i < wr.heap.size → i ≠ g → ((((wr.setCell ⟨g, 6, none⟩ (.bool true)).setCell ⟨g, 7, none⟩ (.bool false)).setCell ⟨g, 8, none⟩ (.int .i64 0)).setCell ⟨g, 9, none⟩ (.slice none 0 0)).heap[i]? = wr.heap[i]? := by
    intro i _ hg
    rw [heap_set_ne _ _ hg, heap_set_ne _ _ hg, heap_set_ne _ _ hg, heap_set_ne _ _ hg]
  refine ⟨Lk, hi.headKv hw ((((hi.head.set 6 _).set 7 _).set 8 _).set 9 _) rfl (Own.nil _ _ _ _), hin, hoff.trans ⟨rfl, rfl, rfl, by simp [World.setCell], fun i hl hn => hw i hl fun e => hn (.inl e)⟩⟩

set_option maxRecDepth 100000
set_option linter.unusedVariables false
set_option maxHeartbeats 1600000

theorem crash_no (w : World) (p : Option Addr) (h : NoD w p) (v : Value) : Calls Try.prog 27 #[.pointer p, v] w fun e w' => e = .returned (.int .i64 1) ∧ w = w' := by
  have H := Lib.hid h; clear h
  go_enter Try.func27, Try.ntmps27
  go_wp2_with fail
  refine (ready_no _ p H.out).mono ?_
  rintro e w' ⟨rfl, rfl⟩
  go_wp2_with fail
  go_ret
  exact ⟨rfl, rfl⟩
theorem crash_down (w : World) (g : Nat) (c0 : w.cell? ⟨g, 0, none⟩ = some (.bool true)) (c6 : w.cell? ⟨g, 6, none⟩ = some (.bool true)) (v : Value) : Calls Try.prog 27 #[.pointer (some ⟨g, 0, none⟩), v] w fun e w' => e = .returned (.int .i64 61) ∧ w = w' := by
  have H := Lib.hid (ready_down w g c0 c6); clear c0 c6
  go_enter Try.func27, Try.ntmps27
  go_wp2_with fail
  refine H.out.mono ?_
  rintro e w' ⟨rfl, rfl⟩
  go_wp2_with fail
  go_ret
  exact ⟨rfl, rfl⟩

theorem crash_c {w : World} {g m : Nat} {kv : Value} {L : List FE} {σ : DM} (h : DkI w g m kv L (usedM σ.L : Int) σ) (ho : okD σ) (hup : σ.down = false) (ka : Option Addr) (kn kc : Nat) (xs : List Int)
    (hkeep : ∀ W, OffS (MutD g m L) w W → Ints W ka kn kc xs) :
    Calls Try.prog 27 #[.pointer (some ⟨g, 0, none⟩), .slice ka kn kc] w fun e w' => e = .returned (.int .i64 0) ∧
      ∃ L', DkI w' g m (.slice none 0 0) L' (usedM (crashL σ.L xs) : Int) (crashM σ xs) ∧ (∀ i, InF m L' i → InF m L i) ∧ OffS (MutD g m L) w w' := by
  have c6 := h.c6; rw [hup] at c6
  have HR := Lib.hid (ready_up w g h.c0 c6)
  have hLl : L.length = σ.L.length := by rw [← h.files, List.length_map]
  have hmany := ho.many
  have HN := Lib.hid (names_c w g m L h.c0 h.c3 h.fs (by omega))
  have HI := Lib.hid h; have HO := Lib.hid ho; have HK := Lib.hid hkeep
  have hNn : L.map FE.nm = σ.L.map FM.nm := by rw [← h.files, List.map_map]; rfl
  obtain ⟨n, hn⟩ : ∃ n, σ.L.length = n := ⟨_, rfl⟩
  have hn400 : n ≤ 400 := by omega
  have HNn := Lib.hid hNn; have HLn := Lib.hid hn
  clear h ho hkeep hup c6 hLl hmany hNn
  go_enter Try.func27, Try.ntmps27
  go_wp2_with fail
  refine HR.out.mono ?_
  rintro e w' ⟨rfl, rfl⟩
  go_wp2_with fail
  refine HN.out.mono ?_
  intro e w1 hret
  obtain ⟨na, nc, rfl, hown, hext⟩ := hret.out
  have hlen : (L.map FE.nm).length = n := by rw [HNn.out, List.length_map, HLn.out]
  rw [hlen] at hown ⊢
  have HOwn := Lib.hid hown; have HE := Lib.hid hext
  have HI1 := Lib.hid (HI.out.ext hext)
  have hfits : n ≤ nc ∧ nc ≤ 9223372036854775807 := by
    obtain ⟨ao, cap, e1, h1, h2, _⟩ := hown.rd
    cases e1; exact ⟨h1, h2⟩
  have hkn := HK.out w (OffS.refl _ _)
  have hkfit := hkn.fits; have hkb := hkn.bound
  have HKl := Lib.hid hkn.len
  clear hret hown hext hn hlen hkn
  go_wp2_with fail
  go_loopw [18] (fun i wr => ∃ k : Nat, k ≤ n ∧ i = .int .i64 k ∧ CrR w1 g m kv L σ xs k wr) (fun i _ => n - (intOf i).toNat)
  case atStart => exact ⟨0, Nat.zero_le _, rfl, CrR.start HI1.out xs⟩
  case round =>
    obtain ⟨k, hk, rfl, hcr⟩ := hrel
    by_cases hlt : k < n
    · obtain ⟨Lk, hi, hin, hoff⟩ := hcr
      have hkL : k < σ.L.length := by rw [HLn.out]; exact hlt
      have hmw : ∀ j, MutD g m L j → j < w.heap.size := fun j hj => HI.out.mut_lt hj
      have hown := hoff.own HOwn.out fun i hb hm => by have := (HOwn.out.lt i hb).1; have := hmw i hm; omega
      obtain ⟨gb, cap, hv, hcell, _, _⟩ := hown.cell (j := k) (by simp only [List.length_map]; rw [← List.length_map (f := FE.nm), HNn.out, List.length_map]; exact hkL)
      cases hv
      have hnm : ((L.map FE.nm).map encStr)[k]? = some (.string ⟨σ.L[k].nm.toArray⟩) := by
        rw [HNn.out, List.getElem?_map, List.getElem?_map, List.getElem?_eq_getElem hkL]; rfl
      rw [← List.getElem?_eq_getElem, hnm] at hcell
      have hfm := (crsL_step xs hkL HO.out.ord).1
      have hfm' : findN FM.nm σ.L[k].nm (Lk.map FE.f) = some σ.L[k] := by rw [hi.files]; exact hfm
      obtain ⟨e, hfe, hef⟩ := findE hfm'
      have he := (findN_some hfe).1
      have hsy : e.f.sy ≤ e.f.da.length := by rw [hef]; exact HO.out.sy _ (List.getElem_mem hkL)
      have hnl : σ.L[k].nm.length ≤ 9223372036854775807 := by rw [← hef]; exact hi.fs.nm_le he
      have hrun := look1_yes hi.fs hnl hfe
      obtain ⟨ao, fc, hv2, hf1, hf2, hf3, _⟩ := (hi.fs.row e he).rd
      have f0 := hi.f0 he
      rw [hv2] at f0
      have f1 := hi.f1 he
      have c3 := hi.c3
      have hkr := HK.out wr ((OffS.of_ext HE.out).trans hoff)
      have hus : e.f.da.length ≤ usedM (crsL σ.L xs k) := by rw [hef]; exact sumN_mem (fun f : FM => f.da.length) (findN_some hfm).1
      have hus2 := usedM_crsL σ.L xs k
      have hus3 := HO.out.used; have hus4 := HO.out.cap1
      have hcapl : e.f.da.length ≤ 1048576 := by omega
      have hcapu : (usedM (crsL σ.L xs k) : Int) ≤ 1048576 := by omega
      obtain ⟨nm, hnmE⟩ : ∃ nm, σ.L[k].nm = nm := ⟨_, rfl⟩
      have hdr : DkI wr.drew g m kv Lk (usedM (crsL σ.L xs k) : Int) { σ with L := crsL σ.L xs k } := hi.ext (Ext.drew (Ext.refl _))
      have HCut := Lib.hid (fun nn h0 h1 => cut_c hdr rfl hcapu (ord_nm HO.out.ord (crsL_nm _ _ _)) hfe hsy nn h0 h1)
      have HStep := Lib.hid (fun wc e' (nn : Int) => CrR.step (wc := wc) (e' := e') (n := nn) HO.out hkL hi hin hoff (OffS.of_ext (Ext.drew (Ext.refl _))) hfe hef)
      rw [hnmE] at hrun hcell HCut HStep
      obtain ⟨dl, hdl⟩ : ∃ dl, e.f.da.length = dl := ⟨_, rfl⟩
      obtain ⟨sy, hsy2⟩ : ∃ sy, e.f.sy = sy := ⟨_, rfl⟩
      obtain ⟨bb, hbb⟩ : ∃ bb, e.b = bb := ⟨_, rfl⟩
      rw [hdl] at hsy f0 hf1 HStep hcapl
      rw [hsy2] at hsy f1 HStep
      rw [hbb] at f0 f1 hrun HCut HStep
      have HM : Hid (∀ e' : FE, e' ∈ updN FE.nm nm (fun _ => e') Lk) := Lib.hid (fun e' => by rw [← hnmE]; exact (mem_updN (f := fun _ => e') hi.fs.ord hfe).2 (.inl rfl))
      obtain ⟨x, hx⟩ : ∃ x, xs.getD k 0 = x := ⟨_, rfl⟩
      rw [hx] at HStep
      have HX := Lib.hid hx
      clear hi hin hoff hkL hmw hown hnm hfm hfm' hfe hef he hnl hv2 hus hus2 hus3 hus4 hnmE hdr hdl hsy2 hbb hx
      by_cases hkk : k < kn
      · obtain ⟨bk, ok, rfl, hck⟩ := hkr.at hkk
        rw [HX.out] at hck
        clear hkr
        go_wp2_with fail
        go_still_tail 19, (by kernel_rfl)
        go_wp2_with fail
        refine (HCut.out _ (by omega) (by omega)).mono ?_
        rintro en wc ⟨rfl, e', h1, h2, h3, hd, hc⟩
        have he' := HM.out e'
        have HS := Lib.hid (HStep.out wc e' _ (by omega) h1 h2 h3 hd hc)
        obtain ⟨ao', fc', hv', hg1, hg2, hg3, _⟩ := (hd.fs.row e' he').rd
        have f0' := hd.f0 he'
        have y1' := hd.fz he' 1
        have f1' := hd.f1 he'
        rw [hv'] at f0'
        rw [h2] at f0' y1' f1' HS
        generalize e'.f.da.length = dl' at *
        clear hd hc h1 h3 hv' he' h2
        go_wp2_with fail
        go_roundw
        case rel => exact ⟨k + 1, by omega, by go_num, HS.out⟩
        case measure => simp [intOf]; omega
      · obtain rfl : x = 0 := by
          rw [← HX.out, List.getD_eq_getElem?_getD, List.getElem?_eq_none (by rw [HKl.out]; omega)]; rfl
        clear hkr
        go_wp2_with fail
        go_still_tail 19, (by kernel_rfl)
        go_wp2_with fail
        refine (HCut.out _ (by omega) (by omega)).mono ?_
        rintro en wc ⟨rfl, e', h1, h2, h3, hd, hc⟩
        have he' := HM.out e'
        have HS := Lib.hid (HStep.out wc e' _ (by omega) h1 h2 h3 hd hc)
        obtain ⟨ao', fc', hv', hg1, hg2, hg3, _⟩ := (hd.fs.row e' he').rd
        have f0' := hd.f0 he'
        have y1' := hd.fz he' 1
        have f1' := hd.f1 he'
        rw [hv'] at f0'
        rw [h2] at f0' y1' f1' HS
        generalize e'.f.da.length = dl' at *
        clear hd hc h1 h3 hv' he' h2
        go_wp2_with fail
        go_roundw
        case rel => exact ⟨k + 1, by omega, by go_num, HS.out⟩
        case measure => simp [intOf]; omega
    · obtain rfl : k = n := by omega
      have HC := Lib.hid (by rw [← HLn.out] at hcr; exact CrR.done hcr)
      obtain ⟨Lk, hi, hin, hoff⟩ := hcr
      have c6 := hi.c6; have c7 := hi.c7; have c8 := hi.c8; have c9 := hi.c9
      have z6 := hi.z 6; have z7 := hi.z 7; have z8 := hi.z 8; have z9 := hi.z 9
      clear hi hin hoff
      go_wp2_with fail
      go_ret
      obtain ⟨L', h1, h2, h3⟩ := HC.out
      exact ⟨rfl, L', h1, h2, (OffS.of_ext HE.out).trans h3⟩

end Go.Proofs.Ytjllhjlmjbpinaa
namespace Go.Proofs.Ytjllhjlmjbpinaa
open Go.RowKit

theorem usedM_upd {L : List FM} {nm : List UInt8} {f : FM → FM} (ho : OrdN FM.nm L) {e : FM} (hf : findN FM.nm nm L = some e) : usedM (updN FM.nm nm f L) + e.da.length = usedM L + (f e).da.length := sumN_upd _ ho hf
theorem usedM_del {L : List FM} {nm : List UInt8} (ho : OrdN FM.nm L) {e : FM} (hf : findN FM.nm nm L = some e) : usedM (delN FM.nm nm L) + e.da.length = usedM L := sumN_del _ ho hf
theorem usedM_ins (x : FM) (L : List FM) : usedM (insN FM.nm x L) = x.da.length + usedM L := sumN_ins _ x L
theorem usedM_mem {L : List FM} {e : FM} (h : e ∈ L) : e.da.length ≤ usedM L := sumN_mem (fun f : FM => f.da.length) h

theorem okD.tick {σ : DM} (h : okD σ) : okD (tickM σ) :=
  ⟨h.cap0, h.cap1, h.used, h.ord, h.sy, h.many, (by show 0 ≤ max (σ.left - 1) 0; omega), (fun hf => by have := h.idle hf; show max (σ.left - 1) 0 = 0; omega), h.keep, by have := h.left1; show max (σ.left - 1) 0 ≤ _; omega⟩
theorem okD.sink {σ : DM} (h : okD σ) : okD (sinkM σ) := crash_ok h _
theorem okD.files {σ : DM} (h : okD σ) {L : List FM} (hu : (usedM L : Int) ≤ σ.cap) (ho : OrdN FM.nm L) (hs : ∀ f ∈ L, f.sy ≤ f.da.length) (hm : L.length ≤ 400) : okD { σ with L := L } :=
  ⟨h.cap0, h.cap1, hu, ho, hs, hm, h.left, h.idle, h.keep, h.left1⟩
theorem okD.upd {σ : DM} (h : okD σ) {nm : List UInt8} {f : FM → FM} {e : FM} (hf : findN FM.nm nm σ.L = some e) (hu : (usedM (updN FM.nm nm f σ.L) : Int) ≤ σ.cap) (hn : ∀ y, (f y).nm = y.nm) (hs : (f e).sy ≤ (f e).da.length) : okD { σ with L := updN FM.nm nm f σ.L } := by
  refine h.files hu (updN_ord h.ord fun y hy => by rw [hn, hy]) (fun y hy => ?_) (by rw [updN_length]; exact h.many)
  rcases (mem_updN h.ord hf).1 hy with rfl | ⟨hy, _⟩
  · exact hs
  · exact h.sy y hy
theorem okD.app {σ : DM} (h : okD σ) {nm s : List UInt8} {e : FM} (hf : findN FM.nm nm σ.L = some e) (hu : (usedM σ.L : Int) + s.length ≤ σ.cap) : okD (appM σ nm s) ∧ usedM (appM σ nm s).L = usedM σ.L + s.length := by
  have h1 := usedM_upd (f := fun f : FM => { f with da := f.da ++ s }) h.ord hf
  have h2 := h.sy e (findN_some hf).1
  have h3 : ({ e with da := e.da ++ s } : FM).da.length = e.da.length + s.length := List.length_append
  have h4 : usedM (updN FM.nm nm (fun f : FM => { f with da := f.da ++ s }) σ.L) = usedM σ.L + s.length := by omega
  exact ⟨h.upd hf (by rw [h4]; omega) (fun y => rfl) (by show e.sy ≤ (e.da ++ s).length; rw [List.length_append]; omega), h4⟩
theorem okD.create {σ : DM} (h : okD σ) {nm : List UInt8} (hno : findN FM.nm nm σ.L = none) (hm : σ.L.length < 400) : okD { σ with L := insN FM.nm ⟨nm, [], 0⟩ σ.L } := by
  refine h.files (by rw [usedM_ins]; have := h.used; simpa using this) (insN_ord h.ord (findN_none hno)) (fun f hf => ?_) (by rw [insN_length]; omega)
  rcases mem_insN.1 hf with rfl | hf
  · exact Nat.le_refl _
  · exact h.sy f hf
theorem okD.tell {σ : DM} (h : okD σ) : okD (tellM σ) := ⟨h.cap0, h.cap1, h.used, h.ord, h.sy, h.many, h.left, h.idle, h.keep, h.left1⟩
theorem okD.sync {σ : DM} (h : okD σ) {nm : List UInt8} {e : FM} (hf : findN FM.nm nm σ.L = some e) : okD { σ with L := updN FM.nm nm (fun f => { f with sy := f.da.length }) σ.L } ∧ usedM (updN FM.nm nm (fun f => { f with sy := f.da.length }) σ.L) = usedM σ.L := by
  have h1 := usedM_upd (f := fun f : FM => { f with sy := f.da.length }) h.ord hf
  have h4 : usedM (updN FM.nm nm (fun f : FM => { f with sy := f.da.length }) σ.L) = usedM σ.L := by
    have : ({ e with sy := e.da.length } : FM).da.length = e.da.length := rfl
    omega
  exact ⟨h.upd hf (by rw [h4]; exact h.used) (fun y => rfl) (Nat.le_refl _), h4⟩
theorem delN_le (nm : List UInt8) (L : List FM) : (delN FM.nm nm L).length ≤ L.length := List.length_filter_le _ _
theorem usedM_del_le {L : List FM} (nm : List UInt8) (ho : OrdN FM.nm L) : usedM (delN FM.nm nm L) ≤ usedM L := by
  cases hf : findN FM.nm nm L with
  | none => rw [delN_none hf]; exact Nat.le_refl _
  | some e => have := usedM_del ho hf; omega
theorem okD.delete {σ : DM} (h : okD σ) (nm : List UInt8) : okD { σ with L := delN FM.nm nm σ.L } :=
  h.files (by have := usedM_del_le nm h.ord; have := h.used; omega) (delN_ord h.ord) (fun f hf => h.sy f (mem_delN.1 hf).1) (by have := delN_le nm σ.L; have := h.many; omega)
theorem findN_del_ne {L : List FM} {a b : List UInt8} (ho : OrdN FM.nm L) {f : FM} (hf : findN FM.nm a L = some f) (hne : a ≠ b) : findN FM.nm a (delN FM.nm b L) = some f :=
  findN_of (delN_ord ho) (mem_delN.2 ⟨(findN_some hf).1, fun e => hne ((findN_some hf).2.symm.trans e)⟩) (findN_some hf).2
theorem findN_del_self {nm : List UInt8} (L : List FM) : findN FM.nm nm (delN FM.nm nm L) = none := findN_of_none fun y hy => (mem_delN.1 hy).2
theorem okD.rename {σ : DM} (h : okD σ) {a b : List UInt8} {f : FM} (hf : findN FM.nm a σ.L = some f) (hne : a ≠ b) : okD { σ with L := renL a b f σ.L } ∧ usedM (renL a b f σ.L) = usedM (delN FM.nm b σ.L) := by
  have o1 : OrdN FM.nm (delN FM.nm b σ.L) := delN_ord h.ord
  have f1 := findN_del_ne h.ord hf hne
  have u1 := usedM_del o1 f1
  have u2 := usedM_del_le b h.ord
  have l1 := delN_length o1 f1
  have l2 := delN_le b σ.L
  have hu : usedM (renL a b f σ.L) = usedM (delN FM.nm b σ.L) := by
    unfold renL; rw [usedM_ins]
    show f.da.length + _ = _
    omega
  refine ⟨h.files ?_ ?_ ?_ ?_, hu⟩
  · rw [hu]; have := h.used; omega
  · exact insN_ord (delN_ord o1) fun y hy => (mem_delN.1 (mem_delN.1 hy).1).2
  · intro y hy
    rcases mem_insN.1 hy with rfl | hy
    · exact h.sy f (findN_some hf).1
    · exact h.sy y (mem_delN.1 (mem_delN.1 hy).1).1
  · unfold renL; rw [insN_length]; have := h.many; omega
theorem okD.start {σ : DM} (h : okD σ) (k : Int) : okD { σ with down := false, starts := k } := ⟨h.cap0, h.cap1, h.used, h.ord, h.sy, h.many, h.left, h.idle, h.keep, h.left1⟩
theorem okD.failing {σ : DM} (h : okD σ) {n : Int} (hn : 0 ≤ n) (hn1 : n ≤ 9223372036854775807) {ks : List Int} (hk : ks.length ≤ 1000000) : okD { σ with fail := true, left := n, keep := ks } := ⟨h.cap0, h.cap1, h.used, h.ord, h.sy, h.many, hn, (fun hf => by cases hf), hk, hn1⟩
theorem overB_length (l s : List UInt8) (k : Nat) (h : k < l.length) : (overB l s k).length = l.length := by simp [overB]; omega
theorem overB_out (l s : List UInt8) (k : Nat) (h : l.length ≤ k) : overB l s k = l := by
  unfold overB
  rw [List.take_of_length_le h, List.drop_eq_nil_of_le (by omega), show l.length - k = 0 by omega]; simp
theorem overB_len (l s : List UInt8) (k : Nat) : (overB l s k).length = l.length := by
  by_cases h : k < l.length
  · exact overB_length l s k h
  · rw [overB_out l s k (by omega)]
theorem okD.spoil {σ : DM} (h : okD σ) {nm s : List UInt8} {k : Nat} {e : FM} (hf : findN FM.nm nm σ.L = some e) : okD { σ with L := updN FM.nm nm (fun f => { f with da := overB f.da s k }) σ.L } ∧ usedM (updN FM.nm nm (fun f => { f with da := overB f.da s k }) σ.L) = usedM σ.L := by
  have h1 := usedM_upd (f := fun f : FM => { f with da := overB f.da s k }) h.ord hf
  have h2 : ({ e with da := overB e.da s k } : FM).da.length = e.da.length := overB_len _ _ _
  have h4 : usedM (updN FM.nm nm (fun f : FM => { f with da := overB f.da s k }) σ.L) = usedM σ.L := by omega
  exact ⟨h.upd hf (by rw [h4]; exact h.used) (fun y => rfl) (by show e.sy ≤ (overB e.da s k).length; rw [overB_len]; exact h.sy e (findN_some hf).1), h4⟩
theorem okD.cut {σ : DM} (h : okD σ) {nm : List UInt8} {n : Nat} {e : FM} (hf : findN FM.nm nm σ.L = some e) : okD { σ with L := updN FM.nm nm (cutF n) σ.L } := by
  have h1 := usedM_upd_le (L := σ.L) (nm := nm) (h := cutF n) fun y => by simp [cutF]; omega
  refine h.upd hf (by have := h.used; omega) (fun y => rfl) ?_
  simp [cutF]; omega

end Go.Proofs.Ytjllhjlmjbpinaa
