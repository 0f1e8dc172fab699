/- Walks: the names of a disk's files. -/
import Derived.Test.YtoibjhoebjcfeaaZA
import Derived.Test.YtoibjhoebjcfeaaZH
import Derived.Shelf.Slices.In.SortNone
import Derived.Sort.OwnSorted
import Derived.Sort.KeysCollected
import Derived.Lib.OwnBridge
namespace Go.Proofs.Ytoibjhoebjcfeaa
open Go.RowKit Go.Maps Go.Sort

theorem names_sorted {L : List FE} (h : OrdN FE.nm L) : (L.map FE.nm).mergeSort (fun x y => decide (x ≤ y)) = L.map FE.nm := by
  refine List.mergeSort_of_pairwise (List.pairwise_map.2 (h.imp fun {x y} hxy => ?_))
  rw [bytesBefore_lt, decide_eq_true_eq] at hxy
  rw [decide_eq_true_eq]
  exact List.le_of_lt hxy

theorem sort_names {L : List FE} (h : OrdN FE.nm L) {ss : List (List UInt8)} (hp : ss.Perm (strKeys (dmap L))) : ss.mergeSort (fun x y => decide (x ≤ y)) = L.map FE.nm := by
  rw [dmap_keys] at hp
  exact (mergeSort_of_perm hp).trans (names_sorted h)

theorem FS.nm_le {w : World} {m : Nat} {L : List FE} (h : FS w m L) {e : FE} (he : e ∈ L) : e.f.nm.length ≤ 9223372036854775807 := by
  have := strKeys_le h.map Try.underlying9 e.f.nm (by rw [dmap_keys]; exact List.mem_map.2 ⟨e, he, rfl⟩)
  unfold maxLen at this
  exact this

/-- names in new memory are handed back -/
def RetN (w : World) (N : List (List UInt8)) (e : Ending) (w' : World) : Prop :=
  ∃ v, e = .returned v ∧ w'.ownsRow w.heap.size 9 1 v N.length (N.map encStr) ∧ Ext w w'

theorem RetN.out {w w' : World} {N : List (List UInt8)} {e : Ending} (h : RetN w N e w') : ∃ ao cap, e = .returned (.slice ao N.length cap) ∧ Own w' w.heap.size 9 1 (.slice ao N.length cap) N.length (N.map encStr) ∧ Ext w w' := by
  obtain ⟨v, rfl, h1, h2⟩ := h
  obtain ⟨ao, cap, rfl⟩ := row_slice h1
  exact ⟨ao, cap, rfl, Own.of_row h1, h2⟩

theorem RetN.mk {w W : World} {N ss : List (List UInt8)} {a : Option Addr} {cap : Nat} (h : W.ownsRow w.heap.size 9 1 (.slice a ss.length cap) ss.length ((ss.mergeSort (fun x y => decide (x ≤ y))).map encStr))
    (hs : ss.mergeSort (fun x y => decide (x ≤ y)) = N) (hl : ss.length = N.length) (hb : Ext w W) : RetN w N (.returned (.slice a ss.length cap)) W := by
  rw [hs, hl] at h
  rw [hl]
  exact ⟨_, rfl, h, hb⟩

theorem info_s : (Try.prog.info? 9).map (fun i => (i.zero, i.size, i.bytes)) = some (some (.string ⟨#[]⟩), 1, 16) := by kernel_rfl

set_option maxRecDepth 100000
set_option maxHeartbeats 1600000

theorem names_no (w : World) (p : Option Addr) (h : NoD w p) : Calls Try.prog 26 #[.pointer p] w fun e w' => e = .returned (.slice none 0 0) ∧ w = w' := by
  have H := Lib.hid h; clear h
  go_enter Try.func26, Try.ntmps26
  go_wp2_with fail
  refine (none_no _ p H.out).mono ?_
  rintro e w' ⟨rfl, rfl⟩
  go_wp2_with fail
  go_ret
  exact ⟨rfl, rfl⟩

theorem names_c (w : World) (g m : Nat) (L : List FE) (c0 : w.cell? ⟨g, 0, none⟩ = some (.bool true)) (c3 : w.cell? ⟨g, 3, none⟩ = some (.map (some m))) (hfs : FS w m L) (hlen : L.length ≤ 1000000) :
    Calls Try.prog 26 #[.pointer (some ⟨g, 0, none⟩)] w (RetN w (L.map FE.nm)) := by
  obtain ⟨i0, hi, hz0, hz1, hz2⟩ := info_parts info_s
  have hown := hfs.map
  have HO := Lib.hid hfs.ord
  have hsz : Maps.size (dmap L) = L.length := dmap_size L
  have H := Lib.hid (none_at w g true c0)
  obtain ⟨D, hD⟩ : ∃ D, dmap L = D := ⟨_, rfl⟩
  have HD := Lib.hid hD
  rw [hD] at hown hsz
  have HS := Lib.hid hsz
  clear hfs hsz hD c0
  have hbl := hown.lt
  go_enter Try.func26, Try.ntmps26
  go_wp2_with fail
  refine H.out.mono ?_
  rintro e w' ⟨rfl, rfl⟩
  go_wp2_with (at_range; refine wpList_range_own _ rfl _ 59 rfl 9 72 lawS Try.underlying59 _ m L.length D rfl hown ?_; intro w0 hrg0 hg0 hs0)
  have HS0 := Lib.hid hs0
  clear hs0
  go_frame
  go_loopw [3] (fun v wr => ∃ (left : Lit → Bool) (cnt : Nat) (ss : List (List UInt8)), wr.ranges Try.prog 9 ptrE m w.heap.size L.length D left cnt ∧ ss.length + cnt ≤ L.length ∧
      wr.ownsRow w.heap.size 9 1 v ss.length (ss.map encStr) ∧ Collected D left ss ∧ Below w.heap.size w wr)
    (fun _ wr => wr.rangeLeft m w.heap.size)
  case atStart =>
    exact ⟨_, _, [], hrg0, by simp [HS.out], World.ownsRow_nil _ _ _ _, Collected.start D, (Below.refl _ _).grown hg0 (Nat.le_refl _) (fun j hj => by cases hj)⟩
  case round =>
    obtain ⟨left, cnt, ss, hrg, hcs, hrow, hC, hnx⟩ := hrel
    go_wp2_with (at_next; refine wpList_next_ranges _ rfl _ rfl 9 lawS ptrE encStr (fun x : Value => x) (fun key kl hk => by obtain ⟨x, hx, _⟩ := Maps.keyOf_str Try.underlying9 hk; exact ⟨x, hx⟩) (fun v y hv => ⟨v, rfl⟩) m w.heap.size L.length _ _ _ rfl hrg ?_ ?_)
    · intro hc0 hl0
      have hp := hC.perm hrg.owns lawS Try.underlying9 hl0
      rw [← HD.out] at hp
      have HSn := Lib.hid (sort_names HO.out hp)
      have HLn := Lib.hid (show ss.length = L.length by have := hp.length_eq; rw [dmap_keys] at this; simpa using this)
      clear hp hl0
      rcases hrow.2 with ⟨rfl, hnil⟩ | ⟨gb, cap, cur, rfl, hbase, hb, h1, h2, h3, h4⟩
      · have HL := Lib.hid (show L = [] from List.eq_nil_of_length_eq_zero (by have := HLn.out; omega))
        clear hnil
        have hs := Any.slices_Sort_string_none Try.lays190 none 0 wr
        have HX := Lib.hid hs
        clear hs
        go_wp2_with fail
        refine HX.out.mono ?_
        rintro e w' ⟨rfl, rfl⟩
        go_wp2_with fail
        go_ret
        refine ⟨_, rfl, ?_, hnx⟩
        rw [HL.out]
        exact World.ownsRow_nil _ _ _ _
      · have hH : Holds encStr wr gb 0 ss.toArray := holds_of_block hb (by simpa using h4)
        have hgl : gb < wr.heap.size := (Array.getElem?_eq_some_iff.1 hb).1
        have HX := Lib.hid (Any.slices_Sort_string Try.lays190 gb 0 cap ss wr hH hgl (by omega))
        have HR := Lib.hid (fun (nn : Nat) (os : Array Obj) => ownsRow_sorted (n := nn) (os := os) (ts := ss.mergeSort fun x y => decide (x ≤ y)) (List.length_mergeSort ss) hbase hb h1 h2 h3)
        clear hH hb h4 h3
        go_wp2_with fail
        refine HX.out.mono ?_
        rintro e w' ⟨rfl, nn, os, rfl⟩
        go_wp2_with fail
        go_ret
        exact RetN.mk (HR.out nn os) HSn.out (by rw [HLn.out, List.length_map]) (hnx.grown (grownBy_sorted _) hnx.size (fun j hj => by cases hj; exact hbase))
    · intro x c kl yd yp w2 cnt2 hkey hlk hv hat hrg2 hlt hg2 hs2 hen
      obtain ⟨x', ex, rfl, _⟩ := Maps.keyOf_str Try.underlying9 hkey
      obtain rfl : x = x' := encStr_inj ex
      have hrow2 := hrow.kept hg2 (Or.inr (row_ne_iter hrow hrg).symm)
      clear hs2
      go_wp2_with (at_builtin; refine wpList_append_own _ rfl _ _ 46 rfl w.heap.size 9 i0 (.string ⟨#[]⟩) 1 16 Try.underlying46 hi hz0 hz1 hz2 rfl (by decide) _ _ _ rfl (hrow2.alloc _) ⟨w2.heap.size, 0, none⟩ 1 1 [encStr x] rfl rfl (cell_one_new _ _ _) (by simp [Value.oneCell', encStr]) (by unfold maxLen at *; omega) (by omega) (by have := hnx.size; have := hg2.size; simp; omega) ?_; intro v' w3 hown' hg3 hnil3)
      have hrg3 := (hrg2.alloc _).kept hg3 (row_ne_low hrow2 hbl) (row_ne_iter hrow2 hrg2)
      go_roundw
      case rel =>
        refine ⟨_, cnt2, ss ++ [x], hrg3, by simp; omega, by simpa using hown', hC.step hlk hat, ?_⟩
        exact ((hnx.grown hg2 hnx.size (fun j hj => by cases hj; exact Nat.le_refl _)).alloc (by have := hnx.size; have := hg2.size; omega) _).grown hg3 (by have := hnx.size; have := hg2.size; simp; omega) (fun j hj => (hrow2.lt j hj).1)
      case measure => rw [hrg3.left_eq, hrg.left_eq]; exact hlt

end Go.Proofs.Ytoibjhoebjcfeaa
