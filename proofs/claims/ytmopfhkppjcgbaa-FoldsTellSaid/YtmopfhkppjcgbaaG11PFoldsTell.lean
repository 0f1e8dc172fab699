/- Walks: the state of bytes. Walks: a state as the document's. -/
import Derived.Test.YtmopfhkppjcgbaaChecked
import Derived.Test.YtmopfhkppjcgbaaG10PFoldsTell
import Derived.Test.YtmopfhkppjcgbaaG8PFoldsTell
import Derived.Laws.ResultCell
import Derived.Test.YtmopfhkppjcgbaaG9PFoldsTell
set_option linter.unusedVariables false
set_option linter.unusedSimpArgs false
namespace Go.Proofs.Ytmopfhkppjcgbaa
open Go.RowKit

theorem Try.infoKi : (Try.prog.info? 54).map (fun i => (i.zero, i.size, i.bytes)) = some (some (.agg #[.string ⟨#[]⟩, .int .i64 0, .int .i64 0]), 3, 32) := by kernel_rfl
theorem kc_one' (k : Kd) : ∀ u ∈ kc k, u.oneCell' = true := by
  intro u hu
  unfold kc at hu
  simp only [List.mem_cons, List.not_mem_nil, or_false] at hu
  rcases hu with rfl | rfl | rfl <;> rfl

/-- hands back this state and this error's number, of memory of the call's own -/
def RetSE (w : World) (e : TypeId) (g : GotS) (er : Ending) (w' : World) : Prop :=
  ∃ v, er = .returned (.tuple #[.agg #[.int .i64 g.nx, v], .int .i64 g.en]) ∧ w'.ownsRow w.heap.size e 3 v g.K.length (kcs g.K) ∧ Ext w w'

theorem ext_set2 {w w1 : World} (h : Ext w w1) (g : Nat) (hg : w.heap.size ≤ g) (a b : Value) : Ext w ((w1.setCell ⟨g, 0, none⟩ a).setCell ⟨g, 1, none⟩ b) :=
  Below.setCell (Below.setCell h hg a) hg b

end Go.Proofs.Ytmopfhkppjcgbaa
namespace Go.Proofs.Ytmopfhkppjcgbaa
open Go.RowKit

theorem Try.infoKd : (Try.prog.info? 55).map (fun i => (i.zero, i.size, i.bytes)) = some (some (.agg #[.string ⟨#[]⟩, .int .i64 0, .int .i64 0]), 3, 32) := by kernel_rfl

theorem kc_one (k : Kd) : ∀ u ∈ kc k, u.oneCell' = true := by
  intro u hu
  unfold kc at hu
  simp only [List.mem_cons, List.not_mem_nil, or_false] at hu
  rcases hu with rfl | rfl | rfl <;> rfl

/-- hands back this state, of memory of the call's own -/
def RetS (w : World) (e : TypeId) (nx : Int) (K : List Kd) (er : Ending) (w' : World) : Prop :=
  ∃ v, er = .returned (.agg #[.int .i64 nx, v]) ∧ w'.ownsRow w.heap.size e 3 v K.length (kcs K) ∧ Ext w w'

set_option maxRecDepth 100000 in
set_option maxHeartbeats 6400000 in
theorem doc_c (nx : Int) (ao : Option Addr) (n cap : Nat) (K : List Kd) (w : World) (hx : Kds w ao n cap K) (hn : n ≤ 1000000) :
    Calls Try.prog 7 #[.agg #[.int .i64 nx, .slice ao n cap]] w (RetS w 55 nx K) := by
  have Hx := Lib.hid hx
  have b1 := hx.fits; have b2 := hx.bound
  have HLen := Lib.hid hx.len
  clear hx
  go_enter Try.func7, Try.ntmps7
  obtain ⟨i, hi, hz, hsize, hby⟩ := info_parts Try.infoKd
  have HI := Lib.hid hi; have HZ := Lib.hid hz; have HSz := Lib.hid hsize; have HBy := Lib.hid hby
  clear hi hz hsize hby
  go_wp2_with fail
  have k0 : Blk (((w.alloc (.cells #[.int .i64 nx, .slice ao n cap] 24)).alloc (.cells #[.int .i64 0, .slice none 0 0] 31)).alloc (.cells #[.int .i64 nx, .slice none 0 0] 31)) w.heap.size 24 #[.int .i64 nx, .slice ao n cap] := (Blk.new _ _ _).ext (ext_a2 _ _ _)
  have k1 := (Blk.new (w.alloc (.cells #[.int .i64 nx, .slice ao n cap] 24)) 31 #[.int .i64 0, .slice none 0 0]).ext (ext_a1 _ (.cells #[.int .i64 nx, .slice none 0 0] 31))
  have k2 := Blk.new ((w.alloc (.cells #[.int .i64 nx, .slice ao n cap] 24)).alloc (.cells #[.int .i64 0, .slice none 0 0] 31)) 31 #[.int .i64 nx, .slice none 0 0]
  simp only [World.size_alloc] at k1 k2
  have HK0 := Lib.hid k0; have HK1 := Lib.hid k1; have HK2 := Lib.hid k2
  have HE3 := Lib.hid (ext_a3 w (.cells #[.int .i64 nx, .slice ao n cap] 24) (.cells #[.int .i64 0, .slice none 0 0] 31) (.cells #[.int .i64 nx, .slice none 0 0] 31))
  clear k0 k1 k2
  go_loopw [4] (fun i w' => ∃ (k : Nat) (v : Value), k ≤ n ∧ i = .int .i64 k ∧ Blk w' w.heap.size 24 #[.int .i64 nx, .slice ao n cap] ∧ Blk w' (w.heap.size + 1) 31 #[.int .i64 0, .slice none 0 0] ∧ Blk w' (w.heap.size + 1 + 1) 31 #[.int .i64 nx, v] ∧ w'.ownsRow (w.heap.size + 1 + 1) 55 3 v k (kcs (K.take k)) ∧ Ext w w') (fun i _ => n - (intOf i).toNat)
  case atStart => exact ⟨0, _, Nat.zero_le _, rfl, HK0.out, HK1.out, HK2.out, World.ownsRow_nil _ _ _ _, HE3.out⟩
  case round =>
    obtain ⟨k, v, hk, rfl, hk0, hk1, hk2, hrow, hb⟩ := hrel
    obtain ⟨av, cv, rfl⟩ := row_slice hrow
    have K0 := Lib.hid hk0; have K1 := Lib.hid hk1; have K2 := Lib.hid hk2; have HRow := Lib.hid hrow; have Hb := Lib.hid hb
    have c1 : wr.cell? ⟨w.heap.size, 1, none⟩ = some (.slice ao n cap) := hk0.cell 1
    have c2 : wr.cell? ⟨w.heap.size + 1 + 1, 1, none⟩ = some (.slice av k cv) := hk2.cell 1
    have z2 : wr.frozen? ⟨w.heap.size + 1 + 1, 1, none⟩ = false := hk2.free 1
    have c20 : wr.cell? ⟨w.heap.size + 1 + 1, 0, none⟩ = some (.int .i64 nx) := hk2.cell 0
    have hszw : w.heap.size + 1 + 1 < wr.heap.size := hk2.lt
    clear hk0 hk1 hk2 hrow hb
    by_cases hlt : k < n
    · obtain ⟨b, off, rfl, e0, e1, e2⟩ := (Hx.out.ext Hb.out).at hlt
      have HTk := Lib.hid (take_succ_kd K k (by rw [HLen.out]; exact hlt))
      obtain ⟨q, hq⟩ : ∃ q, K.getD k kd0 = q := ⟨_, rfl⟩
      rw [hq] at e0 e1 e2 HTk
      clear hq
      obtain ⟨t, mm, bb⟩ := q
      go_wp2_with fail
      have HEW : Hid (Ext w ((wr.alloc (.cells #[.string ⟨t.toArray⟩, .int .i64 mm, .int .i64 bb] 55)).drew)) := Lib.hid (Hb.out.trans (Ext.drew (ext_a1 _ _)))
      have HKW : Hid (Blk ((wr.alloc (.cells #[.string ⟨t.toArray⟩, .int .i64 mm, .int .i64 bb] 55)).drew) (w.heap.size + 1 + 1) 31 #[.int .i64 nx, .slice av k cv]) := Lib.hid (K2.out.ext (ext_a1 _ _)).drew
      have HKV : Hid (Blk ((wr.alloc (.cells #[.string ⟨t.toArray⟩, .int .i64 mm, .int .i64 bb] 55)).drew) (w.heap.size + 1) 31 #[.int .i64 0, .slice none 0 0]) := Lib.hid (K1.out.ext (ext_a1 _ _)).drew
      have HKU : Hid (Blk ((wr.alloc (.cells #[.string ⟨t.toArray⟩, .int .i64 mm, .int .i64 bb] 55)).drew) w.heap.size 24 #[.int .i64 nx, .slice (some ⟨b, off, none⟩) n cap]) := Lib.hid (K0.out.ext (ext_a1 _ _)).drew
      have HRW : Hid (((wr.alloc (.cells #[.string ⟨t.toArray⟩, .int .i64 mm, .int .i64 bb] 55)).drew).ownsRow (w.heap.size + 1 + 1) 55 3 (.slice av k cv) k (kcs (K.take k))) := Lib.hid (row_drew (row_ext HRow.out (ext_a1 _ _)))
      have HAp := Lib.hid (HKW.out.apart HRW.out (by decide))
      have HAq := Lib.hid (HKV.out.apart HRW.out (by decide))
      have HAr := Lib.hid (HKU.out.apart HRW.out (by decide))
      go_region_law (refine step_append_lies _ rfl (.tmp 16) (.tmp 22) 29 rfl (w.heap.size + 1 + 1) 55 i _ 3 32 Try.underlying29 HI.out HZ.out HSz.out HBy.out (by decide) (by decide) _ k (kcs (K.take k)) (by simp [Act.eval]) HRW.out ⟨wr.heap.size, 0, none⟩ 1 1 (kc ⟨t, mm, bb⟩) (by simp [Act.eval]) rfl (news_drew _ _ _) (kc_one _) (by decide) (by unfold maxLen; omega) (by omega) (by simp; omega) _ rfl ?_; intro g cap1 w1 hown hgrow hat hlt2; have HB2 := Lib.hid (HKW.out.same (hgrow.block _ HKW.out.lt (fun e => HAp.out e.symm))); have HB1 := Lib.hid (HKV.out.same (hgrow.block _ HKV.out.lt (fun e => HAq.out e.symm))); have HB0 := Lib.hid (HKU.out.same (hgrow.block _ HKU.out.lt (fun e => HAr.out e.symm))); have HOw := Lib.hid hown; have HGr := Lib.hid hgrow; have m1 : w1.cell? ⟨w.heap.size + 1 + 1, 1, none⟩ = some (.slice av k cv) := HB2.out.cell 1; have m2 := HB2.out.free 1; clear hown hgrow hat)
      all_goals
        have hbel : Below w.heap.size w w1 := (HEW.out : Below w.heap.size w _).grown HGr.out HEW.out.size (fun q hq => Nat.le_trans (by omega) (row_lt HRW.out q hq).1)
        have HBel := Lib.hid hbel
        clear hbel
        go_wp2_with fail
        go_roundw
        case rel =>
          refine ⟨k + 1, .slice (some ⟨g, 0, none⟩) (k + 1) cap1, by omega, by go_num, HB0.out.same (Below.heap_setCell _ _ _ _ (show w.heap.size ≠ w.heap.size + 1 + 1 by omega)), HB1.out.same (Below.heap_setCell _ _ _ _ (show w.heap.size + 1 ≠ w.heap.size + 1 + 1 by omega)), ?_, ?_, Below.setCell HBel.out (p := ⟨w.heap.size + 1 + 1, 1, none⟩) (by show _ ≤ w.heap.size + 1 + 1; omega) _⟩
          · have := HB2.out.set 1 (.slice (some ⟨g, 0, none⟩) (k + 1) cap1)
            exact this
          · rw [HTk.out, kcs_snoc]
            exact row_setOther HOw.out _ (HB2.out.apart HOw.out (by decide))
        case measure => simp [intOf]; omega
    · have hkn : k = n := by omega
      subst hkn
      have ht : K.take k = K := List.take_of_length_le (by rw [HLen.out]; omega)
      rw [ht] at HRow
      have j1 : wr.cell? ⟨w.heap.size + 1, 1, none⟩ = some (.slice none 0 0) := K1.out.cell 1
      have j0 : wr.cell? ⟨w.heap.size + 1, 0, none⟩ = some (.int .i64 0) := K1.out.cell 0
      have y1 := K1.out.free 1; have y0 := K1.out.free 0
      have HLk := Lib.hid HLen.out
      clear ht
      go_wp2_with fail
      refine bodyPost_ret (v := .agg #[.int .i64 nx, .slice av k cv]) (by simp only [results, Try.results7]; go_simp; first | done | exact ⟨rfl, rfl⟩) rfl ?_
      refine ⟨.slice av k cv, rfl, ?_, ?_⟩
      · have h1 : wr.ownsRow w.heap.size 55 3 (.slice av k cv) K.length (kcs K) := by rw [HLk.out]; exact row_base HRow.out (by omega)
        have hne : (Value.slice av k cv).ownBlock ≠ some (w.heap.size + 1) := K1.out.apart HRow.out (by decide)
        refine row_setOther (row_setOther h1 _ hne) _ hne
      · exact Below.setCell (Below.setCell Hb.out (p := ⟨w.heap.size + 1, 0, none⟩) (by show _ ≤ w.heap.size + 1; omega) _) (p := ⟨w.heap.size + 1, 1, none⟩) (by show _ ≤ w.heap.size + 1; omega) _

end Go.Proofs.Ytmopfhkppjcgbaa
