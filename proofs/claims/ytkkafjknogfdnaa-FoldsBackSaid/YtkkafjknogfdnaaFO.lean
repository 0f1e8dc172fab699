/- Walks: the chapter's states, to their end. -/
import Derived.Test.YtkkafjknogfdnaaChecked
import Derived.Test.YtkkafjknogfdnaaFN
import Derived.Laws.ResultCell
import Derived.WalkSpells
namespace Go.Proofs.Ytkkafjknogfdnaa
open Go.RowKit

def toldV (s t d : List UInt8) (v : Int) (k : FloatKind) (b : Nat) : Value := .agg #[.string ⟨s.toArray⟩, .int .i64 v, .string ⟨t.toArray⟩, .string ⟨d.toArray⟩, .float k b]
def toldC (s t d : List UInt8) (v : Int) (k : FloatKind) (b : Nat) : Array Value := #[.string ⟨s.toArray⟩, .int .i64 v, .string ⟨t.toArray⟩, .string ⟨d.toArray⟩, .float k b]

set_option maxRecDepth 100000 in
set_option maxHeartbeats 6400000 in
theorem step0_c (s t d : List UInt8) (k : FloatKind) (b : Nat) (g : Nat) (w : World) (h : Blk w g 55 #[.int .i64 0, .slice none 0 0]) (_ht : t.length ≤ 1000000) (_hd : (d.length : Int) ≤ 1000000) (hok : echeckN t d = 0) :
    Calls Try.prog 75 #[.pointer (some ⟨g, 0, none⟩), toldV s t d 0 k b] w fun e w' => e = .returned (.int .i64 0) ∧ (∃ q c, Blk w' g 55 #[.int .i64 1, .slice (some ⟨q, 0, none⟩) 1 c] ∧ w'.ownsRow w.heap.size 103 3 (.slice (some ⟨q, 0, none⟩) 1 c) 1 (kc ⟨t, 1, d.length⟩)) ∧ Off g w w' := by
  have hg := h.lt
  have HE1 := Lib.hid (ext_a1 w (.cells (toldC s t d 0 k b) 72))
  have H1 := Lib.hid (h.ext HE1.out)
  have HEv := Lib.hid (Blk.new w 72 (toldC s t d 0 k b))
  have HOk := Lib.hid hok
  clear h hok
  unfold toldV
  unfold toldC at HE1 H1 HEv
  go_enter Try.func75, Try.ntmps75
  go_wp2_with fail
  refine (echeck_c t d k b _ (by omega) (by omega)).mono ?_
  rw [HOk.out]
  rintro e w2 ⟨rfl, hw2⟩
  have HW2 := Lib.hid hw2
  have S2 := Lib.hid (H1.out.ext hw2); have V2 := Lib.hid (HEv.out.ext hw2)
  have a0 : w2.cell? ⟨g, 0, none⟩ = some (.int .i64 0) := S2.out.cell 0
  have a1 : w2.cell? ⟨g, 1, none⟩ = some (.slice none 0 0) := S2.out.cell 1
  have u1 : w2.cell? ⟨w.heap.size, 1, none⟩ = some (.int .i64 0) := V2.out.cell 1
  clear hw2
  go_wp2_with fail
  go_region
  all_goals
    have S3 := Lib.hid S2.out.drew; have V3 := Lib.hid V2.out.drew
    have u2 : w2.drew.cell? ⟨w.heap.size, 2, none⟩ = some (.string ⟨t.toArray⟩) := V3.out.cell 2
    have u3 : w2.drew.cell? ⟨w.heap.size, 3, none⟩ = some (.string ⟨d.toArray⟩) := V3.out.cell 3
    have u4 : w2.drew.cell? ⟨w.heap.size, 4, none⟩ = some (.float k b) := V3.out.cell 4
    go_wp2_with fail
    refine (add0_c t d k b g _ S3.out (by omega) (by omega)).mono ?_
    rintro e w3 ⟨rfl, ⟨q, c, hq, hrow⟩, hof⟩
    have HQ := Lib.hid hq; have HR := Lib.hid hrow; have HO := Lib.hid hof
    clear hq hrow hof
    go_wp2_with fail
    go_ret
    refine ⟨rfl, ⟨q, c, HQ.out, row_base HR.out (HE1.out.trans HW2.out).size⟩, (Off.of_ext (HE1.out.trans HW2.out)).drew.trans HO.out⟩

set_option maxRecDepth 100000 in
set_option maxHeartbeats 6400000 in
theorem step1_c (s t d : List UInt8) (v : Int) (k : FloatKind) (b : Nat) (g : Nat) (w : World) (h : Blk w g 55 #[.int .i64 0, .slice none 0 0]) (_ht : t.length ≤ 1000000) (_hd : (d.length : Int) ≤ 1000000) (hok : echeckN t d = 0) (hv : (v == 0) = false) :
    Calls Try.prog 75 #[.pointer (some ⟨g, 0, none⟩), toldV s t d v k b] w fun e w' => e = .returned (.int .i64 80) ∧ Ext w w' := by
  have hg := h.lt
  have HE1 := Lib.hid (ext_a1 w (.cells (toldC s t d v k b) 72))
  have H1 := Lib.hid (h.ext HE1.out)
  have HEv := Lib.hid (Blk.new w 72 (toldC s t d v k b))
  have HOk := Lib.hid hok
  clear h hok
  unfold toldV
  unfold toldC at HE1 H1 HEv
  go_enter Try.func75, Try.ntmps75
  go_wp2_with fail
  refine (echeck_c t d k b _ (by omega) (by omega)).mono ?_
  rw [HOk.out]
  rintro e w2 ⟨rfl, hw2⟩
  have HW2 := Lib.hid hw2
  have S2 := Lib.hid (H1.out.ext hw2); have V2 := Lib.hid (HEv.out.ext hw2)
  have a0 : w2.cell? ⟨g, 0, none⟩ = some (.int .i64 0) := S2.out.cell 0
  have a1 : w2.cell? ⟨g, 1, none⟩ = some (.slice none 0 0) := S2.out.cell 1
  have u1 : w2.cell? ⟨w.heap.size, 1, none⟩ = some (.int .i64 v) := V2.out.cell 1
  clear hw2
  go_wp2_with fail
  go_region
  all_goals
    go_wp2_with fail
    go_ret
    exact ⟨rfl, Ext.drew (HE1.out.trans HW2.out)⟩

end Go.Proofs.Ytkkafjknogfdnaa
