/- Walks: the chapter's states. -/
import Derived.Test.YtkkafjknogfdnaaChecked
import Derived.Test.YtkkafjknogfdnaaFI
import Derived.WalkSpells
namespace Go.Proofs.Ytkkafjknogfdnaa
open Go.RowKit

/-- what is wrong with an event -/
def echeckN (t d : List UInt8) : Int := if t = [] then 2 else if 16 < t.length then 3 else if 200 < d.length then 3 else 0

set_option maxRecDepth 100000 in
set_option maxHeartbeats 1600000 in
theorem echeck_c (t d : List UInt8) (k : FloatKind) (b : Nat) (w : World) (_ht : t.length ≤ 4611686018427387903) (_hd : d.length ≤ 4611686018427387903) :
    Calls Try.prog 89 #[.agg #[.string ⟨t.toArray⟩, .string ⟨d.toArray⟩, .float k b]] w fun e w' => e = .returned (.int .i64 (echeckN t d)) ∧ Ext w w' := by
  have HE := Lib.hid (ext_a1 w (.cells #[.string ⟨t.toArray⟩, .string ⟨d.toArray⟩, .float k b] 70))
  by_cases h0 : t = []
  · subst h0
    have HN : Hid (echeckN [] d = 2) := Lib.hid (by unfold echeckN; rw [if_pos rfl])
    go_enter Try.func89, Try.ntmps89
    go_wp2_with fail
    go_ret
    exact ⟨rn HN.out, HE.out⟩
  have h0b : (t == []) = false := beq_eq_false_iff_ne.2 h0
  by_cases h1 : 16 < (t.length : Int)
  · have HN : Hid (echeckN t d = 3) := Lib.hid (by unfold echeckN; rw [if_neg h0, if_pos (by omega)])
    clear h0
    go_enter Try.func89, Try.ntmps89
    go_wp2_with fail
    go_ret
    exact ⟨rn HN.out, HE.out⟩
  by_cases h2 : 200 < (d.length : Int)
  · have HN : Hid (echeckN t d = 3) := Lib.hid (by unfold echeckN; rw [if_neg h0, if_neg (by omega), if_pos (by omega)])
    clear h0
    go_enter Try.func89, Try.ntmps89
    go_wp2_with fail
    go_ret
    exact ⟨rn HN.out, HE.out⟩
  · have HN : Hid (echeckN t d = 0) := Lib.hid (by unfold echeckN; rw [if_neg h0, if_neg (by omega), if_neg (by omega)])
    clear h0
    go_enter Try.func89, Try.ntmps89
    go_wp2_with fail
    go_ret
    exact ⟨rn HN.out, HE.out⟩

set_option maxRecDepth 100000 in
set_option maxHeartbeats 1600000 in
theorem clone0_c (w : World) : Calls Try.prog 74 #[.slice none 0 0] w fun e w' => e = .returned (.slice none 0 0) ∧ Ext w w' := by
  have hq := fun (w : World) (a : Option Addr) (n c n' c' : Nat) => Lib.run_eql_slice_nil (P := Try.prog) w 53 103 a n c n' c' Try.underlying53
  go_enter Try.func74, Try.ntmps74
  go_wp2_with fail
  go_ret
  exact ⟨rfl, Ext.refl _⟩

set_option maxRecDepth 100000 in
set_option maxHeartbeats 1600000 in
theorem bsearch0_c (s : ByteArray) (f : Value) (w : World) : Calls Try.prog 94 #[.slice none 0 0, .string s, f] w fun e w' => e = .returned (.tuple #[.int .i64 0, .bool false]) ∧ Ext w w' := by
  go_enter Try.func94, Try.ntmps94
  go_wp2_with fail
  refine wp_loop_rounds 1 ?_
  rw [rounds_succ]
  go_wp2_with fail
  go_ret2
  exact ⟨rfl, Ext.refl _⟩

set_option maxRecDepth 100000 in
set_option maxHeartbeats 1600000 in
theorem insert0_c (b : Nat) (k : Kd) (w : World) (hb : Blk w b 103 #[.string ⟨k.t.toArray⟩, .int .i64 k.m, .int .i64 k.b]) : Calls Try.prog 97 #[.slice none 0 0, .int .i64 0, .slice (some ⟨b, 0, none⟩) 1 1] w fun e w' => ∃ g c, e = .returned (.slice (some ⟨g, 0, none⟩) 1 c) ∧ w'.ownsRow w.heap.size 103 3 (.slice (some ⟨g, 0, none⟩) 1 c) 1 (kc k) ∧ Ext w w' := by
  obtain ⟨i, hi, hz, hsize, hby⟩ := info_parts Try.infoKi
  have HI := Lib.hid hi; have HZ := Lib.hid hz; have HSz := Lib.hid hsize; have HBy := Lib.hid hby
  have HB := Lib.hid hb
  have HNews : Hid (∀ j u, (kc k)[j]? = some u → w.cell? ((⟨b, 0, none⟩ : Addr).add j) = some u) := Lib.hid (fun j u hj => by
    rw [Addr.add_lit, Nat.zero_add, hb.cell j]
    simpa [kc] using hj)
  clear hi hz hsize hby hb
  go_enter Try.func97, Try.ntmps97
  go_wp2_with (at_builtin; refine wpList_append_lies _ rfl _ _ 53 rfl w.heap.size 103 i _ 3 32 Try.underlying53 HI.out HZ.out HSz.out HBy.out (by decide) (by decide) _ 0 [] (by simp [Act.eval]) (World.ownsRow_nil _ _ _ _) ⟨b, 0, none⟩ 1 1 (kc k) (by simp [Act.eval]) rfl HNews.out (kc_one' _) (by decide) (by decide) (by decide) (Nat.le_refl _) _ rfl ?_; intro g cap1 w1 hown hgrow hat hlt2; have HOw := Lib.hid hown; have HGr := Lib.hid hgrow; clear hown hgrow hat)
  go_wp2_with fail
  go_ret
  exact ⟨g, cap1, rfl, by have := HOw.out; simpa using this, (Ext.refl w).grown HGr.out (Nat.le_refl _) (fun q hq => by simp [Value.ownBlock] at hq)⟩

end Go.Proofs.Ytkkafjknogfdnaa
