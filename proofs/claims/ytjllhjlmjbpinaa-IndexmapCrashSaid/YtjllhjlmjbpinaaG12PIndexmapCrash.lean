/- Walks: a manifest is laid on any disk. Walks: the document's way to add; what is picked. Walks: one table in the place of a level's. Walks: a table is put behind those of the level 0. Walks: the chapter's levels. Walks: the document's way to put one table in the place of a level's. Small laws of no program: cells of one's own that are written over, whatever they hold. Walks: whatever levels there are, what is told of them is the document's. Walks: the chapter's manifests; what is told of manifests is the document's. Walks: the law IndexmapCrash. A manifest, and a pair of numbers, that came in, laid open. -/
import Derived.Test.YtjllhjlmjbpinaaG11PIndexmapCrash
import Derived.Test.YtjllhjlmjbpinaaChecked
import Derived.Test.YtjllhjlmjbpinaaG9PIndexmapCrash
import Derived.Test.YtjllhjlmjbpinaaG7PIndexmapCrash
import Derived.Test.YtjllhjlmjbpinaaG1PIndexmapCrash
import Derived.Test.YtjllhjlmjbpinaaG10PIndexmapCrash
import Derived.Deep.Cut
import Derived.Laws.BitsLemmas
import Derived.Test.YtjllhjlmjbpinaaG2PIndexmapCrash
import Derived.Lib.SmallJoins
import Derived.OpenShut
namespace Go.Proofs.Ytjllhjlmjbpinaa
open Go.RowKit

set_option maxRecDepth 100000
set_option linter.unusedVariables false
set_option maxHeartbeats 3200000

theorem over_c {w : World} {g : Nat} {F : Nat → Prop} {σ : DM} (h : Dk w g F σ) : Calls Try.prog 64 #[.pointer (some ⟨g, 0, none⟩)] w fun e w' => e = .returned (.int .i64 (overM σ)) ∧ w = w' := by
  have HS := Lib.hid (size_c h [] (by decide))
  have hc : ∃ z c, sizeM σ [] = (z, c) ∧ ((c = 61 ∧ overM σ = 61) ∨ (c = 4 ∧ overM σ = 0) ∨ (c = 0 ∧ overM σ = 0)) := by
    unfold sizeM overM
    split
    · exact ⟨_, _, rfl, .inl ⟨rfl, rfl⟩⟩
    · split
      · exact ⟨_, _, rfl, .inr (.inl ⟨rfl, rfl⟩)⟩
      · exact ⟨_, _, rfl, .inr (.inr ⟨rfl, rfl⟩)⟩
  obtain ⟨z, c, hz, hc⟩ := hc
  rw [hz] at HS
  clear h hz
  rcases hc with ⟨rfl, ho⟩ | ⟨rfl, ho⟩ | ⟨rfl, ho⟩ <;> rw [ho] <;> clear ho
  all_goals
    go_enter Try.func64, Try.ntmps64
    go_wp2_with fail
    refine HS.out.mono ?_
    rintro e w' ⟨rfl, rfl⟩
    go_wp2_with fail
    go_ret
    exact ⟨rfl, rfl⟩

theorem gone_c {w : World} {g : Nat} {F : Nat → Prop} {σ : DM} (h : Dk w g F σ) (nm : List UInt8) (hl : nm.length ≤ 9223372036854775807) : Calls Try.prog 65 #[.pointer (some ⟨g, 0, none⟩), .string ⟨nm.toArray⟩] w fun e w' => e = .returned (.int .i64 (goneM σ nm).1) ∧ DkS w g F (goneM σ nm).2 w' := by
  have HS := Lib.hid (delete_c h nm hl)
  obtain ⟨r, hr⟩ : ∃ r, deleteM σ nm = r := ⟨_, rfl⟩
  rw [hr] at HS
  have HG : Hid (goneM σ nm = if r.1 = 4 then (0, r.2) else r) := Lib.hid (by unfold goneM; rw [hr])
  obtain ⟨c, τ⟩ := r
  clear h hr
  by_cases h4 : c = 4
  · have HE : Hid (goneM σ nm = (0, τ)) := Lib.hid (by rw [HG.out]; simp only; rw [if_pos h4])
    subst h4
    rw [HE.out]
    go_enter Try.func65, Try.ntmps65
    go_wp2_with fail
    refine HS.out.mono ?_
    rintro e w' ⟨rfl, hd⟩
    have HD := Lib.hid hd
    clear hd
    go_wp2_with fail
    go_ret
    exact ⟨rfl, HD.out⟩
  · have HE : Hid (goneM σ nm = (c, τ)) := Lib.hid (by rw [HG.out]; simp only; rw [if_neg h4])
    rw [HE.out]
    have hb1 : (c != 4) = true := by simpa using h4
    have hb2 : (c == 4) = false := by simpa using h4
    clear h4
    go_enter Try.func65, Try.ntmps65
    go_wp2_with fail
    refine HS.out.mono ?_
    rintro e w' ⟨rfl, hd⟩
    have HD := Lib.hid hd
    clear hd
    go_wp2_with fail
    go_ret
    exact ⟨rfl, HD.out⟩

theorem free_bounds {w : World} {g : Nat} {F : Nat → Prop} {σ : DM} (h : Dk w g F σ) : 0 ≤ freeM σ ∧ freeM σ ≤ 1048576 := by
  have h1 := h.1.used; have h2 := h.1.cap1; unfold freeM; omega

theorem swap_c {w : World} {g : Nat} {F : Nat → Prop} {σ : DM} (h : Dk w g F σ) {ao : Option Addr} {n cap : Nat} {nx ck sd : Int} {L : List (List Int)} (hG : Grid w ao n cap L) (hsum : L.flatten.length ≤ 17592186044416) (hwf : ∀ x ∈ L.flatten, (Lit.int .i64 x).wf = true) (hs0 : 0 ≤ sd) (hs1 : sd < 18446744073709551616) {S : List UInt8} {E : Int} (hS : mputS nx ck sd L = (S, E)) (hSl : (S.length : Int) ≤ 1000000) :
    Calls Try.prog 23 #[.pointer (some ⟨g, 0, none⟩), .agg #[.int .i64 nx, .int .i64 ck, .int .u64 sd, .slice ao n cap]] w fun e w' => e = .returned (.int .i64 (swapM σ S E).1) ∧ DkS w g F (swapM σ S E).2 w' := by
  have hx := ext_a1 w (.cells #[.int .i64 nx, .int .i64 ck, .int .u64 sd, .slice ao n cap] 45)
  have HH := Lib.hid ((DkS.refl h).ext hx)
  have HP := Lib.hid (mput_c nx ck sd ao n cap L _ (hG.ext hx) hsum hwf hs0 hs1)
  rw [hS] at HP
  have hb := Blk.new w 45 #[.int .i64 nx, .int .i64 ck, .int .u64 sd, .slice ao n cap]
  have d0 := hb.cell 0; have d1 := hb.cell 1; have d2 := hb.cell 2; have d3 := hb.cell 3
  clear h hG hsum hwf hs0 hs1 hS hx hb
  by_cases hE : E = 0
  case neg =>
    have HM : Hid (swapM σ S E = (E, σ)) := Lib.hid (by unfold swapM; rw [if_pos hE])
    rw [HM.out]
    have hb1 : (E != 0) = true := by simpa using hE
    clear hE
    have ho : overM σ = 61 ∨ overM σ = 0 := by unfold overM; split; exact .inl rfl; exact .inr rfl
    go_enter Try.func23, Try.ntmps23
    go_wp2_with fail
    refine HP.out.mono ?_
    rintro e w1 ⟨rfl, hx⟩
    have HH := Lib.hid (HH.out.ext hx)
    clear hx d0 d1 d2 d3
    go_wp2_with fail
    refine (over_c HH.out.dk).mono ?_
    rcases ho with ho | ho <;> rw [ho] <;> clear ho
    all_goals
      rintro e w' ⟨rfl, rfl⟩
      go_wp2_with fail
      go_ret
      exact ⟨rfl, HH.out⟩
  case pos =>
  subst hE
  cases hd : σ.down with
  | true =>
    have HM : Hid (swapM σ S 0 = (61, σ)) := Lib.hid (by unfold swapM; rw [if_neg (by decide), if_pos hd])
    have HO : Hid (overM σ = 61) := Lib.hid (by unfold overM; rw [if_pos hd])
    rw [HM.out]
    clear hd
    go_enter Try.func23, Try.ntmps23
    go_wp2_with fail
    refine HP.out.mono ?_
    rintro e w1 ⟨rfl, hx⟩
    have HH := Lib.hid (HH.out.ext hx)
    clear hx d0 d1 d2 d3
    go_wp2_with fail
    refine (over_c HH.out.dk).mono ?_
    rw [HO.out]
    rintro e w' ⟨rfl, rfl⟩
    go_wp2_with fail
    go_ret
    exact ⟨rfl, HH.out⟩
  | false =>
  have HO : Hid (overM σ = 0) := Lib.hid (by unfold overM; rw [if_neg (by rw [hd]; decide)])
  obtain ⟨r0, e0⟩ : ∃ r, goneM σ newN = r := ⟨_, rfl⟩
  have HM0 : Hid (swapM σ S 0 = stepM r0 fun a => layM a S) := Lib.hid (by unfold swapM; rw [if_neg (by decide), if_neg (by rw [hd]; decide), e0])
  have HE0 := Lib.hid e0
  obtain ⟨c0, s0⟩ := r0
  clear hd e0
  go_enter Try.func23, Try.ntmps23
  go_wp2_with fail
  refine HP.out.mono ?_
  rintro e w1 ⟨rfl, hx⟩
  have HH := Lib.hid (HH.out.ext hx)
  clear hx d0 d1 d2 d3
  go_wp2_with fail
  refine (over_c HH.out.dk).mono ?_
  rw [HO.out]
  rintro e w' ⟨rfl, rfl⟩
  go_wp2_with fail
  refine (gone_c HH.out.dk newN (by decide)).mono ?_
  rw [HE0.out]
  rintro e w2 ⟨rfl, hd⟩
  have HH := Lib.hid (HH.out.trans hd)
  clear hd
  by_cases h0 : c0 = 0
  case neg =>
    have hb : (c0 != 0) = true := by simpa using h0
    have HR : Hid (swapM σ S 0 = (c0, s0)) := Lib.hid (by rw [HM0.out, stepM, if_neg h0])
    clear h0
    go_wp2_with fail
    go_ret
    rw [HR.out]
    exact ⟨rfl, HH.out⟩
  case pos =>
  subst h0
  have HM1 : Hid (swapM σ S 0 = layM s0 S) := Lib.hid (by rw [HM0.out, stepM, if_pos rfl])
  have hfb := free_bounds HH.out.dk
  obtain ⟨fr, hfr⟩ : ∃ fr, freeM s0 = fr := ⟨_, rfl⟩
  have HFr := Lib.hid hfr
  rw [hfr] at hfb
  obtain ⟨hf0, hf1⟩ := hfb
  have hw : IntKind.i64.wrap (fr - (S.length : Int)) = fr - (S.length : Int) := IntWalk.i64_in _ (by omega)
  clear hfr
  go_wp2_with fail
  refine (free_c HH.out.dk).mono ?_
  rw [HFr.out]
  rintro e w3 ⟨rfl, hx⟩
  have HH := Lib.hid (HH.out.ext hx)
  clear hx
  by_cases hlt : fr - (S.length : Int) < 6000
  case pos =>
    have HR : Hid (swapM σ S 0 = (60, s0)) := Lib.hid (by rw [HM1.out, layM, HFr.out, if_pos hlt])
    go_wp2_with fail
    go_ret
    rw [HR.out]
    exact ⟨rfl, HH.out⟩
  case neg =>
  obtain ⟨r1, e1⟩ : ∃ r, createM s0 newN = r := ⟨_, rfl⟩
  have HM2 : Hid (swapM σ S 0 = stepM r1 fun b => stepM (appendM b newN S) fun c => stepM (syncM c newN) fun d => renameM d newN mapN) := Lib.hid (by rw [HM1.out, layM, HFr.out, if_neg hlt, e1])
  have HE1 := Lib.hid e1
  obtain ⟨c1, s1⟩ := r1
  clear e1
  go_wp2_with fail
  refine (create_c HH.out.dk newN (by decide)).mono ?_
  rw [HE1.out]
  rintro e w4 ⟨rfl, hd⟩
  have HH := Lib.hid (HH.out.trans hd)
  clear hd hw hf0 hf1 hlt
  by_cases hc1 : c1 = 0
  case neg =>
    have hb : (c1 != 0) = true := by simpa using hc1
    have HR : Hid (swapM σ S 0 = (c1, s1)) := Lib.hid (by rw [HM2.out, stepM, if_neg hc1])
    clear hc1
    go_wp2_with fail
    go_ret
    rw [HR.out]
    exact ⟨rfl, HH.out⟩
  case pos =>
  subst hc1
  obtain ⟨r2, e2⟩ : ∃ r, appendM s1 newN S = r := ⟨_, rfl⟩
  have HM3 : Hid (swapM σ S 0 = stepM r2 fun c => stepM (syncM c newN) fun d => renameM d newN mapN) := Lib.hid (by rw [HM2.out, stepM, if_pos rfl]; rw [e2])
  have HE2 := Lib.hid e2
  obtain ⟨c2, s2⟩ := r2
  clear e2
  go_wp2_with fail
  refine (append_c HH.out.dk newN S (by decide) (by omega)).mono ?_
  rw [HE2.out]
  rintro e w5 ⟨rfl, hd⟩
  have HH := Lib.hid (HH.out.trans hd)
  clear hd
  by_cases hc2 : c2 = 0
  case neg =>
    have hb : (c2 != 0) = true := by simpa using hc2
    have HR : Hid (swapM σ S 0 = (c2, s2)) := Lib.hid (by rw [HM3.out, stepM, if_neg hc2])
    clear hc2
    go_wp2_with fail
    go_ret
    rw [HR.out]
    exact ⟨rfl, HH.out⟩
  case pos =>
  subst hc2
  obtain ⟨r3, e3⟩ : ∃ r, syncM s2 newN = r := ⟨_, rfl⟩
  have HM4 : Hid (swapM σ S 0 = stepM r3 fun d => renameM d newN mapN) := Lib.hid (by rw [HM3.out, stepM, if_pos rfl]; rw [e3])
  have HE3 := Lib.hid e3
  obtain ⟨c3, s3⟩ := r3
  clear e3
  go_wp2_with fail
  refine (sync_c HH.out.dk newN (by decide)).mono ?_
  rw [HE3.out]
  rintro e w6 ⟨rfl, hd⟩
  have HH := Lib.hid (HH.out.trans hd)
  clear hd
  by_cases hc3 : c3 = 0
  case neg =>
    have hb : (c3 != 0) = true := by simpa using hc3
    have HR : Hid (swapM σ S 0 = (c3, s3)) := Lib.hid (by rw [HM4.out, stepM, if_neg hc3])
    clear hc3
    go_wp2_with fail
    go_ret
    rw [HR.out]
    exact ⟨rfl, HH.out⟩
  case pos =>
  subst hc3
  obtain ⟨r4, e4⟩ : ∃ r, renameM s3 newN mapN = r := ⟨_, rfl⟩
  have HM5 : Hid (swapM σ S 0 = r4) := Lib.hid (by rw [HM4.out, stepM, if_pos rfl]; exact e4)
  have HE4 := Lib.hid e4
  obtain ⟨c4, s4⟩ := r4
  clear e4
  go_wp2_with fail
  refine (rename_c HH.out.dk newN mapN (by decide) (by decide)).mono ?_
  rw [HE4.out]
  rintro e w7 ⟨rfl, hd⟩
  have HH := Lib.hid (HH.out.trans hd)
  clear hd
  go_wp2_with fail
  go_ret
  rw [HM5.out]
  exact ⟨rfl, HH.out⟩

end Go.Proofs.Ytjllhjlmjbpinaa
namespace Go.Proofs.Ytjllhjlmjbpinaa
open Go.RowKit

end Go.Proofs.Ytjllhjlmjbpinaa
namespace Go.Proofs.Ytjllhjlmjbpinaa
open Go.RowKit

/-- the grid's cell is known and may be written -/
theorem OGr.cell0 {w : World} {B : Nat} {tO tI : TypeId} {vs : List Value} {L : List (List Int)} {i n cap : Nat} {ao : Option Addr} (h : OGr w B tO tI (.slice ao n cap) vs L) (hne : tO ≠ tI) (hi : i < L.length) :
    ∃ g, ao = some ⟨g, 0, none⟩ ∧ w.cell? ⟨g, i, none⟩ = some (vs.getD i (.slice none 0 0)) ∧ w.frozen? ⟨g, i, none⟩ = false ∧ B ≤ g := by
  obtain ⟨g, h1, h2, _, h3, h4⟩ := h.cell hne hi (World.grownBy.refl w none) (.inl rfl)
  exact ⟨g, h1, h2, h3, h4⟩

theorem OGr.addr {w : World} {B : Nat} {tO tI : TypeId} {v : Value} {vs : List Value} {L : List (List Int)} (h : OGr w B tO tI v vs L) (hi : 0 < L.length) : ∃ G c, v = .slice (some ⟨G, 0, none⟩) L.length c := by
  obtain ⟨a, c, rfl⟩ := h.own.slice
  obtain ⟨g, _, _, rfl, _⟩ := h.head hi
  exact ⟨g, c, rfl⟩

/-- a row is struck -/
theorem OGr.strike {w : World} {B : Nat} {tO tI : TypeId} {vs : List Value} {L : List (List Int)} {i g n cap : Nat} (h : OGr w B tO tI (.slice (some ⟨g, 0, none⟩) n cap) vs L) (hne : tO ≠ tI) (hi : i < L.length) :
    OGr (w.setCell ⟨g, i, none⟩ (.slice none 0 0)) B tO tI (.slice (some ⟨g, 0, none⟩) n cap) (vs.set i (.slice none 0 0)) (L.set i []) :=
  h.put (l := []) hne rfl hi (Own.nil _ _ _ _) (World.grownBy.refl w none) (.inl rfl) (.inl rfl)

end Go.Proofs.Ytjllhjlmjbpinaa
namespace Go.Proofs.Ytjllhjlmjbpinaa
open Go.RowKit

end Go.Proofs.Ytjllhjlmjbpinaa
namespace Go.Proofs.Ytjllhjlmjbpinaa
open Go.RowKit

theorem nowf : ∀ x ∈ ([] : List (List Int)).flatten, (Lit.int .i64 x).wf = true := by simp

end Go.Proofs.Ytjllhjlmjbpinaa
namespace Go.Proofs.Ytjllhjlmjbpinaa
open Go.RowKit

end Go.Proofs.Ytjllhjlmjbpinaa
namespace Go.Proofs.Ytjllhjlmjbpinaa
open Go.RowKit

/-- a slice whose cells lie in a block of the call's own, of that type: each of its elements may be written -/
def Pk (w : World) (B : Nat) (tI : TypeId) (v : Value) : Prop :=
  ∃ ao n cap, v = .slice ao n cap ∧ n ≤ 9223372036854775807 ∧ (n = 0 ∨ ∃ g cur, ao = some ⟨g, 0, none⟩ ∧ B ≤ g ∧ w.heap[g]? = some (.cells cur tI (0, 0)) ∧ n ≤ cur.size)

theorem Pk.of {w : World} {B : Nat} {tI : TypeId} {v : Value} {n : Nat} {cs : List Value} (h : Own w B tI 1 v n cs) : Pk w B tI v := by
  rcases h.2 with ⟨rfl, rfl⟩ | ⟨g, cap, cur, rfl, hb, hg, hn, hm, hc, _⟩
  · exact ⟨none, 0, 0, rfl, by omega, .inl rfl⟩
  · exact ⟨_, n, cap, rfl, by omega, .inr ⟨g, cur, rfl, hb, hg, by omega⟩⟩

theorem shape_setCell {w : World} {g g' k : Nat} {u : Value} {cur : Array Value} {t : TypeId} (h : w.heap[g]? = some (.cells cur t (0, 0))) :
    ∃ cur', (w.setCell ⟨g', k, none⟩ u).heap[g]? = some (.cells cur' t (0, 0)) ∧ cur'.size = cur.size := by
  by_cases e : g' = g
  · subst e
    refine ⟨cur.setIfInBounds k u, ?_, by simp⟩
    simp only [World.setCell, Array.getElem?_modify, if_true, h, Option.map_some]
    rfl
  · exact ⟨cur, by rw [Below.heap_setCell _ _ _ _ (Ne.symm e)]; exact h, rfl⟩

theorem Pk.poke {w : World} {B : Nat} {tI : TypeId} {v : Value} (h : Pk w B tI v) (g k : Nat) (u : Value) : Pk (w.setCell ⟨g, k, none⟩ u) B tI v := by
  obtain ⟨ao, n, cap, rfl, hn, h⟩ := h
  refine ⟨ao, n, cap, rfl, hn, ?_⟩
  rcases h with h | ⟨g', cur, e, hb, hg, hc⟩
  · exact .inl h
  · obtain ⟨cur', h1, h2⟩ := shape_setCell (g' := g) (k := k) (u := u) hg
    exact .inr ⟨g', cur', e, hb, h1, by omega⟩

theorem Pk.same {w w' : World} {B : Nat} {tI : TypeId} {v : Value} (h : Pk w B tI v) (k : ∀ g, v.ownBlock = some g → w'.heap[g]? = w.heap[g]?) : Pk w' B tI v := by
  obtain ⟨ao, n, cap, rfl, hn, h⟩ := h
  refine ⟨ao, n, cap, rfl, hn, ?_⟩
  rcases h with h | ⟨g', cur, rfl, hb, hg, hc⟩
  · exact .inl h
  · exact .inr ⟨g', cur, rfl, hb, by rw [k g' rfl]; exact hg, hc⟩

theorem Pk.ext {w w' : World} {B : Nat} {tI : TypeId} {v : Value} (h : Pk w B tI v) (k : Ext w w') : Pk w' B tI v := by
  obtain ⟨ao, n, cap, rfl, hn, h⟩ := h
  refine ⟨ao, n, cap, rfl, hn, ?_⟩
  rcases h with h | ⟨g', cur, rfl, hb, hg, hc⟩
  · exact .inl h
  · exact .inr ⟨g', cur, rfl, hb, by rw [k.block g' ((Array.getElem?_eq_some_iff.1 hg).1)]; exact hg, hc⟩

/-- one of its cells -/
theorem Pk.at {w : World} {B : Nat} {tI : TypeId} {ao : Option Addr} {n cap k : Nat} (h : Pk w B tI (.slice ao n cap)) (hk : k < n) :
    ∃ g u cur, ao = some ⟨g, 0, none⟩ ∧ B ≤ g ∧ w.cell? ⟨g, k, none⟩ = some u ∧ w.frozen? ⟨g, k, none⟩ = false ∧ w.heap[g]? = some (.cells cur tI (0, 0)) := by
  obtain ⟨ao', n', cap', e, hn, h⟩ := h
  cases e
  rcases h with h | ⟨g, cur, rfl, hb, hg, hc⟩
  · omega
  · exact ⟨g, cur[k]'(by omega), cur, rfl, hb, by simp [World.cell?, hg, Array.getElem?_eq_getElem (show k < cur.size by omega)], by simp [World.frozen?, hg], hg⟩

/-- a slice of such slices -/
def PkG (w : World) (B : Nat) (tO tI : TypeId) (v : Value) (n : Nat) (vs : List Value) : Prop :=
  Own w B tO 1 v n vs ∧ ∀ i, Pk w B tI (vs.getD i (.slice none 0 0))

theorem PkG.of {w : World} {B : Nat} {tO tI : TypeId} {v : Value} {vs : List Value} {L : List (List Int)} (h : OGr w B tO tI v vs L) : PkG w B tO tI v L.length vs :=
  ⟨h.own, fun i => Pk.of (h.row i)⟩

theorem PkG.ext {w w' : World} {B : Nat} {tO tI : TypeId} {v : Value} {n : Nat} {vs : List Value} (h : PkG w B tO tI v n vs) (k : Ext w w') : PkG w' B tO tI v n vs :=
  ⟨h.1.ext k, fun i => (h.2 i).ext k⟩

theorem PkG.poke {w : World} {B : Nat} {tO tI : TypeId} {v : Value} {n : Nat} {vs : List Value} (h : PkG w B tO tI v n vs) (hne : tO ≠ tI) {g : Nat} {cur : Array Value} (hg : w.heap[g]? = some (.cells cur tI (0, 0))) (k : Nat) (u : Value) :
    PkG (w.setCell ⟨g, k, none⟩ u) B tO tI v n vs := by
  refine ⟨h.1.setOther _ fun e => ?_, fun i => (h.2 i).poke g k u⟩
  obtain ⟨c, hc⟩ := h.1.etype e
  rw [hg] at hc
  cases hc
  exact hne rfl

theorem PkG.row {w : World} {B : Nat} {tO tI : TypeId} {v : Value} {n : Nat} {vs : List Value} (h : PkG w B tO tI v n vs) (i : Nat) : ∃ ai ni ci, vs.getD i (.slice none 0 0) = .slice ai ni ci ∧ ni ≤ 9223372036854775807 := by
  obtain ⟨ai, ni, ci, e2, hn, _⟩ := h.2 i
  exact ⟨ai, ni, ci, e2, hn⟩

/-- a row of it, known by name -/
theorem PkG.cell {w : World} {B : Nat} {tO tI : TypeId} {ao ai : Option Addr} {n cap i ni ci : Nat} {vs : List Value} (h : PkG w B tO tI (.slice ao n cap) n vs) (hi : i < n) (hr : vs.getD i (.slice none 0 0) = .slice ai ni ci) :
    ∃ g, ao = some ⟨g, 0, none⟩ ∧ w.cell? ⟨g, i, none⟩ = some (.slice ai ni ci) ∧ Pk w B tI (.slice ai ni ci) := by
  have hvl : vs.length = n := by simpa using h.1.1
  obtain ⟨g, c, e, h1, _, _⟩ := h.1.cell (j := i) (by omega)
  cases e
  have hd : vs.getD i (.slice none 0 0) = vs[i] := by rw [List.getD_eq_getElem?_getD, List.getElem?_eq_getElem (by omega)]; rfl
  exact ⟨g, rfl, by rw [h1, ← hd, hr], by rw [← hr]; exact h.2 i⟩

/-- a row of it -/
theorem PkG.at {w : World} {B : Nat} {tO tI : TypeId} {ao : Option Addr} {n cap i : Nat} {vs : List Value} (h : PkG w B tO tI (.slice ao n cap) n vs) (hi : i < n) :
    ∃ g ai ni ci, ao = some ⟨g, 0, none⟩ ∧ w.cell? ⟨g, i, none⟩ = some (.slice ai ni ci) ∧ Pk w B tI (.slice ai ni ci) ∧ ni ≤ 9223372036854775807 := by
  have hvl : vs.length = n := by simpa using h.1.1
  obtain ⟨g, c, e, h1, _, _⟩ := h.1.cell (j := i) (by omega)
  cases e
  have hd : vs.getD i (.slice none 0 0) = vs[i] := by rw [List.getD_eq_getElem?_getD, List.getElem?_eq_getElem (by omega)]; rfl
  have hr := h.2 i
  rw [hd] at hr
  have hr' := hr
  obtain ⟨ai, ni, ci, e2, hn, _⟩ := hr'
  rw [e2] at hr h1
  exact ⟨g, ai, ni, ci, rfl, h1, hr, hn⟩

end Go.Proofs.Ytjllhjlmjbpinaa
namespace Go.Proofs.Ytjllhjlmjbpinaa
open Go.RowKit

theorem great_len (L : List (List Int)) (h : greatB L = false) : L.length ≤ 10 ∧ (∀ i, (L.getD i []).length ≤ 60) ∧ L.flatten.length ≤ 600 := by
  unfold greatB at h
  rw [Bool.or_eq_false_iff] at h
  have h1 : L.length ≤ 10 := by have := of_decide_eq_false h.2; omega
  have h2 : ∀ r ∈ L, r.length ≤ 60 := by
    intro r hr
    have := h.1
    rw [List.any_eq_false] at this
    have := this r hr
    simpa using this
  refine ⟨h1, fun i => ?_, ?_⟩
  · rcases Nat.lt_or_ge i L.length with hi | hi
    · rw [List.getD_eq_getElem?_getD, List.getElem?_eq_getElem hi]; exact h2 _ (List.getElem_mem hi)
    · rw [getD_ge _ _ _ hi]; simp
  · have : ∀ M : List (List Int), (∀ r ∈ M, r.length ≤ 60) → M.flatten.length ≤ 60 * M.length := by
      intro M
      induction M with
      | nil => intro _; simp
      | cons r M ih =>
        intro h
        have a1 := h r (by simp)
        have a2 := ih fun r hr => h r (by simp [hr])
        rw [List.flatten_cons, List.length_append, List.length_cons]
        omega
    have := this L h2
    omega

theorem replicate_getD {α : Type} (d : α) (n i : Nat) : (List.replicate n d).getD i d = d := by
  simp only [List.getD_eq_getElem?_getD, List.getElem?_replicate]
  split <;> rfl

/-- n rows just made -/
theorem OGr.made' {w : World} {B : Nat} {tO tI : TypeId} {v : Value} {n : Nat} (h : Own w B tO 1 v n (List.replicate n (.slice none 0 0))) : OGr w B tO tI v (List.replicate n (.slice none 0 0)) (List.replicate n []) := by
  refine ⟨by simpa using h, fun i => ?_, fun i j g _ hg => ?_⟩
  · rw [replicate_getD, replicate_getD]; exact Own.nil _ _ _ _
  · rw [replicate_getD] at hg; cases hg

/-- copies behind k rounds -/
def copyK (L : List (List Int)) (k : Nat) : List (List Int) := L.take k ++ List.replicate (L.length - k) []

theorem copyK_zero (L : List (List Int)) : copyK L 0 = List.replicate L.length [] := by simp [copyK]
theorem copyK_all (L : List (List Int)) : copyK L L.length = L := by simp [copyK]
theorem copyK_length (L : List (List Int)) (k : Nat) (h : k ≤ L.length) : (copyK L k).length = L.length := by simp [copyK]; omega
theorem copyK_succ (L : List (List Int)) (k : Nat) (h : k < L.length) : (copyK L k).set k (L.getD k []) = copyK L (k + 1) := by
  refine ext_getD _ _ [] (by rw [List.length_set, copyK_length _ _ (by omega), copyK_length _ _ (by omega)]) fun i hi => ?_
  have g : ∀ m, m ≤ L.length → (copyK L m).getD i [] = if i < m then L.getD i [] else [] := by
    intro m hm
    unfold copyK
    simp only [List.getD_eq_getElem?_getD, List.getElem?_append, List.length_take, Nat.min_eq_left hm, List.getElem?_take]
    split
    · rfl
    · rw [← List.getD_eq_getElem?_getD, replicate_getD]
  rw [getD_set _ _ _ _ _ (by rw [copyK_length _ _ (by omega)]; exact h), g k (by omega), g (k + 1) (by omega)]
  by_cases hik : i = k
  · subst hik; rw [if_pos rfl, if_pos (by omega)]
  · rw [if_neg hik]
    by_cases h2 : i < k
    · rw [if_pos h2, if_pos (by omega)]
    · rw [if_neg h2, if_neg (by omega)]

end Go.Proofs.Ytjllhjlmjbpinaa
namespace Go.Proofs.Ytjllhjlmjbpinaa
open Go.RowKit

theorem Mbx.ext {w w' : World} {g : Nat} {a b c : Int} {v : Value} (h : Mbx w g a b c v) (k : Ext w w') : Mbx w' g a b c v := h.same (k.block _ h.lt)
theorem Mbx.mk (w : World) (a b c : Int) (v : Value) : Mbx (w.alloc (.cells #[.int .i64 a, .int .i64 b, .int .u64 c, v] 45)) w.heap.size a b c v := heap_alloc_new _ _

theorem RetM.bad_out {w w' : World} {e : Ending} (h : RetM w badM e w') : ∃ a c, e = .returned (.tuple #[.agg #[.int .i64 0, .int .i64 0, .int .u64 0, .slice a 0 c], .int .i64 90]) ∧ Ext w w' := by
  obtain ⟨v, vs, rfl, hog, hb⟩ := h
  obtain ⟨a, c, rfl⟩ := hog.own.slice
  exact ⟨a, c, rfl, hb⟩

/-- a manifest that is got, laid open -/
theorem RetM.out {w w' : World} {e : Ending} {g : Got} (h : RetM w g e w') : ∃ a c vs, e = .returned (.tuple #[.agg #[.int .i64 g.nx, .int .i64 g.ck, .int .u64 g.sd, .slice a g.L.length c], .int .i64 g.en]) ∧ OGr w' w.heap.size 32 3 (.slice a g.L.length c) vs g.L ∧ Ext w w' := by
  obtain ⟨v, vs, rfl, hog, hb⟩ := h
  obtain ⟨a, c, rfl⟩ := hog.own.slice
  exact ⟨a, c, vs, rfl, hog, hb⟩

theorem put0 : mputS 0 0 0 [] = (sealS (manBody 0 0 0 []), 0) := by unfold mputS; rw [if_pos (by decide)]
theorem put0_length : (sealS (manBody 0 0 0 [])).length = 25 := by rw [sealS_length]; decide
theorem get0 : mgetS [] = badM := by unfold mgetS; rw [openB_short [] (by decide)]; rfl

theorem msame_refl (nx ck sd : Int) (L : List (List Int)) : msame nx ck sd L nx ck sd L = true := by rw [msame_yes]; simp

end Go.Proofs.Ytjllhjlmjbpinaa
namespace Go.Proofs.Ytjllhjlmjbpinaa
open Go.RowKit

theorem man_le {nx ck : Int} (sd : Int) {L : List (List Int)} (h : mvalid nx ck L = true) : (sealS (manBody nx ck sd L)).length ≤ 300 := by
  have hv := validB_parts (mvalid_parts h).2.1
  have h1 : (trimL L).length ≤ L.length := by unfold trimL; rw [List.length_take]; omega
  have h2 : (trimL L).flatten.length ≤ L.flatten.length := by unfold trimL; exact flatten_take_le L _
  have h3 := hv.1; have h4 := hv.2.1
  rw [sealS_length]
  unfold manBody
  rw [List.length_append, manHead_length, levs_length]
  omega
theorem msame_trim (nx ck sd : Int) (L : List (List Int)) : msame nx ck sd (trimL L) nx ck sd L = true := by rw [msame_yes, trimL_trimL]; simp
theorem sizeS {σ : DM} {S : List UInt8} (h : HasS σ mapN (some S)) : findN FM.nm mapN σ.L = some ⟨mapN, S, S.length⟩ := h
theorem size0 {σ : DM} (h : HasS σ mapN none) (hup : σ.down = false) : sizeM σ mapN = (0, 4) := by
  unfold sizeM
  rw [if_neg (by rw [hup]; decide), show findN FM.nm mapN σ.L = none from h]

/-- the disk as it is when it is to fail, when it went down, when it is up again -/
structure Laid (σ : DM) (v : Bool) (S : List UInt8) (o : Option (List UInt8)) (c : Int) (τ : DM) : Prop where
  ok : c = 0 → v = true ∧ τ.down = false ∧ HasS τ mapN (some S)
  no : c ≠ 0 → HasS τ mapN o
  arg : (c == 2) = !v

theorem laid_swap {σ : DM} {o : Option (List UInt8)} (h : HasS σ mapN o) (hup : σ.down = false) (v : Bool) (S : List UInt8) {r : Int × DM} (hr : swapM σ S (if v then 0 else 2) = r) : Laid σ v S o r.1 r.2 := by
  subst hr
  cases v with
  | true =>
    rcases swap_cases h hup S with ⟨h0, h1, h2⟩ | ⟨h0, h1, h2⟩
    · exact ⟨fun _ => ⟨rfl, h1, h2⟩, fun e => absurd h0 e, by rw [show (if true = true then (0 : Int) else 2) = 0 from rfl, h0]; rfl⟩
    · exact ⟨fun e => absurd e h0, fun _ => h2, by rw [show (if true = true then (0 : Int) else 2) = 0 from rfl]; simpa using h1⟩
  | false => exact ⟨fun e => (by cases e), fun _ => h, rfl⟩

set_option maxRecDepth 100000
set_option linter.unusedVariables false
set_option maxHeartbeats 12800000

theorem crashmap_c (nx ck sd : Int) (ao : Option Addr) (n cap : Nat) (L : List (List Int)) (nx' ck' sd' : Int) (bo : Option Addr) (m cap2 : Nat) (L' : List (List Int)) (co : Option Addr) (k cap3 : Nat) (bs : List Int) (w : World)
    (hx : Grid w ao n cap L) (hy : Grid w bo m cap2 L') (hz : U8s w co k cap3 bs)
    (hwf : ∀ x ∈ L.flatten, (Lit.int .i64 x).wf = true) (hs0 : 0 ≤ sd) (hs1 : sd < 18446744073709551616) (hwf' : ∀ x ∈ L'.flatten, (Lit.int .i64 x).wf = true) (hs0' : 0 ≤ sd') (hs1' : sd' < 18446744073709551616) (hwb : ∀ x ∈ bs, (Lit.int .u8 x).wf = true) :
    Calls Try.prog 5 #[.agg #[.int .i64 nx, .int .i64 ck, .int .u64 sd, .slice ao n cap], .agg #[.int .i64 nx', .int .i64 ck', .int .u64 sd', .slice bo m cap2], .slice co k cap3] w fun e w' => e = .returned (.bool true) ∧ Ext w w' := by
  have Hx := Lib.hid hx; have Hy := Lib.hid hy; have Hz := Lib.hid hz
  have HWF := Lib.hid hwf; have HWF' := Lib.hid hwf'; have HWB := Lib.hid hwb
  have S0 := Lib.hid hs0; have S1 := Lib.hid hs1; have S0' := Lib.hid hs0'; have S1' := Lib.hid hs1'
  have b1 := hz.fits; have b2 := hz.bound
  have HLz := Lib.hid hz.len
  clear hx hy hz hwf hwf' hwb hs0 hs1 hs0' hs1'
  obtain ⟨W0, hW0⟩ : ∃ W, (w.alloc (.cells #[.int .i64 nx, .int .i64 ck, .int .u64 sd, .slice ao n cap] 45)).alloc (.cells #[.int .i64 nx', .int .i64 ck', .int .u64 sd', .slice bo m cap2] 45) = W := ⟨_, rfl⟩
  have HE0 : Hid (Ext w W0) := Lib.hid (by rw [← hW0]; exact ext_a2 w _ _)
  have HBm : Hid (Blk W0 w.heap.size 45 #[.int .i64 nx, .int .i64 ck, .int .u64 sd, .slice ao n cap]) := Lib.hid (by rw [← hW0]; exact (Blk.new w _ _).ext (ext_a1 _ _))
  have HBn : Hid (Blk W0 (w.heap.size + 1) 45 #[.int .i64 nx', .int .i64 ck', .int .u64 sd', .slice bo m cap2]) := Lib.hid (by
    rw [← hW0]; have h := Blk.new (w.alloc (.cells #[.int .i64 nx, .int .i64 ck, .int .u64 sd, .slice ao n cap] 45)) 45 #[.int .i64 nx', .int .i64 ck', .int .u64 sd', .slice bo m cap2]
    rw [World.size_alloc] at h; exact h)
  have HC : Hid (∀ W, Ext W0 W → (W.cell? ⟨w.heap.size, 0, none⟩ = some (.int .i64 nx) ∧ W.cell? ⟨w.heap.size, 1, none⟩ = some (.int .i64 ck) ∧ W.cell? ⟨w.heap.size, 2, none⟩ = some (.int .u64 sd) ∧ W.cell? ⟨w.heap.size, 3, none⟩ = some (.slice ao n cap)) ∧
      (W.cell? ⟨w.heap.size + 1, 0, none⟩ = some (.int .i64 nx') ∧ W.cell? ⟨w.heap.size + 1, 1, none⟩ = some (.int .i64 ck') ∧ W.cell? ⟨w.heap.size + 1, 2, none⟩ = some (.int .u64 sd') ∧ W.cell? ⟨w.heap.size + 1, 3, none⟩ = some (.slice bo m cap2))) := Lib.hid fun W hW => by
    have h1 := HBm.out.ext hW; have h2 := HBn.out.ext hW
    exact ⟨⟨h1.cell 0, h1.cell 1, h1.cell 2, h1.cell 3⟩, ⟨h2.cell 0, h2.cell 1, h2.cell 2, h2.cell 3⟩⟩
  obtain ⟨⟨a0, a1, a2, a3⟩, ⟨c0, c1, c2, c3⟩⟩ := HC.out W0 (Ext.refl _)
  go_enter Try.func5, Try.ntmps5
  go_wp2_with fail
  try rw [hW0]
  have HW0 := Lib.hid hW0
  clear hW0
  refine (great_c _ _ _ L _ (Hx.out.ext HE0.out)).mono ?_
  rintro e w1 ⟨rfl, hb1⟩
  have HB1 := Lib.hid hb1; clear hb1
  obtain ⟨⟨a0, a1, a2, a3⟩, ⟨c0, c1, c2, c3⟩⟩ := HC.out w1 HB1.out
  by_cases hgr : greatB L = true
  · go_wp2_with fail
    refine (mapped_c _).mono ?_
    rintro e w' ⟨rfl, hx⟩
    have HX := Lib.hid ((HE0.out.trans HB1.out).trans hx)
    clear hx
    go_wp2_with fail
    go_ret
    exact ⟨rfl, HX.out⟩
  have hgr' : greatB L = false := by simpa using hgr
  have HGL := Lib.hid (great_len L hgr')
  clear hgr
  go_wp2_with fail
  refine (great_c _ _ _ L' _ (Hy.out.ext (HE0.out.trans HB1.out))).mono ?_
  rintro e w2 ⟨rfl, hb2⟩
  have HB2 := Lib.hid (HB1.out.trans hb2); clear hb2
  obtain ⟨⟨a0, a1, a2, a3⟩, ⟨c0, c1, c2, c3⟩⟩ := HC.out w2 HB2.out
  by_cases hgr2 : greatB L' = true
  · go_wp2_with fail
    refine (mapped_c _).mono ?_
    rintro e w' ⟨rfl, hx⟩
    have HX := Lib.hid ((HE0.out.trans HB2.out).trans hx)
    clear hx
    go_wp2_with fail
    go_ret
    exact ⟨rfl, HX.out⟩
  have hgr2' : greatB L' = false := by simpa using hgr2
  have HGL' := Lib.hid (great_len L' hgr2')
  clear hgr2
  by_cases hk20 : 20 < k
  · go_wp2_with fail
    refine (mapped_c _).mono ?_
    rintro e w' ⟨rfl, hx⟩
    have HX := Lib.hid ((HE0.out.trans HB2.out).trans hx)
    clear hx
    go_wp2_with fail
    go_ret
    exact ⟨rfl, HX.out⟩
  obtain ⟨v, hv⟩ : ∃ v, mvalid nx ck L = v := ⟨_, rfl⟩
  obtain ⟨v', hv'⟩ : ∃ v, mvalid nx' ck' L' = v := ⟨_, rfl⟩
  obtain ⟨S, hS⟩ : ∃ S, (mputS nx ck sd L).1 = S := ⟨_, rfl⟩
  obtain ⟨S', hS'⟩ : ∃ S, (mputS nx' ck' sd' L').1 = S := ⟨_, rfl⟩
  have HP : Hid (mputS nx ck sd L = (S, if v then 0 else 2)) := Lib.hid (by rw [← hS, ← hv]; unfold mputS; split <;> rename_i h <;> simp [h])
  have HP' : Hid (mputS nx' ck' sd' L' = (S', if v' then 0 else 2)) := Lib.hid (by rw [← hS', ← hv']; unfold mputS; split <;> rename_i h <;> simp [h])
  have HSl : Hid ((S.length : Int) ≤ 300) := Lib.hid (by
    rw [← hS]; unfold mputS; split
    · rename_i h; have := man_le sd h; show ((sealS (manBody nx ck sd L)).length : Int) ≤ 300; omega
    · show (([] : List UInt8).length : Int) ≤ 300; decide)
  have HSl' : Hid ((S'.length : Int) ≤ 300) := Lib.hid (by
    rw [← hS']; unfold mputS; split
    · rename_i h; have := man_le sd' h; show ((sealS (manBody nx' ck' sd' L')).length : Int) ≤ 300; omega
    · show (([] : List UInt8).length : Int) ≤ 300; decide)
  have HG : Hid (v = true → mgetS S = ⟨nx, ck, sd, trimL L, 0⟩) := Lib.hid (fun h => by rw [← hS]; unfold mputS; rw [if_pos (hv.trans h)]; exact mget_put (hv.trans h) S0.out S1.out)
  have HG' : Hid (v' = true → mgetS S' = ⟨nx', ck', sd', trimL L', 0⟩) := Lib.hid (fun h => by rw [← hS']; unfold mputS; rw [if_pos (hv'.trans h)]; exact mget_put (hv'.trans h) S0'.out S1'.out)
  have HV := Lib.hid hv; have HV' := Lib.hid hv'
  obtain ⟨f, hf⟩ : ∃ f : Int, (if v then (0 : Int) else 2) = f := ⟨_, rfl⟩
  obtain ⟨f', hf'⟩ : ∃ f : Int, (if v' then (0 : Int) else 2) = f := ⟨_, rfl⟩
  rw [hf] at HP
  rw [hf'] at HP'
  have HFe := Lib.hid hf; have HFe' := Lib.hid hf'
  clear hv hv' hS hS' hf hf'
  go_wp2_with fail
  refine (KD.new W0 20000 (by decide) (by decide) HB2.out).mono ?_
  rintro e w3 ⟨g, rfl, hkd⟩
  have HK := Lib.hid hkd
  clear hkd
  obtain ⟨⟨a0, a1, a2, a3⟩, ⟨c0, c1, c2, c3⟩⟩ := HC.out w3 HK.out.base
  go_wp2_with fail
  obtain ⟨F, hd0, hF, hx⟩ := HK.out
  refine (swap_c hd0 (Hx.out.ext (HE0.out.trans hx)) (by have := HGL.out.2.2; omega) HWF.out S0.out S1.out HP.out (by have := HSl.out; omega)).mono ?_
  have HSw : Hid (∃ o σ1, swapM (newM 20000) S f = (f, σ1) ∧ HasS σ1 mapN o ∧ σ1.down = false ∧ (v = true → o = some S) ∧ (v = false → o = none)) := Lib.hid (by
    have h := HFe.out
    cases v with
    | true => subst h; exact ⟨some S, _, swap_fresh S (by have := HSl.out; omega), rfl, rfl, fun _ => rfl, fun h => by cases h⟩
    | false => subst h; exact ⟨none, _, rfl, rfl, rfl, fun h => (by cases h), fun _ => rfl⟩)
  obtain ⟨o, σ1, ho, hho, hup, ho1, ho2⟩ := HSw.out
  rw [ho]
  rintro e w4 ⟨rfl, hd⟩
  have HK4 : Hid (KD W0 w4 g σ1) := Lib.hid (KD.dkS hF hx hd)
  have HHas := Lib.hid hho; have HUp := Lib.hid hup; have HO1 := Lib.hid ho1; have HO2 := Lib.hid ho2
  clear hd hd0 hF hx HK ho hho hup ho1 ho2 HSw F
  obtain ⟨⟨a0, a1, a2, a3⟩, ⟨c0, c1, c2, c3⟩⟩ := HC.out w4 HK4.out.base
  have hk8 : ∀ (W : World), Ext W0 W → Calls Try.prog 24 #[.agg #[.int .i64 nx, .int .i64 ck, .int .u64 sd, .slice ao n cap]] W fun e w' => e = .returned (.bool v) ∧ Ext W w' := fun W hW => by
    have h := mvalid_c nx ck sd _ _ _ L W (Hx.out.ext (HE0.out.trans hW)) (by have := HGL.out.2.2; omega) HWF.out
    rwa [HV.out] at h
  have HK8 := Lib.hid hk8
  have hk9 : ∀ (W : World), Ext W0 W → Calls Try.prog 24 #[.agg #[.int .i64 nx', .int .i64 ck', .int .u64 sd', .slice bo m cap2]] W fun e w' => e = .returned (.bool v') ∧ Ext W w' := fun W hW => by
    have h := mvalid_c nx' ck' sd' _ _ _ L' W (Hy.out.ext (HE0.out.trans hW)) (by have := HGL'.out.2.2; omega) HWF'.out
    rwa [HV'.out] at h
  have HK9 := Lib.hid hk9
  clear hk8 hk9 HV HV' HP HSl HWF HGL
  go_wp2_with fail
  refine (HK8.out w4 HK4.out.base).mono ?_
  rintro e w5 ⟨rfl, hx⟩
  have HK5 := Lib.hid (HK4.out.ext hx)
  clear hx
  have hfv : (f == 0) = v := by have h := HFe.out; cases v <;> subst h <;> rfl
  clear a0 a1 a2 a3 c0 c1 c2 c3
  go_upto_if 50 with fail
  go_cut [10] from 18 (fun s wc => (∃ A : Int, s = .int .i64 A ∧ 0 ≤ A ∧ A ≤ 255) ∧ wc = w5)
  case first =>
    by_cases hk0 : 0 < k
    · obtain ⟨b, off, rfl, z1⟩ := (Hz.out.ext (HE0.out.trans HK5.out.base)).at 0 hk0
      have z1' := z1
      rw [Nat.add_zero] at z1'
      have hwx := wf_getD HWB.out 0 (by decide)
      generalize bs.getD 0 0 = X at *
      have hX := bounds_u8 hwx
      clear hwx
      have hand : bits .and .u8 X 7 = X % 8 := bits_mask .u8 8 (by decide) wraps_u8 3 (by decide) X (by omega) (by omega)
      go_wp2_with fail
      go_meet
      case rel => exact ⟨⟨_, rfl, by omega, by omega⟩, rfl⟩
    · go_wp2_with fail
      go_meet
      case rel => exact ⟨⟨0, rfl, by omega, by omega⟩, rfl⟩
  case rest =>
  obtain ⟨⟨A, rfl, hA0, hA1⟩, rfl⟩ := hcut
  clear hfv
  go_wp2_with fail
  go_loopw [11, 12] (fun kv i wr => ∃ j : Nat, j ≤ k ∧ i = .int .i64 j ∧ Own wr wc.heap.size 3 1 kv j ((bs.take j).map (Value.int .i64)) ∧ Ext wc wr) (fun _ i _ => k - (intOf i).toNat)
  case atStart => exact ⟨0, Nat.zero_le _, rfl, Own.nil _ _ _ _, Ext.refl _⟩
  case round =>
  obtain ⟨j, hj, rfl, hown, hb⟩ := hrel
  have Hb := Lib.hid hb; clear hb
  have Hown := Lib.hid hown; clear hown
  by_cases hlt : j < k
  · obtain ⟨b, off, rfl, z1⟩ := (Hz.out.ext ((HE0.out.trans HK5.out.base).trans Hb.out)).at 0 hlt
    have hwx := wf_getD HWB.out j (by decide)
    have HT := Lib.hid (take_succ_getD bs 0 j (by rw [HLz.out]; exact hlt))
    generalize bs.getD j 0 = X at *
    have hX := bounds_u8 hwx
    clear hwx
    go_wp2_with (at_builtin; refine wpList_append_any rfl _ _ 32 rfl wc.heap.size 3 _ 1 8 Try.underlying32 Try.infoInt rfl (by decide) _ _ _ rfl (Hown.out.ext ((Ext.refl _).alloc _)) _ _ _ [.int .i64 X] rfl rfl (fun h => by cases h) (Rd.lit _ _ _) (by intro u hu; rw [List.mem_singleton.1 hu]; rfl) (by omega) (by omega) (by have := Hb.out.size; simp; omega) ?_; intro v' w6 hown' hg hfr)
    have hb1 := below_own (Hb.out.alloc (.cells #[.int .i64 X] 3)) (Hown.out.ext ((Ext.refl _).alloc _)) hg (by have := Hb.out.size; simp; omega)
    have HB6 := Lib.hid hb1; clear hb1
    have hown2 : Own w6 wc.heap.size 3 1 v' (j + 1) ((bs.take (j + 1)).map (Value.int .i64)) := by rw [HT.out, List.map_append]; exact hown'
    have HO := Lib.hid hown2; clear hown2 hown' hg hfr
    go_wp2_with fail
    go_roundw
    case rel => exact ⟨j + 1, by omega, by go_num, HO.out, HB6.out⟩
    case measure => simp [intOf]; omega
  · obtain rfl : j = k := by omega
    have HTk : Hid (bs.take j = bs) := Lib.hid (List.take_of_length_le (by rw [HLz.out]; exact Nat.le_refl _))
    have hown := Hown.out
    rw [HTk.out] at hown
    have hlt := hown.lt
    have hlz := HLz.out
    obtain ⟨ka, kc, rfl, hints⟩ := own_ints hown
    obtain ⟨F, hd, hF, hx⟩ := HK5.out
    have hFl : ∀ i, F i → i < wc.heap.size := by obtain ⟨_, _, _, _, _, _, h⟩ := hd; exact h
    have HD6 := Lib.hid (hd.ext Hb.out)
    have HF := Lib.hid hF
    have HX6 := Lib.hid (hx.trans Hb.out)
    have HKp := Lib.hid (hints.off (F := F) fun a e hf => by subst e; have h1 := (hlt a.block rfl).1; have h2 := hFl _ hf; omega)
    have HI := Lib.hid hints
    clear hown hlt hlz hints hd hF hx hFl HK5
    go_wp2_with fail
    refine (fail_c HD6.out A (by omega) HI.out (by omega)).mono ?_
    rw [show failD σ1 A bs = (0, { σ1 with fail := true, left := A, keep := bs }) from by unfold failD; rw [if_neg (by rw [HUp.out]; decide), if_neg (by omega)]]
    rintro e w7 ⟨rfl, hd⟩
    have HH := Lib.hid hd
    obtain ⟨σ2, hσ2⟩ : ∃ τ, ({ σ1 with fail := true, left := A, keep := bs } : DM) = τ := ⟨_, rfl⟩
    rw [hσ2] at HH
    have HHas2 : Hid (HasS σ2 mapN o) := Lib.hid (by rw [← hσ2]; exact HHas.out)
    have HUp2 : Hid (σ2.down = false) := Lib.hid (by rw [← hσ2]; exact HUp.out)
    clear hd hσ2 HHas HUp
    have HX := Lib.hid (HH.out.off.ext HX6.out HF.out)
    obtain ⟨⟨a0, a1, a2, a3⟩, ⟨c0, c1, c2, c3⟩⟩ := HC.out w7 HX.out
    go_wp2_with fail
    obtain ⟨r, hr⟩ : ∃ r, swapM σ2 S' f' = r := ⟨_, rfl⟩
    have HLaid : Hid (Laid σ2 v' S' o r.1 r.2) := Lib.hid (laid_swap HHas2.out HUp2.out v' S' (by rw [HFe'.out]; exact hr))
    have HR := Lib.hid hr
    obtain ⟨c, τ⟩ := r
    clear hr
    refine (swap_c HH.out.dk (Hy.out.ext (HE0.out.trans HX.out)) (by have := HGL'.out.2.2; omega) HWF'.out S0'.out S1'.out HP'.out (by have := HSl'.out; omega)).mono ?_
    rw [HR.out]
    rintro e w8 ⟨rfl, hd⟩
    have HH := Lib.hid (HH.out.trans hd)
    clear hd HX a0 a1 a2 a3 c0 c1 c2 c3
    go_wp2_with fail
    refine (up_c HH.out.dk).mono ?_
    rintro e w' ⟨rfl, rfl⟩
    go_upto_if 79 with fail
    go_cut [] from 18 (fun wc => ∃ τ', DkS wr g F τ' wc ∧ τ'.down = true ∧ ∀ o', HasS τ mapN o' → HasS τ' mapN o')
    case first =>
      cases hdn : τ.down with
      | true =>
        go_wp2_with fail
        go_meet
        case rel => exact ⟨τ, HH.out, hdn, fun _ h => h⟩
      | false =>
        have HCr : Hid (crashD τ bs = (0, crashM τ bs)) := Lib.hid (by unfold crashD; rw [if_neg (by rw [hdn]; decide)])
        go_wp2_with fail
        refine (crashD_c HH.out.dk _ _ _ bs (fun W hW => HKp.out W (HH.out.off.gr hW))).mono ?_
        rw [HCr.out]
        rintro e w9 ⟨rfl, hd⟩
        have HH := Lib.hid (HH.out.trans hd)
        clear hd
        go_wp2_with fail
        go_meet
        case rel => exact ⟨crashM τ bs, HH.out, rfl, fun o' h => h.crash bs⟩
    case rest =>
    obtain ⟨τ', hd', hdn', hhas'⟩ := hcut
    have HH := Lib.hid hd'
    have HSt : Hid (startM τ' = (0, { τ' with down := false, starts := wrap64 (τ'.starts + 1) })) := Lib.hid (by unfold startM; rw [if_pos hdn'])
    obtain ⟨τ3, hτ3⟩ : ∃ t, ({ τ' with down := false, starts := wrap64 (τ'.starts + 1) } : DM) = t := ⟨_, rfl⟩
    have HL0 : Hid (c = 0 → v' = true ∧ HasS τ3 mapN (some S')) := Lib.hid (fun h => ⟨(HLaid.out.ok h).1, by rw [← hτ3]; exact hhas' _ (HLaid.out.ok h).2.2⟩)
    have HL1 : Hid (c ≠ 0 → HasS τ3 mapN o) := Lib.hid (fun h => by rw [← hτ3]; exact hhas' _ (HLaid.out.no h))
    have HDn : Hid (τ3.down = false) := Lib.hid (by rw [← hτ3])
    have hca : (c == 2) = !v' := HLaid.out.arg
    rw [hτ3] at HSt
    clear hd' hdn' hhas' hτ3 HLaid HR
    go_wp2_with fail
    refine (start_c HH.out.dk).mono ?_
    rw [HSt.out]
    rintro e w10 ⟨rfl, hd⟩
    have HH := Lib.hid (HH.out.trans hd)
    clear hd
    go_wp2_with fail
    by_cases hc : c = 0
    case pos =>
      subst hc
      obtain ⟨hv1, hS3⟩ := HL0.out rfl
      subst hv1
      have HS3 := Lib.hid hS3
      clear hS3 hca
      refine (load_some HH.out.dk (sizeS HS3.out) HDn.out).mono ?_
      show ∀ e w', RetL _ _ _ _ (mgetS S') e w' → _
      rw [HG'.out rfl]
      rintro e w11 ⟨a5, c5, rfl, hg5, hd⟩
      have HX := Lib.hid (((HH.out.trans hd).off.ext HX6.out HF.out).trans (ext_a1 w11 (.cells #[.int .i64 nx', .int .i64 ck', .int .u64 sd', .slice a5 (trimL L').length c5] 45)))
      have hbx := Blk.new w11 45 #[.int .i64 nx', .int .i64 ck', .int .u64 sd', .slice a5 (trimL L').length c5]
      have HG5 := Lib.hid (hg5.ext (ext_a1 w11 (.cells #[.int .i64 nx', .int .i64 ck', .int .u64 sd', .slice a5 (trimL L').length c5] 45)))
      have HBx := Lib.hid hbx
      have d0 := hbx.cell 0; have d1 := hbx.cell 1; have d2 := hbx.cell 2; have d3 := hbx.cell 3
      obtain ⟨⟨a0, a1, a2, a3⟩, ⟨c0, c1, c2, c3⟩⟩ := HC.out _ HX.out
      clear hd hg5 hbx
      have hel : (trimL L').length ≤ 9223372036854775807 := by have h : (trimL L').length ≤ c5 := HG5.out.fits; have h2 := HG5.out.bound; omega
      go_wp2_with fail
      refine (refmsame_c nx' ck' sd' _ _ _ (trimL L') nx' ck' sd' _ _ _ L' _ HG5.out (Hy.out.ext (HE0.out.trans HX.out))).mono ?_
      rw [msame_trim]
      rintro e w12 ⟨rfl, hx⟩
      have HX := Lib.hid (HX.out.trans hx)
      have HBx := Lib.hid (HBx.out.ext hx)
      have HG5 := Lib.hid (HG5.out.ext hx)
      have d0 := HBx.out.cell 0; have d1 := HBx.out.cell 1; have d2 := HBx.out.cell 2; have d3 := HBx.out.cell 3
      obtain ⟨⟨a0, a1, a2, a3⟩, ⟨c0, c1, c2, c3⟩⟩ := HC.out _ HX.out
      clear hx
      go_wp2_with fail
      refine (mapped_c _).mono ?_
      rintro e w' ⟨rfl, hx⟩
      have HE := Lib.hid ((HE0.out.trans HX.out).trans hx)
      clear hx
      go_wp2_with fail
      go_ret
      exact ⟨rfl, HE.out⟩
    case neg =>
    have HS3 := Lib.hid (HL1.out hc)
    have hc0 : (c == 0) = false := by simpa using hc
    clear hc HL0 HL1
    cases v with
    | true =>
      obtain rfl : o = some S := HO1.out rfl
      obtain rfl : f = 0 := HFe.out.symm
      refine (load_some HH.out.dk (sizeS HS3.out) HDn.out).mono ?_
      show ∀ e w', RetL _ _ _ _ (mgetS S) e w' → _
      rw [HG.out rfl]
      rintro e w11 ⟨a5, c5, rfl, hg5, hd⟩
      have HX := Lib.hid (((HH.out.trans hd).off.ext HX6.out HF.out).trans (ext_a1 w11 (.cells #[.int .i64 nx, .int .i64 ck, .int .u64 sd, .slice a5 (trimL L).length c5] 45)))
      have hbx := Blk.new w11 45 #[.int .i64 nx, .int .i64 ck, .int .u64 sd, .slice a5 (trimL L).length c5]
      have HG5 := Lib.hid (hg5.ext (ext_a1 w11 (.cells #[.int .i64 nx, .int .i64 ck, .int .u64 sd, .slice a5 (trimL L).length c5] 45)))
      have HBx := Lib.hid hbx
      have d0 := hbx.cell 0; have d1 := hbx.cell 1; have d2 := hbx.cell 2; have d3 := hbx.cell 3
      obtain ⟨⟨a0, a1, a2, a3⟩, ⟨c0, c1, c2, c3⟩⟩ := HC.out _ HX.out
      clear hd hg5 hbx
      have hel : (trimL L).length ≤ 9223372036854775807 := by have h : (trimL L).length ≤ c5 := HG5.out.fits; have h2 := HG5.out.bound; omega
      go_wp2_with fail
      refine (refmsame_c nx ck sd _ _ _ (trimL L) nx ck sd _ _ _ L _ HG5.out (Hx.out.ext (HE0.out.trans HX.out))).mono ?_
      rw [msame_trim]
      rintro e w12 ⟨rfl, hx⟩
      have HX := Lib.hid (HX.out.trans hx)
      have HBx := Lib.hid (HBx.out.ext hx)
      have HG5 := Lib.hid (HG5.out.ext hx)
      have d0 := HBx.out.cell 0; have d1 := HBx.out.cell 1; have d2 := HBx.out.cell 2; have d3 := HBx.out.cell 3
      obtain ⟨⟨a0, a1, a2, a3⟩, ⟨c0, c1, c2, c3⟩⟩ := HC.out _ HX.out
      clear hx
      go_wp2_with fail
      refine (HK9.out _ HX.out).mono ?_
      rintro e w13 ⟨rfl, hx⟩
      have HX := Lib.hid (HX.out.trans hx)
      have HBx := Lib.hid (HBx.out.ext hx)
      have HG5 := Lib.hid (HG5.out.ext hx)
      have d0 := HBx.out.cell 0; have d1 := HBx.out.cell 1; have d2 := HBx.out.cell 2; have d3 := HBx.out.cell 3
      obtain ⟨⟨a0, a1, a2, a3⟩, ⟨c0, c1, c2, c3⟩⟩ := HC.out _ HX.out
      clear hx
      cases v' with
      | true =>
        go_wp2_with fail
        refine (refmsame_c nx ck sd _ _ _ (trimL L) nx' ck' sd' _ _ _ L' _ HG5.out (Hy.out.ext (HE0.out.trans HX.out))).mono ?_
        generalize msame nx ck sd (trimL L) nx' ck' sd' L' = qq
        rintro e w14 ⟨rfl, hx⟩
        have HX := Lib.hid (HX.out.trans hx)
        have HBx := Lib.hid (HBx.out.ext hx)
        have HG5 := Lib.hid (HG5.out.ext hx)
        have d0 := HBx.out.cell 0; have d1 := HBx.out.cell 1; have d2 := HBx.out.cell 2; have d3 := HBx.out.cell 3
        obtain ⟨⟨a0, a1, a2, a3⟩, ⟨c0, c1, c2, c3⟩⟩ := HC.out _ HX.out
        clear hx
        go_wp2_with fail
        refine (HK9.out _ HX.out).mono ?_
        rintro e w15 ⟨rfl, hx⟩
        have HX := Lib.hid (HX.out.trans hx)
        have HBx := Lib.hid (HBx.out.ext hx)
        have HG5 := Lib.hid (HG5.out.ext hx)
        have d0 := HBx.out.cell 0; have d1 := HBx.out.cell 1; have d2 := HBx.out.cell 2; have d3 := HBx.out.cell 3
        obtain ⟨⟨a0, a1, a2, a3⟩, ⟨c0, c1, c2, c3⟩⟩ := HC.out _ HX.out
        clear hx
        go_wp2_with fail
        refine (mapped_c _).mono ?_
        rintro e w' ⟨rfl, hx⟩
        have HE := Lib.hid ((HE0.out.trans HX.out).trans hx)
        clear hx
        go_wp2_with fail
        go_ret
        exact ⟨rfl, HE.out⟩
      | false =>
        go_wp2_with fail
        refine (HK9.out _ HX.out).mono ?_
        rintro e w15 ⟨rfl, hx⟩
        have HX := Lib.hid (HX.out.trans hx)
        have HBx := Lib.hid (HBx.out.ext hx)
        have HG5 := Lib.hid (HG5.out.ext hx)
        have d0 := HBx.out.cell 0; have d1 := HBx.out.cell 1; have d2 := HBx.out.cell 2; have d3 := HBx.out.cell 3
        obtain ⟨⟨a0, a1, a2, a3⟩, ⟨c0, c1, c2, c3⟩⟩ := HC.out _ HX.out
        clear hx
        go_wp2_with fail
        refine (mapped_c _).mono ?_
        rintro e w' ⟨rfl, hx⟩
        have HE := Lib.hid ((HE0.out.trans HX.out).trans hx)
        clear hx
        go_wp2_with fail
        go_ret
        exact ⟨rfl, HE.out⟩
    | false =>
      obtain rfl : o = none := HO2.out rfl
      obtain rfl : f = 2 := HFe.out.symm
      refine (load_none HH.out.dk (size0 HS3.out HDn.out)).mono ?_
      rintro e w11 ⟨a5, c5, rfl, hg5, hd⟩
      have HX := Lib.hid (((HH.out.trans hd).off.ext HX6.out HF.out).trans (ext_a1 w11 (.cells #[.int .i64 0, .int .i64 0, .int .u64 0, .slice a5 0 c5] 45)))
      have hbx := Blk.new w11 45 #[.int .i64 0, .int .i64 0, .int .u64 0, .slice a5 0 c5]
      have HBx := Lib.hid hbx
      have d0 := hbx.cell 0; have d1 := hbx.cell 1; have d2 := hbx.cell 2; have d3 := hbx.cell 3
      obtain ⟨⟨a0, a1, a2, a3⟩, ⟨c0, c1, c2, c3⟩⟩ := HC.out _ HX.out
      clear hd hg5 hbx
      go_wp2_with fail
      refine (HK9.out _ HX.out).mono ?_
      rintro e w13 ⟨rfl, hx⟩
      have HX := Lib.hid (HX.out.trans hx)
      have HBx := Lib.hid (HBx.out.ext hx)
      have d0 := HBx.out.cell 0; have d1 := HBx.out.cell 1; have d2 := HBx.out.cell 2; have d3 := HBx.out.cell 3
      obtain ⟨⟨a0, a1, a2, a3⟩, ⟨c0, c1, c2, c3⟩⟩ := HC.out _ HX.out
      clear hx
      cases v' with
      | true =>
        go_wp2_with fail
        refine (HK9.out _ HX.out).mono ?_
        rintro e w15 ⟨rfl, hx⟩
        have HX := Lib.hid (HX.out.trans hx)
        have HBx := Lib.hid (HBx.out.ext hx)
        have d0 := HBx.out.cell 0; have d1 := HBx.out.cell 1; have d2 := HBx.out.cell 2; have d3 := HBx.out.cell 3
        obtain ⟨⟨a0, a1, a2, a3⟩, ⟨c0, c1, c2, c3⟩⟩ := HC.out _ HX.out
        clear hx
        go_wp2_with fail
        refine (mapped_c _).mono ?_
        rintro e w' ⟨rfl, hx⟩
        have HE := Lib.hid ((HE0.out.trans HX.out).trans hx)
        clear hx
        go_wp2_with fail
        go_ret
        exact ⟨rfl, HE.out⟩
      | false =>
        go_wp2_with fail
        refine (HK9.out _ HX.out).mono ?_
        rintro e w15 ⟨rfl, hx⟩
        have HX := Lib.hid (HX.out.trans hx)
        have HBx := Lib.hid (HBx.out.ext hx)
        have d0 := HBx.out.cell 0; have d1 := HBx.out.cell 1; have d2 := HBx.out.cell 2; have d3 := HBx.out.cell 3
        obtain ⟨⟨a0, a1, a2, a3⟩, ⟨c0, c1, c2, c3⟩⟩ := HC.out _ HX.out
        clear hx
        go_wp2_with fail
        refine (mapped_c _).mono ?_
        rintro e w' ⟨rfl, hx⟩
        have HE := Lib.hid ((HE0.out.trans HX.out).trans hx)
        clear hx
        go_wp2_with fail
        go_ret
        exact ⟨rfl, HE.out⟩

end Go.Proofs.Ytjllhjlmjbpinaa
namespace Go.Proofs.Ytjllhjlmjbpinaa
open Go.RowKit Go.WideShapes

theorem trod_of_cell {H : Type} {enc : TypeId × Value → H} {w : World} {base : Nat} {sp : Nat → Bool} {held : Bool} {t : TypeId} {n : Nat} {v : Value} {y : DataW H × List MemPlace} (hc : v.cells.toList = [v])
    (h : DataW.trod enc Try.prog w base sp held n t [v] = some y) : DataW.Trod enc Try.prog w base sp held t v y.1 y.2 := ⟨n, by rw [hc]; exact h⟩

set_option maxRecDepth 100000 in
theorem open_man {H : Type} {enc : TypeId × Value → H} {w : World} {base : Nat} {held : Bool} {r : Reach} {b0 : Nat} {v : Value} {d : DataW H} {p : List MemPlace}
    (hv : Value.okWide Try.prog w r b0 45 v) (h : DataW.Trod enc Try.prog w base (fun _ => true) held 45 v d p) :
    ∃ nx ck sd ao n cap L, v = .agg #[.int .i64 nx, .int .i64 ck, .int .u64 sd, .slice ao n cap] ∧ Grid w ao n cap L ∧ (∀ x ∈ L.flatten, (Lit.int .i64 x).wf = true) ∧ 0 ≤ sd ∧ sd < 18446744073709551616 := by
  obtain ⟨v0, v1, v2, v3, y0, y1, y2, y3, n, rfl, _, _, h0, h1, h2, h3⟩ := Joins.open_agg4 Try.underlying45 (by kernel_rfl) (by kernel_rfl) hv h
  obtain ⟨a0, e0, _, _⟩ := DataW.trod_int Try.underlying3 h0
  obtain ⟨a1, e1, _, _⟩ := DataW.trod_int Try.underlying3 h1
  obtain ⟨a2, e2, _, w2⟩ := DataW.trod_int Try.underlying42 h2
  obtain ⟨a3, l3, c3, e3⟩ := Joins.slice_form Try.underlying43 h3
  simp only [List.cons.injEq, and_true] at e0 e1 e2 e3
  subst e0 e1 e2 e3
  obtain ⟨ao, m, cap, L, e, hg, hwf⟩ := open_grid Try.underlying43 Try.underlying32 Try.underlying3 (by kernel_rfl) (by kernel_rfl) ⟨_, _, _, rfl⟩ (trod_of_cell rfl h3)
  cases e
  have hb := bounds_u64 w2
  exact ⟨a0, a1, a2, _, _, _, L, rfl, hg, hwf, by omega, by omega⟩

end Go.Proofs.Ytjllhjlmjbpinaa
