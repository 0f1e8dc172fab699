/- Walks: the last chunk made sure. Walks: a record more in the last chunk. Walks: a new chunk, step by step. Walks: a new chunk. Walks: the record that stands at a place. Walks: the first record from a place on. Walks: how many chunks there are; a chunk is loaded. Walks: a record in a new chunk. Walks: the chunks are read; a log is opened. Walks: a log is opened. -/
import Derived.Test.YtmgpffknmmoggaaGreatDoorG45PIndexPlay
import Derived.Test.YtmgpffknmmoggaaGreatDoorG35PIndexPlay
import Derived.Deep.RegionHeld3
import Derived.Laws.BitsLemmas
import Derived.Test.YtmgpffknmmoggaaGreatDoorG7PIndexPlay
import Derived.WalkMore
import Derived.Deep.LoopGhost
import Derived.Test.YtmgpffknmmoggaaGreatDoorG13PIndexPlay
import Derived.Test.YtmgpffknmmoggaaGreatDoorG17PIndexPlay
import Derived.Deep.RegionLaw
set_option linter.unusedVariables false
set_option linter.unusedSimpArgs false
namespace Go.Proofs.YtmgpffknmmoggaaGreatDoor
open Go.RowKit
set_option maxRecDepth 100000
set_option linter.unusedVariables false
set_option maxHeartbeats 3200000
section
variable {w0 w : World} {g gl : Nat} {F K : Nat → Prop} {v : Value} {σ : DM} {c s sure : Int} {C : Cks}
theorem LgF.setSure {xs : List Int} {sure : Int} (h : LgF w0 w g gl F v σ s xs sure K) (z : Int) : LgF w0 (w.setCell ⟨gl, 4, none⟩ (.int .i64 z)) g gl F v σ s xs z K ∧ Stay K w (w.setCell ⟨gl, 4, none⟩ (.int .i64 z)) :=
  h.log ⟨h.l.blk.set 4 (.int .i64 z), row_setOther h.l.row _ h.l.apart⟩ (OffS.set w (.inl rfl) 4 _) fun i hi => .inl hi
theorem cks_last (D : Cks) (ps : List (List UInt8)) : (D ++ [ps])[D.length]? = some ps := by simp
end
end Go.Proofs.YtmgpffknmmoggaaGreatDoor
namespace Go.Proofs.YtmgpffknmmoggaaGreatDoor
open Go.RowKit
set_option maxRecDepth 100000
set_option linter.unusedVariables false
set_option maxHeartbeats 3200000
section
variable {w0 w : World} {g gl : Nat} {F K : Nat → Prop} {v : Value} {σ : DM} {c s sure : Int} {C : Cks}
end
end Go.Proofs.YtmgpffknmmoggaaGreatDoor
namespace Go.Proofs.YtmgpffknmmoggaaGreatDoor
open Go.RowKit
set_option maxRecDepth 100000
set_option linter.unusedVariables false
set_option maxHeartbeats 3200000
def LgP (w0 w : World) (g gl : Nat) (c s : Int) (l : List (List UInt8 × List UInt8)) (xs : List Int) (sure : Int) (K : Nat → Prop) : Prop := ∃ F v σ, LgF w0 w g gl F v σ s xs sure K ∧ Pl σ c s l
section
variable {w0 w : World} {g gl : Nat} {F K : Nat → Prop} {v : Value} {σ : DM} {c s sure : Int} {C : Cks} {xs : List Int}
end
end Go.Proofs.YtmgpffknmmoggaaGreatDoor
namespace Go.Proofs.YtmgpffknmmoggaaGreatDoor
open Go.RowKit
set_option maxRecDepth 100000
set_option linter.unusedVariables false
set_option maxHeartbeats 3200000
section
variable {w0 w : World} {g gl : Nat} {F K : Nat → Prop} {v : Value} {σ : DM} {c s sure : Int} {C : Cks} {xs : List Int}
end
end Go.Proofs.YtmgpffknmmoggaaGreatDoor
namespace Go.Proofs.YtmgpffknmmoggaaGreatDoor
open Go.RowKit
set_option maxRecDepth 100000
set_option linter.unusedVariables false
set_option maxHeartbeats 3200000
section
variable {w0 w : World} {g gl : Nat} {F K : Nat → Prop} {v : Value} {σ : DM} {c s sure : Int} {C : Cks} {xs : List Int} {l : List (List UInt8 × List UInt8)} {nm : List UInt8} {x : List UInt8 × List UInt8}
theorem disk_read (h : LgF w0 w g gl F v σ s xs sure K) (hp : Pl σ c s l) (hf : findN Prod.fst nm l = some x) (hnm : nm.length ≤ 9223372036854775807) (a n : Int) (ha : 0 ≤ a) (hn : 0 ≤ n) (hl : a + n ≤ (x.2.length : Int)) (hx : (x.2.length : Int) ≤ 1048576) :
    Calls Tryz.prog 86 #[.pointer (some ⟨g, 0, none⟩), .string ⟨nm.toArray⟩, .int .i64 a, .int .i64 n] w fun e w' =>
      e = .returned (.tuple #[.string ⟨((x.2.drop a.toNat).take n.toNat).toArray⟩, .int .i64 0]) ∧ (∃ F' σ', LgF w0 w' g gl F' v σ' s xs sure K ∧ Pl σ' c s l) ∧ Stay K w w' := by
  have h1 := read_c h.d nm a n hnm (by omega) (by omega) (by omega) (by omega)
  rw [hp.read hf a n ha hn hl] at h1
  refine h1.mono ?_
  rintro e w' ⟨rfl, k⟩
  obtain ⟨k1, k2⟩ := h.disk k
  exact ⟨rfl, ⟨_, _, k1, hp.tell⟩, k2⟩
end
end Go.Proofs.YtmgpffknmmoggaaGreatDoor
namespace Go.Proofs.YtmgpffknmmoggaaGreatDoor
open Go.RowKit
set_option maxRecDepth 100000
set_option linter.unusedVariables false
set_option maxHeartbeats 3200000
theorem preB_chunk (n : Nat) (ps : List (List UInt8)) : preB (chunkB n ps) (ckHead n) = true := by
  unfold preB chunkB
  rw [decide_eq_true (by simp), Bool.true_and, List.take_left]
  simp
section
variable {w0 w : World} {g gl : Nat} {F K : Nat → Prop} {v : Value} {σ : DM} {c s sure : Int} {C : Cks} {xs : List Int}
end
end Go.Proofs.YtmgpffknmmoggaaGreatDoor
namespace Go.Proofs.YtmgpffknmmoggaaGreatDoor
open Go.RowKit Go.Maps Go.Sort
set_option maxRecDepth 100000
set_option linter.unusedVariables false
set_option maxHeartbeats 3200000
theorem Dk.names {w : World} {g : Nat} {F : Nat → Prop} {σ : DM} (h : Dk w g F σ) : Calls Tryz.prog 73 #[.pointer (some ⟨g, 0, none⟩)] w (RetN w (namesM σ)) := by
  obtain ⟨ho, m, kv, L, hi, _⟩ := h
  have := ho.many
  have hl : L.length = σ.L.length := by rw [← hi.files, List.length_map]
  have hn := names_c w g m L hi.c0 hi.c3 hi.fs (by omega)
  have e : L.map FE.nm = namesM σ := by unfold namesM; rw [← hi.files, List.map_map]; rfl
  rwa [e] at hn
section
variable {w0 w : World} {g gl : Nat} {F K : Nat → Prop} {v : Value} {σ : DM} {c s sure : Int} {C : Cks} {xs : List Int}
theorem count_c (h : Dk w g F σ) (hl : Lgd σ c s C) : Calls Tryz.prog 40 #[.pointer (some ⟨g, 0, none⟩)] w fun e w' => e = .returned (.tuple #[.int .i64 (C.length : Int), .bool true]) ∧ Ext w w' := by
  have HN := Lib.hid h.names
  have hnm : namesM σ = (List.range C.length).map fun k : Nat => nameS 99 (k : Int) := by rw [hl.pl.names, cksF_names, List.range_eq_range']
  have h200 := hl.ok.few
  rw [hnm] at HN
  have HPs := Lib.hid (fun (k : Nat) (hk : k < 200) (W : World) => (show Calls Tryz.prog 74 #[.string ⟨(nameS 99 (k : Int)).toArray⟩] W fun e w' => e = .returned (.tuple #[.int .u8 99, .int .i64 (k : Int), .bool true]) ∧ Ext W w' by
    have h1 := parse_c (nameS 99 (k : Int)) W (cname_le _)
    rw [parse_name (by decide) (by omega)] at h1
    exact h1))
  clear h hl hnm
  generalize C.length = n at *
  go_enter Tryz.func40, Tryz.ntmps40
  go_wp2_with fail
  refine HN.out.mono ?_
  intro e w1 hr
  obtain ⟨a, cap, rfl, hown, hb⟩ := hr.out
  have hll : ((List.range n).map fun k : Nat => nameS 99 (k : Int)).length = n := by simp
  rw [hll] at hown ⊢
  have HOw := Lib.hid hown
  have HB := Lib.hid hb
  clear hr hown hb hll
  go_wp2_with fail
  go_loopw [2, 3, 12] (fun m o i W => ∃ k : Nat, k ≤ n ∧ i = .int .i64 (k : Int) ∧ m = .int .i64 (k : Int) ∧ o = .bool true ∧ Ext w1 W) (fun _ _ i _ => n - (intOf i).toNat)
  case atStart => exact ⟨0, Nat.zero_le _, rfl, rfl, rfl, Ext.refl _⟩
  case round =>
    obtain ⟨k, hk, rfl, rfl, rfl, hb⟩ := hrel
    have HBk := Lib.hid hb
    by_cases hkn : k < n
    · have hd : decide ((k : Int) < (n : Int)) = true := by simp; omega
      obtain ⟨b, cap', hv, hc, _⟩ := (HOw.out.ext hb).cell (j := k) (by simp; omega)
      cases hv
      have hval : ((((List.range n).map fun k : Nat => nameS 99 (k : Int)).map encStr)[k]'(by simp; omega)) = .string ⟨(nameS 99 (k : Int)).toArray⟩ := by simp [encStr]
      rw [hval] at hc
      have HP := Lib.hid (HPs.out k (by omega))
      generalize nameS 99 (k : Int) = nm at *
      clear hval hb
      go_wp2_with fail
      refine (HP.out _).mono ?_
      rintro e w2 ⟨rfl, hb⟩
      have HB2 := Lib.hid (HBk.out.trans hb)
      clear hb
      go_wp2_with fail
      go_roundw
      case rel => exact ⟨k + 1, by omega, by go_num, by go_num, rfl, HB2.out⟩
      case measure => simp [intOf]; omega
    · have hd : decide ((k : Int) < (n : Int)) = false := by simp; omega
      obtain rfl : k = n := by omega
      have hd2 : decide ((k : Int) ≤ 200) = true := by simp; omega
      clear hb
      go_wp2_with fail
      go_ret2
      exact ⟨rfl, HB.out.trans HBk.out⟩
theorem load_c (h : LgP w0 w g gl c s (cksF 0 C) xs sure K) (hok : okC C) {n : Nat} {ps : List (List UInt8)} (hps : C[n]? = some ps) :
    Calls Tryz.prog 99 #[.pointer (some ⟨g, 0, none⟩), .int .i64 (n : Int)] w fun e w' => e = .returned (.tuple #[.string ⟨(chunkB n ps).toArray⟩, .int .i64 (sizeC ps : Int), .int .i64 0]) ∧ LgP w0 w' g gl c s (cksF 0 C) xs sure K ∧ Stay K w w' := by
  obtain ⟨F, v, σ, h1, h2⟩ := h
  have hn200 : n < 200 := by have := hok.few; have := (List.getElem?_eq_some_iff.1 hps).1; omega
  have hz4 : sizeC ps ≤ 4096 := hok.size ps (List.mem_of_getElem? hps)
  have hpay := hok.pay ps (List.mem_of_getElem? hps)
  have hlen := chunkB_length n ps
  have hfind := cksF_find hok.few hps
  have hnm := cname_le (n : Int)
  have HCH := Lib.hid (fun W => chunk_c (n : Int) W)
  have HSz := Lib.hid (fun (W : World) (k : Ext w W) => (show Calls Tryz.prog 38 #[.pointer (some ⟨g, 0, none⟩), .string ⟨(nameS 99 (n : Int)).toArray⟩] W fun e w' => e = .returned (.tuple #[.int .i64 (sizeC ps : Int), .int .i64 0]) ∧ W = w' by
    have h3 := size_c (h1.d.ext k) (nameS 99 (n : Int)) hnm
    rw [h2.size hfind] at h3
    have h4 : (((nameS 99 (n : Int), chunkB n ps) : List UInt8 × List UInt8).2.length : Int) = (sizeC ps : Int) := by simp [hlen]
    rw [h4] at h3
    exact h3))
  have HR1 := Lib.hid (fun (W : World) (k : Ext w W) => disk_read (h1.grow k) h2 hfind hnm 0 (sizeC ps : Int) (by decide) (by omega) (by rw [hlen]; omega) (by rw [hlen]; omega))
  have htk : ((chunkB n ps).drop 0).take (sizeC ps) = chunkB n ps := by rw [List.drop_zero, List.take_of_length_le (by rw [hlen]; omega)]
  have e0 : (0 : Int).toNat = 0 := rfl
  simp only [Int.toNat_natCast, e0, htk] at HR1
  have HSc := Lib.hid (fun W => scan_c (chunkB n ps) n W hn200 (by rw [hlen]; omega) (preB_chunk n ps))
  rw [whole_chunk n ps hpay] at HSc
  have hend : (endR 12 (placesC 12 ps) : Int) = (sizeC ps : Int) := by rw [placesC_end]; rfl
  rw [hend] at HSc
  have HH := Lib.hid h1
  generalize chunkB n ps = S at *
  generalize nameS 99 (n : Int) = nm at *
  generalize (sizeC ps : Int) = z at *
  clear h1 h2 hlen hfind hpay hnm htk hend hz4 hps hok
  go_enter Tryz.func99, Tryz.ntmps99
  go_wp2_with fail
  refine (HCH.out _).mono ?_
  rintro e w1 ⟨rfl, hb⟩
  have HB := Lib.hid hb; clear hb
  go_wp2_with fail
  refine (HSz.out _ HB.out).mono ?_
  rintro e w2 ⟨rfl, rfl⟩
  go_wp2_with fail
  refine (HCH.out _).mono ?_
  rintro e w3 ⟨rfl, hb⟩
  have HB3 := Lib.hid (HB.out.trans hb); clear hb
  go_wp2_with fail
  refine (HR1.out _ HB3.out).mono ?_
  rintro e w4 ⟨rfl, ⟨F2, σ2, h2, h3⟩, h4⟩
  have H2 := Lib.hid h2; have H3 := Lib.hid h3; have H4 := Lib.hid ((HH.out.kExt HB3.out).trans h4)
  clear h2 h3 h4
  go_wp2_with fail
  refine (HSc.out _).mono ?_
  rintro e w5 ⟨pv, rfl, hr, hb⟩
  have HB5 := Lib.hid hb
  obtain ⟨pa, pc, rfl⟩ := row_slice hr
  clear hr hb
  go_wp2_with fail
  go_ret3
  exact ⟨rfl, ⟨_, _, σ2, H2.out.grow HB5.out, H3.out⟩, H4.out.trans (H2.out.kExt HB5.out)⟩
end
end Go.Proofs.YtmgpffknmmoggaaGreatDoor
namespace Go.Proofs.YtmgpffknmmoggaaGreatDoor
open Go.RowKit
set_option maxRecDepth 100000
set_option linter.unusedVariables false
set_option maxHeartbeats 3200000
section
variable {w0 w : World} {g gl : Nat} {F K : Nat → Prop} {v : Value} {σ : DM} {c s sure : Int} {C : Cks} {xs : List Int}
theorem LgF.push {w3 wl w' : World} (h : LgF w0 w3 g gl F v σ s xs sure K) (hx : Ext w3 wl) {z : Int} {v' : Value} (hown : w'.ownsRow 0 3 1 v' (xs.length + 1) (xs.map (Value.int .i64) ++ [.int .i64 z])) (hgrow : wl.grownBy w' v.ownBlock)
    (hat : v'.ownBlock = v.ownBlock ∨ v'.ownBlock = some wl.heap.size) :
    LgF w0 (w'.setCell ⟨gl, 3, none⟩ v') g gl F v' σ s (xs ++ [z]) sure K ∧ Stay K w3 (w'.setCell ⟨gl, 3, none⟩ v') := by
  have hlt := h.l.blk.lt
  have hs := hx.size
  have hne : v'.ownBlock ≠ some gl := fun e => by
    rcases hat with h1 | h1
    · exact h.l.apart (h1.symm.trans e)
    · rw [h1] at e; cases e; omega
  have hb : Blk w' gl 96 #[.pointer (some ⟨g, 0, none⟩), .int .i64 s, .bool false, v, .int .i64 sure] := (h.l.blk.ext hx).same (hgrow.block gl (by omega) fun e => h.l.apart e.symm)
  refine h.log ⟨hb.set 3 v', ?_⟩ (((OffS.of_ext hx).trans (OffS.grown hgrow fun i e => .inr e)).trans (OffS.set w' (.inl rfl) 3 v')) fun i hi => ?_
  · rw [List.length_append, List.map_append]
    exact row_setOther hown v' hne
  · rcases hat with h1 | h1
    · exact .inl (h1.symm.trans hi)
    · right; rw [h1] at hi; cases hi; exact hs
theorem LgF.pushed {w3 wl w' : World} (h : LgF w0 w3 g gl F v σ s xs sure K) (hx : Ext w3 wl) (hgrow : wl.grownBy w' v.ownBlock) : Stay K w3 w' ∧ w'.cell? ⟨gl, 3, none⟩ = some v ∧ w'.frozen? ⟨gl, 3, none⟩ = false := by
  have hlt := h.l.blk.lt
  have hs := hx.size
  have hb : Blk w' gl 96 #[.pointer (some ⟨g, 0, none⟩), .int .i64 s, .bool false, v, .int .i64 sure] := (h.l.blk.ext hx).same (hgrow.block gl (by omega) fun e => h.l.apart e.symm)
  refine ⟨fun i hi => ?_, hb.cell 3, hb.free 3⟩
  obtain ⟨h1, _, h2⟩ := h.k i hi
  exact (hgrow.block i (by omega) fun e => h2 (.inr e.symm)).trans (hx.block i h1)
end
end Go.Proofs.YtmgpffknmmoggaaGreatDoor
namespace Go.Proofs.YtmgpffknmmoggaaGreatDoor
open Go.RowKit
set_option maxRecDepth 100000
set_option linter.unusedVariables false
set_option maxHeartbeats 3200000
section
variable {w0 w : World} {g gl : Nat} {F K : Nat → Prop} {v : Value} {σ : DM} {c s sure : Int} {C : Cks} {xs : List Int}
theorem mend_c {D : Cks} {ps : List (List UInt8)} (h : LgP w0 w g gl c s (cksF 0 (D ++ [ps])) (sizesL D) sure K) (hok : okC (D ++ [ps])) :
    Calls Tryz.prog 100 #[.pointer (some ⟨gl, 0, none⟩), .int .i64 (D.length : Int), .string ⟨(chunkB D.length ps).toArray⟩, .int .i64 (sizeC ps : Int)] w fun e w' =>
      e = .returned (.int .i64 0) ∧ LgP w0 w' g gl c s (cksF 0 (D ++ [ps])) (sizesL (D ++ [ps])) sure K ∧ Stay K w w' := by
  obtain ⟨F, v, σ, h1, h2⟩ := h
  have h200 : D.length + 1 ≤ 200 := by have := hok.few; simpa using this
  have hz4 : sizeC ps ≤ 4096 := hok.size ps (by simp)
  have hz12 : 12 ≤ sizeC ps := by unfold sizeC; omega
  have hlen := chunkB_length D.length ps
  have hfind := cksF_find hok.few (cks_last D ps)
  have hnm := cname_le (D.length : Int)
  have HCH := Lib.hid (fun W => chunk_c (D.length : Int) W)
  obtain ⟨σ', hm, hp'⟩ := h2.sync hfind
  have HSY := Lib.hid (fun (W : World) (F' : Nat → Prop) (hW : Dk W g F' σ) => (show Calls Tryz.prog 160 #[.pointer (some ⟨g, 0, none⟩), .string ⟨(nameS 99 (D.length : Int)).toArray⟩] W fun e w' => e = .returned (.int .i64 0) ∧ DkS W g F' σ' w' by
    have := sync_c hW (nameS 99 (D.length : Int)) hnm
    rw [hm] at this
    exact this))
  have hsl := sizesL_length D
  obtain ⟨sa, sk, hv0⟩ := row_slice h1.l.row
  rw [hsl] at hv0
  subst hv0
  have hrow := h1.l.row
  rw [hsl] at hrow
  have HRow := Lib.hid hrow
  have HC3 := Lib.hid h1.l.c3
  have HH := Lib.hid h1
  have HP := Lib.hid hp'
  have hl' : ((chunkB D.length ps).length : Int) = (sizeC ps : Int) := by rw [hlen]
  have HSn : Hid (sizesL D ++ [(sizeC ps : Int)] = sizesL (D ++ [ps])) := Lib.hid (sizesL_snoc D ps).symm
  have hSl : (chunkB D.length ps).length ≤ 4096 := by omega
  obtain ⟨z, hz⟩ : ∃ z : Int, (sizeC ps : Int) = z := ⟨_, rfl⟩
  have z12 : 12 ≤ z := by omega
  have z4 : z ≤ 4096 := by omega
  have hznz : (z == 0) = false := by simp; omega
  rw [hz] at hl' HSn ⊢
  have HSl := Lib.hid hsl
  generalize chunkB D.length ps = S at *
  generalize nameS 99 (D.length : Int) = nm at *
  have hDl : D.length ≤ 199 := by omega
  generalize hn : D.length = n at *
  clear h1 h2 hp' hm hfind hnm hlen hsl hrow hz hz4 hz12 hok hn h200
  go_enter Tryz.func100, Tryz.ntmps100
  go_wp2_with fail
  refine (HCH.out _).mono ?_
  rintro e w1 ⟨rfl, hb⟩
  have HB := Lib.hid hb
  have c3 := cell_ext hb HC3.out
  have HL1 := Lib.hid (HH.out.grow hb)
  have hrow := row_ext HRow.out hb
  have HRw := Lib.hid hrow
  have z3 := (HH.out.grow hb).l.blk.free 3
  clear hb hrow
  go_wp2_with (at_builtin; refine wpList_append_hat rfl _ _ 88 rfl 0 3 _ 1 8 Tryz.underlying88 Tryz.infoI (by decide) (by decide) _ n _ rfl (row_ext HRw.out (ext_a1 _ _)) _ 1 1 [.int .i64 z] rfl rfl (fun h => by cases h) (Rd.lit _ _ _) (by simp [Value.oneCell']) (by unfold maxLen; omega) (by omega) (Nat.zero_le _) ?_; intro v' w2 hown hgrow hat; have HOw := Lib.hid hown; have HGr := Lib.hid hgrow; have HAt := Lib.hid hat; obtain ⟨_, q2, q3⟩ := HL1.out.pushed (ext_a1 _ _) hgrow; obtain ⟨a', k', rfl⟩ := row_slice hown; have hpu := HL1.out.push (ext_a1 _ _) (by rw [HSl.out]; exact hown) hgrow hat; have HPu := Lib.hid hpu; have u0 := hpu.1.l.c0; clear hown hgrow hat hpu)
  refine (HSY.out _ _ HPu.out.1.d).mono ?_
  rintro e w3 ⟨rfl, h3⟩
  have h4 := HPu.out.1.disk h3
  have H4 := Lib.hid h4
  clear h3 h4
  go_wp2_with fail
  go_ret
  exact ⟨rfl, ⟨_, _, σ', by rw [← HSn.out]; exact H4.out.1, HP.out⟩, (HH.out.kExt HB.out).trans (HPu.out.2.trans H4.out.2)⟩
theorem take_cks {k : Nat} {ps : List (List UInt8)} (h : C[k]? = some ps) : C.take (k + 1) = C.take k ++ [ps] := by
  obtain ⟨hk, he⟩ := List.getElem?_eq_some_iff.1 h
  rw [List.take_succ_eq_append_getElem hk, he]
theorem readAll_c (h : LgP w0 w g gl c s (cksF 0 C) [] sure K) (hok : okC C) :
    Calls Tryz.prog 42 #[.pointer (some ⟨gl, 0, none⟩), .int .i64 (C.length : Int)] w fun e w' => e = .returned (.int .i64 0) ∧ LgP w0 w' g gl c s (cksF 0 C) (sizesL C) sure K ∧ Stay K w w' := by
  have HK := Lib.hid h
  have HOk := Lib.hid hok
  have h200 := hok.few
  clear h hok
  go_enter Tryz.func42, Tryz.ntmps42
  go_wp2_with fail
  go_loopw [10] (fun i W => ∃ k : Nat, k ≤ C.length ∧ i = .int .i64 (k : Int) ∧ LgP w0 W g gl c s (cksF 0 C) (sizesL (C.take k)) sure K ∧ Stay K w W) (fun i _ => C.length - (intOf i).toNat)
  case atStart => exact ⟨0, Nat.zero_le _, rfl, HK.out, Stay.refl _ _⟩
  case round =>
    obtain ⟨k, hk, rfl, hl, hst⟩ := hrel
    have HSt := Lib.hid hst
    by_cases hkn : k < C.length
    · have hd : decide ((k : Int) < (C.length : Int)) = true := by simp; omega
      obtain ⟨ps, hps⟩ : ∃ ps, C[k]? = some ps := ⟨C[k], List.getElem?_eq_getElem hkn⟩
      have HLd := Lib.hid (load_c hl HOk.out hps)
      have c0 := (by obtain ⟨_, _, _, h1, _⟩ := hl; exact h1.l.c0 : wr.cell? ⟨gl, 0, none⟩ = some (.pointer (some ⟨g, 0, none⟩)))
      have hz4 : sizeC ps ≤ 4096 := HOk.out.size ps (List.mem_of_getElem? hps)
      have hz12 : 12 ≤ sizeC ps := by unfold sizeC; omega
      have hlen := chunkB_length k ps
      have hT := take_cks hps
      have hDl : (C.take k).length = k := by rw [List.length_take]; omega
      have hl' : ((chunkB k ps).length : Int) = (sizeC ps : Int) := by rw [hlen]
      have HSn : Hid (sizesL (C.take k) ++ [(sizeC ps : Int)] = sizesL (C.take (k + 1))) := Lib.hid (by rw [hT, sizesL_snoc])
      by_cases hlast : k + 1 = C.length
      · have hCe : C = C.take k ++ [ps] := by rw [← hT, hlast, List.take_length]
        have hd2 : ((k : Int) == (C.length : Int) - 1) = true := by simp; omega
        have HMd := Lib.hid (fun (W : World) (hW : LgP w0 W g gl c s (cksF 0 C) (sizesL (C.take k)) sure K) => (show Calls Tryz.prog 100 #[.pointer (some ⟨gl, 0, none⟩), .int .i64 (k : Int), .string ⟨(chunkB k ps).toArray⟩, .int .i64 (sizeC ps : Int)] W fun e w' => e = .returned (.int .i64 0) ∧ LgP w0 w' g gl c s (cksF 0 C) (sizesL C) sure K ∧ Stay K W w' by
          have h2 := mend_c (D := C.take k) (ps := ps) (by rw [← hCe]; exact hW) (by rw [← hCe]; exact HOk.out)
          rw [hDl, ← hCe] at h2
          exact h2))
        generalize chunkB k ps = S at *
        generalize (sizeC ps : Int) = z at *
        clear hl hst hps hlen hT hDl hCe hz4 hz12
        go_wp2_with fail
        refine HLd.out.mono ?_
        rintro e w2 ⟨rfl, h2, h3⟩
        have H2 := Lib.hid h2; have H3 := Lib.hid (HSt.out.trans h3)
        clear h2 h3
        go_wp2_with fail
        refine (HMd.out _ H2.out).mono ?_
        rintro e w3 ⟨rfl, h2, h3⟩
        have H4 := Lib.hid h2; have H5 := Lib.hid (H3.out.trans h3)
        clear h2 h3
        go_wp2_with fail
        go_ret
        exact ⟨rfl, H4.out, H5.out⟩
      · have hd2 : ((k : Int) == (C.length : Int) - 1) = false := by simp; omega
        obtain ⟨z, hz⟩ : ∃ z : Int, (sizeC ps : Int) = z := ⟨_, rfl⟩
        have z12 : 12 ≤ z := by omega
        have z4 : z ≤ 4096 := by omega
        have hznz : (z == 0) = false := by simp; omega
        have hSl : (chunkB k ps).length ≤ 4096 := by omega
        rw [hz] at hl' HSn HLd
        have HDl := Lib.hid hDl
        generalize chunkB k ps = S at *
        clear hl hst hps hlen hT hDl hz hz4 hz12
        go_wp2_with fail
        refine HLd.out.mono ?_
        rintro e w2 ⟨rfl, h2, h3⟩
        have H3 := Lib.hid (HSt.out.trans h3)
        obtain ⟨F2, v2, σ2, h4, h5⟩ := h2
        have hsl := sizesL_length (C.take k)
        rw [HDl.out] at hsl
        obtain ⟨sa, sk, hv0⟩ := row_slice h4.l.row
        rw [hsl] at hv0
        subst hv0
        have hrow := h4.l.row
        rw [hsl] at hrow
        have HRw := Lib.hid hrow
        have c3 := h4.l.c3
        have z3 := h4.l.blk.free 3
        have HL1 := Lib.hid h4
        have H5 := Lib.hid h5
        have HSl := Lib.hid hsl
        clear h3 h4 h5 hsl hrow c0
        go_wp2_with (at_builtin; refine wpList_append_hat rfl _ _ 88 rfl 0 3 _ 1 8 Tryz.underlying88 Tryz.infoI (by decide) (by decide) _ k _ rfl (row_ext HRw.out (ext_a1 _ _)) _ 1 1 [.int .i64 z] rfl rfl (fun h => by cases h) (Rd.lit _ _ _) (by simp [Value.oneCell']) (by unfold maxLen; omega) (by omega) (Nat.zero_le _) ?_; intro v' w3 hown hgrow hat; have HOw := Lib.hid hown; have HGr := Lib.hid hgrow; have HAt := Lib.hid hat; obtain ⟨_, q2, q3⟩ := HL1.out.pushed (ext_a1 _ _) hgrow; obtain ⟨a', k', rfl⟩ := row_slice hown; have hpu := HL1.out.push (ext_a1 _ _) (by rw [HSl.out]; exact hown) hgrow hat; have HPu := Lib.hid hpu; clear hown hgrow hat hpu)
        go_roundw
        case rel => exact ⟨k + 1, by omega, by go_num, ⟨_, _, σ2, by rw [← HSn.out]; exact HPu.out.1, H5.out⟩, H3.out.trans HPu.out.2⟩
        case measure => simp [intOf]; omega
    · have hd : decide ((k : Int) < (C.length : Int)) = false := by simp; omega
      have HL := Lib.hid (show LgP w0 wr g gl c s (cksF 0 C) (sizesL C) sure K by
        have e : C.take k = C := List.take_of_length_le (by omega)
        rwa [e] at hl)
      clear hl hst
      go_wp2_with fail
      go_ret
      exact ⟨rfl, HL.out, HSt.out⟩
end
end Go.Proofs.YtmgpffknmmoggaaGreatDoor
namespace Go.Proofs.YtmgpffknmmoggaaGreatDoor
open Go.RowKit
set_option maxRecDepth 100000
set_option linter.unusedVariables false
set_option maxHeartbeats 3200000
section
variable {w0 w : World} {g gl : Nat} {F K : Nat → Prop} {v : Value} {σ : DM} {c s sure : Int} {C : Cks} {xs : List Int}
theorem open_l (h : DkK w0 w g c s C K) : Calls Tryz.prog 9 #[.pointer (some ⟨g, 0, none⟩)] w fun e w' => ∃ gl, e = .returned (.tuple #[.pointer (some ⟨gl, 0, none⟩), .int .i64 0]) ∧ w.heap.size ≤ gl ∧ LgK w0 w' g gl c s C (endL C) K ∧ Stay K w w' := by
  obtain ⟨F, σ, h1, h2⟩ := h
  have hlt : ∀ i, F i → i < w.heap.size := by obtain ⟨_, _, _, _, _, _, h⟩ := h1.d; exact h
  have HU := Lib.hid (up_c h1.d)
  rw [h2.pl.up] at HU
  have hs := size_c h1.d [110, 101, 119] (by decide)
  rw [h2.pl.sizeN (cksF_new h2.ok.few)] at hs
  have HS := Lib.hid hs
  have HC := Lib.hid (count_c h1.d h2)
  have HSt := Lib.hid (fun (W : World) (k : Ext w W) => starts_c (h1.d.ext k))
  rw [h2.pl.st] at HSt
  have HNew := Lib.hid (fun (W : World) (k : Ext w W) => show LgP w0 (W.alloc (.cells #[.pointer (some ⟨g, 0, none⟩), .int .i64 s, .bool false, .slice none 0 0, .int .i64 0] 96)) g W.heap.size c s (cksF 0 C) [] 0 K ∧ Stay K w (W.alloc (.cells #[.pointer (some ⟨g, 0, none⟩), .int .i64 s, .bool false, .slice none 0 0, .int .i64 0] 96)) from by
    have hk := k.size
    have k2 := k.trans (ext_a1 W (.cells #[.pointer (some ⟨g, 0, none⟩), .int .i64 s, .bool false, .slice none 0 0, .int .i64 0] 96))
    have hin : ∀ i, InLg W.heap.size (.slice none 0 0) i → i = W.heap.size := fun i hi => by rcases hi with h | h; exact h; cases h
    refine ⟨⟨F, .slice none 0 0, σ, ⟨h1.d.ext k2, ⟨Blk.new _ _ _, World.ownsRow_nil _ _ _ _⟩, fun i hi hg => ?_, h1.bF, fun i hi => ?_, h1.ext.trans k2, fun i hi => ⟨?_, (h1.k i hi).2, fun hg => ?_⟩⟩, h2.pl⟩, fun i hi => k2.block i (h1.k i hi).1⟩
    · have := hin i hg; have := hlt i hi; omega
    · have := hin i hi; have := h1.ext.size; omega
    · have := (h1.k i hi).1; have := k2.size; omega
    · have := hin i hg; have := (h1.k i hi).1; omega)
  have HOk := Lib.hid h2.ok
  clear h1 h2 hs hlt
  go_enter Tryz.func9, Tryz.ntmps9
  go_wp2_with fail
  refine HU.out.mono ?_
  rintro e w1 ⟨rfl, rfl⟩
  go_wp2_with fail
  refine HS.out.mono ?_
  rintro e w1 ⟨rfl, rfl⟩
  go_wp2_with fail
  refine HC.out.mono ?_
  rintro e w1 ⟨rfl, hb⟩
  have HB := Lib.hid hb
  clear hb
  go_wp2_with fail
  refine (HSt.out _ HB.out).mono ?_
  rintro e w2 ⟨rfl, rfl⟩
  go_wp2_with fail
  obtain ⟨h3, h4⟩ := HNew.out _ HB.out
  have H4 := Lib.hid h4
  have HRd := Lib.hid (readAll_c h3 HOk.out)
  have HS1 := Lib.hid HB.out.size
  clear h3 h4
  refine HRd.out.mono ?_
  rintro e w3 ⟨rfl, ⟨F3, v3, σ3, h5, h6⟩, h7⟩
  have HE := Lib.hid (end_c h5.l HOk.out)
  have z4 := h5.l.blk.free 4
  have c4 := h5.l.c4
  have h8 := h5.setSure (endL C)
  have H8 := Lib.hid h8
  have H6 := Lib.hid h6
  have H7 := Lib.hid (H4.out.trans (h7.trans h8.2))
  clear h5 h6 h7 h8
  go_wp2_with fail
  refine HE.out.mono ?_
  rintro e w4 ⟨rfl, rfl⟩
  go_wp2_with fail
  go_ret2
  exact ⟨_, rfl, HS1.out, ⟨F3, v3, σ3, H8.out.1, ⟨H6.out, HOk.out⟩⟩, H7.out⟩
end
end Go.Proofs.YtmgpffknmmoggaaGreatDoor
