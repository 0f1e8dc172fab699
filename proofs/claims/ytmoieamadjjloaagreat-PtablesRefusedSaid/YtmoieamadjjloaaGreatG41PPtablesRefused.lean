/- Walks: does a table answer as the document says (law19's answers)? Walks: the law PtablesFilter. Walks: the law PtablesSpoilt. -/
import Derived.Test.YtmoieamadjjloaaGreatG40PPtablesRefused
import Derived.Deep.CutRange
set_option linter.unusedVariables false
set_option linter.unusedSimpArgs false
namespace Go.Proofs.YtmoieamadjjloaaGreat
open Go.RowKit

set_option maxRecDepth 100000
set_option linter.unusedVariables false
set_option maxHeartbeats 12800000

theorem set3_heap {W : World} {p q : Nat} {a b c : Value} (h : q ≠ p) : (((W.setCell ⟨p, 0, none⟩ a).setCell ⟨p, 1, none⟩ b).setCell ⟨p, 2, none⟩ c).heap[q]? = W.heap[q]? := by
  rw [Below.heap_setCell _ _ _ _ (by exact h), Below.heap_setCell _ _ _ _ (by exact h), Below.heap_setCell _ _ _ _ (by exact h)]
theorem set3_off {W : World} {p : Nat} {a b c : Value} : OffS (fun i => i = p) W (((W.setCell ⟨p, 0, none⟩ a).setCell ⟨p, 1, none⟩ b).setCell ⟨p, 2, none⟩ c) :=
  ((OffS.set (F := fun i => i = p) _ rfl _ _).trans (OffS.set (F := fun i => i = p) _ rfl _ _)).trans (OffS.set (F := fun i => i = p) _ rfl _ _)
theorem set3_blk {W : World} {p : Nat} {ty : TypeId} {x0 x1 x2 a b c : Value} (h : Blk W p ty #[x0, x1, x2]) : Blk (((W.setCell ⟨p, 0, none⟩ a).setCell ⟨p, 1, none⟩ b).setCell ⟨p, 2, none⟩ c) p ty #[a, b, c] := by
  unfold Blk at *
  simp only [World.setCell, Array.getElem?_modify, if_true, h, Option.map_some]
  rfl
def askH (a : En) : Int := a.1 % 9 * 1000003
theorem ahash_c (a : En) (w : World) (h0 : 0 ≤ a.1) (h1 : a.1 ≤ 255) : Calls Tryz.prog 46 #[.agg #[.int .u8 a.1, .int .i64 a.2.1, .int .i64 a.2.2]] w fun e w' => e = .returned (.int .u64 (askH a)) ∧ Ext w w' := by
  obtain ⟨x, y, z⟩ := a
  simp only at h0 h1
  have q1 : Int.tmod x 9 = x % 9 := Int.tmod_eq_emod_of_nonneg h0
  have q2 : IntKind.u8.wrap (x % 9) = x % 9 := by rw [IntKind.wrap_u8]; omega
  have q3 : IntKind.u64.wrap (x % 9) = x % 9 := by rw [IntKind.wrap_u64]; omega
  have q4 : IntKind.u64.wrap (x % 9 * 1000003) = askH (x, y, z) := by rw [IntKind.wrap_u64]; unfold askH; simp only; omega
  have hbk := Blk.new w 87 #[.int .u8 x, .int .i64 y, .int .i64 z]
  have c0 := hbk.cell 0
  generalize askH (x, y, z) = H at *
  have HX := Lib.hid (ext_a1 w (.cells #[.int .u8 x, .int .i64 y, .int .i64 z] 87))
  clear hbk
  go_enter Tryz.func46, Tryz.ntmps46
  go_wp2_with fail
  go_ret
  exact ⟨rfl, HX.out⟩

section
variable {wb w : World} {t g : Nat} {n : Int} {L : List En} {may : Int → Bool} {σ : DM}

theorem answers_c {ao bo : Option Addr} {m cap k bcap : Nat} {A : List En} (h : TbW wb w t g n L may σ (fun _ => False)) (hw : Wl σ n L) (hx : Ens wb ao m cap L) (ha : AsksIn wb bo k bcap A) (hk : k ≤ 40) (hL : L.length ≤ 1000) (hr0 : 0 ≤ σ.reads) (hr1 : σ.reads ≤ 100000) :
    Calls Tryz.prog 17 #[.pointer (some ⟨g, 0, none⟩), .pointer (some ⟨t, 0, none⟩), .slice ao m cap, .slice bo k bcap] w fun e w' => e = .returned (.bool true) ∧ ∃ c, c ≤ k * (L.length + 9) ∧ TbW wb w' t g n L may (tellN c σ) (fun _ => False) := by
  have HT0 := Lib.hid h
  have Hx := Lib.hid hx; have Ha := Lib.hid ha
  have b1 := ha.fits; have b2 := ha.bound
  have HLx := Lib.hid hx.len
  have HWl := Lib.hid hw
  have HL := Lib.hid hL
  clear h hx ha hw
  go_enter Tryz.func17, Tryz.ntmps17
  go_wp2_with fail
  go_loopw [9] (fun i W => ∃ j c : Nat, j ≤ k ∧ i = .int .i64 (j : Int) ∧ c ≤ j * (L.length + 9) ∧ TbW wb W t g n L may (tellN c σ) (fun _ => False)) (fun i _ => k - (intOf i).toNat)
  case atStart => exact ⟨0, 0, Nat.zero_le _, rfl, Nat.zero_le _, HT0.out⟩
  case round =>
    obtain ⟨j, c, hj, rfl, hc, htb⟩ := hrel
    have HT := Lib.hid htb
    have HC := Lib.hid hc
    by_cases hlt : j < k
    · have hd : decide ((j : Int) < (k : Int)) = true := by simp; omega
      have q1 : IntKind.i64.wrap ((j : Int) + 1) = (j : Int) + 1 := by rw [IntKind.wrap_i64]; omega
      obtain ⟨b, off, rfl, c0, c1, c2, hok⟩ := (Ha.out.ext htb.base).at hlt
      generalize A.getD j en0 = a at *
      obtain ⟨a1, a2, a3⟩ := a
      have hcb : c ≤ 40 * 1009 := by
        have h2 := Nat.mul_le_mul (show j ≤ 40 by omega) (show L.length + 9 ≤ 1009 by omega)
        omega
      have hrd : (tellN c σ).reads = σ.reads + c := tellN_reads c σ hr0 (by omega)
      obtain ⟨R, hR⟩ : ∃ R : Int, σ.reads + c = R := ⟨_, rfl⟩
      rw [hR] at hrd
      have hR0 : 0 ≤ R := by omega
      have hR1 : R ≤ 1000000 := by omega
      have HWc := Lib.hid (HWl.out.tellN c)
      obtain ⟨τ, hτ⟩ : ∃ τ, tellN c σ = τ := ⟨_, rfl⟩
      have HTau := Lib.hid hτ
      rw [hτ] at HT hrd HWc
      have HRd := Lib.hid hrd
      have HH := Lib.hid (fun W => ahash_c (a1, a2, a3) W hok.h0 hok.h1)
      have HA3 := Lib.hid hok.t0
      simp only at c0 c1 c2
      clear htb hok hcb hrd hτ hc hR
      obtain ⟨H, hH⟩ : ∃ H, askH (a1, a2, a3) = H := ⟨_, rfl⟩
      rw [hH] at HH
      clear hH
      -- the ask's box
      have hbk := Blk.new wr 87 #[.int .u8 a1, .int .i64 a2, .int .i64 a3]
      have hx1 := ext_a1 wr (.cells #[.int .u8 a1, .int .i64 a2, .int .i64 a3] 87)
      have HT1 := Lib.hid (HT.out.more (K' := fun i => i = wr.heap.size) hx1 fun i hi => .inr ⟨by omega, by rw [World.size_alloc]; omega⟩)
      have HS0 : Hid (∀ W : World, W.heap[wr.heap.size]? = (wr.alloc (.cells #[.int .u8 a1, .int .i64 a2, .int .i64 a3] 87)).heap[wr.heap.size]? → W.cell? ⟨wr.heap.size, 0, none⟩ = some (.int .u8 a1) ∧ W.cell? ⟨wr.heap.size, 1, none⟩ = some (.int .i64 a2) ∧ W.cell? ⟨wr.heap.size, 2, none⟩ = some (.int .i64 a3)) := Lib.hid fun W hW => by
        have hb := hbk.same hW
        exact ⟨hb.cell 0, hb.cell 1, hb.cell 2⟩
      clear hbk hx1
      go_wp2_with fail
      generalize wr.heap.size = q at *
      generalize wr.alloc (.cells #[.int .u8 a1, .int .i64 a2, .int .i64 a3] 87) = w1 at *
      refine (HT1.out.disk0.reads HRd.out).mono ?_
      rintro e w1' ⟨rfl, rfl⟩
      go_wp2_with fail
      have HRa := Lib.hid (fun (W : World) (h : TbW wb W t g n L may τ (fun i => i = q)) => h.range HWc.out H a2 a3)
      have HTd : Hid (TbW wb w1.drew t g n L may τ (fun i => i = q)) := Lib.hid (HT1.out.grow (Ext.refl _).drew)
      have HS1 := Lib.hid (HS0.out w1.drew rfl)
      go_region_held3 (fun W => W.cell? ⟨q, 0, none⟩ = some (.int .u8 a1) ∧ W.cell? ⟨q, 1, none⟩ = some (.int .i64 a2) ∧ W.cell? ⟨q, 2, none⟩ = some (.int .i64 a3))
        (first | exact HS3.out | exact HS2.out | exact HS1.out)
        (first
          | (go_at_call 46; refine (HH.out _).mono ?_; rintro e wa ⟨rfl, h1⟩; have HX2 := Lib.hid h1; have HTa := Lib.hid (HTd.out.grow h1); have hst := HTd.out.kExt h1 q rfl; have HS2 := Lib.hid (HS0.out wa hst); clear h1 hst)
          | (go_at_call 23; refine (HRa.out _ HTa.out).mono ?_; rintro e wb2 ⟨v, k1, rfl, h1, h2, h3, h4, h5⟩; have HK1 := Lib.hid (And.intro h1 h2); have HRow := Lib.hid h3; have HTb := Lib.hid h4; have hst := (h5 q rfl).trans (HTd.out.kExt HX2.out q rfl); have HS3 := Lib.hid (HS0.out wb2 hst); clear h1 h2 h3 h4 h5 hst))
      clear HTd HS1 HTa HS2 HX2 HRa HT1
      have hrl : (rangeE L H (max a2 0) (min a3 1073741824)).length ≤ L.length := by unfold rangeE; exact List.length_filter_le _ _
      obtain ⟨RG, hRG⟩ : ∃ RG, rangeE L H (max a2 0) (min a3 1073741824) = RG := ⟨_, rfl⟩
      rw [hRG] at HK1 HRow hrl
      have HRG := Lib.hid hRG
      obtain ⟨va, vc, rfl⟩ := row_slice HRow.out
      have hk1 : k1 ≤ RG.length + 4 := HK1.out.1
      have hr1' : (tellN k1 τ).reads = R + k1 := by rw [tellN_reads k1 τ (by rw [HRd.out]; exact hR0) (by rw [HRd.out]; have := HL.out; omega), HRd.out]
      have HRd1 := Lib.hid hr1'
      have HWc1 := Lib.hid (HWc.out.tellN k1)
      obtain ⟨τ1, hτ1⟩ : ∃ τ1, tellN k1 τ = τ1 := ⟨_, rfl⟩
      have HTau1 := Lib.hid hτ1
      rw [hτ1] at HTb HRd1 HWc1
      obtain ⟨R1, hR1'⟩ : ∃ R1 : Int, R + k1 = R1 := ⟨_, rfl⟩
      rw [hR1'] at HRd1
      have HR1 := Lib.hid hR1'
      clear hRG hr1' hτ1 hR1' hrl
      go_wp2_with fail
      refine (HTb.out.disk0.reads HRd1.out).mono ?_
      rintro e w1' ⟨rfl, rfl⟩
      have hla : ∃ r, (if a3 < 0 then none else lastE L H (min a3 1073741824)) = r := ⟨_, rfl⟩
      obtain ⟨r, hr⟩ := hla
      have HLr := Lib.hid hr
      have HLa := Lib.hid (fun (W : World) (K : Nat → Prop) (h : TbW wb W t g n L may τ1 K) => h.last HWc1.out H a3 HA3.out hr)
      obtain ⟨⟨y1, y2, y3⟩, hy⟩ : ∃ y, r.getD en0 = y := ⟨_, rfl⟩
      have HY := Lib.hid hy
      rw [hy] at HLa
      have HLa : Hid (∀ (W : World) (K : Nat → Prop), TbW wb W t g n L may τ1 K → Calls Tryz.prog 24 #[.pointer (some ⟨t, 0, none⟩), .int .u64 H, .int .i64 a3] W fun e W' =>
        ∃ k, e = .returned (.tuple #[.agg #[.int .u64 y1, .int .i64 y2, .int .i64 y3], .bool r.isSome, .int .i64 0]) ∧ k ≤ 5 ∧ (tbMay L may H = false → k = 0) ∧ TbW wb W' t g n L may (tellN k τ1) K ∧ Stay K W W') := HLa
      obtain ⟨ri, hri⟩ : ∃ ri, r.isSome = ri := ⟨_, rfl⟩
      have HRi := Lib.hid hri
      rw [hri] at HLa
      have HTd : Hid (TbW wb wb2.drew t g n L may τ1 (fun i => i = q ∨ (Value.slice va RG.length vc).ownBlock = some i)) := Lib.hid (HTb.out.grow (Ext.refl _).drew)
      have HS4 : Hid (wb2.drew.cell? ⟨q, 0, none⟩ = some (.int .u8 a1) ∧ wb2.drew.cell? ⟨q, 1, none⟩ = some (.int .i64 a2) ∧ wb2.drew.cell? ⟨q, 2, none⟩ = some (.int .i64 a3)) := Lib.hid HS3.out
      have HSx : Hid (∀ W W' : World, Ext W W' → (W.cell? ⟨q, 0, none⟩ = some (.int .u8 a1) ∧ W.cell? ⟨q, 1, none⟩ = some (.int .i64 a2) ∧ W.cell? ⟨q, 2, none⟩ = some (.int .i64 a3)) → W'.cell? ⟨q, 0, none⟩ = some (.int .u8 a1) ∧ W'.cell? ⟨q, 1, none⟩ = some (.int .i64 a2) ∧ W'.cell? ⟨q, 2, none⟩ = some (.int .i64 a3)) := Lib.hid fun W W' k hs => ⟨cell_ext k hs.1, cell_ext k hs.2.1, cell_ext k hs.2.2⟩
      have HSy : Hid (∀ W W' : World, W'.heap[q]? = W.heap[q]? → (W.cell? ⟨q, 0, none⟩ = some (.int .u8 a1) ∧ W.cell? ⟨q, 1, none⟩ = some (.int .i64 a2) ∧ W.cell? ⟨q, 2, none⟩ = some (.int .i64 a3)) → W'.cell? ⟨q, 0, none⟩ = some (.int .u8 a1) ∧ W'.cell? ⟨q, 1, none⟩ = some (.int .i64 a2) ∧ W'.cell? ⟨q, 2, none⟩ = some (.int .i64 a3)) := Lib.hid fun W W' k hs => by
        simp only [World.cell?, k] at hs ⊢
        exact hs
      have HKq : Hid (∀ W W' : World, (Stay (fun i => i = q ∨ (Value.slice va RG.length vc).ownBlock = some i) W W' ∨ ∃ p, Stay (fun i => (i = q ∨ (Value.slice va RG.length vc).ownBlock = some i) ∨ i = p) W W') → W'.heap[q]? = W.heap[q]?) := Lib.hid fun W W' h => h.elim (fun h => h q (Or.inl rfl)) fun ⟨p, h⟩ => h q (Or.inl (Or.inl rfl))
      have HQlt := Lib.hid (show q < wb2.heap.size from by obtain ⟨F, T, h1, h2, h3, h4, h5⟩ := HTb.out; exact (h5 q (.inl rfl)).1)
      have HQb := Lib.hid (show wb.heap.size ≤ wb2.heap.size from HTb.out.base.size)
      have HFA : Hid (∀ (wa wb6 : World) (k2 : Nat), Stay (fun i => i = q ∨ (Value.slice va RG.length vc).ownBlock = some i) wb2 wa → Stay (fun i => i = q ∨ (Value.slice va RG.length vc).ownBlock = some i) wa wb6 → TbW wb wb6 t g n L may (tellN k2 τ1) (fun i => i = q ∨ (Value.slice va RG.length vc).ownBlock = some i) → TbW wb (wb6.alloc (.cells #[.int .u64 y1, .int .i64 y2, .int .i64 y3] 44)) t g n L may (tellN k2 τ1) (fun i => (i = q ∨ (Value.slice va RG.length vc).ownBlock = some i) ∨ i = wb6.heap.size) ∧ Blk (wb6.alloc (.cells #[.int .u64 y1, .int .i64 y2, .int .i64 y3] 44)) wb6.heap.size 44 #[.int .u64 y1, .int .i64 y2, .int .i64 y3] ∧ Stay (fun i => i = q ∨ (Value.slice va RG.length vc).ownBlock = some i) wb2 (wb6.alloc (.cells #[.int .u64 y1, .int .i64 y2, .int .i64 y3] 44))) := Lib.hid fun wa wb6 k2 h1 h2 h3 =>
        ⟨h3.more (ext_a1 _ _) (fun i hi => hi.imp id fun e => by rw [e, World.size_alloc]; omega), Blk.new _ _ _, (h1.trans h2).trans (h3.kExt (ext_a1 _ _))⟩
      have HFB : Hid (∀ (p : Nat) (wa wb6 : World) (k2 : Nat), wb2.heap.size ≤ p → Stay (fun i => i = q ∨ (Value.slice va RG.length vc).ownBlock = some i) wb2 wa → Stay (fun i => (i = q ∨ (Value.slice va RG.length vc).ownBlock = some i) ∨ i = p) wa wb6 → TbW wb wb6 t g n L may (tellN k2 τ1) (fun i => (i = q ∨ (Value.slice va RG.length vc).ownBlock = some i) ∨ i = p) → Blk wb6 p 44 #[.int .u64 0, .int .i64 0, .int .i64 0] →
          TbW wb (((wb6.setCell ⟨p, 0, none⟩ (.int .u64 y1)).setCell ⟨p, 1, none⟩ (.int .i64 y2)).setCell ⟨p, 2, none⟩ (.int .i64 y3)) t g n L may (tellN k2 τ1) (fun i => (i = q ∨ (Value.slice va RG.length vc).ownBlock = some i) ∨ i = p) ∧ Blk (((wb6.setCell ⟨p, 0, none⟩ (.int .u64 y1)).setCell ⟨p, 1, none⟩ (.int .i64 y2)).setCell ⟨p, 2, none⟩ (.int .i64 y3)) p 44 #[.int .u64 y1, .int .i64 y2, .int .i64 y3] ∧ Stay (fun i => i = q ∨ (Value.slice va RG.length vc).ownBlock = some i) wb2 (((wb6.setCell ⟨p, 0, none⟩ (.int .u64 y1)).setCell ⟨p, 1, none⟩ (.int .i64 y2)).setCell ⟨p, 2, none⟩ (.int .i64 y3))) := Lib.hid fun p wa wb6 k2 hp h1 h2 h3 h4 => by
        have hb : wb.heap.size ≤ p := Nat.le_trans HTb.out.base.size hp
        refine ⟨((h3.set (.inr rfl) hb _).set (.inr rfl) hb _).set (.inr rfl) hb _, set3_blk h4, fun i hi => ?_⟩
        have hlt : i < wb2.heap.size := by obtain ⟨F, T, a1, a2, a3, a4, a5⟩ := HTb.out; exact (a5 i hi).1
        rw [set3_heap (by omega), h2 i (.inl hi), h1 i hi]
      clear hr hy hri hk1
      go_upto_region 8 with fail
      go_cut [15, 16, 17] from 46 to 55 (fun a b c W => ∃ p k2 : Nat, a = .pointer (some ⟨p, 0, none⟩) ∧ b = .bool ri ∧ c = .int .i64 0 ∧ k2 ≤ 5 ∧ (tbMay L may H = false → k2 = 0) ∧ TbW wb W t g n L may (tellN k2 τ1) (fun i => (i = q ∨ (Value.slice va RG.length vc).ownBlock = some i) ∨ i = p) ∧ Blk W p 44 #[.int .u64 y1, .int .i64 y2, .int .i64 y3] ∧ Stay (fun i => i = q ∨ (Value.slice va RG.length vc).ownBlock = some i) wb2 W)
      case first =>
        go_region_held3 (fun W => W.cell? ⟨q, 0, none⟩ = some (.int .u8 a1) ∧ W.cell? ⟨q, 1, none⟩ = some (.int .i64 a2) ∧ W.cell? ⟨q, 2, none⟩ = some (.int .i64 a3))
          (with_reducible (first | exact HS6.out | exact HSy.out _ _ (set3_heap (by have := HQlt.out; omega)) HS6.out | exact HSy.out _ _ (set3_heap (by have := HQlt.out; have := HX5.out.size; omega)) HS6.out | exact HSx.out _ _ (ext_a1 _ _) HS6.out | exact HSx.out _ _ (ext_a1 _ _) HS5.out | exact HS5.out | exact HSx.out _ _ (ext_a1 _ _) HS4.out | exact HS4.out))
          (first
            | (go_at_call 46; refine (HH.out _).mono ?_; rintro e wa ⟨rfl, h1⟩; have HX5 : Hid (Ext wb2 wa) := (by with_reducible exact Lib.hid (Ext.trans (Ext.drew (Ext.refl wb2)) h1)); clear h1; have HT5 := Lib.hid (HTb.out.grow HX5.out); have HS5 := Lib.hid (HSx.out _ _ HX5.out HS3.out); have HSt5 : Hid (Stay (fun i => i = q ∨ (Value.slice va RG.length vc).ownBlock = some i) wb2 wa) := Lib.hid (HTb.out.kExt HX5.out))
            | (go_at_call 46; refine (HH.out _).mono ?_; rintro e wa ⟨rfl, h1⟩; have HX5 : Hid (Ext wb2 wa) := (by with_reducible exact Lib.hid (Ext.trans (Ext.drew (ext_a1 wb2 _)) h1)); have HT5 := Lib.hid ((HTb.out.more (K' := (fun i => (i = q ∨ (Value.slice va RG.length vc).ownBlock = some i) ∨ i = wb2.heap.size)) (Ext.drew (ext_a1 _ (.cells #[.int .u64 0, .int .i64 0, .int .i64 0] 44))) (fun i hi => hi.imp id fun e => by rw [e]; exact ⟨Nat.le_refl _, by show wb2.heap.size < (wb2.alloc _).heap.size; rw [World.size_alloc]; omega⟩)).grow h1); have HS5 := Lib.hid (HSx.out _ _ HX5.out HS3.out); have HSt5 : Hid (Stay (fun i => i = q ∨ (Value.slice va RG.length vc).ownBlock = some i) wb2 wa) := Lib.hid (HTb.out.kExt HX5.out); have HBp := Lib.hid ((Blk.new wb2 44 #[.int .u64 0, .int .i64 0, .int .i64 0]).ext (Ext.trans (Ext.drew (Ext.refl _)) h1)); clear h1)
            | (go_at_call 24; (with_reducible show Calls _ _ _ wa _); refine (HLa.out _ _ HT5.out).mono ?_; rintro e wb6 ⟨k2, rfl, h1, h2, h4, h5⟩; have HK2 := Lib.hid (And.intro h1 h2); have HT6 := Lib.hid h4; have HSt6 := Lib.hid h5; (first | have hq6 := HKq.out _ _ (Or.inl h5) | have hq6 := HKq.out _ _ (Or.inr ⟨_, h5⟩)); have HS6 := Lib.hid (HSy.out _ _ hq6 HS5.out); (first | fail_if_success (have HBp7 := HBp.out) | (have HBp6 : Hid (Blk wb6 wb2.heap.size 44 #[.int .u64 0, .int .i64 0, .int .i64 0]) := Lib.hid (HBp.out.same (h5 _ (Or.inr rfl))); have r0 : wb6.cell? ⟨wb2.heap.size, 0, none⟩ = some (Value.int .u64 0) := HBp6.out.cell 0; have r1 : wb6.cell? ⟨wb2.heap.size, 1, none⟩ = some (Value.int .i64 0) := HBp6.out.cell 1; have r2 : wb6.cell? ⟨wb2.heap.size, 2, none⟩ = some (Value.int .i64 0) := HBp6.out.cell 2; have z0 := HBp6.out.free 0; have z1 := HBp6.out.free 1; have z2 := HBp6.out.free 2)); clear h1 h2 h4 h5 hq6)
            | (go_at_call 24; refine (HLa.out _ _ (HT5.out.more (K' := (fun i => (i = q ∨ (Value.slice va RG.length vc).ownBlock = some i) ∨ i = wa.heap.size)) (ext_a1 _ (.cells #[.int .u64 0, .int .i64 0, .int .i64 0] 44)) (fun i hi => hi.imp id fun e => by rw [e, World.size_alloc]; omega))).mono ?_; rintro e wb6 ⟨k2, rfl, h1, h2, h4, h5⟩; have HK2 := Lib.hid (And.intro h1 h2); have HT6 := Lib.hid h4; have HSt6 := Lib.hid h5; have hq6 := HKq.out _ _ (Or.inr ⟨_, h5⟩); have HS6 := Lib.hid (HSy.out _ _ hq6 (HSx.out _ _ (ext_a1 _ (.cells #[.int .u64 0, .int .i64 0, .int .i64 0] 44)) HS5.out)); have HBp6 : Hid (Blk wb6 wa.heap.size 44 #[.int .u64 0, .int .i64 0, .int .i64 0]) := Lib.hid ((Blk.new wa 44 #[.int .u64 0, .int .i64 0, .int .i64 0]).same (h5 _ (Or.inr rfl))); have r0 : wb6.cell? ⟨wa.heap.size, 0, none⟩ = some (Value.int .u64 0) := HBp6.out.cell 0; have r1 : wb6.cell? ⟨wa.heap.size, 1, none⟩ = some (Value.int .i64 0) := HBp6.out.cell 1; have r2 : wb6.cell? ⟨wa.heap.size, 2, none⟩ = some (Value.int .i64 0) := HBp6.out.cell 2; have z0 := HBp6.out.free 0; have z1 := HBp6.out.free 1; have z2 := HBp6.out.free 2; clear h1 h2 h4 h5 hq6))
        all_goals
          go_wp2_with fail
          go_meet
          case rel =>
            first
              | (obtain ⟨q1, q2, q3⟩ := HFA.out wa wb6 k2 HSt5.out HSt6.out HT6.out; exact ⟨_, k2, rfl, rfl, rfl, HK2.out.1, HK2.out.2, q1, q2, q3⟩)
              | (obtain ⟨q1, q2, q3⟩ := HFB.out wb2.heap.size wa wb6 k2 (Nat.le_refl _) HSt5.out HSt6.out HT6.out HBp6.out; exact ⟨_, k2, rfl, rfl, rfl, HK2.out.1, HK2.out.2, q1, q2, q3⟩)
              | (obtain ⟨q1, q2, q3⟩ := HFB.out wa.heap.size (wa.alloc (.cells #[.int .u64 0, .int .i64 0, .int .i64 0] 44)) wb6 k2 HX5.out.size (HSt5.out.trans (HT5.out.kExt (ext_a1 _ _))) HSt6.out HT6.out HBp6.out; exact ⟨_, k2, rfl, rfl, rfl, HK2.out.1, HK2.out.2, q1, q2, q3⟩)
      case rest =>
      obtain ⟨p, k2, rfl, rfl, rfl, hk2, hk2z, htc, hbp, hstc⟩ := hcut
      --REST
      have hrl : RG.length ≤ L.length := by rw [← HRG.out]; unfold rangeE; exact List.length_filter_le _ _
      have hk1 := HK1.out.1
      have hLL := HL.out
      have hR1e := HR1.out
      have hr2' : (tellN k2 τ1).reads = R1 + k2 := by rw [tellN_reads k2 τ1 (by rw [HRd1.out]; omega) (by rw [HRd1.out]; omega), HRd1.out]
      clear hrl hk1 hLL hR1e
      obtain ⟨τ2, hτ2⟩ : ∃ τ2, tellN k2 τ1 = τ2 := ⟨_, rfl⟩
      have HTau2 := Lib.hid hτ2
      rw [hτ2] at htc hr2'
      obtain ⟨R2, hR2⟩ : ∃ R2 : Int, R1 + k2 = R2 := ⟨_, rfl⟩
      rw [hR2] at hr2'
      have HRd2 := Lib.hid hr2'
      have HR2 := Lib.hid hR2
      have HTC := Lib.hid htc; have HBP := Lib.hid hbp
      have HSC : Hid ((fun W : World => W.cell? ⟨q, 0, none⟩ = some (.int .u8 a1) ∧ W.cell? ⟨q, 1, none⟩ = some (.int .i64 a2) ∧ W.cell? ⟨q, 2, none⟩ = some (.int .i64 a3)) wc) := Lib.hid (HSy.out _ _ (hstc q (.inl rfl)) HS3.out)
      have HRC := Lib.hid (row_same HRow.out fun i hi => hstc i (.inr hi))
      have HK2f := Lib.hid (And.intro hk2 hk2z)
      clear htc hbp hstc hτ2 hR2 hr2' hk2 hk2z HLa HFA HFB HTd HS4 HSx HKq HTb HS3 HRow
      go_wp2_with fail
      refine (HTC.out.disk0.reads HRd2.out).mono ?_
      rintro e w1' ⟨rfl, rfl⟩
      have hLV : lastV r = .tuple #[.agg #[.int .u64 y1, .int .i64 y2, .int .i64 y3], .bool ri] := by
        have h1 := HY.out; have h2 := HRi.out
        cases r with
        | none => cases h1; cases h2; rfl
        | some x => cases h1; cases h2; rfl
      have HDL : Hid (∀ W, Ext wb W → Calls Tryz.prog 47 #[.slice ao m cap, .int .u64 H, .int .i64 a3] W fun e W' => e = .returned (.tuple #[.agg #[.int .u64 y1, .int .i64 y2, .int .i64 y3], .bool ri]) ∧ Ext W W') := Lib.hid fun W hW => by
        have h1 := last19_c H a3 W (Hx.out.ext hW) (by have := Hx.out.len; omega)
        rw [HLr.out, hLV] at h1
        exact h1
      have HS7 : Hid (wc.drew.cell? ⟨q, 0, none⟩ = some (.int .u8 a1) ∧ wc.drew.cell? ⟨q, 1, none⟩ = some (.int .i64 a2) ∧ wc.drew.cell? ⟨q, 2, none⟩ = some (.int .i64 a3)) := Lib.hid HSC.out
      have HSx : Hid (∀ W W' : World, Ext W W' → (W.cell? ⟨q, 0, none⟩ = some (.int .u8 a1) ∧ W.cell? ⟨q, 1, none⟩ = some (.int .i64 a2) ∧ W.cell? ⟨q, 2, none⟩ = some (.int .i64 a3)) → W'.cell? ⟨q, 0, none⟩ = some (.int .u8 a1) ∧ W'.cell? ⟨q, 1, none⟩ = some (.int .i64 a2) ∧ W'.cell? ⟨q, 2, none⟩ = some (.int .i64 a3)) := Lib.hid fun W W' k hs => ⟨cell_ext k hs.1, cell_ext k hs.2.1, cell_ext k hs.2.2⟩
      have HWb := Lib.hid HTC.out.base
      have HQc := Lib.hid (show q < wc.heap.size from by obtain ⟨F, T, h1, h2, h3, h4, h5⟩ := HTC.out; exact (h5 q (.inl (.inl rfl))).1)
      clear hLV
      go_upto_region 10 with fail
      go_cut [19, 20] from 58 to 66 (fun a b W => ∃ p2 : Nat, a = .pointer (some ⟨p2, 0, none⟩) ∧ b = .bool ri ∧ Ext wc W ∧ Blk W p2 44 #[.int .u64 y1, .int .i64 y2, .int .i64 y3])
      case first =>
        go_region_held3 (fun W => W.cell? ⟨q, 0, none⟩ = some (.int .u8 a1) ∧ W.cell? ⟨q, 1, none⟩ = some (.int .i64 a2) ∧ W.cell? ⟨q, 2, none⟩ = some (.int .i64 a3))
          (with_reducible (first | exact HS8.out | exact HSx.out _ _ (ext_a1 _ _) HS8.out | exact HSx.out _ _ (ext_a1 _ _) HS7b.out | exact HS7b.out | exact HSx.out _ _ (ext_a1 _ _) HS7.out | exact HS7.out | exact HSx.out wc _ (Ext.drew (ext_a1 _ _)) HSC.out | exact HSy.out _ _ (set3_heap (by have := HQc.out; omega)) HS8.out | exact HSy.out _ _ (set3_heap (by have := HQc.out; have := HX7.out.size; omega)) HS8.out))
          (first
            | (go_at_call 46; refine (HH.out _).mono ?_; rintro e wa ⟨rfl, h1⟩; have HX7 : Hid (Ext wc wa) := (by with_reducible exact Lib.hid (Ext.trans (Ext.drew (Ext.refl wc)) h1)); have HS7b := Lib.hid (HSx.out _ _ HX7.out HSC.out); clear h1)
            | (go_at_call 46; refine (HH.out _).mono ?_; rintro e wa ⟨rfl, h1⟩; have HX7 : Hid (Ext wc wa) := (by with_reducible exact Lib.hid (Ext.trans (Ext.drew (ext_a1 wc _)) h1)); have HS7b := Lib.hid (HSx.out _ _ HX7.out HSC.out); have HBq := Lib.hid ((Blk.new wc 44 #[.int .u64 0, .int .i64 0, .int .i64 0]).ext (Ext.trans (Ext.drew (Ext.refl _)) h1)); clear h1)
            | (go_at_call 47; (with_reducible show Calls _ _ _ wa _); refine (HDL.out _ (HWb.out.trans HX7.out)).mono ?_; rintro e wb6 ⟨rfl, h1⟩; have HX8 := Lib.hid (HX7.out.trans h1); have HS8 := Lib.hid (HSx.out _ _ h1 HS7b.out); (first | fail_if_success (have HBp7 := HBq.out) | (have HBp6 : Hid (Blk wb6 wc.heap.size 44 #[.int .u64 0, .int .i64 0, .int .i64 0]) := Lib.hid (HBq.out.ext h1); have r0 : wb6.cell? ⟨wc.heap.size, 0, none⟩ = some (Value.int .u64 0) := HBp6.out.cell 0; have r1 : wb6.cell? ⟨wc.heap.size, 1, none⟩ = some (Value.int .i64 0) := HBp6.out.cell 1; have r2 : wb6.cell? ⟨wc.heap.size, 2, none⟩ = some (Value.int .i64 0) := HBp6.out.cell 2; have z0 := HBp6.out.free 0; have z1 := HBp6.out.free 1; have z2 := HBp6.out.free 2)); clear h1)
            | (go_at_call 47; refine (HDL.out _ ((HWb.out.trans HX7.out).trans (ext_a1 wa (.cells #[.int .u64 0, .int .i64 0, .int .i64 0] 44)))).mono ?_; rintro e wb6 ⟨rfl, h1⟩; have HX8 := Lib.hid ((HX7.out.trans (ext_a1 wa (.cells #[.int .u64 0, .int .i64 0, .int .i64 0] 44))).trans h1); have HS8 := Lib.hid (HSx.out _ _ ((ext_a1 wa (.cells #[.int .u64 0, .int .i64 0, .int .i64 0] 44)).trans h1) HS7b.out); have HBp6 : Hid (Blk wb6 wa.heap.size 44 #[.int .u64 0, .int .i64 0, .int .i64 0]) := Lib.hid ((Blk.new wa 44 #[.int .u64 0, .int .i64 0, .int .i64 0]).ext h1); have r0 : wb6.cell? ⟨wa.heap.size, 0, none⟩ = some (Value.int .u64 0) := HBp6.out.cell 0; have r1 : wb6.cell? ⟨wa.heap.size, 1, none⟩ = some (Value.int .i64 0) := HBp6.out.cell 1; have r2 : wb6.cell? ⟨wa.heap.size, 2, none⟩ = some (Value.int .i64 0) := HBp6.out.cell 2; have z0 := HBp6.out.free 0; have z1 := HBp6.out.free 1; have z2 := HBp6.out.free 2; clear h1))
        all_goals
          go_wp2_with fail
          go_meet
          case rel =>
            first
              | exact ⟨_, rfl, rfl, HX8.out.trans (ext_a1 _ _), Blk.new _ _ _⟩
              | exact ⟨_, rfl, rfl, OffS.ext (F := fun i => i = wc.heap.size) HX8.out (fun i hi => by rw [hi]; exact Nat.le_refl _) set3_off, set3_blk HBp6.out⟩
              | exact ⟨_, rfl, rfl, OffS.ext (F := fun i => i = wa.heap.size) HX8.out (fun i hi => by rw [hi]; exact HX7.out.size) set3_off, set3_blk HBp6.out⟩
      case rest =>
      obtain ⟨p2, rfl, rfl, hxc, hb2⟩ := hcut
      have HT9 := Lib.hid (HTC.out.grow hxc)
      have HS9 : Hid (wc.cell? ⟨q, 0, none⟩ = some (.int .u8 a1) ∧ wc.cell? ⟨q, 1, none⟩ = some (.int .i64 a2) ∧ wc.cell? ⟨q, 2, none⟩ = some (.int .i64 a3)) := Lib.hid (HSx.out _ _ hxc HSC.out)
      have HP9 := Lib.hid (HBP.out.ext hxc)
      have HQ9 := Lib.hid hb2
      have hrow := row_ext HRC.out hxc
      obtain ⟨_, _, e0, hens⟩ := Ens.of_own (Own.of_row hrow)
      cases e0
      have HE9 := Lib.hid hens
      have HDR : Hid (∀ W, Ext wb W → Calls Tryz.prog 48 #[.slice ao m cap, .int .u64 H, .int .i64 a2, .int .i64 a3] W fun e W' => ∃ va' vc', e = .returned (.slice va' RG.length vc') ∧ Ens W' va' RG.length vc' RG ∧ Ext W W') := Lib.hid fun W hW => by
        have h1 := range19_c H a2 a3 W (Hx.out.ext hW) (by have := Hx.out.len; omega)
        rw [HRG.out] at h1
        refine h1.mono ?_
        rintro e W' ⟨v, rfl, hr, hb⟩
        obtain ⟨a', c', rfl, he⟩ := Ens.of_own (Own.of_row hr)
        exact ⟨a', c', rfl, he, hb⟩
      have HSm : Hid (∀ W va' vc', Ens W va RG.length vc RG → Ens W va' RG.length vc' RG → Calls Tryz.prog 16 #[.slice va RG.length vc, .slice va' RG.length vc'] W fun e W' => e = .returned (.bool true) ∧ Ext W W') := Lib.hid fun W va' vc' h1 h2 => by
        have h3 := same18_c W h1 h2
        rw [decide_eq_true rfl] at h3
        exact h3
      have HSn : Hid (∀ W : World, Ext wc W → (W.cell? ⟨q, 0, none⟩ = some (.int .u8 a1) ∧ W.cell? ⟨q, 1, none⟩ = some (.int .i64 a2) ∧ W.cell? ⟨q, 2, none⟩ = some (.int .i64 a3)) ∧ (W.cell? ⟨p, 0, none⟩ = some (.int .u64 y1) ∧ W.cell? ⟨p, 1, none⟩ = some (.int .i64 y2) ∧ W.cell? ⟨p, 2, none⟩ = some (.int .i64 y3)) ∧ W.cell? ⟨p2, 0, none⟩ = some (.int .u64 y1) ∧ W.cell? ⟨p2, 1, none⟩ = some (.int .i64 y2) ∧ W.cell? ⟨p2, 2, none⟩ = some (.int .i64 y3)) := Lib.hid fun W hW => by
        have h1 := HP9.out.ext hW; have h2 := HQ9.out.ext hW
        exact ⟨HSx.out _ _ hW HS9.out, ⟨h1.cell 0, h1.cell 1, h1.cell 2⟩, h2.cell 0, h2.cell 1, h2.cell 2⟩
      have HWc2 := Lib.hid HT9.out.base
      clear hxc hb2 hrow hens HSC HBP HRC HTC HS7 HDL HSx HSy
      go_wp2_with fail
      go_region_held3 (fun W => (W.cell? ⟨q, 0, none⟩ = some (.int .u8 a1) ∧ W.cell? ⟨q, 1, none⟩ = some (.int .i64 a2) ∧ W.cell? ⟨q, 2, none⟩ = some (.int .i64 a3)) ∧ (W.cell? ⟨p, 0, none⟩ = some (.int .u64 y1) ∧ W.cell? ⟨p, 1, none⟩ = some (.int .i64 y2) ∧ W.cell? ⟨p, 2, none⟩ = some (.int .i64 y3)) ∧ W.cell? ⟨p2, 0, none⟩ = some (.int .u64 y1) ∧ W.cell? ⟨p2, 1, none⟩ = some (.int .i64 y2) ∧ W.cell? ⟨p2, 2, none⟩ = some (.int .i64 y3))
        (first | exact HSn.out _ HX12.out | exact HSn.out _ HX11.out | exact HSn.out _ HX10.out | exact HSn.out _ (Ext.refl wc).drew)
        (first
          | (go_at_call 46; refine (HH.out _).mono ?_; rintro e wa ⟨rfl, h1⟩; have HX10 : Hid (Ext wc wa) := Lib.hid ((Ext.refl wc).drew.trans h1); clear h1)
          | (go_at_call 48; refine (HDR.out _ (HWc2.out.trans HX10.out)).mono ?_; rintro e wx ⟨va', vc', rfl, h1, h2⟩; have HX11 := Lib.hid (HX10.out.trans h2); have HE11 := Lib.hid h1; clear h1 h2)
          | (go_at_call 16; refine (HSm.out _ _ _ (HE9.out.ext HX11.out) HE11.out).mono ?_; rintro e wy ⟨rfl, h1⟩; have HX12 := Lib.hid (HX11.out.trans h1); clear h1))
      all_goals
        have HTz := Lib.hid (HT9.out.grow HX12.out)
        obtain ⟨⟨d0, d1, d2⟩, _⟩ := HSn.out _ HX12.out
        have hR1e := HR1.out; have hR2e := HR2.out; have hk1 := HK1.out; have hk2 := HK2f.out; have hLL := HL.out
        have hrl : RG.length ≤ L.length := by rw [← HRG.out]; unfold rangeE; exact List.length_filter_le _ _
        have w1 : IntKind.i64.wrap (R1 - R) = (k1 : Int) := by rw [IntKind.wrap_i64]; omega
        have w2 : IntKind.i64.wrap (5 + (RG.length : Int)) = 5 + (RG.length : Int) := by rw [IntKind.wrap_i64]; omega
        have w3 : decide (5 + (RG.length : Int) < (k1 : Int)) = false := decide_eq_false (by omega)
        have w4 : IntKind.i64.wrap (R2 - R1) = (k2 : Int) := by rw [IntKind.wrap_i64]; omega
        have w5 : decide ((5 : Int) < (k2 : Int)) = false := decide_eq_false (by omega)
        have HMy := Lib.hid (fun W (k : Ext wy W) => (HTz.out.grow k).asks H)
        have w6 : tbMay L may H = false → (R2 != R) = false := fun h => by
          have h1 := hk1.2 h; have h2 := hk2.2 h
          simp; omega
        have HFinal : Hid (∀ W, Ext wy W → TbW wb W t g n L may (tellN (c + k1 + k2) σ) (fun _ => False)) := Lib.hid fun W hW => by
          have h1 := (HTz.out.grow hW).beside (K' := fun _ => False) (fun i hi => hi.elim)
          rw [← HTau2.out, ← HTau1.out, ← HTau.out, tellN_add, tellN_add, ← Nat.add_assoc] at h1
          exact h1
        have HCn : Hid (c + k1 + k2 ≤ (j + 1) * (L.length + 9)) := Lib.hid (by
          have h1 := HC.out
          rw [Nat.succ_mul]; omega)
        obtain ⟨z, hz⟩ : ∃ z, tbMay L may H = z := ⟨_, rfl⟩
        rw [hz] at HMy w6
        clear hz hR1e hR2e hk1 hk2 hLL hrl HSn HDR HSm HTz
        cases z with
        | true =>
          clear w6
          go_wp2_with fail
          refine (HH.out _).mono ?_
          rintro e w20 ⟨rfl, h20⟩
          have HX20 := Lib.hid h20; clear h20
          go_wp2_with fail
          refine (HMy.out _ HX20.out).mono ?_
          rintro e w21 ⟨rfl, h21⟩
          have HX21 := Lib.hid (HX20.out.trans h21); clear h21
          go_wp2_with fail
          go_roundw
          case rel => exact ⟨j + 1, c + k1 + k2, by omega, by go_num, HCn.out, HFinal.out _ HX21.out⟩
          case measure => simp [intOf]; omega
        | false =>
          have w7 := w6 rfl
          clear w6
          go_wp2_with fail
          refine (HH.out _).mono ?_
          rintro e w20 ⟨rfl, h20⟩
          have HX20 := Lib.hid h20; clear h20
          go_wp2_with fail
          refine (HMy.out _ HX20.out).mono ?_
          rintro e w21 ⟨rfl, h21⟩
          have HX21 := Lib.hid (HX20.out.trans h21); clear h21
          go_wp2_with fail
          go_roundw
          case rel => exact ⟨j + 1, c + k1 + k2, by omega, by go_num, HCn.out, HFinal.out _ HX21.out⟩
          case measure => simp [intOf]; omega
    · have hd : decide ((j : Int) < (k : Int)) = false := by simp; omega
      have hjk : j = k := by omega
      have HJ := Lib.hid hjk
      clear htb hc hjk
      go_wp2_with fail
      go_ret
      exact ⟨rfl, c, by rw [← HJ.out]; exact HC.out, HT.out⟩
end

end Go.Proofs.YtmoieamadjjloaaGreat
namespace Go.Proofs.YtmoieamadjjloaaGreat
open Go.RowKit

set_option maxRecDepth 100000
set_option linter.unusedVariables false
set_option maxHeartbeats 12800000

theorem findN_upd_other {α : Type} {k : α → List UInt8} {f : α → α} {a b : List UInt8} (hne : a ≠ b) (hk : ∀ x, k (f x) = k x) : ∀ L : List α, findN k b (updN k a f L) = findN k b L
  | [] => rfl
  | y :: r => by
    have ih := findN_upd_other hne hk r
    unfold findN updN at ih ⊢
    rw [List.map_cons, List.find?_cons, List.find?_cons, ih]
    by_cases hy : (k y == a) = true
    · rw [if_pos hy, hk y]
      have hya : k y = a := by simpa using hy
      have hb : (k y == b) = false := by rw [hya]; simpa using hne
      rw [hb]
    · rw [if_neg hy]
theorem findN_del_other {α : Type} {k : α → List UInt8} {a b : List UInt8} (hne : a ≠ b) : ∀ L : List α, findN k b (delN k a L) = findN k b L
  | [] => rfl
  | y :: r => by
    have ih := findN_del_other (k := k) hne r
    unfold findN delN at ih ⊢
    rw [List.filter_cons]
    by_cases hy : (k y == a) = true
    · rw [if_neg (by simp [hy]), ih, List.find?_cons]
      have hya : k y = a := by simpa using hy
      have hb : (k y == b) = false := by rw [hya]; simpa using hne
      rw [hb]
    · rw [if_pos (by simpa using hy), List.find?_cons, List.find?_cons, ih]

/-- a disk that has a table's file, and does not fail -/
structure Wf (σ : DM) (n : Int) (L : List En) (B : Int) : Prop where
  wl : Wl σ n L
  fine : σ.fail = false
  r0 : 0 ≤ σ.reads
  r1 : σ.reads ≤ B
theorem Wf.tell {σ : DM} {n : Int} {L : List En} {B : Int} (h : Wf σ n L B) (c : Nat) (hB : B ≤ 100000) (hc : c ≤ 100000) : Wf (tellN c σ) n L (B + c) := by
  have h0 := h.r0; have h1 := h.r1
  refine ⟨h.wl.tellN c, by rw [tellN_fail]; exact h.fine, ?_, ?_⟩ <;> rw [tellN_reads c σ h0 (by omega)] <;> omega
theorem Wf.spoil {σ : DM} {n : Int} {L : List En} {B : Int} (h : Wf σ n L B) {nm : List UInt8} (hne : nm ≠ nameS 116 n) (a : Int) (s : List UInt8) : Wf (spoilM σ nm a s).2 n L B := by
  unfold spoilM
  split
  · exact h
  · split
    · exact h
    · obtain ⟨⟨h1, f, h2, h3⟩, h4, h5, h6⟩ := h
      exact ⟨⟨h1, f, (findN_upd_other (k := FM.nm) (f := fun f => { f with da := overB f.da s a.toNat }) hne (fun _ => rfl) _).trans h2, h3⟩, h4, h5, h6⟩
theorem Wf.cut {σ : DM} {n : Int} {L : List En} {B : Int} (h : Wf σ n L B) {nm : List UInt8} (hne : nm ≠ nameS 116 n) (a : Int) : Wf (cutM σ nm a).2 n L B := by
  unfold cutM
  split
  · exact h
  · split
    · exact h
    · obtain ⟨⟨h1, f, h2, h3⟩, h4, h5, h6⟩ := h
      exact ⟨⟨h1, f, (findN_upd_other (k := FM.nm) (f := cutF a.toNat) hne (fun _ => rfl) _).trans h2, h3⟩, h4, h5, h6⟩
theorem Wf.delete {σ : DM} {n : Int} {L : List En} {B : Int} (h : Wf σ n L B) {nm : List UInt8} (hne : nm ≠ nameS 116 n) : Wf (deleteM σ nm).2 n L B := by
  obtain ⟨⟨h1, f, h2, h3⟩, h4, h5, h6⟩ := h
  unfold deleteM
  rw [if_neg (by rw [h1]; decide)]
  split
  · exact ⟨⟨h1, f, h2, h3⟩, h4, h5, h6⟩
  · rw [if_neg (by unfold failsM; rw [h4]; simp)]
    exact ⟨⟨h1, f, (findN_del_other hne _).trans h2, h3⟩, h4, h5, h6⟩

section
variable {wb W : World} {g : Nat} {σ : DM} {K : Nat → Prop}
theorem DkW.spoil (h : DkW wb W g σ K) (nm s : List UInt8) (hl : nm.length ≤ 9223372036854775807) (hs : s.length ≤ 9223372036854775807) (n : Int) (hn : n ≤ 9223372036854775807) :
    Calls Tryz.prog 28 #[.pointer (some ⟨g, 0, none⟩), .string ⟨nm.toArray⟩, .int .i64 n, .string ⟨s.toArray⟩] W fun e w' => e = .returned (.int .i64 (spoilM σ nm n s).1) ∧ DkW wb w' g (spoilM σ nm n s).2 K ∧ Stay K W w' :=
  h.disk fun F hd => spoil_c hd nm s hl hs n hn
theorem DkW.cut (h : DkW wb W g σ K) (nm : List UInt8) (hl : nm.length ≤ 9223372036854775807) (n : Int) (hn : n ≤ 9223372036854775807) :
    Calls Tryz.prog 29 #[.pointer (some ⟨g, 0, none⟩), .string ⟨nm.toArray⟩, .int .i64 n] W fun e w' => e = .returned (.int .i64 (cutM σ nm n).1) ∧ DkW wb w' g (cutM σ nm n).2 K ∧ Stay K W w' :=
  h.disk fun F hd => cutD_c hd nm hl n hn
theorem DkW.delete (h : DkW wb W g σ K) (nm : List UInt8) (hl : nm.length ≤ 9223372036854775807) :
    Calls Tryz.prog 30 #[.pointer (some ⟨g, 0, none⟩), .string ⟨nm.toArray⟩] W fun e w' => e = .returned (.int .i64 (deleteM σ nm).1) ∧ DkW wb w' g (deleteM σ nm).2 K ∧ Stay K W w' :=
  h.disk fun F hd => delete_c hd nm hl
theorem DkW.size (h : DkW wb W g σ K) (nm : List UInt8) (hl : nm.length ≤ 9223372036854775807) :
    Calls Tryz.prog 27 #[.pointer (some ⟨g, 0, none⟩), .string ⟨nm.toArray⟩] W fun e w' => e = .returned (.tuple #[.int .i64 (sizeM σ nm).1, .int .i64 (sizeM σ nm).2]) ∧ W = w' := by
  obtain ⟨F, h1⟩ := h
  exact size_c h1.d nm hl
theorem DkW.read (h : DkW wb W g σ K) (nm : List UInt8) (a n : Int) (hl : nm.length ≤ 9223372036854775807) (ha0 : -9223372036854775808 ≤ a) (ha1 : a ≤ 9223372036854775807) (hn0 : -9223372036854775808 ≤ n) (hn1 : n ≤ 9223372036854775807) :
    Calls Tryz.prog 31 #[.pointer (some ⟨g, 0, none⟩), .string ⟨nm.toArray⟩, .int .i64 a, .int .i64 n] W fun e w' => e = .returned (.tuple #[.string ⟨(readM σ nm a n).1.toArray⟩, .int .i64 (readM σ nm a n).2.1]) ∧ DkW wb w' g (readM σ nm a n).2.2 K ∧ Stay K W w' :=
  h.disk fun F hd => read_c hd nm a n hl ha0 ha1 hn0 hn1
end

end Go.Proofs.YtmoieamadjjloaaGreat
namespace Go.Proofs.YtmoieamadjjloaaGreat
open Go.RowKit

set_option maxRecDepth 100000
set_option linter.unusedVariables false
set_option maxHeartbeats 12800000

theorem findN_upd_self {α : Type} {k : α → List UInt8} {f : α → α} {a : List UInt8} (hk : ∀ x, k (f x) = k x) : ∀ L : List α, findN k a (updN k a f L) = (findN k a L).map f
  | [] => rfl
  | y :: r => by
    have ih := findN_upd_self (a := a) hk r
    unfold findN updN at ih ⊢
    rw [List.map_cons, List.find?_cons, List.find?_cons, ih]
    by_cases hy : (k y == a) = true
    · rw [if_pos hy, hk y, hy]; rfl
    · rw [if_neg hy]
      have hb : (k y == a) = false := by simpa using hy
      rw [hb]
/-- a disk that has a file, and does not fail -/
structure Hf (σ : DM) (nm B : List UInt8) : Prop where
  up : σ.down = false
  fine : σ.fail = false
  file : ∃ f, findN FM.nm nm σ.L = some f ∧ f.da = B
theorem Wf.hf {σ : DM} {n : Int} {L : List En} {B : Int} (h : Wf σ n L B) : Hf σ (nameS 116 n) (tabB L) := ⟨h.wl.up, h.fine, h.wl.file⟩
theorem Hf.tell {σ : DM} {nm B : List UInt8} (h : Hf σ nm B) : Hf (tellM σ) nm B := ⟨h.up, h.fine, h.file⟩
theorem Hf.tellN {σ : DM} {nm B : List UInt8} (h : Hf σ nm B) (c : Nat) : Hf (tellN c σ) nm B := ⟨by rw [tellN_down]; exact h.up, by rw [tellN_fail]; exact h.fine, by rw [tellN_L]; exact h.file⟩
theorem Hf.size {σ : DM} {nm B : List UInt8} (h : Hf σ nm B) : sizeM σ nm = ((B.length : Int), 0) := by
  obtain ⟨f, h1, rfl⟩ := h.file
  unfold sizeM; rw [if_neg (by rw [h.up]; decide), h1]
theorem Hf.read {σ : DM} {nm B : List UInt8} (h : Hf σ nm B) : readM σ nm 0 (B.length : Int) = (B, 0, tellM σ) := by
  have h1 := h.size
  obtain ⟨f, h2, h3⟩ := h.file
  have h4 := wholeM_ok h.up h2
  unfold wholeM at h4
  rw [h1] at h4
  simp only at h4
  rw [if_neg (fun h => h rfl), h3] at h4
  exact h4
theorem Hf.spoil {σ : DM} {nm B : List UInt8} (h : Hf σ nm B) (a : Int) (h0 : 0 ≤ a) (s : List UInt8) : ∃ B' τ, spoilM σ nm a s = (0, τ) ∧ Hf τ nm B' ∧ B'.length = B.length := by
  obtain ⟨f, h2, rfl⟩ := h.file
  refine ⟨overB f.da s a.toNat, { σ with L := updN FM.nm nm (fun f => { f with da := overB f.da s a.toNat }) σ.L }, ?_, ⟨h.up, h.fine, { f with da := overB f.da s a.toNat }, (findN_upd_self (k := FM.nm) (f := fun f => { f with da := overB f.da s a.toNat }) (fun _ => rfl) _).trans (by rw [h2]; rfl), rfl⟩, overB_len _ _ _⟩
  unfold spoilM
  rw [h2, if_neg (by simp), if_neg (by omega)]
theorem Hf.delete {σ : DM} {nm B : List UInt8} (h : Hf σ nm B) : ∃ τ, deleteM σ nm = (0, τ) ∧ τ.down = false ∧ findN FM.nm nm τ.L = none := by
  obtain ⟨f, h2, _⟩ := h.file
  refine ⟨{ tickM σ with L := delN FM.nm nm σ.L }, ?_, h.up, findN_del_self _⟩
  unfold deleteM
  rw [if_neg (by rw [h.up]; decide), h2, if_neg (by simp), if_neg (by unfold failsM; rw [h.fine]; simp)]
theorem Hf.openNone {σ : DM} {n : Int} {B : List UInt8} (h : Hf σ (nameS 116 n) B) (hg : getT B = none) : openM σ n = (none, 90, tellM σ) := by
  obtain ⟨f, h2, rfl⟩ := h.file
  unfold openM
  rw [wholeM_ok h.up h2]
  simp only
  rw [if_neg (fun h => h rfl), hg]
theorem Hf.wl {σ : DM} {n : Int} {B : List UInt8} (h : Hf σ (nameS 116 n) B) {L : List En} (hg : getT B = some L) : Wl σ n L :=
  ⟨h.up, by obtain ⟨f, h1, h2⟩ := h.file; exact ⟨f, h1, h2.trans (getT_some hg).1⟩⟩

theorem spoiltlaw_c {ao : Option Addr} {n cap : Nat} {R : List En} (s : List UInt8) (at_ : Int) (w : World) (hx : EnsIn w ao n cap R) (hsl : s.length ≤ 9223372036854775807) (hat : 0 ≤ at_ ∧ at_ ≤ 65535) :
    Calls Tryz.prog 6 #[.slice ao n cap, .string ⟨s.toArray⟩, .int .u16 at_] w fun e w' => e = .returned (.bool true) ∧ Ext w w' := by
  have HSm := Lib.hid small_c
  have b1 := hx.fits; have b2 := hx.bound
  by_cases hbig : 60 < n ∨ 300 < s.length
  · have hd : decide ((60 : Int) < (n : Int)) = true ∨ (decide ((60 : Int) < (n : Int)) = false ∧ decide ((300 : Int) < (s.length : Int)) = true) := by
      by_cases h : 60 < n
      · exact .inl (decide_eq_true (by omega))
      · exact .inr ⟨decide_eq_false (by omega), decide_eq_true (by omega)⟩
    clear hbig hx
    rcases hd with hd | ⟨hd, hd2⟩
    all_goals
      go_enter Tryz.func6, Tryz.ntmps6
      go_wp2_with fail
      refine (HSm.out _).mono ?_
      rintro e w1 ⟨rfl, hb⟩
      have HB := Lib.hid hb
      clear hb
      go_wp2_with fail
      go_ret
      exact ⟨rfl, HB.out⟩
  · have hn : n ≤ 60 := by omega
    have hd1 : decide ((60 : Int) < (n : Int)) = false := decide_eq_false (by omega)
    have hd3 : decide ((300 : Int) < (s.length : Int)) = false := decide_eq_false (by omega)
    have HMd := Lib.hid (fun W (k : Ext w W) => made_c W (hx.ens.ext k) (by omega) (fun e he => (hx.ok e he).h0))
    obtain ⟨ms, mo, ml⟩ := madeL_ok R (fun e he => (hx.ok e he).h0)
    rw [hx.len] at ml
    generalize madeL R = M at *
    have HMs := Lib.hid ms; have HMo := Lib.hid mo
    have HTb := Lib.hid (fun W => table_c 2 W)
    have hnl := nameS_le 116 2
    have hs5 : s.length ≤ 300 := by omega
    have HN := Lib.hid (DkW.make w 40000 (by decide) (by decide))
    clear hbig hx ms mo
    go_enter Tryz.func6, Tryz.ntmps6
    go_wp2_with fail
    refine HN.out.mono ?_
    rintro e w2 ⟨g, rfl, hd2'⟩
    have HD2 := Lib.hid hd2'
    clear hd2' HN
    go_wp2_with fail
    refine (HMd.out _ HD2.out.base).mono ?_
    rintro e w3 ⟨v, rfl, hrow, hb1⟩
    obtain ⟨va, vc, rfl, hens⟩ := Ens.of_own (Own.of_row hrow)
    have HEn := Lib.hid hens
    have HWr := Lib.hid ((HD2.out.grow hb1).write 2 4602678819172646912 hens (by omega) HMo.out)
    have hlf := hens.fits; have hlb := hens.bound
    clear hrow hb1 hens HMd HD2
    go_wp2_with fail
    refine HWr.out.mono ?_
    rintro e w4 ⟨f, f1, f2, he, hd4, hs4⟩
    have htl := tabB_length M
    obtain ⟨σ', e4, p4, r4⟩ := write_new (c := 40000) (n := 2) (by decide) (L := M) ((sortB_iff _).2 HMs.out) (f := f) (by omega)
    rw [e4] at he hd4
    subst he
    have hhf : Hf σ' (nameS 116 2) (tabB M) := ⟨p4.up, p4.fine, (p4.wl (x := nameS 116 2) (by rfl)).file⟩
    have HD4 := Lib.hid hd4
    have HHf := Lib.hid hhf
    clear hd4 hs4 e4 p4 r4 hhf HWr f1 f2
    go_wp2_with fail
    refine (HTb.out _).mono ?_
    rintro e w5 ⟨rfl, hb5⟩
    have HD5 := Lib.hid (HD4.out.grow hb5)
    clear hb5 HD4
    have hOp : ∀ (τ : DM) (B : List UInt8), Hf τ (nameS 116 2) B → (getT B = none → openM τ 2 = (none, 90, tellM τ)) ∧ ∀ L, getT B = some L → Wl τ 2 L := fun τ B h => ⟨h.openNone, fun L hg => h.wl hg⟩
    have HOp := Lib.hid hOp
    have HMiss := Lib.hid (fun (τ : DM) W (h : DkW w W g τ (fun _ => False)) => missing_c h)
    clear hOp
    generalize nameS 116 2 = TN at *
    have hz := HHf.out.size
    have HSz := Lib.hid (HD5.out.size TN hnl)
    rw [hz] at HSz
    obtain ⟨z, hz'⟩ : ∃ z : Int, ((tabB M).length : Int) = z := ⟨_, rfl⟩
    have hz0 : 0 ≤ z ∧ z ≤ 2000 := by omega
    obtain ⟨a, ha⟩ : ∃ a : Int, at_.tmod (z + 1) = a := ⟨_, rfl⟩
    have ha' : 0 ≤ a ∧ a ≤ z := by
      rw [Int.tmod_eq_emod_of_nonneg hat.1] at ha
      have h1 := Int.emod_nonneg at_ (show z + 1 ≠ 0 by omega)
      have h2 := Int.emod_lt_of_pos at_ (show (0 : Int) < z + 1 by omega)
      omega
    obtain ⟨B, τ, e6, h6, l6⟩ := HHf.out.spoil a ha'.1 s
    have HSp := Lib.hid (HD5.out.spoil TN s hnl (by omega) a (by omega))
    rw [e6] at HSp
    have HHf6 := Lib.hid h6
    have HRd := Lib.hid (fun W (h : DkW w W g τ (fun _ => False)) => h.read TN 0 z hnl (by decide) (by decide) (by omega) (by omega))
    have h7 := h6.read
    rw [l6, hz'] at h7
    rw [h7] at HRd
    rw [hz'] at HSz
    have HGt := Lib.hid (fun W => tget_c B W (by omega))
    have r1 : IntKind.i64.wrap at_ = at_ := by rw [IntKind.wrap_i64]; omega
    have r2 : IntKind.i64.wrap (z + 1) = z + 1 := by rw [IntKind.wrap_i64]; omega
    have r3 : ¬ (z + 1 = 0) := by omega
    have r4 : IntKind.i64.wrap a = a := by rw [IntKind.wrap_i64]; omega
    clear hz hz' ha' h6 e6 l6 h7 HHf htl
    go_wp2_with fail
    refine HSz.out.mono ?_
    rintro e w5' ⟨rfl, rfl⟩
    go_wp2_with fail
    refine HSp.out.mono ?_
    rintro e w6 ⟨rfl, hd6, _⟩
    have HRd6 := Lib.hid (HRd.out _ hd6)
    clear hd6 HSp HD5 HSz HRd
    go_wp2_with fail
    refine HRd6.out.mono ?_
    rintro e w7 ⟨rfl, hd7, _⟩
    have HD7 := Lib.hid hd7
    clear hd7 HRd6
    go_wp2_with fail
    refine (HGt.out _).mono ?_
    obtain ⟨gt, hgt⟩ : ∃ r, getT B = r := ⟨_, rfl⟩
    rw [hgt]
    have hH7 := HHf6.out.tell
    obtain ⟨o1, o2⟩ := HOp.out _ _ hH7
    obtain ⟨ν, hν⟩ : ∃ ν, tellM τ = ν := ⟨_, rfl⟩
    rw [hν] at HD7 hH7 o1 o2
    have HH7 := Lib.hid hH7
    cases gt with
    | none =>
      rintro e w8 ⟨rfl, hb8⟩
      have HO := Lib.hid ((HD7.out.grow hb8).openN 2 (o1 hgt))
      obtain ⟨υ, hυ⟩ : ∃ υ, tellM ν = υ := ⟨_, rfl⟩
      have hH8 := hH7.tell
      rw [hυ] at HO hH8
      obtain ⟨χ, e9, d9, f9⟩ := hH8.delete
      have HDe := Lib.hid (fun W (h : DkW w W g υ (fun _ => False)) => h.delete TN hnl)
      rw [e9] at HDe
      have HF9 := Lib.hid f9
      have HD9 := Lib.hid d9
      have HLn := Lib.hid (fun W => tlen_nil W)
      have HAl := Lib.hid (fun W => tall_nil W)
      clear hb8 HD7 o1 o2 hgt hν hυ hH7 hH8 e9 HOp HHf6 HGt d9 f9
      go_wp2_with fail
      refine HO.out.mono ?_
      rintro e w9 ⟨rfl, hd9, _⟩
      have HK9 := Lib.hid hd9
      clear hd9 HO
      go_wp2_with fail
      refine (HLn.out _).mono ?_
      rintro e w9' ⟨rfl, rfl⟩
      go_wp2_with fail
      refine (HAl.out _).mono ?_
      rintro e w10 ⟨rfl, hb10⟩
      have HDl := Lib.hid (HDe.out _ (HK9.out.grow hb10))
      clear hb10 HK9 HDe HAl HLn
      go_wp2_with fail
      refine HDl.out.mono ?_
      rintro e w11 ⟨rfl, hd11, _⟩
      have HMs11 := Lib.hid (HMiss.out _ _ hd11 HD9.out HF9.out)
      clear hd11 HDl
      go_wp2_with fail
      refine HMs11.out.mono ?_
      rintro e w12 ⟨rfl, hd12⟩
      have HX := Lib.hid hd12.base
      clear hd12 HMs11
      go_wp2_with fail
      refine (HSm.out _).mono ?_
      rintro e w13 ⟨rfl, hb13⟩
      have HX13 := Lib.hid (HX.out.trans hb13)
      clear hb13
      go_wp2_with fail
      go_ret
      exact ⟨rfl, HX13.out⟩
    | some L =>
      rintro e w8 ⟨v8, rfl, hrow8, hb8⟩
      obtain ⟨g1, g2, g3, g4⟩ := getT_some hgt
      obtain ⟨c, hc, ho⟩ := openM_ok (o2 L hgt) g2 g3 g4
      have hd8 := HD7.out.more hb8 (K' := fun i => v8.ownBlock = some i) (fun i hi => .inr (row_lt hrow8 i hi))
      have HO := Lib.hid (hd8.openT 2 ho)
      have HRow : Hid (∀ W, Stay (fun i => v8.ownBlock = some i) w8 W → W.ownsRow w7.heap.size 44 3 v8 L.length (ecs L)) := Lib.hid fun W h => row_same hrow8 fun i hi => h i hi
      obtain ⟨xa, xc, rfl, hens8⟩ := Ens.of_own (Own.of_row hrow8)
      have hlf8 := hens8.fits; have hlb8 := hens8.bound
      have HW9 := Lib.hid ((o2 L hgt).tellN c)
      obtain ⟨υ, hυ⟩ : ∃ υ, tellN c ν = υ := ⟨_, rfl⟩
      have hH8 := (hH7.tellN c).tell
      rw [hυ] at HO hH8 HW9
      obtain ⟨χ, e9, d9, f9⟩ := hH8.delete
      have HDe := Lib.hid (fun W (h : DkW w W g (tellM υ) (fun _ => False)) => h.delete TN hnl)
      rw [e9] at HDe
      have HF9 := Lib.hid f9
      have HD9 := Lib.hid d9
      clear hb8 HD7 o1 o2 hgt hν hυ hH7 hH8 e9 HOp HHf6 HGt d9 f9 hrow8 hd8 hens8 ho g1 g2 g3 g4 hc
      go_wp2_with fail
      refine HO.out.mono ?_
      rintro e w9 ⟨t, may, rfl, ht9, hs9⟩
      have HLn := Lib.hid ht9.len
      have HAl := Lib.hid (ht9.all HW9.out)
      have HS9 := Lib.hid hs9
      clear ht9 hs9 HO
      go_wp2_with fail
      refine HLn.out.mono ?_
      rintro e w9' ⟨rfl, rfl⟩
      go_wp2_with fail
      refine HAl.out.mono ?_
      rintro e w10 ⟨v10, rfl, hrow10, ht10, hs10⟩
      obtain ⟨ya, yc, rfl, hens10⟩ := Ens.of_own (Own.of_row hrow10)
      obtain ⟨za, zc', hz, hens8⟩ := Ens.of_own (Own.of_row (HRow.out _ (HS9.out.trans hs10)))
      obtain ⟨rfl, _, rfl⟩ : xa = za ∧ L.length = L.length ∧ xc = zc' := by simpa using hz
      have hsm := same18_c w10 hens8 hens10
      rw [decide_eq_true rfl] at hsm
      have HSa := Lib.hid hsm
      have HD10 := Lib.hid (ht10.disk0.beside (K' := fun _ => False) fun i hi => hi.elim)
      clear hrow10 ht10 hs10 hens10 hens8 hz hsm HAl HLn HRow HS9 HW9
      go_wp2_with fail
      refine HSa.out.mono ?_
      rintro e w10' ⟨rfl, hb10⟩
      have HDl := Lib.hid (HDe.out _ (HD10.out.grow hb10))
      clear hb10 HD10 HDe HSa
      go_wp2_with fail
      refine HDl.out.mono ?_
      rintro e w11 ⟨rfl, hd11, _⟩
      have HMs11 := Lib.hid (HMiss.out _ _ hd11 HD9.out HF9.out)
      clear hd11 HDl
      go_wp2_with fail
      refine HMs11.out.mono ?_
      rintro e w12 ⟨rfl, hd12⟩
      have HX := Lib.hid hd12.base
      clear hd12 HMs11
      go_wp2_with fail
      refine (HSm.out _).mono ?_
      rintro e w13 ⟨rfl, hb13⟩
      have HX13 := Lib.hid (HX.out.trans hb13)
      clear hb13
      go_wp2_with fail
      go_ret
      exact ⟨rfl, HX13.out⟩

end Go.Proofs.YtmoieamadjjloaaGreat
