/- Walks: has a disk what the document's one has? Walks: has each file of a disk that is up the document's bytes? Walks: the law DiskPlays. -/
import Derived.Test.YtmpiepkkikmpmaaG18PDiskPlays
set_option linter.unusedVariables false
set_option linter.unusedSimpArgs false
namespace Go.Proofs.Ytmpiepkkikmpmaa
open Go.RowKit

theorem names6 {w : World} {g : Nat} {F : Nat → Prop} {σ : DM} (h : Dk w g F σ) : Calls Try.prog 39 #[.pointer (some ⟨g, 0, none⟩)] w (RetN w (namesM σ)) := by
  obtain ⟨ho, m, kv, L, hi, _⟩ := h
  have := ho.many
  have hl : L.length = σ.L.length := by rw [← hi.files, List.length_map]
  have hn := names_c w g m L hi.c0 hi.c3 hi.fs (by omega)
  have e : L.map FE.nm = namesM σ := by unfold namesM; rw [← hi.files, List.map_map]; rfl
  rwa [e] at hn

set_option maxRecDepth 100000
set_option linter.unusedVariables false
set_option maxHeartbeats 12800000

theorem same6_c {w0 w : World} {g r : Nat} {F G K : Nat → Prop} {σ : DM} {fl : Int} (h : PDF w0 w g r F G σ fl K) :
    Calls Try.prog 9 #[.pointer (some ⟨g, 0, none⟩), .pointer (some ⟨r, 0, none⟩)] w fun e w' => e = .returned (.bool true) ∧ Ext w w' := by
  have HP := Lib.hid h
  have ho := h.d.1
  have hc0 := ho.cap0; have hc1 := ho.cap1; have hus := ho.used; have hmany := ho.many
  have HSy : Hid (∀ k (hk : k < σ.L.length), σ.L[k].sy ≤ σ.L[k].da.length ∧ σ.L[k].da.length ≤ 1048576) := Lib.hid fun k hk => by
    have h1 := ho.sy _ (List.getElem_mem hk)
    have h2 : σ.L[k].da.length ≤ usedM σ.L := usedM_mem (List.getElem_mem hk)
    exact ⟨h1, by omega⟩
  obtain ⟨U, hU⟩ : ∃ U : Int, (usedM σ.L : Int) = U := ⟨_, rfl⟩
  have hU0 : 0 ≤ U := by omega
  have hU1 : U ≤ σ.cap := by omega
  have HFr : Hid (∀ W, Ext w W → Calls Try.prog 16 #[.pointer (some ⟨g, 0, none⟩)] W fun e w' => e = .returned (.int .i64 (σ.cap - U)) ∧ Ext W w') := Lib.hid fun W hW => by
    have h := free_c (HP.out.d.ext hW); unfold freeM at h; rwa [hU] at h
  have HUs : Hid (∀ W, Ext w W → Calls Try.prog 41 #[.pointer (some ⟨r, 0, none⟩)] W fun e w' => e = .returned (.int .i64 U) ∧ Ext W w') := Lib.hid fun W hW => by
    refine (rused_c (HP.out.r.ext hW)).mono ?_
    rintro e w' ⟨rfl, rfl⟩
    rw [show (usedM (rm σ fl).L : Int) = U from hU]
    exact ⟨rfl, Ext.refl _⟩
  obtain ⟨dn, hdn⟩ : ∃ dn, σ.down = dn := ⟨_, rfl⟩
  have HUp : Hid (∀ W, Ext w W → Calls Try.prog 23 #[.pointer (some ⟨g, 0, none⟩)] W fun e w' => e = .returned (.bool (!dn)) ∧ Ext W w') := Lib.hid fun W hW => by
    refine (up_c (HP.out.d.ext hW)).mono ?_
    rintro e w' ⟨rfl, rfl⟩
    rw [hdn]; exact ⟨rfl, Ext.refl _⟩
  have HRe : Hid (∀ W, Ext w W → Calls Try.prog 18 #[.pointer (some ⟨g, 0, none⟩)] W fun e w' => e = .returned (.int .i64 σ.reads) ∧ Ext W w') := Lib.hid fun W hW => by
    refine (reads_c (HP.out.d.ext hW)).mono ?_
    rintro e w' ⟨rfl, rfl⟩
    exact ⟨rfl, Ext.refl _⟩
  have HSt : Hid (∀ W, Ext w W → Calls Try.prog 42 #[.pointer (some ⟨g, 0, none⟩)] W fun e w' => e = .returned (.int .i64 σ.starts) ∧ Ext W w') := Lib.hid fun W hW => by
    refine (starts_c (HP.out.d.ext hW)).mono ?_
    rintro e w' ⟨rfl, rfl⟩
    exact ⟨rfl, Ext.refl _⟩
  have hdq : ((!dn) == dn) = false := by cases dn <;> rfl
  have hw1 : IntKind.i64.wrap (σ.cap - U) = σ.cap - U := IntWalk.i64_in _ (by omega)
  obtain ⟨n, hn⟩ : ∃ n, σ.L.length = n := ⟨_, rfl⟩
  have HHd : Hid (∀ W, Ext w W → ∃ ao cap, n ≤ cap ∧ cap ≤ 9223372036854775807 ∧ W.cell? ⟨r, 0, none⟩ = some (.int .i64 σ.cap) ∧ W.cell? ⟨r, 1, none⟩ = some (.slice ao n cap) ∧ W.cell? ⟨r, 2, none⟩ = some (.int .i64 σ.reads) ∧ W.cell? ⟨r, 3, none⟩ = some (.bool dn) ∧ W.cell? ⟨r, 4, none⟩ = some (.int .i64 σ.starts)) := Lib.hid fun W hW => by
    obtain ⟨_, v, kv, hi, _, _⟩ := HP.out.r.ext hW
    obtain ⟨ao, cap, hv, h1, h2, _⟩ := hi.row.rd
    subst hv
    have e1 : (rm σ fl).L.length = n := hn
    rw [e1] at h1 hi
    exact ⟨ao, cap, h1, h2, hi.head.cell 0, hi.head.cell 1, hi.head.cell 2, by rw [← hdn]; exact hi.head.cell 3, hi.head.cell 4⟩
  have HNm : Hid ((namesM σ).length = n) := Lib.hid (by unfold namesM; rw [List.length_map, hn])
  have HLo : Hid ((looseM σ).length = n) := Lib.hid (by unfold looseM; rw [List.length_map, hn])
  have HN := Lib.hid hn
  rw [hn] at hmany
  clear h ho hus hU hdn hn
  go_enter Try.func9, Try.ntmps9
  go_wp2_with fail
  refine (names6 HP.out.d).mono ?_
  intro e w1 hr
  obtain ⟨na, nc, rfl, hown, hx⟩ := hr.out
  obtain ⟨na', nc', e2, hst⟩ := Slf.of_own hown
  cases e2
  rw [HNm.out] at hst ⊢
  have HNs := Lib.hid hst
  have HX1 := Lib.hid hx
  have f1 := hst.fits; have f2 := hst.bound
  clear hr hown hst hx
  go_wp2_with fail
  refine (unsynced_c (HP.out.d.ext HX1.out)).mono ?_
  intro e w2 hr
  obtain ⟨la, lc, rfl, hli, hx⟩ := hr.out
  rw [HLo.out] at hli ⊢
  have HLi := Lib.hid hli
  have HNs := Lib.hid (HNs.out.ext hx)
  have HX2 := Lib.hid (HX1.out.trans hx)
  have f3 := hli.fits; have f4 := hli.bound
  clear hr hli hx
  obtain ⟨ao, cap, g1, g2, q0, q1, q2, q3, q4⟩ := HHd.out w2 HX2.out
  have k0 := cell_of q0; have k1 := cell_of q1; have k2 := cell_of q2; have k3 := cell_of q3; have k4 := cell_of q4
  go_wp2_with fail
  refine wp_region_ext (by kernel_rfl) (by kernel_rfl) ?_
  repeat (go_big_quiet_step (fail))
  go_big_quiet_step (exact Calls.quiet_ext (HFr.out _ (HX2.out.trans (ExtOf.h _))))
  repeat (go_big_quiet_step (fail))
  go_big_quiet_step (exact Calls.quiet_ext (HUs.out _ (HX2.out.trans (ExtOf.h _))))
  repeat (go_big_quiet_step (fail))
  go_big_quiet_step (exact Calls.quiet_ext (HUp.out _ (HX2.out.trans (ExtOf.h _))))
  repeat (go_big_quiet_step (fail))
  go_big_quiet_step (exact Calls.quiet_ext (HRe.out _ (HX2.out.trans (ExtOf.h _))))
  repeat (go_big_quiet_step (fail))
  go_big_quiet_step (exact Calls.quiet_ext (HSt.out _ (HX2.out.trans (ExtOf.h _))))
  repeat (go_big_quiet_step (fail))
  refine wpQuiet_nil ?_
  intro w3 hw3
  have HX3 := Lib.hid (HX2.out.trans hw3)
  have HNs := Lib.hid (HNs.out.ext hw3)
  have HLi := Lib.hid (HLi.out.ext hw3)
  clear hw3 k0 k1 k2 k3 k4 q0 q1 q2 q3 q4
  go_wp2_with fail
  go_loopw [7] (fun i wr => ∃ k : Nat, k ≤ n ∧ i = .int .i64 k ∧ Ext w3 wr) (fun i _ => n - (intOf i).toNat)
  case atStart => exact ⟨0, Nat.zero_le _, rfl, Ext.refl _⟩
  case round =>
  obtain ⟨k, hk, rfl, hb⟩ := hrel
  have Hb := Lib.hid hb
  clear hb
  by_cases hlt : k < n
  · have hkL : k < σ.L.length := by rw [HN.out]; exact hlt
    obtain ⟨gg, cap2, q, q0, q1, q2, -, hc2, hc3⟩ := (HP.out.r.ext (HX3.out.trans Hb.out)).at (k := k) hkL
    obtain ⟨b1, o1, rfl, z1⟩ := (HNs.out.ext Hb.out).at ([] : List UInt8) hlt
    obtain ⟨b2, o2, rfl, z2⟩ := (HLi.out.ext Hb.out).at hlt
    have e1 : (namesM σ).getD k [] = (σ.L[k]'hkL).nm := by unfold namesM; rw [List.getD_eq_getElem?_getD, List.getElem?_map, List.getElem?_eq_getElem hkL]; rfl
    have e2 : (looseM σ).getD k 0 = ((σ.L[k]'hkL).da.length : Int) - ((σ.L[k]'hkL).sy : Int) := by unfold looseM; rw [List.getD_eq_getElem?_getD, List.getElem?_map, List.getElem?_eq_getElem hkL]; rfl
    rw [e1] at z1
    rw [e2] at z2
    obtain ⟨s1, s2⟩ := HSy.out k hkL
    have hnn : (rm σ fl).L.length = n := HN.out
    rw [hnn] at q hc2
    obtain ⟨f, hf⟩ : ∃ f, σ.L[k]'hkL = f := ⟨_, rfl⟩
    rw [hf] at z1 z2 s1 s2
    have q0' : wr.cell? ⟨gg, k * 3, none⟩ = some (.string ⟨f.nm.toArray⟩) := by rw [← hf]; exact q0
    have q1' : wr.cell? ⟨gg, k * 3 + 1, none⟩ = some (.string ⟨f.da.toArray⟩) := by rw [← hf]; exact q1
    have q2' : wr.cell? ⟨gg, k * 3 + 2, none⟩ = some (.int .i64 (f.sy : Int)) := by rw [← hf]; exact q2
    have hx := ext_a1 wr (.cells #[.string ⟨f.nm.toArray⟩, .string ⟨f.da.toArray⟩, .int .i64 (f.sy : Int)] 60)
    have hbx := Blk.new wr 60 #[.string ⟨f.nm.toArray⟩, .string ⟨f.da.toArray⟩, .int .i64 (f.sy : Int)]
    have x0 := hbx.cell 0; have x1 := hbx.cell 1; have x2 := hbx.cell 2
    have y1 := cell_ext hx z1; have y2 := cell_ext hx z2
    have HXb := Lib.hid (Hb.out.trans hx)
    have hw2 : IntKind.i64.wrap ((f.da.length : Int) - (f.sy : Int)) = (f.da.length : Int) - (f.sy : Int) := IntWalk.i64_in _ (by omega)
    clear hf e1 e2 q0 q1 q2 z1 z2 hx hbx hnn
    go_wp2_with fail
    go_quiet (fail)
    go_wp2_with fail
    go_roundw
    case rel => exact ⟨k + 1, by omega, by go_num, HXb.out.drewN _⟩
    case measure => simp [intOf]; omega
  · go_wp2_with fail
    go_ret
    exact ⟨rfl, HX3.out.trans Hb.out⟩

end Go.Proofs.Ytmpiepkkikmpmaa
namespace Go.Proofs.Ytmpiepkkikmpmaa
open Go.RowKit

/-- all that was read -/
def toldN (σ : DM) : Nat → DM
  | 0 => σ
  | k + 1 => tellM (toldN σ k)
theorem toldN_L (σ : DM) : ∀ k, (toldN σ k).L = σ.L
  | 0 => rfl
  | k + 1 => toldN_L σ k
theorem toldN_down (σ : DM) : ∀ k, (toldN σ k).down = σ.down
  | 0 => rfl
  | k + 1 => toldN_down σ k
theorem toldN_fail (σ : DM) : ∀ k, (toldN σ k).fail = σ.fail ∧ (toldN σ k).left = σ.left
  | 0 => ⟨rfl, rfl⟩
  | k + 1 => toldN_fail σ k

set_option maxRecDepth 100000
set_option linter.unusedVariables false
set_option maxHeartbeats 12800000

theorem bytes6_c {w0 w : World} {g r : Nat} {K : Nat → Prop} {σ : DM} {fl : Int} (h : PD w0 w g r σ fl K) (hup : σ.down = false) (hr0 : 0 ≤ fl) (hr1 : fl ≤ 1099511627777) :
    Calls Try.prog 10 #[.pointer (some ⟨g, 0, none⟩), .pointer (some ⟨r, 0, none⟩)] w fun e w' => e = .returned (.bool true) ∧ PD w0 w' g r (toldN σ σ.L.length) fl K ∧ ∀ i, K i → w'.heap[i]? = w.heap[i]? := by
  obtain ⟨n, hn⟩ : ∃ n, σ.L.length = n := ⟨_, rfl⟩
  rw [hn]
  have HN := Lib.hid hn
  have HUp := Lib.hid hup
  have H0 := Lib.hid h
  have hmany : n ≤ 400 := by obtain ⟨F, G, hp⟩ := h; rw [← hn]; exact hp.d.1.many
  clear h hn hup
  go_enter Try.func10, Try.ntmps10
  go_wp2_with fail
  go_loopw [5] (fun i wr => ∃ k : Nat, k ≤ n ∧ i = .int .i64 k ∧ PD w0 wr g r (toldN σ k) fl K ∧ ∀ i, K i → wr.heap[i]? = w.heap[i]?) (fun i _ => n - (intOf i).toNat)
  case atStart => exact ⟨0, Nat.zero_le _, rfl, H0.out, fun _ _ => rfl⟩
  case round =>
  obtain ⟨k, hk, rfl, ⟨F, G, hp⟩, hkp⟩ := hrel
  obtain ⟨τ, hτ⟩ : ∃ τ, toldN σ k = τ := ⟨_, rfl⟩
  have hτ2 : toldN σ (k + 1) = tellM τ := by rw [← hτ]; rfl
  have hτL : τ.L = σ.L := by rw [← hτ]; exact toldN_L σ k
  have hτd : τ.down = false := by rw [← hτ, toldN_down]; exact HUp.out
  rw [hτ] at hp
  have HP := Lib.hid hp; have HKp := Lib.hid hkp; have HT2 := Lib.hid hτ2; have HTd := Lib.hid hτd
  have hnr : (rm τ fl).L.length = n := by show τ.L.length = n; rw [hτL]; exact HN.out
  have d1 : ∃ ao cap, wr.cell? ⟨r, 1, none⟩ = some (.slice ao n cap) ∧ n ≤ cap ∧ cap ≤ 9223372036854775807 := by
    obtain ⟨_, v, kv, hi, _, _⟩ := hp.r
    obtain ⟨ao, cap, hv, h1, h2, _⟩ := hi.row.rd
    subst hv
    rw [hnr] at hi h1
    exact ⟨ao, cap, hi.head.cell 1, h1, h2⟩
  obtain ⟨ao, cap, d1, hc1, hc2⟩ := d1
  by_cases hlt : k < n
  · have hkT : k < τ.L.length := by rw [hτL, HN.out]; exact hlt
    have hkL : k < (rm τ fl).L.length := hkT
    obtain ⟨gg, cap2, q, q0, q1, q2, -, -, -⟩ := hp.r.at (k := k) hkL
    obtain ⟨f, hf⟩ : ∃ f, τ.L[k]'hkT = f := ⟨_, rfl⟩
    have hao : ao = some ⟨gg, 0, none⟩ := by rw [d1] at q; cases q; rfl
    subst hao
    have hfd : findN FM.nm f.nm τ.L = some f := by rw [← hf]; exact pos_find (L := τ.L) hp.d.1.ord hkT rfl
    have q0' : wr.cell? ⟨gg, k * 3, none⟩ = some (.string ⟨f.nm.toArray⟩) := by rw [← hf]; exact q0
    have q1' : wr.cell? ⟨gg, k * 3 + 1, none⟩ = some (.string ⟨f.da.toArray⟩) := by rw [← hf]; exact q1
    have q2' : wr.cell? ⟨gg, k * 3 + 2, none⟩ = some (.int .i64 (f.sy : Int)) := by rw [← hf]; exact q2
    have hbd : f.da.length ≤ 1048576 := by
      have h1 : f.da.length ≤ usedM τ.L := by rw [← hf]; exact usedM_mem (List.getElem_mem hkT)
      have h2 := hp.d.1.used; have h3 := hp.d.1.cap1
      omega
    obtain ⟨W, hW⟩ : ∃ W, wr.alloc (.cells #[.string ⟨f.nm.toArray⟩, .string ⟨f.da.toArray⟩, .int .i64 (f.sy : Int)] 60) = W := ⟨_, rfl⟩
    have hWx : Ext wr W := by rw [← hW]; exact ext_a1 wr _
    have hbx : Blk W wr.heap.size 60 #[.string ⟨f.nm.toArray⟩, .string ⟨f.da.toArray⟩, .int .i64 (f.sy : Int)] := by rw [← hW]; exact Blk.new wr _ _
    have HPw := Lib.hid (hp.grow hWx)
    have HLt : Hid (∀ i, F i → i < wr.heap.size) := Lib.hid hp.d.lt
    have HBx := Lib.hid hbx
    have HWx := Lib.hid hWx
    have HKl : Hid (∀ i, K i → i < wr.heap.size) := Lib.hid fun i hi => (hp.k i hi).1
    have hnl : f.nm.length ≤ 9223372036854775807 := by
      obtain ⟨_, m, kv, L, hi, _⟩ := hp.d
      have hfm : f ∈ τ.L := (findN_some hfd).1
      rw [← hi.files] at hfm
      obtain ⟨e, he, rfl⟩ := List.mem_map.1 hfm
      exact hi.fs.nm_le he
    have HSz : Hid (sizeM τ f.nm = ((f.da.length : Int), 0)) := Lib.hid (by unfold sizeM; rw [if_neg (by rw [hτd]; decide), hfd])
    have HRd : Hid (readM τ f.nm 0 (f.da.length : Int) = (f.da, 0, tellM τ)) := Lib.hid (by
      unfold readM; rw [if_neg (by rw [hτd]; decide), hfd]; simp only; rw [if_pos (by omega)]; simp)
    have HOk : Hid (okR (rm (tellM τ) fl)) := Lib.hid (okR_rm hp.d.1.tell hr0 hr1)
    have hrG : r < wr.heap.size := by
      obtain ⟨_, v, kv, _, hin, hlt⟩ := hp.r
      exact hlt r (hin r (.inl rfl))
    have hne1 : r ≠ wr.heap.size := Nat.ne_of_lt hrG
    have hne2 : wr.heap.size ≠ r := Ne.symm hne1
    have hb0 := Blk.new wr 60 #[.string ⟨f.nm.toArray⟩, .string ⟨f.da.toArray⟩, .int .i64 (f.sy : Int)]
    have x0 := hb0.cell 0; have x1 := hb0.cell 1; have x2 := hb0.cell 2
    have HWe := Lib.hid hW
    clear hp hkp hτ hτ2 hτL hτd q q0 q1 q2 hf hfd hW hWx hbx hb0 hnr hrG
    go_wp2_with fail
    rw [HWe.out]
    clear x0 x1 x2
    refine (size_c HPw.out.d f.nm hnl).mono ?_
    rw [HSz.out]
    rintro e w' ⟨rfl, rfl⟩
    have x0 := HBx.out.cell 0; have x1 := HBx.out.cell 1
    go_wp2_with fail
    refine (read_c HPw.out.d f.nm 0 (f.da.length : Int) hnl (by decide) (by decide) (by omega) (by omega)).mono ?_
    rw [HRd.out]
    rintro e wa ⟨rfl, h1⟩
    have hrk := HPw.out.rk h1
    have c2 : wa.cell? ⟨r, 2, none⟩ = some (.int .i64 τ.reads) := by obtain ⟨_, v, kv, hi, _⟩ := hrk; exact hi.head.cell 2
    have z2 : wa.frozen? ⟨r, 2, none⟩ = false := by obtain ⟨_, v, kv, hi, _⟩ := hrk; exact hi.head.free 2
    have hst := hrk.putHead (ρ' := rm (tellM τ) fl) 2 (.int .i64 (wrap64 (τ.reads + 1))) (fun _ _ => rfl) rfl rfl HOk.out
    have hby := h1.off.blk HBx.out (fun hf => Nat.lt_irrefl _ (HLt.out _ hf))
    have y0 := hby.cell 0; have y1 := hby.cell 1
    have HFin := Lib.hid (HPw.out.step h1 hst)
    clear h1 hrk hst hby x0 x1 q0' q1' q2' d1
    go_wp2_with fail
    go_roundw
    case rel => exact ⟨k + 1, by omega, by go_num, by rw [HT2.out]; exact HFin.out.1, fun i hi => ((HFin.out.2 i hi).trans (HWx.out.block i (HKl.out i hi))).trans (HKp.out i hi)⟩
    case measure => simp [intOf]; omega
  · have hkn : k = n := by omega
    have HFin : Hid (PD w0 wr g r (toldN σ n) fl K) := Lib.hid (by rw [← hkn, hτ]; exact ⟨F, G, hp⟩)
    clear hp hkp hτ hτ2 hτL hτd hkn
    go_wp2_with fail
    go_ret
    exact ⟨rfl, HFin.out, HKp.out⟩

end Go.Proofs.Ytmpiepkkikmpmaa
namespace Go.Proofs.Ytmpiepkkikmpmaa
open Go.RowKit

theorem PDF.kmono {w0 w : World} {g r : Nat} {F G K K' : Nat → Prop} {σ : DM} {fl : Int} (h : PDF w0 w g r F G σ fl K) (hk : ∀ i, K' i → i < w.heap.size ∧ ¬ F i ∧ ¬ G i) : PDF w0 w g r F G σ fl K' := ⟨h.d, h.r, h.ap, h.bF, h.bG, h.ext, hk⟩
/-- a block beside both turned -/
theorem PDF.aside {w0 w w1 : World} {g r : Nat} {F G K : Nat → Prop} {σ : DM} {fl : Int} (h : PDF w0 w g r F G σ fl K) (hx : Ext w0 w1) (hs : w.heap.size ≤ w1.heap.size) (hk : ∀ i, i < w.heap.size → ¬ K i → w1.heap[i]? = w.heap[i]?) : PDF w0 w1 g r F G σ fl K :=
  ⟨h.d.stay hs fun i hi => hk i (h.d.lt i hi) fun hK => (h.k i hK).2.1 hi, h.r.same hs fun i hi => hk i (h.r.lt i hi) fun hK => (h.k i hK).2.2 hi, h.ap, h.bF, h.bG, hx, fun i hi => ⟨Nat.lt_of_lt_of_le (h.k i hi).1 hs, (h.k i hi).2⟩⟩
theorem smallA {A : List ActM} {m : Nat} (h : greatA A m = false) : A.length ≤ m ∧ ∀ a ∈ A, a.nm.length ≤ 100 ∧ a.tt.length ≤ 100 ∧ a.tx.length ≤ 3000 ∧ a.kn ≤ 100 := by
  unfold greatA at h
  rw [Bool.or_eq_false_iff] at h
  refine ⟨by have := of_decide_eq_false h.1; omega, fun a ha => ?_⟩
  have h2 := h.2
  rw [List.any_eq_false] at h2
  have h3 := h2 a ha
  unfold bigA at h3
  simp only [Bool.or_eq_true, decide_eq_true_eq] at h3
  omega

set_option maxRecDepth 100000
set_option linter.unusedVariables false
set_option maxHeartbeats 12800000

theorem playslaw_c (c : Int) {ao : Option Addr} {n cap : Nat} {A : List ActM} (w : World) (hA : Acts w ao n cap A) :
    Calls Try.prog 3 #[.int .i64 c, .slice ao n cap] w fun e w' => e = .returned (.bool true) ∧ Ext w w' := by
  have HA := Lib.hid hA
  have hn1 : n ≤ 9223372036854775807 := Nat.le_trans hA.fits hA.bound
  have HAl := Lib.hid hA.len
  have HG := Lib.hid (greatA_c hA 100 (by decide))
  clear hA
  cases hg : greatA A 100 with
  | true =>
    rw [hg] at HG
    clear hg
    go_enter Try.func3, Try.ntmps3
    go_wp2_with fail
    refine HG.out.mono ?_
    rintro e w' ⟨rfl, rfl⟩
    go_wp2_with fail
    refine (sinks_c _).mono ?_
    rintro e w' ⟨rfl, hx⟩
    have HX := Lib.hid hx
    clear hx
    go_wp2_with fail
    go_ret
    exact ⟨rfl, HX.out⟩
  | false =>
    rw [hg] at HG
    have HSm := Lib.hid (smallA hg).2
    have hn100 : n ≤ 100 := by have := (smallA hg).1; rw [HAl.out] at this; exact this
    clear hg
    by_cases hc : c < 0 ∨ 1048576 < c
    · go_enter Try.func3, Try.ntmps3
      go_wp2_with fail
      refine HG.out.mono ?_
      rintro e w' ⟨rfl, rfl⟩
      go_wp2_with fail
      refine (new_bad w c hc).mono ?_
      rintro e w' ⟨rfl, rfl⟩
      go_wp2_with fail
      refine (rnew_bad w c hc).mono ?_
      rintro e w' ⟨rfl, rfl⟩
      clear hc
      go_wp2_with fail
      refine (sinks_c _).mono ?_
      rintro e w' ⟨rfl, hx⟩
      have HX := Lib.hid hx
      clear hx
      go_wp2_with fail
      go_ret
      exact ⟨rfl, HX.out⟩
    have hc0 : 0 ≤ c := by omega
    have hc1 : c ≤ 1048576 := by omega
    clear hc
    go_enter Try.func3, Try.ntmps3
    go_wp2_with fail
    refine HG.out.mono ?_
    rintro e w' ⟨rfl, rfl⟩
    go_wp2_with fail
    refine (new_c w c hc0 hc1).mono ?_
    rintro e w1 ⟨g, F, rfl, hd, hF, hx⟩
    have HD := Lib.hid hd; have HF := Lib.hid hF; have HX1 := Lib.hid hx
    clear hd hF hx
    go_wp2_with fail
    refine (rnew_c w1 c hc0 hc1).mono ?_
    rintro e w2 ⟨r, G, rfl, hr, hG, hx⟩
    have HP : Hid (PD w w2 g r (newM c) 0 fun _ => False) := Lib.hid ⟨F, G, ⟨HD.out.ext hx, hr, fun i hi hg => by have := HD.out.lt i hi; have := hG i hg; omega, HF.out, fun i hi => Nat.le_trans HX1.out.size (hG i hi), HX1.out.trans hx, fun i hi => hi.elim⟩⟩
    clear hr hG hx
    go_wp2_with fail
    go_loopw [9] (fun i wr => ∃ (k : Nat) (σ : DM) (fl : Int), k ≤ n ∧ i = .int .i64 k ∧ PD w wr g r σ fl (fun _ => False) ∧ FlOk (n - k + 1) σ fl) (fun i _ => n - (intOf i).toNat)
    case atStart => exact ⟨0, newM c, 0, Nat.zero_le _, rfl, HP.out, .inl ⟨rfl, rfl⟩⟩
    case round =>
    obtain ⟨k, σ, fl, hk, rfl, hpd, hfl⟩ := hrel
    have HPd := Lib.hid hpd; have HFl := Lib.hid hfl
    clear hpd hfl
    by_cases hlt : k < n
    · have hkA : k < A.length := by rw [HAl.out]; exact hlt
      obtain ⟨b, off, rfl, hcl⟩ := HA.out.cell k hkA
      have hok := HA.out.ok _ (List.getElem_mem hkA)
      have hsm := HSm.out _ (List.getElem_mem hkA)
      obtain ⟨F', G', hp⟩ := HPd.out
      have HP2 := Lib.hid hp
      obtain ⟨x, hx⟩ : ∃ x, A[k] = x := ⟨_, rfl⟩
      rw [hx] at hok hsm
      rw [hx] at hcl
      obtain ⟨kd, nm, tt, tx, at_, m, ka, kn, kc, ks⟩ := x
      have HOk := Lib.hid hok
      simp only at hsm
      have s0 := hsm.1; have s2 := hsm.2.2.1; have s3 := hsm.2.2.2
      have c0 : wr.cell? ⟨b, off + k * 7, none⟩ = some (.int .u8 kd) := cell_ext hp.ext (hcl 0 _ rfl)
      have c1 : wr.cell? ⟨b, off + k * 7 + 1, none⟩ = some (.string ⟨nm.toArray⟩) := by rw [Nat.add_assoc]; exact cell_ext hp.ext (hcl 1 _ rfl)
      have c2 : wr.cell? ⟨b, off + k * 7 + 2, none⟩ = some (.string ⟨tt.toArray⟩) := by rw [Nat.add_assoc]; exact cell_ext hp.ext (hcl 2 _ rfl)
      have c3 : wr.cell? ⟨b, off + k * 7 + 3, none⟩ = some (.string ⟨tx.toArray⟩) := by rw [Nat.add_assoc]; exact cell_ext hp.ext (hcl 3 _ rfl)
      have c4 : wr.cell? ⟨b, off + k * 7 + 4, none⟩ = some (.int .i64 at_) := by rw [Nat.add_assoc]; exact cell_ext hp.ext (hcl 4 _ rfl)
      have c5 : wr.cell? ⟨b, off + k * 7 + 5, none⟩ = some (.int .i64 m) := by rw [Nat.add_assoc]; exact cell_ext hp.ext (hcl 5 _ rfl)
      have c6 : wr.cell? ⟨b, off + k * 7 + 6, none⟩ = some (.slice ka kn kc) := by rw [Nat.add_assoc]; exact cell_ext hp.ext (hcl 6 _ rfl)
      have HC6 : Hid (∀ W, Ext w W → W.cell? ⟨b, off + k * 7 + 6, none⟩ = some (.slice ka kn kc)) := Lib.hid fun W hW => by rw [Nat.add_assoc]; exact cell_ext hW (hcl 6 _ rfl)
      have HKs : Hid (∀ W, Ext w W → Ints W ka kn kc ks) := Lib.hid fun W hW => hok.ks.ext hW
      have HK0 := Lib.hid (hok.ks.ext hp.ext)
      have HLen : Hid (ks.length = kn) := Lib.hid hok.ks.len
      have f1 : kn ≤ kc := hok.ks.fits
      have f2 : kc ≤ 9223372036854775807 := hok.ks.bound
      have HX0 := Lib.hid hp.ext
      clear hcl hok hsm hx hp
      go_wp2_with (at_builtin; refine wpList_append_any rfl _ _ 32 rfl wr.heap.size 3 _ 1 8 Try.underlying32 rinfo_i rfl (by decide) _ _ _ rfl (Own.nil _ _ _ _) _ _ _ (ks.map (Value.int .i64)) rfl (by rw [List.length_map, HLen.out]; omega) HK0.out.nil HK0.out.rd (rints_one _) (by omega) (by omega) (Nat.le_refl _) ?_; intro v' w3 hown' hg hfr; obtain ⟨a', c', rfl⟩ := hown'.slice; have hE : Ext wr w3 := (Ext.refl wr : Below wr.heap.size wr wr).grown hg (Nat.le_refl _) (fun q hq => by cases hq); have e0 := cell_ext hE c0; have e1 := cell_ext hE c1; have e2 := cell_ext hE c2; have e3 := cell_ext hE c3; have e4 := cell_ext hE c4; have e5 := cell_ext hE c5; have e6 := cell_ext hE c6; have HEx := Lib.hid hE; have HOw := Lib.hid hown'; clear hown' hg hfr hE)
      have hown := HOw.out
      simp only [Nat.zero_add, List.nil_append] at hown
      have hki : Ints w3 a' kn c' ks := by
        obtain ⟨a2, c2', e2', hki⟩ := own_ints hown
        cases e2'; exact hki
      obtain ⟨W, hW⟩ : ∃ W, w3.alloc (.cells #[.int .u8 kd, .string ⟨nm.toArray⟩, .string ⟨tt.toArray⟩, .string ⟨tx.toArray⟩, .int .i64 at_, .int .i64 m, .slice a' kn c'] 34) = W := ⟨_, rfl⟩
      have hWx : Ext w3 W := by rw [← hW]; exact ext_a1 w3 _
      have hpW : PDF w W g r F' G' σ fl (fun i => (Value.slice a' kn c').ownBlock = some i) := ((HP2.out.grow (HEx.out.trans hWx)).kmono (K' := fun i => (Value.slice a' kn c').ownBlock = some i) fun i hi => by
        have h1 := hown.lt i hi
        have h2 := hWx.size
        exact ⟨by omega, fun hf => by have := HP2.out.d.lt i hf; omega, fun hf => by have := HP2.out.r.lt i hf; omega⟩)
      have hokW : okAct W ⟨kd, nm, tt, tx, at_, m, a', kn, c', ks⟩ := ⟨HOk.out.kd0, HOk.out.kd1, HOk.out.nm, HOk.out.tt, HOk.out.tx, HOk.out.at0, HOk.out.at1, HOk.out.n0, HOk.out.n1, hki.ext hWx⟩
      have HDo := Lib.hid (do_c ⟨F', G', hpW⟩ (B := n - k) HFl.out (by omega) ⟨kd, nm, tt, tx, at_, m, a', kn, c', ks⟩ hokW s0 (by show (tx.length : Int) ≤ 3000; omega) s3 (fun a ha => by show (Value.slice a' kn c').ownBlock = some a.block; have ha' : a' = some a := ha; rw [ha']; rfl))
      have HOW := Lib.hid (hown.ext hWx)
      rw [hW]
      clear hown hki hW hWx hpW hokW e0 e1 e2 e3 e4 e5 e6 c0 c1 c2 c3 c4 c5 c6 HOw
      refine HDo.out.mono ?_
      rintro e w4 ⟨rfl, σ4, fl', ⟨F4, G4, hq4⟩, hf4, hk4⟩
      have HQ4 := Lib.hid hq4; have HF4 := Lib.hid hf4
      have HO4 := Lib.hid (HOW.out.same fun i hi => hk4 i hi)
      clear hq4 hf4 hk4 HDo
      go_wp2_with fail
      refine (same6_c HQ4.out).mono ?_
      rintro e w5 ⟨rfl, hx⟩
      have HQ5 := Lib.hid (HQ4.out.grow hx)
      have HO5 := Lib.hid (HO4.out.ext hx)
      have d3 : w5.cell? ⟨r, 3, none⟩ = some (.bool σ4.down) := HQ5.out.r.down
      clear hx
      have hKi : ∀ (W : World), Own W wr.heap.size 3 1 (.slice a' kn c') kn (ks.map (Value.int .i64)) → Ints W a' kn c' ks := fun W h => by
        obtain ⟨a2, c2', e2', hki⟩ := own_ints h
        cases e2'; exact hki
      have HKi0 := Lib.hid hKi
      clear hKi
      cases hdn : σ4.down with
      | true =>
        rw [hdn] at d3
        clear hdn
        have d6 := HC6.out _ HQ5.out.ext
        have HQ := HQ5; have HO := HO5; have HF6 := HF4
        have HKi := Lib.hid (HKi0.out _ HO5.out)
        go_wp2_with fail
        refine (eqInts_c HKi.out (HKs.out _ HQ.out.ext)).mono ?_
        rw [decide_eq_true rfl]
        rintro e w8 ⟨rfl, hx⟩
        have HQ8 := Lib.hid (HQ.out.grow hx)
        have HO8 := Lib.hid (HO.out.ext hx)
        have HBw : Hid (w.heap.size ≤ wr.heap.size) := Lib.hid HX0.out.size
        obtain ⟨B0, hB0⟩ : ∃ B0 : Nat, wr.heap.size = B0 := ⟨_, rfl⟩
        rw [hB0] at HO8 HBw
        clear hx d6 hB0
        go_wp2_with fail
        go_loopw [12] (fun i wq => ∃ j : Nat, j ≤ kn ∧ i = .int .i64 j ∧ PDF w wq g r F4 G4 σ4 fl' (fun i => (Value.slice a' kn c').ownBlock = some i) ∧ ∃ cs, Own wq B0 3 1 (.slice a' kn c') kn cs) (fun i _ => kn - (intOf i).toNat)
        case atStart => exact ⟨0, Nat.zero_le _, rfl, HQ8.out, _, HO8.out⟩
        case round =>
        obtain ⟨j, hj, rfl, hq, cs, ho⟩ := hrel
        by_cases hjl : j < kn
        · obtain ⟨q1, q2, u, hv, hcc, hfz, hge⟩ := ho.cellE hjl
          cases hv
          have HNq : Hid (PDF w (wr.setCell ⟨q1, j, none⟩ (.int .i64 99)) g r F4 G4 σ4 fl' (fun i => (Value.slice (some ⟨q1, 0, none⟩) kn c').ownBlock = some i)) := Lib.hid (hq.aside (Below.setCell hq.ext (p := ⟨q1, j, none⟩) (Nat.le_trans HBw.out (ho.lt q1 rfl).1) _) (by simp [World.setCell]) fun i _ hn => heap_set_ne _ _ fun e => hn (by rw [e]; rfl))
          have HNo := Lib.hid (ho.stored rfl (j := j) (.int .i64 99))
          clear hq ho
          go_wp2_with fail
          go_roundw
          case rel => exact ⟨j + 1, by omega, by go_num, HNq.out, _, HNo.out⟩
          case measure => simp [intOf]; omega
        · have HQe := Lib.hid hq
          clear hq ho
          go_wp2_with fail
          go_roundw
          case rel => exact ⟨k + 1, σ4, fl', by omega, by go_num, ⟨F4, G4, HQe.out.kmono fun i hi => hi.elim⟩, by have h := HF6.out; rwa [show n - k = n - (k + 1) + 1 by omega] at h⟩
          case measure => simp [intOf]; omega
      | false =>
        rw [hdn] at d3
        have HRg := Lib.hid HF4.out.rng
        have HBy := Lib.hid (bytes6_c ⟨F4, G4, HQ5.out⟩ hdn HRg.out.1 HRg.out.2)
        clear hdn
        go_wp2_with fail
        refine HBy.out.mono ?_
        rintro e w6 ⟨rfl, ⟨F6, G6, hq6⟩, hk6⟩
        obtain ⟨σ6, hσ6⟩ : ∃ τ, toldN σ4 σ4.L.length = τ := ⟨_, rfl⟩
        have HF6 : Hid (FlOk (n - k) σ6 fl') := Lib.hid (by rw [← hσ6]; exact HF4.out.like (toldN_fail σ4 _).1 (toldN_fail σ4 _).2)
        rw [hσ6] at hq6
        have HQ := Lib.hid hq6
        have HO := Lib.hid (HO5.out.same fun i hi => hk6 i hi)
        have HKi := Lib.hid (HKi0.out _ HO.out)
        have d6 := HC6.out _ HQ.out.ext
        clear hq6 hk6 hσ6 d3 HBy
        go_wp2_with fail
        refine (eqInts_c HKi.out (HKs.out _ HQ.out.ext)).mono ?_
        rw [decide_eq_true rfl]
        rintro e w8 ⟨rfl, hx⟩
        have HQ8 := Lib.hid (HQ.out.grow hx)
        have HO8 := Lib.hid (HO.out.ext hx)
        have HBw : Hid (w.heap.size ≤ wr.heap.size) := Lib.hid HX0.out.size
        obtain ⟨B0, hB0⟩ : ∃ B0 : Nat, wr.heap.size = B0 := ⟨_, rfl⟩
        rw [hB0] at HO8 HBw
        clear hx d6 hB0
        go_wp2_with fail
        go_loopw [12] (fun i wq => ∃ j : Nat, j ≤ kn ∧ i = .int .i64 j ∧ PDF w wq g r F6 G6 σ6 fl' (fun i => (Value.slice a' kn c').ownBlock = some i) ∧ ∃ cs, Own wq B0 3 1 (.slice a' kn c') kn cs) (fun i _ => kn - (intOf i).toNat)
        case atStart => exact ⟨0, Nat.zero_le _, rfl, HQ8.out, _, HO8.out⟩
        case round =>
        obtain ⟨j, hj, rfl, hq, cs, ho⟩ := hrel
        by_cases hjl : j < kn
        · obtain ⟨q1, q2, u, hv, hcc, hfz, hge⟩ := ho.cellE hjl
          cases hv
          have HNq : Hid (PDF w (wr.setCell ⟨q1, j, none⟩ (.int .i64 99)) g r F6 G6 σ6 fl' (fun i => (Value.slice (some ⟨q1, 0, none⟩) kn c').ownBlock = some i)) := Lib.hid (hq.aside (Below.setCell hq.ext (p := ⟨q1, j, none⟩) (Nat.le_trans HBw.out (ho.lt q1 rfl).1) _) (by simp [World.setCell]) fun i _ hn => heap_set_ne _ _ fun e => hn (by rw [e]; rfl))
          have HNo := Lib.hid (ho.stored rfl (j := j) (.int .i64 99))
          clear hq ho
          go_wp2_with fail
          go_roundw
          case rel => exact ⟨j + 1, by omega, by go_num, HNq.out, _, HNo.out⟩
          case measure => simp [intOf]; omega
        · have HQe := Lib.hid hq
          clear hq ho
          go_wp2_with fail
          go_roundw
          case rel => exact ⟨k + 1, σ6, fl', by omega, by go_num, ⟨F6, G6, HQe.out.kmono fun i hi => hi.elim⟩, by have h := HF6.out; rwa [show n - k = n - (k + 1) + 1 by omega] at h⟩
          case measure => simp [intOf]; omega
    · obtain ⟨F', G', hp⟩ := HPd.out
      have HP2 := Lib.hid hp
      have c3 : wr.cell? ⟨r, 3, none⟩ = some (.bool σ.down) := hp.r.down
      have hkn : k = n := by omega
      have HFl1 : Hid (FlOk (0 + 1) σ fl) := Lib.hid (by have h := HFl.out; rw [hkn] at h; simpa using h)
      clear hp hkn
      cases hdn : σ.down with
      | false =>
        rw [hdn] at c3
        go_wp2_with fail
        refine (same6_c HP2.out).mono ?_
        rintro e w3 ⟨rfl, hx⟩
        have HX3 := Lib.hid (HP2.out.ext.trans hx)
        clear hx c3 hdn
        go_wp2_with fail
        refine (sinks_c _).mono ?_
        rintro e w' ⟨rfl, hx⟩
        have HX := Lib.hid (HX3.out.trans hx)
        clear hx
        go_wp2_with fail
        go_ret
        exact ⟨rfl, HX.out⟩
      | true =>
        rw [hdn] at c3
        have HM : Hid (startM σ = (0, { σ with down := false, starts := wrap64 (σ.starts + 1) })) := Lib.hid (by unfold startM; rw [if_pos hdn])
        clear hdn
        go_wp2_with fail
        refine (start_c HP2.out.d).mono ?_
        rw [HM.out]
        rintro e w3 ⟨rfl, h1⟩
        have H1 := Lib.hid h1
        clear h1 c3
        go_wp2_with fail
        refine (rstart_c (HP2.out.rk H1.out) HP2.out.d.1 HFl1.out).mono ?_
        rw [HM.out]
        rintro e w4 ⟨rfl, fl1, h2, hf2⟩
        have HS := Lib.hid (HP2.out.step H1.out h2).1
        have HR := Lib.hid hf2.rng
        clear h2 hf2
        go_wp2_with fail
        refine (bytes6_c HS.out rfl HR.out.1 HR.out.2).mono ?_
        rintro e w5 ⟨rfl, hp5, -⟩
        have HP5 := Lib.hid hp5
        clear hp5
        obtain ⟨F5, G5, hp5⟩ := HP5.out
        have HQ5 := Lib.hid hp5
        clear hp5
        go_wp2_with fail
        refine (same6_c HQ5.out).mono ?_
        rintro e w6 ⟨rfl, hx⟩
        have HX6 := Lib.hid (HQ5.out.ext.trans hx)
        clear hx
        go_wp2_with fail
        refine (sinks_c _).mono ?_
        rintro e w' ⟨rfl, hx⟩
        have HX := Lib.hid (HX6.out.trans hx)
        clear hx
        go_wp2_with fail
        go_ret
        exact ⟨rfl, HX.out⟩

end Go.Proofs.Ytmpiepkkikmpmaa
