/- Walks: the document's disk beside the disk: New, Fail, Crash. Walks: the document's disk beside the disk: Spoil. Walks: the document's disk beside the disk: Create, Rename. -/
import Derived.Test.YtmpiepkkikmpmaaG14PDiskPlays
set_option linter.unusedVariables false
set_option linter.unusedSimpArgs false
namespace Go.Proofs.Ytmpiepkkikmpmaa
open Go.RowKit

theorem rinfo_i : (Try.prog.info? 3).map (fun i => (i.zero, i.size, i.bytes)) = some (some (.int .i64 0), 1, 8) := by kernel_rfl
theorem rints_one (xs : List Int) : ∀ u ∈ xs.map (Value.int .i64), u.oneCell' = true := fun u hu => by
  obtain ⟨x, _, rfl⟩ := List.mem_map.1 hu; rfl

set_option maxRecDepth 100000
set_option linter.unusedVariables false
set_option maxHeartbeats 6400000

theorem rnew_bad (w : World) (c : Int) (h : c < 0 ∨ 1048576 < c) : Calls Try.prog 7 #[.int .i64 c] w fun e w' => e = .returned (.tuple #[.pointer none, .int .i64 2]) ∧ w = w' := by
  by_cases h0 : c < 0
  · clear h
    go_enter Try.func7, Try.ntmps7
    go_wp2_with fail
    go_ret2
    exact ⟨rfl, rfl⟩
  · have h1 : 1048576 < c := by omega
    clear h
    go_enter Try.func7, Try.ntmps7
    go_wp2_with fail
    go_ret2
    exact ⟨rfl, rfl⟩

theorem rnew_c (w : World) (c : Int) (h0 : 0 ≤ c) (h1 : c ≤ 1048576) : Calls Try.prog 7 #[.int .i64 c] w fun e w' => ∃ r F, e = .returned (.tuple #[.pointer (some ⟨r, 0, none⟩), .int .i64 0]) ∧ Rk w' r F (rm (newM c) 0) ∧ (∀ i, F i → w.heap.size ≤ i) ∧ Ext w w' := by
  go_enter Try.func7, Try.ntmps7
  go_wp2_with fail
  go_ret2
  refine ⟨w.heap.size, fun i => i = w.heap.size, rfl, ⟨⟨h0, h1, ?_, List.Pairwise.nil, fun f hf => (by cases hf), by show (0 : Nat) ≤ 400; omega, Int.le_refl _, by show (0 : Int) ≤ _; omega, by show (0 : Nat) ≤ _; omega⟩, .slice none 0 0, .slice none 0 0, ⟨Blk.new w _ _, Own.nil _ _ _ _, Own.nil _ _ _ _⟩, ?_, ?_⟩, fun i hi => by rw [hi]; exact Nat.le_refl _, ext_a1 _ _⟩
  · show ((0 : Nat) : Int) ≤ c; omega
  · rintro i (h | h | h)
    · exact h
    · cases h
    · cases h
  · rintro i rfl; simp

theorem rcrashD_c {w : World} {r B : Nat} {F : Nat → Prop} {σ : DM} {fl : Int} (h : Rk w r F (rm σ fl)) (hf : FlOk (B + 1) σ fl) {ka : Option Addr} {kn kc : Nat} {xs : List Int} (hkeep : ∀ W, OffS F w W → Ints W ka kn kc xs) :
    Calls Try.prog 34 #[.pointer (some ⟨r, 0, none⟩), .slice ka kn kc] w fun e w' => e = .returned (.int .i64 (crashD σ xs).1) ∧ RR w r F B (crashD σ xs).2 w' := by
  cases hd : σ.down with
  | true =>
    have HM : crashD σ xs = (61, σ) := by unfold crashD; rw [if_pos hd]
    rw [HM]
    refine (rcrash_down h hd _).mono ?_
    rintro e w' ⟨rfl, rfl⟩
    exact ⟨rfl, RR.same h hf⟩
  | false =>
    have HM : crashD σ xs = (0, crashM σ xs) := by unfold crashD; rw [if_neg (by rw [hd]; decide)]
    rw [HM]
    refine (rcrash_c h hd fun v kv hi hin W hW => hkeep W (hW.mono fun i _ hi => hin i (.inr (.inl hi)))).mono ?_
    rintro e w' ⟨rfl, hs⟩
    exact ⟨rfl, 0, hs, fl_crash B σ xs⟩

theorem rfail_c {w : World} {r B : Nat} {F : Nat → Prop} {σ : DM} {fl : Int} (h : Rk w r F (rm σ fl)) (ho : okD σ) (hf : FlOk (B + 1) σ fl) (hB : (B : Int) ≤ 1000000) (m : Int) (hm : m ≤ 9223372036854775807) {ka : Option Addr} {kn kc : Nat} {xs : List Int} (hk : Ints w ka kn kc xs) (hkn : kn ≤ 1000000) (hkF : ∀ a, ka = some a → ¬ F a.block) :
    Calls Try.prog 35 #[.pointer (some ⟨r, 0, none⟩), .int .i64 m, .slice ka kn kc] w fun e w' => e = .returned (.int .i64 (failD σ m xs).1) ∧ RR w r F B (failD σ m xs).2 w' := by
  have H := Lib.hid h; have HO := Lib.hid ho; have HF := Lib.hid hf
  have d3 : w.cell? ⟨r, 3, none⟩ = some (.bool σ.down) := h.down
  have b1 := hk.fits; have b2 := hk.bound
  cases hd : σ.down with
  | true =>
    rw [hd] at d3
    have HM : Hid (failD σ m xs = (61, σ)) := Lib.hid (by unfold failD; rw [if_pos hd])
    rw [HM.out]
    clear hd h ho hf hk hkF
    go_enter Try.func35, Try.ntmps35
    go_wp2_with fail
    go_ret
    exact ⟨rfl, RR.same H.out HF.out⟩
  | false =>
    rw [hd] at d3
    by_cases hm0 : m < 0
    · have HM : Hid (failD σ m xs = (2, σ)) := Lib.hid (by unfold failD; rw [if_neg (by rw [hd]; decide), if_pos hm0])
      rw [HM.out]
      clear hd h ho hf hk hkF
      go_enter Try.func35, Try.ntmps35
      go_wp2_with fail
      go_ret
      exact ⟨rfl, RR.same H.out HF.out⟩
    have HM : Hid (failD σ m xs = (0, { σ with fail := true, left := m, keep := xs })) := Lib.hid (by unfold failD; rw [if_neg (by rw [hd]; decide), if_neg hm0])
    rw [HM.out]
    have HLen := Lib.hid hk.len
    have HOk2 : Hid (okD { σ with fail := true, left := m, keep := xs }) := Lib.hid (ho.failing (by omega) hm (by rw [hk.len]; exact hkn))
    obtain ⟨_, v, kv, hi, hin, hF⟩ := h
    have HI := Lib.hid hi; have HIn := Lib.hid hin; have HLt := Lib.hid hF
    have hrF := hin r (.inl rfl)
    have d5 : w.cell? ⟨r, 5, none⟩ = some (.int .i64 fl) := hi.head.cell 5
    have d6 : w.cell? ⟨r, 6, none⟩ = some kv := hi.head.cell 6
    have z5 := hi.head.free 5; have z6 := hi.head.free 6
    obtain ⟨X, hX⟩ : ∃ X : Int, min m 1099511627776 = X := ⟨_, rfl⟩
    have hx0 : 0 ≤ X := by omega
    have hx1 : X ≤ 1099511627776 := by omega
    have HFl : Hid (FlOk B { σ with fail := true, left := m, keep := xs } (X + 1)) := Lib.hid (.inr ⟨rfl, by omega, by omega, by
      show X + 1 = m + 1 ∨ ((B : Int) < X + 1 ∧ (B : Int) ≤ m)
      by_cases hq : m ≤ 1099511627776
      · left; omega
      · right; omega⟩)
    have hw1 : IntKind.i64.wrap (X + 1) = X + 1 := IntWalk.i64_in _ (by omega)
    have HOff : Hid (OffS F w (w.setCell ⟨r, 5, none⟩ (.int .i64 (X + 1)))) := Lib.hid (OffS.set w hrF 5 _)
    have HK1 : Hid (Ints (w.setCell ⟨r, 5, none⟩ (.int .i64 (X + 1))) ka kn kc xs) := Lib.hid (hk.off (F := F) hkF _ HOff.out)
    have HI1 : Hid (RkI (w.setCell ⟨r, 5, none⟩ (.int .i64 (X + 1))) r v kv (rm { σ with fail := true, left := m } (X + 1))) := Lib.hid (hi.put 5 (.int .i64 (X + 1)) (ρ' := rm { σ with fail := true, left := m } (X + 1)) rfl rfl rfl)
    clear hd ho hf hk hkF hi hin hF
    go_enter Try.func35, Try.ntmps35
    go_wp2_with (at_builtin; refine wpList_append_any rfl _ _ 32 rfl w.heap.size 3 _ 1 8 Try.underlying32 rinfo_i rfl (by decide) _ _ _ rfl (Own.nil _ _ _ _) _ _ _ (xs.map (Value.int .i64)) rfl (by rw [List.length_map, HLen.out]; omega) HK1.out.nil HK1.out.rd (rints_one _) (by omega) (by omega) (by simp [World.setCell]) ?_; intro v' w6 hown' hg hfr; obtain ⟨a', c', rfl⟩ := hown'.slice; have e6 : w6.cell? ⟨r, 6, none⟩ = some kv := (HI1.out.same fun i hi => hg.block i (by have := HLt.out i (HIn.out i hi); simpa [World.setCell] using this) (by intro e; cases e)).head.cell 6; have f6 : w6.frozen? ⟨r, 6, none⟩ = false := (HI1.out.same fun i hi => hg.block i (by have := HLt.out i (HIn.out i hi); simpa [World.setCell] using this) (by intro e; cases e)).head.free 6)
    have HOw := Lib.hid hown'; have HGr := Lib.hid hg
    clear hown' hg hfr hX
    go_wp2_with fail
    go_ret
    have hg := HGr.out
    have hO := HOff.out
    have hown := HOw.out
    simp only [Nat.zero_add, List.nil_append] at hown
    have hI := HI1.out.same (w' := w6) fun i hi => hg.block i (by have := HLt.out i (HIn.out i hi); simpa [World.setCell] using this) (by intro e; cases e)
    have hne : (Value.slice a' (0 + kn) c').ownBlock ≠ some r := fun e => by
      have h1 := (HOw.out.lt r e).1
      have h2 := HLt.out r (HIn.out r (.inl rfl))
      omega
    have hne2 : (Value.slice a' kn c').ownBlock ≠ some r := fun e => by
      have h1 := (hown.lt r e).1
      have h2 := HLt.out r (HIn.out r (.inl rfl))
      omega
    have hoff : OffS F w (w6.setCell ⟨r, 6, none⟩ (.slice a' kn c')) := (hO.trans (OffS.grown hg fun i e => by cases e)).trans (OffS.set w6 (HIn.out r (.inl rfl)) 6 _)
    have hkeep : Own (w6.setCell ⟨r, 6, none⟩ (.slice a' kn c')) 0 3 1 (.slice a' kn c') xs.length (xs.map (Value.int .i64)) := by
      rw [HLen.out]
      exact (hown.base (Nat.zero_le _)).setOther _ hne2
    refine ⟨rfl, X + 1, ?_, HFl.out⟩
    refine RkS.mk' (okR_rm HOk2.out (by omega) (by omega)) (v' := v) (kv' := .slice a' kn c') ⟨hI.head.set 6 _, hI.row.setOther _ (hI.own_r hI.row (by decide)), hkeep⟩ ?_ HLt.out hoff
    rintro i (h | h | h)
    · exact .inl (HIn.out i (.inl h))
    · exact .inl (HIn.out i (.inr (.inl h)))
    · have h1 := hkeep.lt i h
      have h2 := hown.lt i h
      exact .inr ⟨h2.1, h1.2⟩

end Go.Proofs.Ytmpiepkkikmpmaa
namespace Go.Proofs.Ytmpiepkkikmpmaa
open Go.RowKit

theorem over_at (l t : List UInt8) (a i : Nat) : (overB l t a)[i]? = if a ≤ i ∧ i < a + t.length ∧ i < l.length then t[i - a]? else l[i]? := by
  unfold overB
  rw [List.append_assoc, List.getElem?_append]
  by_cases h1 : i < (l.take a).length
  · rw [if_pos h1, List.getElem?_take]
    rw [List.length_take] at h1
    rw [if_pos (by omega), if_neg (by omega)]
  · rw [if_neg h1, List.getElem?_append]
    rw [List.length_take] at h1
    by_cases h2 : i - (l.take a).length < (t.take (l.length - a)).length
    · rw [if_pos h2]
      rw [List.length_take, List.length_take] at h2
      rw [List.getElem?_take, List.length_take, if_pos (by omega), if_pos (by omega), show i - min a l.length = i - a by omega]
    · rw [if_neg h2]
      rw [List.length_take, List.length_take] at h2
      rw [List.getElem?_drop, List.length_take, List.length_take]
      by_cases h3 : i < l.length
      · rw [if_neg (by omega), show a + t.length + (i - min a l.length - min (l.length - a) t.length) = i by omega]
      · rw [if_neg (by omega), List.getElem?_eq_none (by omega), List.getElem?_eq_none (by omega)]
theorem over_len (l t : List UInt8) (a : Nat) : (overB l t a).length = l.length := by
  unfold overB; simp only [List.length_append, List.length_take, List.length_drop]; omega
theorem over_nil (l : List UInt8) (a : Nat) : overB l [] a = l := List.ext_getElem? fun i => by rw [over_at, if_neg (by simp; omega)]
theorem over_step {l s : List UInt8} {a k : Nat} {u : UInt8} (hk : s[k]? = some u) (hl : a + k < l.length) : (overB l (s.take k) a).set (a + k) u = overB l (s.take (k + 1)) a := List.ext_getElem? fun i => by
  have hks : k < s.length := by
    rcases Nat.lt_or_ge k s.length with h | h
    · exact h
    · rw [List.getElem?_eq_none h] at hk; cases hk
  rw [List.getElem?_set, over_at, over_at, over_len, List.length_take, List.length_take]
  by_cases h : a + k = i
  · subst h
    rw [if_pos rfl, if_pos hl, if_pos ⟨by omega, by omega, hl⟩, List.getElem?_take, if_pos (by omega), show a + k - a = k by omega, hk]
  · rw [if_neg h]
    by_cases h2 : a ≤ i ∧ i < a + min k s.length ∧ i < l.length
    · rw [if_pos h2, if_pos (by omega), List.getElem?_take, List.getElem?_take, if_pos (by omega), if_pos (by omega)]
    · rw [if_neg h2, if_neg (by omega)]
theorem over_end {l s : List UInt8} {a k : Nat} (hk : k ≤ s.length) (h : ¬ (k < s.length ∧ a < l.length ∧ k < l.length - a)) : overB l (s.take k) a = overB l s a := List.ext_getElem? fun i => by
  rw [over_at, over_at, List.length_take]
  by_cases h2 : a ≤ i ∧ i < a + min k s.length ∧ i < l.length
  · rw [if_pos h2, if_pos (by omega), List.getElem?_take, if_pos (by omega)]
  · rw [if_neg h2, if_neg (by omega)]

/-- '[]byte(s)' -/
theorem rbytes_of (w : World) (l : List UInt8) : ∃ W cap, (convert 9 64 (.string ⟨l.toArray⟩)).run Try.prog w = .ok (.slice (some ⟨w.heap.size, 0, none⟩) l.length cap) W ∧
    Rd W (some ⟨w.heap.size, 0, none⟩) (l.map byteV) ∧ (∀ j, j < l.length → W.frozen? ⟨w.heap.size, j, none⟩ = false) ∧ Ext w W ∧ w.heap.size < W.heap.size := by
  have h := run_bytes_of_string (P := Try.prog) w 9 64 5 ⟨l.toArray⟩ Try.underlying9 Try.underlying64 Try.underlying5
  obtain ⟨h1, h2, h3⟩ := bytes_world w 5 l (grownCap w (⟨l.toArray⟩ : ByteArray).size 0 5)
  refine ⟨_, _, h, h1, h2, h3, ?_⟩
  show w.heap.size < ((w.alloc _).drew).heap.size
  simp
theorem rrd_set1 {w : World} {g : Nat} {cs : List Value} (h : Rd w (some ⟨g, 0, none⟩) cs) {k : Nat} (hk : k < cs.length) (u : Value) : Rd (w.setCell ⟨g, k, none⟩ u) (some ⟨g, 0, none⟩) (cs.set k u) := by
  intro j x hj
  refine ⟨g, 0, rfl, ?_⟩
  rw [Nat.zero_add]
  rw [List.getElem?_set] at hj
  split at hj
  · rename_i e
    subst e
    cases hj
    obtain ⟨_, _, e2, hc⟩ := h.at hk
    cases e2
    rw [Nat.zero_add] at hc
    exact World.cell?_setCell_same _ _ _ hc
  · rename_i e
    obtain ⟨_, _, e2, hc⟩ := h j x hj
    cases e2
    rw [Nat.zero_add] at hc
    rw [World.cell?_setCell_other (h := addr_ne e)]
    exact hc

theorem rat_of {s : List UInt8} {k : Nat} {u : UInt8} (h : s[k]? = some u) : ∀ h', (⟨s.toArray⟩ : ByteArray)[k]'h' = u := by
  intro h'
  have h2 : k < s.length := by simpa [ByteArray.size] using h'
  rw [List.getElem?_eq_getElem h2] at h
  have : s[k] = u := Option.some.inj h
  rw [← this]
  rfl

set_option maxRecDepth 100000
set_option linter.unusedVariables false
set_option maxHeartbeats 6400000

theorem rspoil_c {w : World} {r B : Nat} {F : Nat → Prop} {σ : DM} {fl : Int} (h : Rk w r F (rm σ fl)) (ho : okD σ) (hf : FlOk (B + 1) σ fl) (nm s : List UInt8) (hsl : (s.length : Int) ≤ 1000000) (m : Int) (hm : m ≤ 9223372036854775807) :
    Calls Try.prog 36 #[.pointer (some ⟨r, 0, none⟩), .string ⟨nm.toArray⟩, .int .i64 m, .string ⟨s.toArray⟩] w fun e w' => e = .returned (.int .i64 (spoilM σ nm m s).1) ∧ RR w r F B (spoilM σ nm m s).2 w' := by
  have H := Lib.hid h; have HO := Lib.hid ho; have HF := Lib.hid hf
  have hus := ho.used; have hc1 := ho.cap1
  clear h ho hf
  go_enter Try.func36, Try.ntmps36
  go_wp2_with fail
  refine (rfind_c H.out nm).mono ?_
  rintro e w' ⟨⟨i, rfl, hpos⟩, rfl⟩
  rcases hpos with ⟨rfl, hno⟩ | ⟨k, hk, rfl, he⟩
  · have HM : Hid (spoilM σ nm m s = (4, σ)) := Lib.hid (by unfold spoilM; rw [findN_of_none (l := σ.L) hno]; rfl)
    clear hno
    go_wp2_with fail
    go_ret
    rw [HM.out]
    exact ⟨rfl, RR.same H.out HF.out⟩
  have hfd : findN FM.nm nm σ.L = some (σ.L[k]'hk) := pos_find (L := σ.L) HO.out.ord hk he
  have HFd := Lib.hid hfd
  by_cases hm0 : m < 0
  · have HM : Hid (spoilM σ nm m s = (2, σ)) := Lib.hid (by unfold spoilM; rw [HFd.out, if_neg (by simp), if_pos hm0])
    clear hfd
    go_wp2_with fail
    go_ret
    rw [HM.out]
    exact ⟨rfl, RR.same H.out HF.out⟩
  obtain ⟨A, rfl⟩ : ∃ A : Nat, m = (A : Int) := ⟨m.toNat, by omega⟩
  have HM : Hid (spoilM σ nm A s = (0, { σ with L := updN FM.nm nm (fun f => { f with da := overB f.da s A }) σ.L })) := Lib.hid (by unfold spoilM; rw [HFd.out, if_neg (by simp), if_neg hm0]; rfl)
  obtain ⟨g, cap, q, -, q1, q2, hz, hc2, hc3⟩ := H.out.at (k := k) hk
  obtain ⟨f, hfe⟩ : ∃ f, σ.L[k]'hk = f := ⟨_, rfl⟩
  have HHe : Hid ((σ.L[k]'hk).nm = nm) := Lib.hid he
  have HFe : Hid ((σ.L[k]'hk) = f) := Lib.hid hfe
  have q1' : w.cell? ⟨g, k * 3 + 1, none⟩ = some (.string ⟨f.da.toArray⟩) := by rw [← hfe]; exact q1
  have HHk : Hid (k < σ.L.length) := Lib.hid hk
  have hk2 : k < (rm σ fl).L.length := hk
  obtain ⟨n, hn⟩ : ∃ n, (rm σ fl).L.length = n := ⟨_, rfl⟩
  have hbd : f.da.length ≤ 1048576 := by
    have h1 : f.da.length ≤ usedM σ.L := by rw [← hfe]; exact usedM_mem (List.getElem_mem hk)
    omega
  obtain ⟨da, hda⟩ : ∃ da, f.da = da := ⟨_, rfl⟩
  rw [hda] at q1' hbd
  have HDa := Lib.hid hda
  have HCs : Hid (∀ W, Ext w W → W.cell? ⟨r, 1, none⟩ = some (.slice (some ⟨g, 0, none⟩) n cap) ∧ W.cell? ⟨g, k * 3 + 1, none⟩ = some (.string ⟨da.toArray⟩)) := Lib.hid fun W hW => ⟨by rw [← hn]; exact cell_ext hW q, cell_ext hW q1'⟩
  rw [hn] at q hc2 hk2
  obtain ⟨dl, hdl⟩ : ∃ dl, da.length = dl := ⟨_, rfl⟩
  obtain ⟨W, cp, hrun, hrd, hfz, hex, hlt⟩ := rbytes_of w da
  rw [hdl] at hrun hfz hbd
  have HDl := Lib.hid hdl
  have HRd := Lib.hid hrd; have HFz := Lib.hid hfz; have HEx := Lib.hid hex
  have HN := Lib.hid hn
  clear hfd hfe he q1 q2 hz hda hrd hfz hex hm0 hn hdl
  have hdi : (dl : Int) ≤ 1048576 := by omega
  obtain ⟨DA, hDA⟩ : ∃ DA, overB da s A = DA := ⟨_, rfl⟩
  have HEnd : Hid (∀ W', Ext w W' → RkS w r F (rm { σ with L := updN FM.nm nm (fun f => { f with da := overB f.da s A }) σ.L } fl) (W'.setCell ⟨g, k * 3 + 1, none⟩ (.string ⟨DA.toArray⟩)) ∧ W'.frozen? ⟨g, k * 3 + 1, none⟩ = false) := Lib.hid fun W' hW => by
    have hS0 := (RkS.refl H.out).ext hW
    have hu := pos_upd (L := σ.L) HO.out.ord HHk.out HHe.out (fun f => { f with da := overB f.da s A })
    have hfe2 : σ.L[k]'HHk.out = f := HFe.out
    rw [hfe2] at hu
    have hok := okR_rm (fl := fl) (HO.out.spoil (s := s) (k := A) HFd.out).1 (HF.out.rng).1 (HF.out.rng).2
    rw [hu] at hok ⊢
    have q3 := (HCs.out W' hW).1
    obtain ⟨g', cap', q4, -, -, -, hz, -, -⟩ := hS0.rk.at (k := k) HHk.out
    have e4 : g' = g := by rw [q3] at q4; cases q4; rfl
    refine ⟨hS0.trans (hS0.rk.store q3 (k := k) HHk.out 1 (by omega) (.string ⟨DA.toArray⟩) { f with da := overB f.da s A } (show (c3 (σ.L[k]'HHk.out)).set 1 (.string ⟨DA.toArray⟩) = c3 { f with da := overB f.da s A } by rw [hfe2, ← hDA, ← HDa.out]; rfl) hok), ?_⟩
    rw [← e4]; exact hz _
  have HDA := Lib.hid hDA
  clear hDA
  go_wp2_with fail
  clear hrun
  go_loopw [11] (fun i wr => ∃ j : Nat, j ≤ s.length ∧ i = .int .i64 j ∧ Rd wr (some ⟨w.heap.size, 0, none⟩) ((overB da (s.take j) A).map byteV) ∧ (∀ x, x < dl → wr.frozen? ⟨w.heap.size, x, none⟩ = false) ∧ Ext w wr) (fun i _ => s.length - (intOf i).toNat)
  case atStart => exact ⟨0, Nat.zero_le _, rfl, by rw [List.take_zero, over_nil]; exact HRd.out, HFz.out, HEx.out⟩
  case round =>
  obtain ⟨j, hj, rfl, hrd, hfz, hx⟩ := hrel
  have HR := Lib.hid hrd; have HZ := Lib.hid hfz; have HX := Lib.hid hx
  by_cases hcnd : j < s.length ∧ A < dl ∧ j < dl - A
  · obtain ⟨p1, p2, p3⟩ := hcnd
    obtain ⟨u, hu⟩ : ∃ u, s[j]? = some u := ⟨_, List.getElem?_eq_getElem p1⟩
    obtain ⟨P, hP⟩ : ∃ P : Nat, P = A + j := ⟨_, rfl⟩
    have hPl : P < (overB da (s.take j) A).length := by rw [over_len, HDl.out]; omega
    have hPd : P < dl := by omega
    have hzP := hfz P hPd
    obtain ⟨b0, hb0⟩ : ∃ b0, (overB da (s.take j) A)[P]? = some b0 := ⟨_, List.getElem?_eq_getElem hPl⟩
    have hcell : wr.cell? ⟨w.heap.size, P, none⟩ = some (.int .u8 (b0.toNat : Int)) := by
      obtain ⟨_, _, e2, hc⟩ := hrd P (byteV b0) (by rw [List.getElem?_map, hb0]; rfl)
      cases e2
      rw [Nat.zero_add] at hc
      exact hc
    have HNx : Hid (Rd (wr.setCell ⟨w.heap.size, P, none⟩ (byteV u)) (some ⟨w.heap.size, 0, none⟩) ((overB da (s.take (j + 1)) A).map byteV)) := Lib.hid (by
      have h := rrd_set1 hrd (k := P) (by rw [List.length_map]; exact hPl) (byteV u)
      rw [← List.map_set, hP, over_step hu (by rw [HDl.out]; omega), ← hP] at h
      exact h)
    have HXn : Hid (Ext w (wr.setCell ⟨w.heap.size, P, none⟩ (byteV u))) := Lib.hid (Below.setCell hx (p := ⟨w.heap.size, P, none⟩) (Nat.le_refl _) _)
    have HZn : Hid (∀ x, x < dl → (wr.setCell ⟨w.heap.size, P, none⟩ (byteV u)).frozen? ⟨w.heap.size, x, none⟩ = false) := Lib.hid fun x hx2 => by
      have := hfz x hx2
      simpa using this
    have hat := rat_of hu
    have hw1 : IntKind.i64.wrap ((A : Int) + (j : Int)) = (P : Int) := by rw [hP]; rw [IntWalk.i64_in _ (by omega)]; omega
    have hw2 : IntKind.i64.wrap ((dl : Int) - (A : Int)) = (dl : Int) - (A : Int) := IntWalk.i64_in _ (by omega)
    have p3' : (j : Int) < (dl : Int) - (A : Int) := by omega
    have hPi : (P : Int) < (dl : Int) := by omega
    clear hrd hfz hx hb0 hPl hP p3
    go_wp2_with fail
    go_roundw
    case rel => exact ⟨j + 1, by omega, by go_num, HNx.out, HZn.out, HXn.out⟩
    case measure => simp [intOf]; omega
  · have hEd : Ext w wr.drew := hx.drew
    have HEq : Hid (overB da (s.take j) A = DA) := Lib.hid (by rw [← HDA.out]; exact over_end hj (by rw [HDl.out]; exact hcnd))
    have hcv := run_tostr (P := Try.prog) wr.drew 64 9 5 (a := ⟨w.heap.size, 0, none⟩) (n := dl) (l := DA) (cap := cp) Try.underlying64 Try.underlying5 Try.underlying9 (by rw [← HEq.out, over_len, HDl.out]) (by rw [← HEq.out]; exact hrd.ext (Ext.refl wr).drew)
    obtain ⟨hst, zg⟩ := HEnd.out _ hEd
    have HSt := Lib.hid hst
    obtain ⟨q3, q4⟩ := HCs.out _ hEd
    have hw2 : A < dl → IntKind.i64.wrap ((dl : Int) - (A : Int)) = (dl : Int) - (A : Int) := fun _ => IntWalk.i64_in _ (by omega)
    clear hrd hfz hst hx q q1'
    by_cases p1 : j < s.length
    · by_cases p2 : A < dl
      · have p3 : (dl : Int) - (A : Int) ≤ (j : Int) := by omega
        have hw3 := hw2 p2
        clear hw2 hcnd
        go_wp2_with fail
        refine wp_tail_drew 9 (by kernel_rfl) (by kernel_rfl) ?_
        simp only [List.take_succ_cons, List.take_zero, List.drop_succ_cons, List.drop_zero]
        repeat still_step
        refine wpStill_nil ?_
        go_wp2_with fail
        go_ret
        rw [HM.out]
        exact ⟨rfl, fl, HSt.out, (HF.out.less (Nat.le_succ B)).like rfl rfl⟩
      · clear hw2 hcnd
        go_wp2_with fail
        refine wp_tail_drew 9 (by kernel_rfl) (by kernel_rfl) ?_
        simp only [List.take_succ_cons, List.take_zero, List.drop_succ_cons, List.drop_zero]
        repeat still_step
        refine wpStill_nil ?_
        go_wp2_with fail
        go_ret
        rw [HM.out]
        exact ⟨rfl, fl, HSt.out, (HF.out.less (Nat.le_succ B)).like rfl rfl⟩
    · clear hw2 hcnd
      go_wp2_with fail
      refine wp_tail_drew 9 (by kernel_rfl) (by kernel_rfl) ?_
      simp only [List.take_succ_cons, List.take_zero, List.drop_succ_cons, List.drop_zero]
      repeat still_step
      refine wpStill_nil ?_
      go_wp2_with fail
      go_ret
      rw [HM.out]
      exact ⟨rfl, fl, HSt.out, (HF.out.less (Nat.le_succ B)).like rfl rfl⟩

end Go.Proofs.Ytmpiepkkikmpmaa
namespace Go.Proofs.Ytmpiepkkikmpmaa
open Go.RowKit

theorem del_comm (a b : List UInt8) (L : List FM) : delN FM.nm b (delN FM.nm a L) = delN FM.nm a (delN FM.nm b L) := by
  unfold delN; rw [List.filter_filter, List.filter_filter]; exact List.filter_congr fun y _ => Bool.and_comm _ _

set_option maxRecDepth 100000
set_option linter.unusedVariables false
set_option maxHeartbeats 6400000

theorem rcreate_c {w : World} {r B : Nat} {F : Nat → Prop} {σ : DM} {fl : Int} (h : Rk w r F (rm σ fl)) (ho : okD σ) (hf : FlOk (B + 1) σ fl) (nm : List UInt8) (hl : nm.length ≤ 9223372036854775807) :
    Calls Try.prog 26 #[.pointer (some ⟨r, 0, none⟩), .string ⟨nm.toArray⟩] w fun e w' => e = .returned (.int .i64 (createM σ nm).1) ∧ RR w r F B (createM σ nm).2 w' := by
  have H := Lib.hid h; have HO := Lib.hid ho; have HF := Lib.hid hf
  have d3 : w.cell? ⟨r, 3, none⟩ = some (.bool σ.down) := h.down
  have hmany := ho.many
  have HMay := Lib.hid (rmay_c nm hl w)
  have d1 : ∃ v, w.cell? ⟨r, 1, none⟩ = some v ∧ ∃ ao cap, v = .slice ao σ.L.length cap := by
    obtain ⟨_, v, kv, hi, _⟩ := h
    obtain ⟨ao, cap, rfl⟩ := hi.row.slice
    exact ⟨_, hi.head.cell 1, ao, cap, rfl⟩
  obtain ⟨_, d1, ao, cap, rfl⟩ := d1
  clear h ho hf
  cases hd : σ.down with
  | true =>
    rw [hd] at d3
    have HM : Hid (createM σ nm = (61, σ)) := Lib.hid (by unfold createM; rw [if_pos hd])
    rw [HM.out]
    clear hd
    go_enter Try.func26, Try.ntmps26
    go_wp2_with fail
    go_ret
    exact ⟨rfl, RR.same H.out HF.out⟩
  | false =>
    rw [hd] at d3
    have HD := Lib.hid hd
    clear hd
    go_enter Try.func26, Try.ntmps26
    go_wp2_with fail
    refine HMay.out.mono ?_
    rintro e w' ⟨rfl, rfl⟩
    cases hok : okName nm with
    | false =>
      have HM : Hid (createM σ nm = (2, σ)) := Lib.hid (by unfold createM; rw [if_neg (by rw [HD.out]; decide), hok]; rfl)
      clear hok
      go_wp2_with fail
      go_ret
      rw [HM.out]
      exact ⟨rfl, RR.same H.out HF.out⟩
    | true =>
    have HOk := Lib.hid hok
    clear hok
    go_wp2_with fail
    refine (rfind_c H.out nm).mono ?_
    rintro e w' ⟨⟨i, rfl, hpos⟩, rfl⟩
    rcases hpos with ⟨rfl, hno⟩ | ⟨k, hk, rfl, he⟩
    rotate_left
    · have hfd : findN FM.nm nm σ.L = some (σ.L[k]'hk) := pos_find (L := σ.L) HO.out.ord hk he
      have HM : Hid (createM σ nm = (62, σ)) := Lib.hid (by unfold createM; rw [if_neg (by rw [HD.out]; decide), if_neg (by rw [HOk.out]; decide), hfd]; rfl)
      clear he hfd
      go_wp2_with fail
      go_ret
      rw [HM.out]
      exact ⟨rfl, RR.same H.out HF.out⟩
    have HNo : Hid (NoPos nm σ.L) := Lib.hid hno
    have HFn : Hid (findN FM.nm nm σ.L = none) := Lib.hid (findN_of_none (l := σ.L) hno)
    clear hno
    obtain ⟨n, hn⟩ : ∃ n, σ.L.length = n := ⟨_, rfl⟩
    rw [hn] at d1 hmany
    have HN := Lib.hid hn
    clear hn
    by_cases hfull : 400 ≤ n
    · have HM : Hid (createM σ nm = (60, σ)) := Lib.hid (by unfold createM; rw [if_neg (by rw [HD.out]; decide), if_neg (by rw [HOk.out]; decide), HFn.out, if_neg (by simp), if_pos (by rw [HN.out]; exact hfull)])
      have hfi : (400 : Int) ≤ (n : Int) := by omega
      go_wp2_with fail
      go_ret
      rw [HM.out]
      exact ⟨rfl, RR.same H.out HF.out⟩
    have hfi : (n : Int) < 400 := by omega
    go_wp2_with fail
    refine (rchange_c H.out HO.out HF.out).mono ?_
    rintro e w1 ⟨rfl, fl1, hs1, hfl1⟩
    have HS := Lib.hid hs1; have HL1 := Lib.hid hfl1
    clear hs1 hfl1 d3 d1
    cases hq : failsM σ with
    | true =>
      have HM : Hid (createM σ nm = (61, sinkM σ)) := Lib.hid (by unfold createM; rw [if_neg (by rw [HD.out]; decide), if_neg (by rw [HOk.out]; decide), HFn.out, if_neg (by simp), if_neg (by rw [HN.out]; exact hfull), if_pos hq])
      clear hq
      go_wp2_with fail
      refine (rsunk_c HS.out.rk HD.out).mono ?_
      rintro e w2 ⟨rfl, hs⟩
      have HS2 := Lib.hid (HS.out.trans hs)
      clear hs
      go_wp2_with fail
      go_ret
      rw [HM.out]
      exact ⟨rfl, 0, HS2.out, fl_crash B σ σ.keep⟩
    | false =>
      have HFq := Lib.hid (HL1.out hq)
      have HM : Hid (createM σ nm = (0, { tickM σ with L := insN FM.nm ⟨nm, [], 0⟩ σ.L })) := Lib.hid (by unfold createM; rw [if_neg (by rw [HD.out]; decide), if_neg (by rw [HOk.out]; decide), HFn.out, if_neg (by simp), if_neg (by rw [HN.out]; exact hfull), if_neg (by rw [hq]; decide)])
      have HOk2 : Hid (okR (rm { σ with L := insN FM.nm ⟨nm, [], 0⟩ σ.L } fl1)) := Lib.hid (okR_rm (HO.out.create HFn.out (by rw [HN.out]; omega)) (HFq.out.rng).1 (HFq.out.rng).2)
      clear hq
      go_wp2_with fail
      refine (rlay_c HS.out.rk ⟨nm, [], 0⟩ HNo.out HOk2.out).mono ?_
      rintro e w2 ⟨rfl, hs⟩
      have HS2 : Hid (RkS w r F (rm { tickM σ with L := insN FM.nm ⟨nm, [], 0⟩ σ.L } fl1) w2) := Lib.hid (HS.out.trans hs)
      clear hs
      go_wp2_with fail
      go_ret
      rw [HM.out]
      exact ⟨rfl, fl1, HS2.out, HFq.out⟩

theorem rrename_c {w : World} {r B : Nat} {F : Nat → Prop} {σ : DM} {fl : Int} (h : Rk w r F (rm σ fl)) (ho : okD σ) (hf : FlOk (B + 1) σ fl) (a b : List UInt8) (hlb : b.length ≤ 9223372036854775807) :
    Calls Try.prog 30 #[.pointer (some ⟨r, 0, none⟩), .string ⟨a.toArray⟩, .string ⟨b.toArray⟩] w fun e w' => e = .returned (.int .i64 (renameM σ a b).1) ∧ RR w r F B (renameM σ a b).2 w' := by
  have H := Lib.hid h; have HO := Lib.hid ho; have HF := Lib.hid hf
  have d3 : w.cell? ⟨r, 3, none⟩ = some (.bool σ.down) := h.down
  have HMay := Lib.hid (rmay_c b hlb w)
  clear h ho hf
  cases hd : σ.down with
  | true =>
    rw [hd] at d3
    have HM : Hid (renameM σ a b = (61, σ)) := Lib.hid (by unfold renameM; rw [if_pos hd])
    rw [HM.out]
    clear hd
    go_enter Try.func30, Try.ntmps30
    go_wp2_with fail
    refine (rfind_c H.out a).mono ?_
    rintro e w' ⟨⟨i, rfl, hpos⟩, rfl⟩
    clear hpos
    go_wp2_with fail
    go_ret
    exact ⟨rfl, RR.same H.out HF.out⟩
  | false =>
    rw [hd] at d3
    have HD := Lib.hid hd
    clear hd
    go_enter Try.func30, Try.ntmps30
    go_wp2_with fail
    refine (rfind_c H.out a).mono ?_
    rintro e w' ⟨⟨i, rfl, hpos⟩, rfl⟩
    rcases hpos with ⟨rfl, hno⟩ | ⟨k, hk, rfl, he⟩
    · have HM : Hid (renameM σ a b = (4, σ)) := Lib.hid (by unfold renameM; rw [if_neg (by rw [HD.out]; decide), findN_of_none (l := σ.L) hno])
      clear hno
      go_wp2_with fail
      go_ret
      rw [HM.out]
      exact ⟨rfl, RR.same H.out HF.out⟩
    have HHk : Hid (k < σ.L.length) := Lib.hid hk
    obtain ⟨f, hfe⟩ : ∃ f, σ.L[k]'hk = f := ⟨_, rfl⟩
    have hfd : findN FM.nm a σ.L = some f := by rw [← hfe]; exact pos_find (L := σ.L) HO.out.ord hk he
    have HFd := Lib.hid hfd
    have HDl : Hid (delN FM.nm a σ.L = σ.L.take k ++ σ.L.drop (k + 1)) := Lib.hid (pos_del (L := σ.L) HO.out.ord hk he)
    have HFe : Hid (σ.L[k]'HHk.out = f) := Lib.hid hfe
    clear he hfe hfd
    go_wp2_with fail
    refine HMay.out.mono ?_
    rintro e w' ⟨rfl, rfl⟩
    cases hok : okName b with
    | false =>
      have HM : Hid (renameM σ a b = (2, σ)) := Lib.hid (by unfold renameM; rw [if_neg (by rw [HD.out]; decide), HFd.out]; simp only; rw [hok]; rfl)
      clear hok
      go_wp2_with fail
      go_ret
      rw [HM.out]
      exact ⟨rfl, RR.same H.out HF.out⟩
    | true =>
    have HOk := Lib.hid hok
    clear hok
    go_wp2_with fail
    refine (rchange_c H.out HO.out HF.out).mono ?_
    rintro e w1 ⟨rfl, fl1, hs1, hfl1⟩
    have HS := Lib.hid hs1; have HL1 := Lib.hid hfl1
    clear hs1 hfl1 d3
    cases hq : failsM σ with
    | true =>
      have HM : Hid (renameM σ a b = (61, sinkM σ)) := Lib.hid (by unfold renameM; rw [if_neg (by rw [HD.out]; decide), HFd.out]; simp only; rw [HOk.out, hq]; rfl)
      clear hq
      go_wp2_with fail
      refine (rsunk_c HS.out.rk HD.out).mono ?_
      rintro e w2 ⟨rfl, hs⟩
      have HS2 := Lib.hid (HS.out.trans hs)
      clear hs
      go_wp2_with fail
      go_ret
      rw [HM.out]
      exact ⟨rfl, 0, HS2.out, fl_crash B σ σ.keep⟩
    | false =>
    have HFq := Lib.hid (HL1.out hq)
    by_cases hab : a = b
    · have HM : Hid (renameM σ a b = (0, tickM σ)) := Lib.hid (by unfold renameM; rw [if_neg (by rw [HD.out]; decide), HFd.out]; simp only; rw [HOk.out, hq, if_pos hab]; rfl)
      have hb1 : (a == b) = true := by simpa using hab
      clear hq hab
      go_wp2_with fail
      go_ret
      rw [HM.out]
      exact ⟨rfl, fl1, HS.out, HFq.out⟩
    have HM : Hid (renameM σ a b = (0, { tickM σ with L := renL a b f σ.L })) := Lib.hid (by unfold renameM; rw [if_neg (by rw [HD.out]; decide), HFd.out]; simp only; rw [HOk.out, hq, if_neg hab]; rfl)
    have HRn := Lib.hid (HO.out.rename HFd.out hab).1
    have hb1 : (a == b) = false := by simpa using hab
    have HAb := Lib.hid hab
    clear hq hab
    obtain ⟨g, cap, q, q0, q1, q2, -, hc2, hc3⟩ := HS.out.rk.at (k := k) HHk.out
    have q0' : w1.cell? ⟨g, k * 3, none⟩ = some (.string ⟨f.nm.toArray⟩) := by rw [← HFe.out]; exact q0
    have q1' : w1.cell? ⟨g, k * 3 + 1, none⟩ = some (.string ⟨f.da.toArray⟩) := by rw [← HFe.out]; exact q1
    have q2' : w1.cell? ⟨g, k * 3 + 2, none⟩ = some (.int .i64 (f.sy : Int)) := by rw [← HFe.out]; exact q2
    have hk2 : k < (rm σ fl1).L.length := HHk.out
    obtain ⟨n, hn⟩ : ∃ n, (rm σ fl1).L.length = n := ⟨_, rfl⟩
    rw [hn] at q hc2 hk2
    have HF1 := Lib.hid HS.out.rk.lt
    clear q0 q1 q2 hn
    go_wp2_with fail
    refine (rtake_c (HS.out.rk.ext (ext_a1 w1 (.cells #[.string ⟨b.toArray⟩, .string ⟨f.da.toArray⟩, .int .i64 (f.sy : Int)] 60))) (i := k) HHk.out).mono ?_
    rintro e w2 ⟨rfl, hs⟩
    have hs : RkS (w1.alloc (.cells #[.string ⟨b.toArray⟩, .string ⟨f.da.toArray⟩, .int .i64 (f.sy : Int)] 60)) r (Gr F w w1) (rm { tickM σ with L := delN FM.nm a σ.L } fl1) w2 := by rw [HDl.out]; exact hs
    have HT := Lib.hid hs
    have HBx := Lib.hid (hs.off.blk (Blk.new w1 60 #[.string ⟨b.toArray⟩, .string ⟨f.da.toArray⟩, .int .i64 (f.sy : Int)]) fun hf => by have := HF1.out _ hf; omega)
    clear hs q q0' q1' q2'
    go_wp2_with fail
    refine (rfind_c HT.out.rk b).mono ?_
    rintro e w' ⟨⟨i, rfl, hpos⟩, rfl⟩
    rcases hpos with ⟨rfl, hno⟩ | ⟨k2, hk3, rfl, he2⟩
    · have HNo : Hid (NoPos b (delN FM.nm a σ.L)) := Lib.hid hno
      have HEq : Hid (renL a b f σ.L = insN FM.nm ⟨b, f.da, f.sy⟩ (delN FM.nm a σ.L)) := Lib.hid (by unfold renL; rw [← del_comm, delN_none (findN_of_none (l := delN FM.nm a σ.L) hno)])
      have d0 := HBx.out.cell 0; have d1 := HBx.out.cell 1; have d2 := HBx.out.cell 2
      clear hno
      go_wp2_with fail
      refine (rlay_c HT.out.rk ⟨b, f.da, f.sy⟩ HNo.out (by have h := okR_rm (fl := fl1) HRn.out (HFq.out.rng).1 (HFq.out.rng).2; rw [HEq.out] at h; exact h)).mono ?_
      rintro e w3 ⟨rfl, hs⟩
      have HS3 : Hid (RkS w r F (rm { tickM σ with L := renL a b f σ.L } fl1) w3) := Lib.hid (by
        rw [HEq.out]
        exact HS.out.trans (RkS.pre (ext_a1 _ _) HF1.out (HT.out.trans hs)))
      clear hs d0 d1 d2
      go_wp2_with fail
      go_ret
      rw [HM.out]
      exact ⟨rfl, fl1, HS3.out, HFq.out⟩
    · have HD2 : Hid (delN FM.nm b (delN FM.nm a σ.L) = (delN FM.nm a σ.L).take k2 ++ (delN FM.nm a σ.L).drop (k2 + 1)) := Lib.hid (pos_del (L := delN FM.nm a σ.L) (delN_ord HO.out.ord) hk3 he2)
      have HNo : Hid (NoPos b (delN FM.nm b (delN FM.nm a σ.L))) := Lib.hid fun y hy => (mem_delN.1 hy).2
      have HEq : Hid (renL a b f σ.L = insN FM.nm ⟨b, f.da, f.sy⟩ (delN FM.nm b (delN FM.nm a σ.L))) := Lib.hid (by unfold renL; rw [del_comm])
      have HK3 : Hid (k2 < (delN FM.nm a σ.L).length) := Lib.hid hk3
      clear he2
      go_wp2_with fail
      refine (rtake_c HT.out.rk (i := k2) HK3.out).mono ?_
      rintro e w3 ⟨rfl, hs⟩
      have hs : RkS w2 r (Gr (Gr F w w1) (w1.alloc (.cells #[.string ⟨b.toArray⟩, .string ⟨f.da.toArray⟩, .int .i64 (f.sy : Int)] 60)) w2) (rm { tickM σ with L := delN FM.nm b (delN FM.nm a σ.L) } fl1) w3 := by rw [HD2.out]; exact hs
      have HT3 := Lib.hid (HT.out.trans hs)
      have HBx3 := Lib.hid (HT3.out.off.blk (Blk.new w1 60 #[.string ⟨b.toArray⟩, .string ⟨f.da.toArray⟩, .int .i64 (f.sy : Int)]) fun hf => by have := HF1.out _ hf; omega)
      have d0 := HBx3.out.cell 0; have d1 := HBx3.out.cell 1; have d2 := HBx3.out.cell 2
      clear hs
      go_wp2_with fail
      refine (rlay_c HT3.out.rk ⟨b, f.da, f.sy⟩ HNo.out (by have h := okR_rm (fl := fl1) HRn.out (HFq.out.rng).1 (HFq.out.rng).2; rw [HEq.out] at h; exact h)).mono ?_
      rintro e w4 ⟨rfl, hs⟩
      have HS3 : Hid (RkS w r F (rm { tickM σ with L := renL a b f σ.L } fl1) w4) := Lib.hid (by
        rw [HEq.out]
        exact HS.out.trans (RkS.pre (ext_a1 _ _) HF1.out (HT3.out.trans hs)))
      clear hs d0 d1 d2
      go_wp2_with fail
      go_ret
      rw [HM.out]
      exact ⟨rfl, fl1, HS3.out, HFq.out⟩

end Go.Proofs.Ytmpiepkkikmpmaa
