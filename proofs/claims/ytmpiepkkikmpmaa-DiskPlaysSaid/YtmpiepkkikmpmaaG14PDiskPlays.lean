/- Walks: the document's disk: sunk; a file away, a file in its place. Walks: the document's disk: a file in its place. Walks: the document's disk beside the disk: Size, Start, Sync, Delete. Walks: the document's disk beside the disk: Append. Walks: the document's disk beside the disk: Cut, Read. -/
import Derived.Test.YtmpiepkkikmpmaaG13PDiskPlays
import Derived.Maps.AppendAt
import Derived.Deep.AppendLies
set_option linter.unusedVariables false
set_option linter.unusedSimpArgs false
namespace Go.Proofs.Ytmpiepkkikmpmaa
open Go.RowKit

/-- append onto a row of one's own, at a step of a region that draws its order; the source whatever: nil, empty or not -/
theorem step_append_row {P : Program} {w : World} {ops : Array Oper} {o : Oper} {a : Act} {K : Act → World → Prop} {Q : Exit → Act → World → Prop} {E : Prop} (hgd : o.guard = none) (s x : Operand) (t : TypeId)
    (ho : o.op = .call { callee := .builtin .append, args := #[s, x], argTypes := #[t, t] })
    (base : Nat) (e : TypeId) (z : Value) (size bytes : Nat) (ht : P.underlying t = some (.slice e)) (hinfo : (P.info? e).map (fun i => (i.zero, i.size, i.bytes)) = some (some z, size, bytes))
    (hzs : z.cells.size = size) (hsz : 0 < size)
    (v : Value) (n : Nat) (xs : List Value) (hs : a.eval s = v) (hown : w.ownsRow base e size v n xs)
    (ao : Option Addr) (m c : Nat) (news : List Value) (hx : a.eval x = .slice ao m c) (hl : news.length = m * size) (hnil : ao = none → c = 0) (hnews : Rd w ao news) (h1 : ∀ u ∈ news, u.oneCell' = true)
    (h63 : n + m ≤ maxLen) (hbytes : (n + m) * bytes ≤ 140737488355328) (hbase : base ≤ w.heap.size)
    (h : ∀ v' w', w'.ownsRow base e size v' (n + m) (xs ++ news) → w.grownBy w' v.ownBlock → (v'.ownBlock = v.ownBlock ∨ v'.ownBlock = some w.heap.size) → K (a.put o.dst v') w') :
    if Region.wanted o (yielded ops a.tmps) = true then Oper.wp P o a w K Q else E := by
  have hw : Region.wanted o (yielded ops a.tmps) = true := by simp [Region.wanted, hgd]
  rw [if_pos hw]
  obtain ⟨i, hi, hz, hsize, hby⟩ := info_parts hinfo
  have hrun : ∃ v' w', (Builtin.append_ #[t, t] o.type #[v, .slice ao m c]).run P w = .ok v' w' ∧ w'.ownsRow base e size v' (n + m) (xs ++ news) ∧ w.grownBy w' v.ownBlock ∧ (v'.ownBlock = v.ownBlock ∨ v'.ownBlock = some w.heap.size) := by
    cases ao with
    | some ad =>
      have hnews' : ∀ j u, news[j]? = some u → w.cell? (ad.add j) = some u := by
        intro j u hj
        obtain ⟨b, off, e, hc⟩ := hnews j u hj
        cases e
        rw [Addr.add_lit]; exact hc
      obtain ⟨v', w', hr, h2, h3, _, h5⟩ := run_append_own_at (P := P) w base t o.type e i z size bytes ht hi hz hsize hby hzs hsz v n xs hown ad m c news hl hnews' h1 h63 hbytes hbase
      exact ⟨v', w', hr, h2, h3, h5⟩
    | none =>
      have hn0 : news = [] := by
        cases news with
        | nil => rfl
        | cons y ys => obtain ⟨b, off, e, _⟩ := hnews 0 y rfl; cases e
      subst hn0
      have hm : m = 0 := by
        rcases Nat.eq_zero_or_pos m with h | h
        · exact h
        · have := Nat.mul_pos h hsz; simp at hl; omega
      subst hm
      obtain rfl := hnil rfl
      exact ⟨v, w, run_append_owned_none (P := P) (w := w) base t o.type e i size ht hi v n xs hown, by simpa using hown, World.grownBy.refl w _, .inl rfl⟩
  obtain ⟨v', w', hr, h2, h3, h4⟩ := hrun
  unfold Oper.wp execOp
  simp only [ho, resolve, invoke, builtin, Sem.run_bind, Sem.run_pure, Result.andThen_ok, List.map_toArray, List.map_cons, List.map_nil, hs, hx, hr]
  exact h v' w' h2 h3 h4

theorem cs3_one (L : List FM) : ∀ u ∈ cs3 L, u.oneCell' = true := fun u hu => by
  unfold cs3 at hu
  obtain ⟨f, _, hf⟩ := List.mem_flatMap.1 hu
  unfold c3 at hf
  simp only [List.mem_cons, List.not_mem_nil, or_false] at hf
  rcases hf with rfl | rfl | rfl <;> rfl

theorem info_f : (Try.prog.info? 60).map (fun i => (i.zero, i.size, i.bytes)) = some (some (.agg #[.string ⟨#[]⟩, .string ⟨#[]⟩, .int .i64 0]), 3, 40) := by kernel_rfl

theorem Rk.newRow {w W : World} {r : Nat} {F : Nat → Prop} {ρ : RM} (h : Rk w r F ρ) (hx : Ext w W) {a : Option Addr} {m c : Nat} {L' : List FM} (hr : W.ownsRow w.heap.size 60 3 (.slice a m c) m (cs3 L')) (hm : m = L'.length) (ho : okR { ρ with L := L' }) :
    RkS w r F { ρ with L := L' } (W.setCell ⟨r, 1, none⟩ (.slice a m c)) := by
  obtain ⟨_, v, kv, hi, hin, hF⟩ := h
  have hrF := hin r (.inl rfl)
  have ho2 := Own.of_row hr
  have hne : (Value.slice a m c).ownBlock ≠ some r := (hi.head.ext hx).own ho2 (by decide)
  refine RkS.mk' ho (v' := .slice a m c) (kv' := kv) ⟨(hi.head.ext hx).set 1 _, ?_, ?_⟩ ?_ hF ?_
  · show Own _ _ _ _ _ L'.length _
    rw [← hm]
    exact (ho2.base (Nat.zero_le _)).setOther _ hne
  · exact (hi.keep.ext hx).setOther _ fun e => (hi.own_r hi.keep (by decide)) e
  · rintro i (h | h | h)
    · exact .inl (hin i (.inl h))
    · have := ho2.lt i h
      exact .inr ⟨this.1, by simpa [World.setCell] using this.2⟩
    · exact .inl (hin i (.inr (.inr h)))
  · exact (OffS.of_ext hx).trans (OffS.set W hrF 1 _)

theorem usedM_sub {L' L : List FM} (hs : L'.Sublist L) : usedM L' ≤ usedM L := by
  induction hs with
  | slnil => exact Nat.le_refl _
  | cons a _ ih => simp only [usedM, sumN, List.map_cons, List.sum_cons] at ih ⊢; omega
  | cons_cons a _ ih => simp only [usedM, sumN, List.map_cons, List.sum_cons] at ih ⊢; omega
theorem okR_sub {ρ : RM} (h : okR ρ) {L' : List FM} (hs : L'.Sublist ρ.L) : okR { ρ with L := L' } :=
  ⟨h.cap0, h.cap1, by have h1 := h.used; have h2 : usedM L' ≤ usedM ρ.L := usedM_sub hs; show (usedM L' : Int) ≤ ρ.cap; omega, h.ord.sublist hs, fun f hf => h.sy f (hs.subset hf), Nat.le_trans hs.length_le h.many, h.fl0, h.fl1, h.keep⟩

set_option maxRecDepth 100000
set_option linter.unusedVariables false
set_option maxHeartbeats 3200000

theorem rsunk_c {w : World} {r : Nat} {F : Nat → Prop} {ρ : RM} (h : Rk w r F ρ) (hd : ρ.down = false) :
    Calls Try.prog 55 #[.pointer (some ⟨r, 0, none⟩)] w fun e w' => e = .returned (.int .i64 61) ∧ RkS w r F (crashR ρ ρ.keep) w' := by
  have H := Lib.hid h
  have HD := Lib.hid hd
  obtain ⟨ho, v, kv, hi, hin, hF⟩ := h
  obtain ⟨ka, kc, rfl, hints⟩ := own_ints hi.keep
  have d6 : w.cell? ⟨r, 6, none⟩ = some (.slice ka ρ.keep.length kc) := hi.head.cell 6
  have HC := Lib.hid (rcrash_c H.out HD.out (ka := ka) (kn := ρ.keep.length) (kc := kc) (xs := ρ.keep) (fun v' kv' h' hin' W hW => by
    have hb : some (Obj.cells (rhead ρ v (.slice ka ρ.keep.length kc)) 38 (0, 0)) = some (Obj.cells (rhead ρ v' kv') 38 (0, 0)) := hi.head.symm.trans h'.head
    have hv : v = v' ∧ Value.slice ka ρ.keep.length kc = kv' := by
      have := hb
      simp only [Option.some.injEq, Obj.cells.injEq, rhead] at this
      simpa using this
    obtain ⟨rfl, rfl⟩ := hv
    have hk := hi.keep
    have hk2 : Own W 0 3 1 (.slice ka ρ.keep.length kc) ρ.keep.length (ρ.keep.map (Value.int .i64)) := hk.same fun g hg => hW.block g (hk.lt g hg).2 fun hv => hk.apart hi.row (by decide) g hg hv
    obtain ⟨a', c', e', hi'⟩ := own_ints hk2
    cases e'
    exact hi'))
  clear ho hi hin hF hints hd
  go_enter Try.func55, Try.ntmps55
  go_wp2_with fail
  refine HC.out.mono ?_
  rintro e w' ⟨rfl, hs⟩
  have HS := Lib.hid hs
  clear hs
  go_wp2_with fail
  go_ret
  exact ⟨rfl, HS.out⟩

theorem rtake_c {w : World} {r : Nat} {F : Nat → Prop} {ρ : RM} (h : Rk w r F ρ) {i : Nat} (hlt : i < ρ.L.length) :
    Calls Try.prog 58 #[.pointer (some ⟨r, 0, none⟩), .int .i64 i] w fun e w' => e = .returned (.tuple #[]) ∧ RkS w r F { ρ with L := ρ.L.take i ++ ρ.L.drop (i + 1) } w' := by
  have H := Lib.hid h
  have HOk : Hid (okR { ρ with L := ρ.L.take i ++ ρ.L.drop (i + 1) }) := Lib.hid (okR_sub h.1 (by
    conv => rhs; rw [← List.take_append_drop i ρ.L]
    exact List.Sublist.append (List.Sublist.refl _) (List.drop_sublist_drop_left ρ.L (Nat.le_succ i))))
  obtain ⟨ho, v, kv, hi, hin, hF⟩ := h
  have hm := ho.many
  obtain ⟨g, cap, rfl, -, -, -, -, hc1, hc2⟩ := hi.at hlt
  have z1 := hi.head.free 1
  have HZ : Hid (∀ W, Ext w W → W.frozen? ⟨r, 1, none⟩ = false) := Lib.hid fun W hW => (hi.head.ext hW).free 1
  have d1 : w.cell? ⟨r, 1, none⟩ = some (.slice (some ⟨g, 0, none⟩) ρ.L.length cap) := hi.head.cell 1
  have HO := Lib.hid ho; have HI := Lib.hid hi; have HIn := Lib.hid hin; have HF := Lib.hid hF
  obtain ⟨n, hn⟩ : ∃ n, ρ.L.length = n := ⟨_, rfl⟩
  rw [hn] at d1 hm hlt hc1 HI
  have HN := Lib.hid hn
  have hi0 : (0 : Int) ≤ (i : Int) := by omega
  have hi1 : (i : Int) ≤ (cap : Int) := by omega
  have hi2 : (i : Int) + 1 ≤ (n : Int) := by omega
  have hi3 : (0 : Int) ≤ (i : Int) + 1 := by omega
  have hi4 : (n : Int) ≤ (cap : Int) := by omega
  have hwr : IntKind.i64.wrap ((i : Int) + 1) = (i : Int) + 1 := IntWalk.i64_in _ (by omega)
  clear ho hi hin hF hn
  go_enter Try.func58, Try.ntmps58
  go_wp2_with fail
  have HRd : Hid (∀ W, Ext w W → Rd W (some ⟨g, 0, none⟩) (cs3 ρ.L)) := Lib.hid fun W hW => by
    obtain ⟨ao, cap', e, _, _, _, hr⟩ := HI.out.row.rd
    cases e
    exact hr.ext hW
  have HE0 : Hid (Ext w w.drew) := Lib.hid (Ext.drew (Ext.refl _))
  have HS : Hid (∀ W, Ext w W → W.cell? ⟨r, 1, none⟩ = some (.slice (some ⟨g, 0, none⟩) n cap) ∧ W.frozen? ⟨r, 1, none⟩ = false) := Lib.hid fun W hW => ⟨cell_ext hW d1, HZ.out W hW⟩
  have HRd2 : Hid (∀ W, Ext w W → Rd W (if cap = i + 1 then some ⟨g, 0, none⟩ else some ⟨g, (i + 1) * 3, none⟩) (cs3 (ρ.L.drop (i + 1)))) := Lib.hid fun W hW => by
    split
    · rename_i hc
      rw [List.drop_of_length_le (by rw [HN.out]; omega)]
      exact Rd.nil _ _
    · have h := (HRd.out W hW).drop ((i + 1) * 3)
      rw [cs3_drop, Nat.zero_add] at h
      exact h
  clear z1
  obtain ⟨qa, qb⟩ := HS.out _ HE0.out
  go_region_law
    (first | (refine step_append_row rfl (.const (.slice none 0 0)) (.tmp 10) 36 rfl w.heap.size 60 _ 3 40 Try.underlying36 info_f (by decide) (by decide) (.slice none 0 0) 0 [] rfl (World.ownsRow_nil _ _ _ _) (some ⟨g, 0, none⟩) i cap (cs3 (ρ.L.take i)) rfl (by rw [cs3_len, List.length_take, HN.out]; omega) (fun h => by cases h) (by rw [← cs3_take]; exact (HRd.out _ HE0.out).take _) (cs3_one _) (by unfold maxLen; omega) (by omega) (Nat.le_refl _) ?_; intro v1 w1 hown hgrow hat; have HX1 : Hid (Ext w w1) := Lib.hid ((HE0.out : Below w.heap.size w _).grown hgrow HE0.out.size (fun q hq => by cases hq)); obtain ⟨qc, qd⟩ := HS.out _ HX1.out; have HOw1 := Lib.hid hown; clear hown hgrow hat)
             | (refine step_append_row rfl (.tmp 11) (.tmp 18) 36 rfl w.heap.size 60 _ 3 40 Try.underlying36 info_f (by decide) (by decide) v1 (0 + i) ([] ++ cs3 (ρ.L.take i)) rfl HOw1.out _ _ _ (cs3 (ρ.L.drop (i + 1))) rfl (by rw [cs3_len, List.length_drop, HN.out]) (fun h => by split at h <;> cases h) (HRd2.out _ HX1.out) (cs3_one _) (by unfold maxLen; omega) (by omega) HX1.out.size ?_; intro v2 w2 hown hgrow hat; have HX2 : Hid (Ext w w2) := Lib.hid ((HX1.out : Below w.heap.size w _).grown hgrow HX1.out.size (fun q hq => (row_lt HOw1.out q hq).1)); obtain ⟨a2, c2, rfl⟩ := row_slice hown; obtain ⟨qe, qf⟩ := HS.out _ HX2.out; have HOw2 := Lib.hid hown; clear hown hgrow hat))
  all_goals
    have hr := HOw2.out
    rw [Nat.zero_add, List.nil_append, ← cs3_append] at hr
    have HFin := Lib.hid (H.out.newRow HX2.out hr (by rw [List.length_append, List.length_take, List.length_drop, HN.out]; omega) HOk.out)
    clear hr
    (try go_wp2_with fail) <;> exact bodyPost_end (v := .tuple #[]) (results_none rfl _ _ _) rfl ⟨rfl, HFin.out⟩

end Go.Proofs.Ytmpiepkkikmpmaa
namespace Go.Proofs.Ytmpiepkkikmpmaa
open Go.RowKit

theorem less_before : ∀ a b : List UInt8, Op.bytesLess a b = bytesBefore a b
  | [], [] => rfl
  | _ :: _, [] => rfl
  | [], _ :: _ => rfl
  | a :: x, b :: y => by unfold Op.bytesLess bytesBefore; rw [less_before x y]

def AllB (nm : List UInt8) (L : List FM) : Prop := ∀ f ∈ L, bytesBefore f.nm nm = true
theorem AllB.snoc {nm : List UInt8} {L : List FM} {f : FM} (h : AllB nm L) (hf : bytesBefore f.nm nm = true) : AllB nm (L ++ [f]) := fun x hx => by
  rcases List.mem_append.1 hx with h1 | h1
  · exact h x h1
  · rw [List.mem_singleton.1 h1]; exact hf

theorem RkS.pre {w w2 wr : World} {r : Nat} {F : Nat → Prop} {τ : RM} (hx : Ext w w2) (hF : ∀ i, F i → i < w.heap.size) (h : RkS w2 r F τ wr) : RkS w r F τ wr := by
  have s1 := hx.size; have s2 := h.off.size
  refine ⟨h.rk.mono (fun i hi => ?_) (fun i hi => ?_), (OffS.of_ext hx).trans h.off⟩
  · rcases hi with h1 | h1
    · exact .inl h1
    · exact .inr (by omega)
  · rcases hi with h1 | h1
    · have := hF i h1; omega
    · exact h1.2

set_option maxRecDepth 100000
set_option linter.unusedVariables false
set_option maxHeartbeats 25600000

theorem rlay_c {w : World} {r : Nat} {F : Nat → Prop} {ρ : RM} (h : Rk w r F ρ) (x : FM) (hno : NoPos x.nm ρ.L) (hok : okR { ρ with L := insN FM.nm x ρ.L }) :
    Calls Try.prog 56 #[.pointer (some ⟨r, 0, none⟩), .agg #[.string ⟨x.nm.toArray⟩, .string ⟨x.da.toArray⟩, .int .i64 (x.sy : Int)]] w fun e w' => e = .returned (.tuple #[]) ∧ RkS w r F { ρ with L := insN FM.nm x ρ.L } w' := by
  have H := Lib.hid h
  have HOk := Lib.hid hok
  have HNo := Lib.hid hno
  obtain ⟨ho, v, kv, hi, hin, hF⟩ := h
  have hm := ho.many
  obtain ⟨ao, cap, rfl⟩ := hi.row.slice
  have HB0 := Lib.hid (Blk.new w 60 #[.string ⟨x.nm.toArray⟩, .string ⟨x.da.toArray⟩, .int .i64 (x.sy : Int)])
  have HI := Lib.hid (hi.same (w' := w.alloc (.cells #[.string ⟨x.nm.toArray⟩, .string ⟨x.da.toArray⟩, .int .i64 (x.sy : Int)] 60)) fun i hi' => (ext_a1 _ _).block i (hF i (hin i hi')))
  obtain ⟨n, hn⟩ : ∃ n, ρ.L.length = n := ⟨_, rfl⟩
  rw [hn] at hm HI
  have HN := Lib.hid hn
  have HLt := Lib.hid hF
  clear ho hi hin hF hn hno hok
  go_enter Try.func56, Try.ntmps56
  go_wp2_with fail
  generalize hW0 : w.alloc (.cells #[.string ⟨x.nm.toArray⟩, .string ⟨x.da.toArray⟩, .int .i64 (x.sy : Int)] 60) = W0 at *
  go_loopw [4] (fun i wr => ∃ k : Nat, k ≤ n ∧ i = .int .i64 k ∧ AllB x.nm (ρ.L.take k) ∧ Ext W0 wr) (fun i _ => n - (intOf i).toNat)
  case atStart => exact ⟨0, Nat.zero_le _, rfl, fun f hf => by simp at hf, Ext.refl _⟩
  case round =>
    obtain ⟨k, hk, rfl, hall, hx⟩ := hrel
    have HAll := Lib.hid hall; have HX := Lib.hid hx
    have hik := HI.out.same (w' := wr) fun i hi' => hx.block i (by
      rcases hi' with h1 | h1 | h1
      · rw [h1]; exact HI.out.head.lt
      · exact (HI.out.row.lt i h1).2
      · exact (HI.out.keep.lt i h1).2)
    have d1 : wr.cell? ⟨r, 1, none⟩ = some (.slice ao n cap) := hik.head.cell 1
    have b0 : wr.cell? ⟨w.heap.size, 0, none⟩ = some (.string ⟨x.nm.toArray⟩) := (HB0.out.ext hx).cell 0
    have b1 : wr.cell? ⟨w.heap.size, 1, none⟩ = some (.string ⟨x.da.toArray⟩) := (HB0.out.ext hx).cell 1
    have b2 : wr.cell? ⟨w.heap.size, 2, none⟩ = some (.int .i64 (x.sy : Int)) := (HB0.out.ext hx).cell 2
    by_cases hlt : k < n
    · have hkL : k < ρ.L.length := by rw [HN.out]; exact hlt
      obtain ⟨g, cap', hv, q0, -, -, -, hc1, hc2⟩ := hik.at hkL
      simp only [HN.out] at hv hc1
      cases hv
      have HTk : Hid (ρ.L.take (k + 1) = ρ.L.take k ++ [ρ.L[k]]) := Lib.hid (List.take_succ_eq_append_getElem hkL)
      obtain ⟨y, hy⟩ : ∃ y, ρ.L[k].nm = y := ⟨_, rfl⟩
      rw [hy] at q0
      have HY := Lib.hid hy
      have HHead := Lib.hid hik.head
      have HRow := Lib.hid hik.row
      clear hy hall hx hik
      cases hb : Op.bytesLess y x.nm with
      | true =>
        have HBf : Hid (bytesBefore y x.nm = true) := Lib.hid (by rw [← less_before, hb])
        go_wp2_with fail
        go_quiet (fail)
        go_wp2_with fail
        go_roundw
        case rel => exact ⟨k + 1, by omega, by go_num, by rw [HTk.out]; exact HAll.out.snoc (by rw [HY.out]; exact HBf.out), HX.out.drewN _⟩
        case measure => simp [intOf]; omega
      | false =>
        have HBf : Hid (bytesBefore y x.nm = false) := Lib.hid (by rw [← less_before, hb])
        go_wp2_with fail
        go_quiet (fail)
        go_wp2_with fail
        have HW : Hid (Ext w wr) := Lib.hid (by have h := HX.out; rw [← hW0] at h; exact (ext_a1 _ _).trans h)
        have HIns : Hid (insN FM.nm x ρ.L = ρ.L.take k ++ x :: ρ.L.drop k) := Lib.hid (ins_at x ρ.L k (by rw [HN.out]; exact hk) HAll.out (fun f hf => by rw [List.getElem?_eq_getElem hkL] at hf; cases hf; rw [HY.out]; exact HBf.out) HNo.out)
        have hkn : k ≤ n := hk
        have hcn : n ≤ cap := hc1
        have hi0 : (0 : Int) ≤ (k : Int) := by omega
        have hi1 : (k : Int) ≤ (cap : Int) := by omega
        have hi2 : (k : Int) ≤ (n : Int) := by omega
        have hi4 : (n : Int) ≤ (cap : Int) := by omega
        have HE0 : Hid (Ext w (wr.drewN nq).drew) := Lib.hid ((HW.out.drewN nq).drew)
        have HIw := Lib.hid (HI.out)
        have HS : Hid (∀ W, Ext wr W → W.cell? ⟨r, 1, none⟩ = some (.slice (some ⟨g, 0, none⟩) n cap) ∧ W.frozen? ⟨r, 1, none⟩ = false ∧ W.cell? ⟨w.heap.size, 0, none⟩ = some (.string ⟨x.nm.toArray⟩) ∧ W.cell? ⟨w.heap.size, 1, none⟩ = some (.string ⟨x.da.toArray⟩) ∧ W.cell? ⟨w.heap.size, 2, none⟩ = some (.int .i64 (x.sy : Int))) := Lib.hid fun W hW => by
          have hb := (HB0.out.ext HX.out).ext hW
          exact ⟨cell_ext hW d1, (HHead.out.ext hW).free 1, hb.cell 0, hb.cell 1, hb.cell 2⟩
        have HR0 : Hid (Ext wr (wr.drewN nq).drew) := Lib.hid (((Ext.refl wr).drewN nq).drew)
        obtain ⟨qa, qb, qc, qd, qe⟩ := HS.out _ HR0.out
        obtain ⟨ra, rb', rc, rd, re⟩ := HS.out ((wr.drewN (nq + 1)).alloc (.cells #[.string ⟨x.nm.toArray⟩, .string ⟨x.da.toArray⟩, .int .i64 (x.sy : Int)] 60)) (HR0.out.alloc (.cells #[.string ⟨x.nm.toArray⟩, .string ⟨x.da.toArray⟩, .int .i64 (x.sy : Int)] 60))
        have HRd : Hid (∀ W, Ext wr W → Rd W (some ⟨g, 0, none⟩) (cs3 ρ.L)) := Lib.hid fun W hW => by
          obtain ⟨ao', cap', e, _, _, _, hr⟩ := HRow.out.rd
          cases e
          exact hr.ext hW
        have HRd2 : Hid (∀ W, Ext wr W → Rd W (if cap = k then some ⟨g, 0, none⟩ else some ⟨g, k * 3, none⟩) (cs3 (ρ.L.drop k))) := Lib.hid fun W hW => by
          split
          · rename_i hc
            rw [List.drop_of_length_le (by rw [HN.out]; omega)]
            exact Rd.nil _ _
          · have h := (HRd.out W hW).drop (k * 3)
            rw [cs3_drop, Nat.zero_add] at h
            exact h
        go_region_law
          (first | (refine step_append_row rfl (.const (.slice none 0 0)) (.tmp 33) 36 rfl wr.heap.size 60 _ 3 40 Try.underlying36 info_f (by decide) (by decide) (.slice none 0 0) 0 [] rfl (World.ownsRow_nil _ _ _ _) (some ⟨g, 0, none⟩) k cap (cs3 (ρ.L.take k)) rfl (by rw [cs3_len, List.length_take, HN.out]; omega) (fun h => by cases h) (by rw [← cs3_take]; exact (HRd.out _ (by first | exact HR0.out | exact HR0.out.alloc _)).take _) (cs3_one _) (by unfold maxLen; omega) (by omega) (by first | exact HR0.out.size | exact (HR0.out.alloc _).size) ?_; intro v1 w1 hown hgrow hat; have HX1 : Hid (Ext w w1) := Lib.hid (by first | exact (HE0.out : Below w.heap.size w _).grown hgrow HE0.out.size (fun q hq => by cases hq) | exact ((HE0.out.alloc _) : Below w.heap.size w _).grown hgrow (HE0.out.alloc _).size (fun q hq => by cases hq)); have HR1 : Hid (Ext wr w1) := Lib.hid (by first | exact (HR0.out : Below wr.heap.size wr _).grown hgrow HR0.out.size (fun q hq => by cases hq) | exact ((HR0.out.alloc _) : Below wr.heap.size wr _).grown hgrow (HR0.out.alloc _).size (fun q hq => by cases hq)); (try have HL1 := Lib.hid ((Rd.lit ((wr.drewN nq).drew) #[.string ⟨x.nm.toArray⟩, .string ⟨x.da.toArray⟩, .int .i64 (x.sy : Int)] 60).ext ((Ext.refl _ : Below _ _ _).grown hgrow (Nat.le_refl _) (fun q hq => by cases hq)))); obtain ⟨qf, qg, qh, qi, qj⟩ := HS.out _ HR1.out; obtain ⟨rf, rg, rh, ri, rj⟩ := HS.out _ (HR1.out.alloc (.cells #[.string ⟨x.nm.toArray⟩, .string ⟨x.da.toArray⟩, .int .i64 (x.sy : Int)] 60)); have HOw1 := Lib.hid hown; have HGr1 := Lib.hid hgrow; clear hown hgrow hat)
                 | (refine step_append_row rfl (.tmp 34) (.tmp 36) 36 rfl wr.heap.size 60 _ 3 40 Try.underlying36 info_f (by decide) (by decide) v1 (0 + k) ([] ++ cs3 (ρ.L.take k)) rfl (by first | exact HOw1.out | exact row_ext HOw1.out (ext_a1 _ _)) _ _ _ (c3 x) rfl rfl (fun h => by cases h) (by first | exact HL1.out | exact Rd.lit _ _ _) (fun u hu => cs3_one [x] u (by simpa [cs3] using hu)) (by unfold maxLen; omega) (by omega) (by first | exact HR1.out.size | exact (HR1.out.alloc _).size) ?_; intro v2 w2 hown hgrow hat; have HR2 : Hid (Ext wr w2) := Lib.hid (by first | exact (HR1.out : Below wr.heap.size wr _).grown hgrow HR1.out.size (fun q hq => (row_lt HOw1.out q hq).1) | exact ((HR1.out.alloc _) : Below wr.heap.size wr _).grown hgrow (HR1.out.alloc _).size (fun q hq => (row_lt HOw1.out q hq).1)); obtain ⟨qk, ql, qm, qn, qo⟩ := HS.out _ HR2.out; have HOw2 := Lib.hid hown; have HGr2 := Lib.hid hgrow; clear hown hgrow hat)
                 | (refine step_append_row rfl (.tmp 37) (.tmp 43) 36 rfl wr.heap.size 60 _ 3 40 Try.underlying36 info_f (by decide) (by decide) v2 (0 + k + 1) ([] ++ cs3 (ρ.L.take k) ++ c3 x) rfl HOw2.out _ _ _ (cs3 (ρ.L.drop k)) rfl (by rw [cs3_len, List.length_drop, HN.out]) (fun h => by split at h <;> cases h) (HRd2.out _ HR2.out) (cs3_one _) (by unfold maxLen; omega) (by omega) HR2.out.size ?_; intro v3 w3 hown hgrow hat; have HR3 : Hid (Ext wr w3) := Lib.hid ((HR2.out : Below wr.heap.size wr _).grown hgrow HR2.out.size (fun q hq => (row_lt HOw2.out q hq).1)); obtain ⟨qp, qq, qr, qs, qt⟩ := HS.out _ HR3.out; obtain ⟨a3, c3', rfl⟩ := row_slice hown; have HOw3 := Lib.hid hown; clear hown hgrow hat))
        all_goals
          have hr := HOw3.out
          have he : ([] ++ cs3 (ρ.L.take k) ++ c3 x ++ cs3 (ρ.L.drop k)) = cs3 (insN FM.nm x ρ.L) := by rw [HIns.out, cs3_append, cs3_cons]; simp [List.append_assoc]
          rw [he] at hr
          simp only [Nat.zero_add] at hr
          have HFin := Lib.hid (RkS.pre HW.out HLt.out ((H.out.ext HW.out).newRow HR3.out hr (by have := HN.out; rw [insN_length]; omega) HOk.out))
          clear hr he
          (try go_wp2_with fail) <;> exact bodyPost_end (v := .tuple #[]) (results_none rfl _ _ _) rfl ⟨rfl, HFin.out⟩
    · have hkL : ρ.L.length ≤ k := by rw [HN.out]; omega
      have HHead := Lib.hid hik.head
      have HRow := Lib.hid hik.row
      rcases hik.row.2 with ⟨hv, h0⟩ | ⟨g, cap', cur, hv, -, -, hc1, hc2, -, -⟩
      · cases hv
        clear hall hx hik h0
        obtain rfl : k = 0 := by omega
        have hc1 : (0 : Nat) ≤ 0 := Nat.le_refl _
        go_wp2_with fail
        go_quiet (fail)
        go_wp2_with fail
        have HW : Hid (Ext w wr) := Lib.hid (by have h := HX.out; rw [← hW0] at h; exact (ext_a1 _ _).trans h)
        have HIns : Hid (insN FM.nm x ρ.L = ρ.L.take 0 ++ x :: ρ.L.drop 0) := Lib.hid (ins_at x ρ.L 0 (by rw [HN.out]; exact hk) HAll.out (fun f hf => by rw [List.getElem?_eq_none (by rw [HN.out]; omega)] at hf; cases hf) HNo.out)
        have hkn : 0 ≤ 0 := hk
        have hcn : 0 ≤ 0 := hc1
        have hi0 : (0 : Int) ≤ (0 : Int) := by omega
        have hi1 : (0 : Int) ≤ (0 : Int) := by omega
        have hi2 : (0 : Int) ≤ (0 : Int) := by omega
        have hi4 : (0 : Int) ≤ (0 : Int) := by omega
        have HE0 : Hid (Ext w (wr.drewN nq).drew) := Lib.hid ((HW.out.drewN nq).drew)
        have HIw := Lib.hid (HI.out)
        have HS : Hid (∀ W, Ext wr W → W.cell? ⟨r, 1, none⟩ = some (.slice (none) 0 0) ∧ W.frozen? ⟨r, 1, none⟩ = false ∧ W.cell? ⟨w.heap.size, 0, none⟩ = some (.string ⟨x.nm.toArray⟩) ∧ W.cell? ⟨w.heap.size, 1, none⟩ = some (.string ⟨x.da.toArray⟩) ∧ W.cell? ⟨w.heap.size, 2, none⟩ = some (.int .i64 (x.sy : Int))) := Lib.hid fun W hW => by
          have hb := (HB0.out.ext HX.out).ext hW
          exact ⟨cell_ext hW d1, (HHead.out.ext hW).free 1, hb.cell 0, hb.cell 1, hb.cell 2⟩
        have HR0 : Hid (Ext wr (wr.drewN nq).drew) := Lib.hid (((Ext.refl wr).drewN nq).drew)
        obtain ⟨qa, qb, qc, qd, qe⟩ := HS.out _ HR0.out
        obtain ⟨ra, rb', rc, rd, re⟩ := HS.out ((wr.drewN (nq + 1)).alloc (.cells #[.string ⟨x.nm.toArray⟩, .string ⟨x.da.toArray⟩, .int .i64 (x.sy : Int)] 60)) (HR0.out.alloc (.cells #[.string ⟨x.nm.toArray⟩, .string ⟨x.da.toArray⟩, .int .i64 (x.sy : Int)] 60))
        have HL0 : Hid (ρ.L = []) := Lib.hid (List.eq_nil_of_length_eq_zero HN.out)
        have HRd : Hid (∀ W, Ext wr W → Rd W none (cs3 ρ.L)) := Lib.hid fun W hW => by rw [HL0.out]; exact Rd.nil _ _
        have HRd2 : Hid (∀ W, Ext wr W → Rd W none (cs3 (ρ.L.drop 0))) := Lib.hid fun W hW => by rw [HL0.out]; exact Rd.nil _ _
        go_region_law
          (first | (refine step_append_row rfl (.const (.slice none 0 0)) (.tmp 33) 36 rfl wr.heap.size 60 _ 3 40 Try.underlying36 info_f (by decide) (by decide) (.slice none 0 0) 0 [] rfl (World.ownsRow_nil _ _ _ _) (none) 0 0 (cs3 (ρ.L.take 0)) rfl (by rw [cs3_len, List.length_take, HN.out]; omega) (fun _ => rfl) (by rw [← cs3_take]; exact (HRd.out _ (by first | exact HR0.out | exact HR0.out.alloc _)).take _) (cs3_one _) (by unfold maxLen; omega) (by omega) (by first | exact HR0.out.size | exact (HR0.out.alloc _).size) ?_; intro v1 w1 hown hgrow hat; have HX1 : Hid (Ext w w1) := Lib.hid (by first | exact (HE0.out : Below w.heap.size w _).grown hgrow HE0.out.size (fun q hq => by cases hq) | exact ((HE0.out.alloc _) : Below w.heap.size w _).grown hgrow (HE0.out.alloc _).size (fun q hq => by cases hq)); have HR1 : Hid (Ext wr w1) := Lib.hid (by first | exact (HR0.out : Below wr.heap.size wr _).grown hgrow HR0.out.size (fun q hq => by cases hq) | exact ((HR0.out.alloc _) : Below wr.heap.size wr _).grown hgrow (HR0.out.alloc _).size (fun q hq => by cases hq)); (try have HL1 := Lib.hid ((Rd.lit ((wr.drewN nq).drew) #[.string ⟨x.nm.toArray⟩, .string ⟨x.da.toArray⟩, .int .i64 (x.sy : Int)] 60).ext ((Ext.refl _ : Below _ _ _).grown hgrow (Nat.le_refl _) (fun q hq => by cases hq)))); obtain ⟨qf, qg, qh, qi, qj⟩ := HS.out _ HR1.out; obtain ⟨rf, rg, rh, ri, rj⟩ := HS.out _ (HR1.out.alloc (.cells #[.string ⟨x.nm.toArray⟩, .string ⟨x.da.toArray⟩, .int .i64 (x.sy : Int)] 60)); have HOw1 := Lib.hid hown; have HGr1 := Lib.hid hgrow; clear hown hgrow hat)
                 | (refine step_append_row rfl (.tmp 34) (.tmp 36) 36 rfl wr.heap.size 60 _ 3 40 Try.underlying36 info_f (by decide) (by decide) v1 (0 + 0) ([] ++ cs3 (ρ.L.take 0)) rfl (by first | exact HOw1.out | exact row_ext HOw1.out (ext_a1 _ _)) _ _ _ (c3 x) rfl rfl (fun h => by cases h) (by first | exact HL1.out | exact Rd.lit _ _ _) (fun u hu => cs3_one [x] u (by simpa [cs3] using hu)) (by unfold maxLen; omega) (by omega) (by first | exact HR1.out.size | exact (HR1.out.alloc _).size) ?_; intro v2 w2 hown hgrow hat; have HR2 : Hid (Ext wr w2) := Lib.hid (by first | exact (HR1.out : Below wr.heap.size wr _).grown hgrow HR1.out.size (fun q hq => (row_lt HOw1.out q hq).1) | exact ((HR1.out.alloc _) : Below wr.heap.size wr _).grown hgrow (HR1.out.alloc _).size (fun q hq => (row_lt HOw1.out q hq).1)); obtain ⟨qk, ql, qm, qn, qo⟩ := HS.out _ HR2.out; have HOw2 := Lib.hid hown; have HGr2 := Lib.hid hgrow; clear hown hgrow hat)
                 | (refine step_append_row rfl (.tmp 37) (.tmp 43) 36 rfl wr.heap.size 60 _ 3 40 Try.underlying36 info_f (by decide) (by decide) v2 (0 + 0 + 1) ([] ++ cs3 (ρ.L.take 0) ++ c3 x) rfl HOw2.out _ _ _ (cs3 (ρ.L.drop 0)) rfl (by rw [cs3_len, List.length_drop, HN.out]) (fun _ => rfl) (HRd2.out _ HR2.out) (cs3_one _) (by unfold maxLen; omega) (by omega) HR2.out.size ?_; intro v3 w3 hown hgrow hat; have HR3 : Hid (Ext wr w3) := Lib.hid ((HR2.out : Below wr.heap.size wr _).grown hgrow HR2.out.size (fun q hq => (row_lt HOw2.out q hq).1)); obtain ⟨qp, qq, qr, qs, qt⟩ := HS.out _ HR3.out; obtain ⟨a3, c3', rfl⟩ := row_slice hown; have HOw3 := Lib.hid hown; clear hown hgrow hat))
        all_goals
          have hr := HOw3.out
          have he : ([] ++ cs3 (ρ.L.take 0) ++ c3 x ++ cs3 (ρ.L.drop 0)) = cs3 (insN FM.nm x ρ.L) := by rw [HIns.out, cs3_append, cs3_cons]; simp [List.append_assoc]
          rw [he] at hr
          simp only [Nat.zero_add] at hr
          have HFin := Lib.hid (RkS.pre HW.out HLt.out ((H.out.ext HW.out).newRow HR3.out hr (by have := HN.out; rw [insN_length]; omega) HOk.out))
          clear hr he
          (try go_wp2_with fail) <;> exact bodyPost_end (v := .tuple #[]) (results_none rfl _ _ _) rfl ⟨rfl, HFin.out⟩

      · obtain ⟨rfl, hcc⟩ : ao = some ⟨g, 0, none⟩ ∧ cap' = cap := by cases hv; exact ⟨rfl, rfl⟩
        rw [HN.out, hcc] at hc1
        rw [hcc] at hc2
        clear hall hx hik hv hcc
        go_wp2_with fail
        go_quiet (fail)
        go_wp2_with fail
        have HW : Hid (Ext w wr) := Lib.hid (by have h := HX.out; rw [← hW0] at h; exact (ext_a1 _ _).trans h)
        have HIns : Hid (insN FM.nm x ρ.L = ρ.L.take k ++ x :: ρ.L.drop k) := Lib.hid (ins_at x ρ.L k (by rw [HN.out]; exact hk) HAll.out (fun f hf => by rw [List.getElem?_eq_none (by rw [HN.out]; omega)] at hf; cases hf) HNo.out)
        have hkn : k ≤ n := hk
        have hcn : n ≤ cap := hc1
        have hi0 : (0 : Int) ≤ (k : Int) := by omega
        have hi1 : (k : Int) ≤ (cap : Int) := by omega
        have hi2 : (k : Int) ≤ (n : Int) := by omega
        have hi4 : (n : Int) ≤ (cap : Int) := by omega
        have HE0 : Hid (Ext w (wr.drewN nq).drew) := Lib.hid ((HW.out.drewN nq).drew)
        have HIw := Lib.hid (HI.out)
        have HS : Hid (∀ W, Ext wr W → W.cell? ⟨r, 1, none⟩ = some (.slice (some ⟨g, 0, none⟩) n cap) ∧ W.frozen? ⟨r, 1, none⟩ = false ∧ W.cell? ⟨w.heap.size, 0, none⟩ = some (.string ⟨x.nm.toArray⟩) ∧ W.cell? ⟨w.heap.size, 1, none⟩ = some (.string ⟨x.da.toArray⟩) ∧ W.cell? ⟨w.heap.size, 2, none⟩ = some (.int .i64 (x.sy : Int))) := Lib.hid fun W hW => by
          have hb := (HB0.out.ext HX.out).ext hW
          exact ⟨cell_ext hW d1, (HHead.out.ext hW).free 1, hb.cell 0, hb.cell 1, hb.cell 2⟩
        have HR0 : Hid (Ext wr (wr.drewN nq).drew) := Lib.hid (((Ext.refl wr).drewN nq).drew)
        obtain ⟨qa, qb, qc, qd, qe⟩ := HS.out _ HR0.out
        obtain ⟨ra, rb', rc, rd, re⟩ := HS.out ((wr.drewN (nq + 1)).alloc (.cells #[.string ⟨x.nm.toArray⟩, .string ⟨x.da.toArray⟩, .int .i64 (x.sy : Int)] 60)) (HR0.out.alloc (.cells #[.string ⟨x.nm.toArray⟩, .string ⟨x.da.toArray⟩, .int .i64 (x.sy : Int)] 60))
        have HRd : Hid (∀ W, Ext wr W → Rd W (some ⟨g, 0, none⟩) (cs3 ρ.L)) := Lib.hid fun W hW => by
          obtain ⟨ao', cap', e, _, _, _, hr⟩ := HRow.out.rd
          cases e
          exact hr.ext hW
        have HRd2 : Hid (∀ W, Ext wr W → Rd W (if cap = k then some ⟨g, 0, none⟩ else some ⟨g, k * 3, none⟩) (cs3 (ρ.L.drop k))) := Lib.hid fun W hW => by
          split
          · rename_i hc
            rw [List.drop_of_length_le (by rw [HN.out]; omega)]
            exact Rd.nil _ _
          · have h := (HRd.out W hW).drop (k * 3)
            rw [cs3_drop, Nat.zero_add] at h
            exact h
        go_region_law
          (first | (refine step_append_row rfl (.const (.slice none 0 0)) (.tmp 33) 36 rfl wr.heap.size 60 _ 3 40 Try.underlying36 info_f (by decide) (by decide) (.slice none 0 0) 0 [] rfl (World.ownsRow_nil _ _ _ _) (some ⟨g, 0, none⟩) k cap (cs3 (ρ.L.take k)) rfl (by rw [cs3_len, List.length_take, HN.out]; omega) (fun h => by cases h) (by rw [← cs3_take]; exact (HRd.out _ (by first | exact HR0.out | exact HR0.out.alloc _)).take _) (cs3_one _) (by unfold maxLen; omega) (by omega) (by first | exact HR0.out.size | exact (HR0.out.alloc _).size) ?_; intro v1 w1 hown hgrow hat; have HX1 : Hid (Ext w w1) := Lib.hid (by first | exact (HE0.out : Below w.heap.size w _).grown hgrow HE0.out.size (fun q hq => by cases hq) | exact ((HE0.out.alloc _) : Below w.heap.size w _).grown hgrow (HE0.out.alloc _).size (fun q hq => by cases hq)); have HR1 : Hid (Ext wr w1) := Lib.hid (by first | exact (HR0.out : Below wr.heap.size wr _).grown hgrow HR0.out.size (fun q hq => by cases hq) | exact ((HR0.out.alloc _) : Below wr.heap.size wr _).grown hgrow (HR0.out.alloc _).size (fun q hq => by cases hq)); (try have HL1 := Lib.hid ((Rd.lit ((wr.drewN nq).drew) #[.string ⟨x.nm.toArray⟩, .string ⟨x.da.toArray⟩, .int .i64 (x.sy : Int)] 60).ext ((Ext.refl _ : Below _ _ _).grown hgrow (Nat.le_refl _) (fun q hq => by cases hq)))); obtain ⟨qf, qg, qh, qi, qj⟩ := HS.out _ HR1.out; obtain ⟨rf, rg, rh, ri, rj⟩ := HS.out _ (HR1.out.alloc (.cells #[.string ⟨x.nm.toArray⟩, .string ⟨x.da.toArray⟩, .int .i64 (x.sy : Int)] 60)); have HOw1 := Lib.hid hown; have HGr1 := Lib.hid hgrow; clear hown hgrow hat)
                 | (refine step_append_row rfl (.tmp 34) (.tmp 36) 36 rfl wr.heap.size 60 _ 3 40 Try.underlying36 info_f (by decide) (by decide) v1 (0 + k) ([] ++ cs3 (ρ.L.take k)) rfl (by first | exact HOw1.out | exact row_ext HOw1.out (ext_a1 _ _)) _ _ _ (c3 x) rfl rfl (fun h => by cases h) (by first | exact HL1.out | exact Rd.lit _ _ _) (fun u hu => cs3_one [x] u (by simpa [cs3] using hu)) (by unfold maxLen; omega) (by omega) (by first | exact HR1.out.size | exact (HR1.out.alloc _).size) ?_; intro v2 w2 hown hgrow hat; have HR2 : Hid (Ext wr w2) := Lib.hid (by first | exact (HR1.out : Below wr.heap.size wr _).grown hgrow HR1.out.size (fun q hq => (row_lt HOw1.out q hq).1) | exact ((HR1.out.alloc _) : Below wr.heap.size wr _).grown hgrow (HR1.out.alloc _).size (fun q hq => (row_lt HOw1.out q hq).1)); obtain ⟨qk, ql, qm, qn, qo⟩ := HS.out _ HR2.out; have HOw2 := Lib.hid hown; have HGr2 := Lib.hid hgrow; clear hown hgrow hat)
                 | (refine step_append_row rfl (.tmp 37) (.tmp 43) 36 rfl wr.heap.size 60 _ 3 40 Try.underlying36 info_f (by decide) (by decide) v2 (0 + k + 1) ([] ++ cs3 (ρ.L.take k) ++ c3 x) rfl HOw2.out _ _ _ (cs3 (ρ.L.drop k)) rfl (by rw [cs3_len, List.length_drop, HN.out]) (fun h => by split at h <;> cases h) (HRd2.out _ HR2.out) (cs3_one _) (by unfold maxLen; omega) (by omega) HR2.out.size ?_; intro v3 w3 hown hgrow hat; have HR3 : Hid (Ext wr w3) := Lib.hid ((HR2.out : Below wr.heap.size wr _).grown hgrow HR2.out.size (fun q hq => (row_lt HOw2.out q hq).1)); obtain ⟨qp, qq, qr, qs, qt⟩ := HS.out _ HR3.out; obtain ⟨a3, c3', rfl⟩ := row_slice hown; have HOw3 := Lib.hid hown; clear hown hgrow hat))
        all_goals
          have hr := HOw3.out
          have he : ([] ++ cs3 (ρ.L.take k) ++ c3 x ++ cs3 (ρ.L.drop k)) = cs3 (insN FM.nm x ρ.L) := by rw [HIns.out, cs3_append, cs3_cons]; simp [List.append_assoc]
          rw [he] at hr
          simp only [Nat.zero_add] at hr
          have HFin := Lib.hid (RkS.pre HW.out HLt.out ((H.out.ext HW.out).newRow HR3.out hr (by have := HN.out; rw [insN_length]; omega) HOk.out))
          clear hr he
          (try go_wp2_with fail) <;> exact bodyPost_end (v := .tuple #[]) (results_none rfl _ _ _) rfl ⟨rfl, HFin.out⟩

end Go.Proofs.Ytmpiepkkikmpmaa
namespace Go.Proofs.Ytmpiepkkikmpmaa
open Go.RowKit

/-- the document's disk plays this one, for B changes more -/
def RR (w : World) (r : Nat) (F : Nat → Prop) (B : Nat) (σ : DM) (w' : World) : Prop := ∃ fl, RkS w r F (rm σ fl) w' ∧ FlOk B σ fl
section
variable {w w1 w2 : World} {r B : Nat} {F : Nat → Prop} {σ σ1 : DM} {ρ : RM} {fl : Int}
theorem RR.same (h : Rk w r F (rm σ fl)) (hf : FlOk (B + 1) σ fl) : RR w r F B σ w := ⟨fl, RkS.refl h, hf.less (Nat.le_succ B)⟩
theorem Rk.down (h : Rk w r F ρ) : w.cell? ⟨r, 3, none⟩ = some (.bool ρ.down) := by obtain ⟨_, v, kv, hi, _⟩ := h; exact hi.head.cell 3
theorem Rk.at (h : Rk w r F ρ) {k : Nat} (hk : k < ρ.L.length) :
    ∃ g cap, w.cell? ⟨r, 1, none⟩ = some (.slice (some ⟨g, 0, none⟩) ρ.L.length cap) ∧ w.cell? ⟨g, k * 3, none⟩ = some (.string ⟨ρ.L[k].nm.toArray⟩) ∧ w.cell? ⟨g, k * 3 + 1, none⟩ = some (.string ⟨ρ.L[k].da.toArray⟩) ∧ w.cell? ⟨g, k * 3 + 2, none⟩ = some (.int .i64 (ρ.L[k].sy : Int)) ∧
    (∀ j, w.frozen? ⟨g, j, none⟩ = false) ∧ ρ.L.length ≤ cap ∧ cap ≤ 9223372036854775807 := by
  obtain ⟨_, v, kv, hi, _, _⟩ := h
  obtain ⟨g, cap, rfl, h1, h2, h3, h4, h5, h6⟩ := hi.at hk
  exact ⟨g, cap, hi.head.cell 1, h1, h2, h3, h4, h5, h6⟩
theorem Rk.store (h : Rk w r F ρ) {g n cap : Nat} (hv : w.cell? ⟨r, 1, none⟩ = some (.slice (some ⟨g, 0, none⟩) n cap)) {k : Nat} (hk : k < ρ.L.length) (j : Nat) (hj : j < 3) (u : Value) (f : FM) (e : (c3 ρ.L[k]).set j u = c3 f) (ho : okR { ρ with L := ρ.L.set k f }) :
    RkS w r F { ρ with L := ρ.L.set k f } (w.setCell ⟨g, k * 3 + j, none⟩ u) := by
  obtain ⟨_, v, kv, hi, hin, hF⟩ := h
  obtain rfl : v = .slice (some ⟨g, 0, none⟩) n cap := Option.some.inj ((hi.head.cell 1).symm.trans hv)
  exact RkS.mk' ho (hi.putF rfl hk j hj u f e) (fun i hi => .inl (hin i hi)) hF (OffS.set w (hin g (.inr (.inl rfl))) _ _)
theorem Rk.putHead (h : Rk w r F ρ) {ρ' : RM} (j : Nat) (u : Value) (e : ∀ v kv, (rhead ρ v kv).setIfInBounds j u = rhead ρ' v kv) (hL : ρ'.L = ρ.L) (hk : ρ'.keep = ρ.keep) (ho : okR ρ') : RkS w r F ρ' (w.setCell ⟨r, j, none⟩ u) := by
  obtain ⟨_, v, kv, hi, hin, hF⟩ := h
  exact RkS.mk' ho (hi.put j u (e v kv) hL hk) (fun i hi => .inl (hin i hi)) hF (OffS.set w (hin r (.inl rfl)) _ _)
theorem set_same {L : List FM} {k : Nat} (h : k < L.length) : L.set k L[k] = L := List.set_getElem_self h
end

set_option maxRecDepth 100000
set_option linter.unusedVariables false
set_option maxHeartbeats 6400000

theorem rsize_c {w : World} {r : Nat} {F : Nat → Prop} {σ : DM} {fl : Int} (h : Rk w r F (rm σ fl)) (nm : List UInt8) :
    Calls Try.prog 33 #[.pointer (some ⟨r, 0, none⟩), .string ⟨nm.toArray⟩] w fun e w' => e = .returned (.tuple #[.int .i64 (sizeM σ nm).1, .int .i64 (sizeM σ nm).2]) ∧ w = w' := by
  have H := Lib.hid h
  have HO := Lib.hid h.1.ord
  have d3 : w.cell? ⟨r, 3, none⟩ = some (.bool σ.down) := h.down
  clear h
  cases hd : σ.down with
  | true =>
    rw [hd] at d3
    have HM : Hid (sizeM σ nm = (0, 61)) := Lib.hid (by unfold sizeM; rw [if_pos hd])
    rw [HM.out]
    clear hd
    go_enter Try.func33, Try.ntmps33
    go_wp2_with fail
    refine (rfind_c H.out nm).mono ?_
    rintro e w' ⟨⟨i, rfl, hpos⟩, rfl⟩
    clear hpos
    go_wp2_with fail
    go_ret2
    exact ⟨rfl, rfl⟩
  | false =>
    rw [hd] at d3
    have HD := Lib.hid hd
    clear hd
    go_enter Try.func33, Try.ntmps33
    go_wp2_with fail
    refine (rfind_c H.out nm).mono ?_
    rintro e w' ⟨⟨i, rfl, hpos⟩, rfl⟩
    rcases hpos with ⟨rfl, hno⟩ | ⟨k, hk, rfl, he⟩
    · have HM : Hid (sizeM σ nm = (0, 4)) := Lib.hid (by unfold sizeM; rw [if_neg (by rw [HD.out]; decide), findN_of_none (l := σ.L) hno])
      clear hno
      go_wp2_with fail
      go_ret2
      rw [HM.out]
      exact ⟨rfl, rfl⟩
    · have hfd : findN FM.nm nm σ.L = some (σ.L[k]'hk) := pos_find (L := σ.L) HO.out hk he
      have HM : Hid (sizeM σ nm = (((σ.L[k]'hk).da.length : Int), 0)) := Lib.hid (by unfold sizeM; rw [if_neg (by rw [HD.out]; decide), hfd])
      obtain ⟨g, cap, q, -, q1, -, -, hc1, hc2⟩ := H.out.at hk
      have hk2 : k < (rm σ fl).L.length := hk
      obtain ⟨da, hda⟩ : ∃ da, (σ.L[k]'hk).da = da := ⟨_, rfl⟩
      rw [hda] at HM
      have q1' : w.cell? ⟨g, k * 3 + 1, none⟩ = some (.string ⟨da.toArray⟩) := by rw [← hda]; exact q1
      obtain ⟨n, hn⟩ : ∃ n, (rm σ fl).L.length = n := ⟨_, rfl⟩
      rw [hn] at q hc1 hk2
      clear hfd hda hn he q1
      go_wp2_with fail
      go_ret2
      rw [HM.out]
      exact ⟨rfl, rfl⟩

theorem rstart_c {w : World} {r B : Nat} {F : Nat → Prop} {σ : DM} {fl : Int} (h : Rk w r F (rm σ fl)) (ho : okD σ) (hf : FlOk (B + 1) σ fl) :
    Calls Try.prog 13 #[.pointer (some ⟨r, 0, none⟩)] w fun e w' => e = .returned (.int .i64 (startM σ).1) ∧ RR w r F B (startM σ).2 w' := by
  have H := Lib.hid h; have HO := Lib.hid ho; have HF := Lib.hid hf
  have d3 : w.cell? ⟨r, 3, none⟩ = some (.bool σ.down) := h.down
  obtain ⟨_, v, kv, hi, -, -⟩ := h
  have d4 : w.cell? ⟨r, 4, none⟩ = some (.int .i64 σ.starts) := hi.head.cell 4
  have z3 := hi.head.free 3; have z4 := hi.head.free 4
  clear hi hf ho
  cases hd : σ.down with
  | false =>
    rw [hd] at d3
    have HM : Hid (startM σ = (2, σ)) := Lib.hid (by unfold startM; rw [if_neg (by rw [hd]; decide)])
    rw [HM.out]
    clear hd
    go_enter Try.func13, Try.ntmps13
    go_wp2_with fail
    go_ret
    exact ⟨rfl, RR.same H.out HF.out⟩
  | true =>
    rw [hd] at d3
    have HM : Hid (startM σ = (0, { σ with down := false, starts := wrap64 (σ.starts + 1) })) := Lib.hid (by unfold startM; rw [if_pos hd])
    have HFin : Hid (RkS w r F (rm { σ with down := false, starts := wrap64 (σ.starts + 1) } fl) ((w.setCell ⟨r, 3, none⟩ (.bool false)).setCell ⟨r, 4, none⟩ (.int .i64 (wrap64 (σ.starts + 1))))) := Lib.hid (by
      have hr := HF.out.rng
      have a1 := H.out.putHead (ρ' := rm { σ with down := false } fl) 3 (.bool false) (fun _ _ => rfl) rfl rfl (okR_rm (HO.out.start σ.starts) hr.1 hr.2)
      exact a1.trans (a1.rk.putHead (ρ' := rm { σ with down := false, starts := wrap64 (σ.starts + 1) } fl) 4 _ (fun _ _ => rfl) rfl rfl (okR_rm (HO.out.start _) hr.1 hr.2)))
    rw [HM.out]
    clear hd
    go_enter Try.func13, Try.ntmps13
    go_wp2_with fail
    go_ret
    exact ⟨rfl, fl, HFin.out, (HF.out.less (Nat.le_succ B)).like rfl rfl⟩

theorem rsync_c {w : World} {r B : Nat} {F : Nat → Prop} {σ : DM} {fl : Int} (h : Rk w r F (rm σ fl)) (ho : okD σ) (hf : FlOk (B + 1) σ fl) (nm : List UInt8) :
    Calls Try.prog 28 #[.pointer (some ⟨r, 0, none⟩), .string ⟨nm.toArray⟩] w fun e w' => e = .returned (.int .i64 (syncM σ nm).1) ∧ RR w r F B (syncM σ nm).2 w' := by
  have H := Lib.hid h; have HO := Lib.hid ho; have HF := Lib.hid hf
  have d3 : w.cell? ⟨r, 3, none⟩ = some (.bool σ.down) := h.down
  clear h ho hf
  cases hd : σ.down with
  | true =>
    rw [hd] at d3
    have HM : Hid (syncM σ nm = (61, σ)) := Lib.hid (by unfold syncM; rw [if_pos hd])
    rw [HM.out]
    clear hd
    go_enter Try.func28, Try.ntmps28
    go_wp2_with fail
    refine (rfind_c H.out nm).mono ?_
    rintro e w' ⟨⟨i, rfl, hpos⟩, rfl⟩
    clear hpos
    go_wp2_with fail
    go_ret
    exact ⟨rfl, RR.same H.out HF.out⟩
  | false =>
    rw [hd] at d3
    have HD := Lib.hid hd
    clear hd
    go_enter Try.func28, Try.ntmps28
    go_wp2_with fail
    refine (rfind_c H.out nm).mono ?_
    rintro e w' ⟨⟨i, rfl, hpos⟩, rfl⟩
    rcases hpos with ⟨rfl, hno⟩ | ⟨k, hk, rfl, he⟩
    · have HM : Hid (syncM σ nm = (4, σ)) := Lib.hid (by unfold syncM; rw [if_neg (by rw [HD.out]; decide), findN_of_none (l := σ.L) hno]; rfl)
      clear hno
      go_wp2_with fail
      go_ret
      rw [HM.out]
      exact ⟨rfl, RR.same H.out HF.out⟩
    have hfd : findN FM.nm nm σ.L = some (σ.L[k]'hk) := pos_find (L := σ.L) HO.out.ord hk he
    have HFd := Lib.hid hfd
    have HHk : Hid (k < σ.L.length) := Lib.hid hk
    have HHe : Hid ((σ.L[k]'hk).nm = nm) := Lib.hid he
    clear hfd he
    go_wp2_with fail
    refine (rchange_c H.out HO.out HF.out).mono ?_
    rintro e w1 ⟨rfl, fl1, hs1, hfl1⟩
    have HS := Lib.hid hs1; have HL1 := Lib.hid hfl1
    clear hs1 hfl1 d3
    cases hq : failsM σ with
    | true =>
      have HM : Hid (syncM σ nm = (61, sinkM σ)) := Lib.hid (by unfold syncM; rw [if_neg (by rw [HD.out]; decide), HFd.out, if_neg (by simp), if_pos hq])
      clear hq
      go_wp2_with fail
      refine (rsunk_c HS.out.rk HD.out).mono ?_
      rintro e w2 ⟨rfl, hs⟩
      have HS2 := Lib.hid (HS.out.trans hs)
      clear hs
      go_wp2_with fail
      go_ret
      rw [HM.out]
      exact ⟨rfl, 0, HS2.out, fl_crash B σ σ.keep⟩
    | false =>
      have HFq := Lib.hid (HL1.out hq)
      have HM : Hid (syncM σ nm = (0, { tickM σ with L := updN FM.nm nm (fun f => { f with sy := f.da.length }) σ.L })) := Lib.hid (by unfold syncM; rw [if_neg (by rw [HD.out]; decide), HFd.out, if_neg (by simp), if_neg (by rw [hq]; decide)])
      clear hq
      have hSd := HS.out.rk.ext (Ext.refl w1).drew
      obtain ⟨g, cap, q, -, q1, q2, hz, hc1, hc2⟩ := hSd.at (k := k) hk
      obtain ⟨f, hfe⟩ : ∃ f, σ.L[k]'hk = f := ⟨_, rfl⟩
      have hu := pos_upd (L := σ.L) HO.out.ord hk HHe.out (fun f => { f with sy := f.da.length })
      rw [hfe] at hu
      have HSt : Hid (RkS w r F (rm { tickM σ with L := updN FM.nm nm (fun f => { f with sy := f.da.length }) σ.L } fl1) (w1.drew.setCell ⟨g, k * 3 + 2, none⟩ (.int .i64 (f.da.length : Int)))) := Lib.hid (by
        have hok := okR_rm (fl := fl1) (HO.out.sync HFd.out).1 (HFq.out.rng).1 (HFq.out.rng).2
        rw [hu] at hok ⊢
        have a1 := hSd.store q (k := k) hk 2 (by omega) (.int .i64 (f.da.length : Int)) { f with sy := f.da.length } (show (c3 (σ.L[k]'hk)).set 2 (.int .i64 (f.da.length : Int)) = c3 { f with sy := f.da.length } by rw [hfe]; rfl) hok
        exact (HS.out.ext (Ext.refl w1).drew).trans a1)
      have q1' : w1.drew.cell? ⟨g, k * 3 + 1, none⟩ = some (.string ⟨f.da.toArray⟩) := by rw [← hfe]; exact q1
      have q2' : w1.drew.cell? ⟨g, k * 3 + 2, none⟩ = some (.int .i64 (f.sy : Int)) := by rw [← hfe]; exact q2
      have z2 := hz (k * 3 + 2)
      have hk2 : k < (rm σ fl1).L.length := hk
      obtain ⟨n, hn⟩ : ∃ n, (rm σ fl1).L.length = n := ⟨_, rfl⟩
      rw [hn] at q hc1 hk2
      have hbd : f.da.length ≤ 9223372036854775807 := by
        have h1 : f.da.length ≤ usedM σ.L := by rw [← hfe]; exact usedM_mem (List.getElem_mem hk)
        have h2 := HO.out.used; have h3 := HO.out.cap1
        omega
      clear hSd hz hu hfe hn q1 q2
      go_wp2_with fail
      refine wp_tail_drew 16 (by kernel_rfl) (by kernel_rfl) ?_
      simp only [List.take_succ_cons, List.take_zero, List.drop_succ_cons, List.drop_zero]
      repeat still_step
      refine wpStill_nil ?_
      go_wp2_with fail
      go_ret
      rw [HM.out]
      exact ⟨rfl, fl1, HSt.out, HFq.out⟩

theorem rdelete_c {w : World} {r B : Nat} {F : Nat → Prop} {σ : DM} {fl : Int} (h : Rk w r F (rm σ fl)) (ho : okD σ) (hf : FlOk (B + 1) σ fl) (nm : List UInt8) :
    Calls Try.prog 32 #[.pointer (some ⟨r, 0, none⟩), .string ⟨nm.toArray⟩] w fun e w' => e = .returned (.int .i64 (deleteM σ nm).1) ∧ RR w r F B (deleteM σ nm).2 w' := by
  have H := Lib.hid h; have HO := Lib.hid ho; have HF := Lib.hid hf
  have d3 : w.cell? ⟨r, 3, none⟩ = some (.bool σ.down) := h.down
  clear h ho hf
  cases hd : σ.down with
  | true =>
    rw [hd] at d3
    have HM : Hid (deleteM σ nm = (61, σ)) := Lib.hid (by unfold deleteM; rw [if_pos hd])
    rw [HM.out]
    clear hd
    go_enter Try.func32, Try.ntmps32
    go_wp2_with fail
    refine (rfind_c H.out nm).mono ?_
    rintro e w' ⟨⟨i, rfl, hpos⟩, rfl⟩
    clear hpos
    go_wp2_with fail
    go_ret
    exact ⟨rfl, RR.same H.out HF.out⟩
  | false =>
    rw [hd] at d3
    have HD := Lib.hid hd
    clear hd
    go_enter Try.func32, Try.ntmps32
    go_wp2_with fail
    refine (rfind_c H.out nm).mono ?_
    rintro e w' ⟨⟨i, rfl, hpos⟩, rfl⟩
    rcases hpos with ⟨rfl, hno⟩ | ⟨k, hk, rfl, he⟩
    · have HM : Hid (deleteM σ nm = (4, σ)) := Lib.hid (by unfold deleteM; rw [if_neg (by rw [HD.out]; decide), findN_of_none (l := σ.L) hno]; rfl)
      clear hno
      go_wp2_with fail
      go_ret
      rw [HM.out]
      exact ⟨rfl, RR.same H.out HF.out⟩
    have hfd : findN FM.nm nm σ.L = some (σ.L[k]'hk) := pos_find (L := σ.L) HO.out.ord hk he
    have HFd := Lib.hid hfd
    have HHk : Hid (k < σ.L.length) := Lib.hid hk
    have HHe : Hid ((σ.L[k]'hk).nm = nm) := Lib.hid he
    clear hfd he
    go_wp2_with fail
    refine (rchange_c H.out HO.out HF.out).mono ?_
    rintro e w1 ⟨rfl, fl1, hs1, hfl1⟩
    have HS := Lib.hid hs1; have HL1 := Lib.hid hfl1
    clear hs1 hfl1 d3
    cases hq : failsM σ with
    | true =>
      have HM : Hid (deleteM σ nm = (61, sinkM σ)) := Lib.hid (by unfold deleteM; rw [if_neg (by rw [HD.out]; decide), HFd.out, if_neg (by simp), if_pos hq])
      clear hq
      go_wp2_with fail
      refine (rsunk_c HS.out.rk HD.out).mono ?_
      rintro e w2 ⟨rfl, hs⟩
      have HS2 := Lib.hid (HS.out.trans hs)
      clear hs
      go_wp2_with fail
      go_ret
      rw [HM.out]
      exact ⟨rfl, 0, HS2.out, fl_crash B σ σ.keep⟩
    | false =>
      have HFq := Lib.hid (HL1.out hq)
      have HM : Hid (deleteM σ nm = (0, { tickM σ with L := delN FM.nm nm σ.L })) := Lib.hid (by unfold deleteM; rw [if_neg (by rw [HD.out]; decide), HFd.out, if_neg (by simp), if_neg (by rw [hq]; decide)])
      clear hq
      have HDl := Lib.hid (pos_del (L := σ.L) HO.out.ord hk HHe.out)
      go_wp2_with fail
      refine (rtake_c HS.out.rk (i := k) hk).mono ?_
      rintro e w2 ⟨rfl, hs⟩
      have HS2 : Hid (RkS w r F (rm { tickM σ with L := delN FM.nm nm σ.L } fl1) w2) := Lib.hid (by rw [HDl.out]; exact HS.out.trans hs)
      clear hs
      go_wp2_with fail
      go_ret
      rw [HM.out]
      exact ⟨rfl, fl1, HS2.out, HFq.out⟩

end Go.Proofs.Ytmpiepkkikmpmaa
namespace Go.Proofs.Ytmpiepkkikmpmaa
open Go.RowKit

theorem Rk.cap0 {w : World} {r : Nat} {F : Nat → Prop} {ρ : RM} (h : Rk w r F ρ) : w.cell? ⟨r, 0, none⟩ = some (.int .i64 ρ.cap) := by obtain ⟨_, v, kv, hi, _⟩ := h; exact hi.head.cell 0

set_option maxRecDepth 100000
set_option linter.unusedVariables false
set_option maxHeartbeats 6400000

theorem rappend_c {w : World} {r B : Nat} {F : Nat → Prop} {σ : DM} {fl : Int} (h : Rk w r F (rm σ fl)) (ho : okD σ) (hf : FlOk (B + 1) σ fl) (nm s : List UInt8) (hsl : (s.length : Int) ≤ 1000000) :
    Calls Try.prog 38 #[.pointer (some ⟨r, 0, none⟩), .string ⟨nm.toArray⟩, .string ⟨s.toArray⟩] w fun e w' => e = .returned (.int .i64 (appendM σ nm s).1) ∧ RR w r F B (appendM σ nm s).2 w' := by
  have H := Lib.hid h; have HO := Lib.hid ho; have HF := Lib.hid hf
  have d3 : w.cell? ⟨r, 3, none⟩ = some (.bool σ.down) := h.down
  have d0 : w.cell? ⟨r, 0, none⟩ = some (.int .i64 σ.cap) := h.cap0
  have hc0 := ho.cap0; have hc1 := ho.cap1; have hus := ho.used
  clear h ho hf
  cases hd : σ.down with
  | true =>
    rw [hd] at d3
    have HM : Hid (appendM σ nm s = (61, σ)) := Lib.hid (by unfold appendM; rw [if_pos hd])
    rw [HM.out]
    clear hd
    go_enter Try.func38, Try.ntmps38
    go_wp2_with fail
    refine (rfind_c H.out nm).mono ?_
    rintro e w' ⟨⟨i, rfl, hpos⟩, rfl⟩
    clear hpos
    go_wp2_with fail
    go_ret
    exact ⟨rfl, RR.same H.out HF.out⟩
  | false =>
    rw [hd] at d3
    have HD := Lib.hid hd
    clear hd
    go_enter Try.func38, Try.ntmps38
    go_wp2_with fail
    refine (rfind_c H.out nm).mono ?_
    rintro e w' ⟨⟨i, rfl, hpos⟩, rfl⟩
    rcases hpos with ⟨rfl, hno⟩ | ⟨k, hk, rfl, he⟩
    · have HM : Hid (appendM σ nm s = (4, σ)) := Lib.hid (by unfold appendM; rw [if_neg (by rw [HD.out]; decide), findN_of_none (l := σ.L) hno]; rfl)
      clear hno
      go_wp2_with fail
      go_ret
      rw [HM.out]
      exact ⟨rfl, RR.same H.out HF.out⟩
    have hfd : findN FM.nm nm σ.L = some (σ.L[k]'hk) := pos_find (L := σ.L) HO.out.ord hk he
    have HFd := Lib.hid hfd
    have HHe : Hid ((σ.L[k]'hk).nm = nm) := Lib.hid he
    obtain ⟨U, hU⟩ : ∃ U : Int, (usedM σ.L : Int) = U := ⟨_, rfl⟩
    have hU0 : 0 ≤ U := by omega
    have hU1 : U ≤ 1048576 := by omega
    have HUs : Hid (∀ W, Ext w W → Calls Try.prog 41 #[.pointer (some ⟨r, 0, none⟩)] W fun e w' => e = .returned (.int .i64 U) ∧ Ext W w') := Lib.hid fun W hW => by
      refine (rused_c (H.out.ext hW)).mono ?_
      rintro e w' ⟨rfl, rfl⟩
      rw [show (usedM (rm σ fl).L : Int) = U from hU]
      exact ⟨rfl, Ext.refl _⟩
    have HUe := Lib.hid hU
    have hw1 : IntKind.i64.wrap (U + (s.length : Int)) = U + (s.length : Int) := IntWalk.i64_in _ (by omega)
    have k0 := cell_of d0
    clear hfd he hU hus
    go_wp2_with fail
    refine wp_region_ext (by kernel_rfl) (by kernel_rfl) ?_
    repeat (go_big_quiet_step (fail))
    go_big_quiet_step (exact Calls.quiet_ext (HUs.out _ (ExtOf.h _)))
    repeat (go_big_quiet_step (fail))
    refine wpQuiet_nil ?_
    intro w2 hw2
    have HX2 := Lib.hid hw2
    clear hw2 k0
    by_cases hfull : σ.cap < U + (s.length : Int)
    · have HM : Hid (appendM σ nm s = (60, σ)) := Lib.hid (by unfold appendM; rw [if_neg (by rw [HD.out]; decide), HFd.out, if_neg (by simp), if_pos (by rw [HUe.out]; omega)])
      go_wp2_with fail
      go_ret
      rw [HM.out]
      exact ⟨rfl, fl, (RkS.refl H.out).ext HX2.out, HF.out.less (Nat.le_succ B)⟩
    have hnf : U + (s.length : Int) ≤ σ.cap := by omega
    have HAp := Lib.hid (HO.out.app (s := s) HFd.out (by rw [HUe.out]; exact hnf))
    have hS0 := (RkS.refl H.out).ext (HX2.out.trans (Ext.refl w2).drew)
    have hSd := hS0.rk
    obtain ⟨g, cap, q, -, q1, q2, hz, hc2, hc3⟩ := hSd.at (k := k) hk
    obtain ⟨f, hfe⟩ : ∃ f, σ.L[k]'hk = f := ⟨_, rfl⟩
    have hu := pos_upd (L := σ.L) HO.out.ord hk HHe.out (fun f => { f with da := f.da ++ s })
    rw [hfe] at hu
    obtain ⟨DA, hDA⟩ : ∃ DA, f.da ++ s = DA := ⟨_, rfl⟩
    have HSt : Hid (RkS w r F (rm (appM σ nm s) fl) (w2.drew.setCell ⟨g, k * 3 + 1, none⟩ (.string ⟨DA.toArray⟩))) := Lib.hid (by
      have hok := okR_rm (fl := fl) HAp.out.1 (HF.out.rng).1 (HF.out.rng).2
      unfold appM at hok ⊢
      rw [hu] at hok ⊢
      have a1 := hSd.store q (k := k) hk 1 (by omega) (.string ⟨DA.toArray⟩) { f with da := f.da ++ s } (show (c3 (σ.L[k]'hk)).set 1 (.string ⟨DA.toArray⟩) = c3 { f with da := f.da ++ s } by rw [hfe, ← hDA]; rfl) hok
      exact hS0.trans a1)
    have q1' : w2.drew.cell? ⟨g, k * 3 + 1, none⟩ = some (.string ⟨f.da.toArray⟩) := by rw [← hfe]; exact q1
    have z1 := hz (k * 3 + 1)
    have hk2 : k < (rm σ fl).L.length := hk
    obtain ⟨n, hn⟩ : ∃ n, (rm σ fl).L.length = n := ⟨_, rfl⟩
    rw [hn] at q hc2 hk2
    have hbd : f.da.length ≤ 1048576 := by
      have h1 : f.da.length ≤ usedM σ.L := by rw [← hfe]; exact usedM_mem (List.getElem_mem hk)
      have h2 := HUe.out
      omega
    have hbn : ¬ (9223372036854775807 < f.da.length + s.length) := by omega
    have hcat : (⟨f.da.toArray⟩ : ByteArray) ++ ⟨s.toArray⟩ = ⟨DA.toArray⟩ := by rw [ByteArray.mk_append_mk, ← hDA]; first | done | simp
    have HFl : Hid (FlOk (B + 1) (appM σ nm s) fl) := Lib.hid (HF.out.like rfl rfl)
    have HUp : Hid ((appM σ nm s).down = false) := Lib.hid HD.out
    have HMf : Hid (failsM (appM σ nm s) = true → appendM σ nm s = (61, sinkM (appM σ nm s))) := Lib.hid (fun hq => by
      unfold appendM; rw [if_neg (by rw [HD.out]; decide), HFd.out, if_neg (by simp), if_neg (by rw [HUe.out]; omega), if_pos (show failsM σ = true from hq)])
    have HMo : Hid (failsM (appM σ nm s) = false → appendM σ nm s = (0, tickM (appM σ nm s))) := Lib.hid (fun hq => by
      unfold appendM; rw [if_neg (by rw [HD.out]; decide), HFd.out, if_neg (by simp), if_neg (by rw [HUe.out]; omega), if_neg (by rw [show failsM σ = false from hq]; decide)])
    obtain ⟨σa, hσa⟩ : ∃ τ, appM σ nm s = τ := ⟨_, rfl⟩
    rw [hσa] at HSt HFl HUp HMf HMo HAp
    have HOa := Lib.hid HAp.out.1
    clear hS0 hSd hz hu hfe hn q1 q2 hDA hσa HAp hfull d0 d3
    go_wp2_with fail
    refine wp_tail_drew 17 (by kernel_rfl) (by kernel_rfl) ?_
    simp only [List.take_succ_cons, List.take_zero, List.drop_succ_cons, List.drop_zero]
    repeat still_step
    refine wpStill_nil ?_
    go_wp2_with fail
    refine (rchange_c HSt.out.rk HOa.out HFl.out).mono ?_
    rintro e w3 ⟨rfl, fl1, hs1, hfl1⟩
    have HS := Lib.hid (HSt.out.trans hs1); have HL1 := Lib.hid hfl1
    clear hs1 hfl1
    cases hq : failsM σa with
    | true =>
      have HM := Lib.hid (HMf.out hq)
      clear hq
      go_wp2_with fail
      refine (rsunk_c HS.out.rk HUp.out).mono ?_
      rintro e w4 ⟨rfl, hs⟩
      have HS2 := Lib.hid (HS.out.trans hs)
      clear hs
      go_wp2_with fail
      go_ret
      rw [HM.out]
      exact ⟨rfl, 0, HS2.out, fl_crash B σa σa.keep⟩
    | false =>
      have HM := Lib.hid (HMo.out hq)
      have HFq := Lib.hid (HL1.out hq)
      clear hq
      go_wp2_with fail
      go_ret
      rw [HM.out]
      exact ⟨rfl, fl1, HS.out, HFq.out⟩

end Go.Proofs.Ytmpiepkkikmpmaa
namespace Go.Proofs.Ytmpiepkkikmpmaa
open Go.RowKit

section
variable {w W W1 : World} {r B : Nat} {F : Nat → Prop} {σ σ1 : DM} {ρ : RM} {fl : Int}
theorem RkS.like (h : RkS w r F ρ W1) (hh : W.heap = W1.heap) (h1 : W.os = W1.os) (h2 : W.tape = W1.tape) (h3 : W.output = W1.output) : RkS w r F ρ W := by
  refine ⟨?_, ⟨h1.trans h.off.os, h2.trans h.off.tape, h3.trans h.off.output, by rw [hh]; exact h.off.size, fun i hi hn => by rw [hh]; exact h.off.block i hi hn⟩⟩
  have e : Gr F w W = Gr F w W1 := by unfold Gr; rw [hh]
  rw [e]
  exact h.rk.same (by rw [hh]; exact Nat.le_refl _) fun i _ => by rw [hh]
theorem Rk.apartG (h : Rk w r F ρ) {g n cap : Nat} (hv : w.cell? ⟨r, 1, none⟩ = some (.slice (some ⟨g, 0, none⟩) n cap)) : g ≠ r := by
  obtain ⟨_, v, kv, hi, _, _⟩ := h
  obtain rfl : v = .slice (some ⟨g, 0, none⟩) n cap := Option.some.inj ((hi.head.cell 1).symm.trans hv)
  exact fun e => hi.own_r hi.row (by decide) (by rw [e]; rfl)
theorem Rk.store2 (h : Rk w r F ρ) {g n cap : Nat} (hv : w.cell? ⟨r, 1, none⟩ = some (.slice (some ⟨g, 0, none⟩) n cap)) {k : Nat} (hk : k < ρ.L.length) (DA : List UInt8) (sy : Nat) (f : FM) (hf : ρ.L[k] = f) (ho : okR { ρ with L := ρ.L.set k ⟨f.nm, DA, sy⟩ }) :
    RkS w r F { ρ with L := ρ.L.set k ⟨f.nm, DA, sy⟩ } ((w.setCell ⟨g, k * 3 + 1, none⟩ (.string ⟨DA.toArray⟩)).setCell ⟨g, k * 3 + 2, none⟩ (.int .i64 (sy : Int))) := by
  obtain ⟨_, v, kv, hi, hin, hF⟩ := h
  obtain rfl : v = .slice (some ⟨g, 0, none⟩) n cap := Option.some.inj ((hi.head.cell 1).symm.trans hv)
  have a1 := hi.putF rfl hk 1 (by omega) (.string ⟨DA.toArray⟩) ⟨f.nm, DA, f.sy⟩ (by rw [hf]; rfl)
  have hl2 : k < (ρ.L.set k ⟨f.nm, DA, f.sy⟩).length := by rw [List.length_set]; exact hk
  have a2 := a1.putF rfl (k := k) hl2 2 (by omega) (.int .i64 (sy : Int)) ⟨f.nm, DA, sy⟩ (by
    rw [show ({ ρ with L := ρ.L.set k ⟨f.nm, DA, f.sy⟩ } : RM).L[k] = ⟨f.nm, DA, f.sy⟩ from List.getElem_set_self _]; rfl)
  have e3 : (ρ.L.set k ⟨f.nm, DA, f.sy⟩).set k ⟨f.nm, DA, sy⟩ = ρ.L.set k ⟨f.nm, DA, sy⟩ := by rw [List.set_set]
  have hg := hin g (.inr (.inl rfl))
  exact RkS.mk' ho (e3 ▸ a2) (fun i hi => .inl (hin i hi)) hF ((OffS.set w hg _ _).trans (OffS.set _ hg _ _))
end

set_option maxRecDepth 100000
set_option linter.unusedVariables false
set_option maxHeartbeats 6400000

theorem rcut_c {w : World} {r B : Nat} {F : Nat → Prop} {σ : DM} {fl : Int} (h : Rk w r F (rm σ fl)) (ho : okD σ) (hf : FlOk (B + 1) σ fl) (nm : List UInt8) (m : Int) (hm : m ≤ 9223372036854775807) :
    Calls Try.prog 37 #[.pointer (some ⟨r, 0, none⟩), .string ⟨nm.toArray⟩, .int .i64 m] w fun e w' => e = .returned (.int .i64 (cutM σ nm m).1) ∧ RR w r F B (cutM σ nm m).2 w' := by
  have H := Lib.hid h; have HO := Lib.hid ho; have HF := Lib.hid hf
  have hus := ho.used; have hc1 := ho.cap1
  clear h ho hf
  go_enter Try.func37, Try.ntmps37
  go_wp2_with fail
  refine (rfind_c H.out nm).mono ?_
  rintro e w' ⟨⟨i, rfl, hpos⟩, rfl⟩
  rcases hpos with ⟨rfl, hno⟩ | ⟨k, hk, rfl, he⟩
  · have HM : Hid (cutM σ nm m = (4, σ)) := Lib.hid (by unfold cutM; rw [findN_of_none (l := σ.L) hno]; rfl)
    clear hno
    go_wp2_with fail
    go_ret
    rw [HM.out]
    exact ⟨rfl, RR.same H.out HF.out⟩
  have hfd : findN FM.nm nm σ.L = some (σ.L[k]'hk) := pos_find (L := σ.L) HO.out.ord hk he
  have HFd := Lib.hid hfd
  by_cases hm0 : m < 0
  · have HM : Hid (cutM σ nm m = (2, σ)) := Lib.hid (by unfold cutM; rw [HFd.out, if_neg (by simp), if_pos hm0])
    clear hfd
    go_wp2_with fail
    go_ret
    rw [HM.out]
    exact ⟨rfl, RR.same H.out HF.out⟩
  have HM : Hid (cutM σ nm m = (0, { σ with L := updN FM.nm nm (cutF m.toNat) σ.L })) := Lib.hid (by unfold cutM; rw [HFd.out, if_neg (by simp), if_neg hm0])
  obtain ⟨g, cap, q, -, q1, q2, hz, hc2, hc3⟩ := H.out.at (k := k) hk
  have hgr := H.out.apartG q
  have hrg : r ≠ g := Ne.symm hgr
  obtain ⟨f, hfe⟩ : ∃ f, σ.L[k]'hk = f := ⟨_, rfl⟩
  have hu := pos_upd (L := σ.L) HO.out.ord hk he (cutF m.toNat)
  rw [hfe] at hu
  obtain ⟨M, hM⟩ : ∃ M : Nat, M = min m.toNat f.da.length := ⟨_, rfl⟩
  have hmn : min m (f.da.length : Int) = (M : Int) := by omega
  have hMl : M ≤ f.da.length := by omega
  have hmi : (M : Int) ≤ (f.da.length : Int) := by omega
  obtain ⟨Y, hY⟩ : ∃ Y : Nat, Y = min f.sy M := ⟨_, rfl⟩
  have hys : min (f.sy : Int) (M : Int) = (Y : Int) := by omega
  obtain ⟨DA, hDA⟩ : ∃ DA, List.take M f.da = DA := ⟨_, rfl⟩
  have hDl : DA.length = M := by rw [← hDA, List.length_take]; omega
  have HSt : Hid (RkS w r F (rm { σ with L := updN FM.nm nm (cutF m.toNat) σ.L } fl) ((w.setCell ⟨g, k * 3 + 1, none⟩ (.string ⟨DA.toArray⟩)).setCell ⟨g, k * 3 + 2, none⟩ (.int .i64 (Y : Int)))) := Lib.hid (by
    have hok := okR_rm (fl := fl) (HO.out.cut (n := m.toNat) HFd.out) (HF.out.rng).1 (HF.out.rng).2
    have e1 : cutF m.toNat f = ⟨f.nm, DA, Y⟩ := by
      unfold cutF
      have e2 : f.da.take m.toNat = DA := by rw [← hDA, List.take_eq_take_iff]; omega
      rw [e2, hY, hM]
    rw [hu, e1] at hok ⊢
    exact H.out.store2 q (k := k) hk DA Y f hfe hok)
  have q1' : w.cell? ⟨g, k * 3 + 1, none⟩ = some (.string ⟨f.da.toArray⟩) := by rw [← hfe]; exact q1
  have q2' : w.cell? ⟨g, k * 3 + 2, none⟩ = some (.int .i64 (f.sy : Int)) := by rw [← hfe]; exact q2
  have z1 := hz (k * 3 + 1); have z2 := hz (k * 3 + 2)
  have hk2 : k < (rm σ fl).L.length := hk
  obtain ⟨n, hn⟩ : ∃ n, (rm σ fl).L.length = n := ⟨_, rfl⟩
  rw [hn] at q hc2 hk2
  have hbd : f.da.length ≤ 1048576 := by
    have h1 : f.da.length ≤ usedM σ.L := by rw [← hfe]; exact usedM_mem (List.getElem_mem hk)
    omega
  have hsb : f.sy ≤ 1048576 := by
    have h1 : f.sy ≤ f.da.length := by rw [← hfe]; exact HO.out.sy _ (List.getElem_mem hk)
    omega
  clear hfd hz hu hfe hn q1 q2 hM hY
  go_wp2_with fail
  refine wp_tail_drew 17 (by kernel_rfl) (by kernel_rfl) ?_
  simp only [List.take_succ_cons, List.take_zero, List.drop_succ_cons, List.drop_zero]
  repeat still_step
  refine wpStill_nil ?_
  go_wp2_with fail
  refine wp_tail_drew 17 (by kernel_rfl) (by kernel_rfl) ?_
  simp only [List.take_succ_cons, List.take_zero, List.drop_succ_cons, List.drop_zero]
  repeat still_step
  refine wpStill_nil ?_
  go_wp2_with fail
  go_ret
  rw [HM.out]
  exact ⟨rfl, fl, HSt.out.like rfl rfl rfl rfl, (HF.out.less (Nat.le_succ B)).like rfl rfl⟩

theorem rread_c {w : World} {r B : Nat} {F : Nat → Prop} {σ : DM} {fl : Int} (h : Rk w r F (rm σ fl)) (ho : okD σ) (hf : FlOk (B + 1) σ fl) (nm : List UInt8) (a n : Int) (ha0 : -9223372036854775808 ≤ a) (ha1 : a ≤ 9223372036854775807) (hn0 : -9223372036854775808 ≤ n) (hn1 : n ≤ 9223372036854775807) :
    Calls Try.prog 27 #[.pointer (some ⟨r, 0, none⟩), .string ⟨nm.toArray⟩, .int .i64 a, .int .i64 n] w fun e w' => e = .returned (.tuple #[.string ⟨(readM σ nm a n).1.toArray⟩, .int .i64 (readM σ nm a n).2.1]) ∧ RR w r F B (readM σ nm a n).2.2 w' := by
  have H := Lib.hid h; have HO := Lib.hid ho; have HF := Lib.hid hf
  have d3 : w.cell? ⟨r, 3, none⟩ = some (.bool σ.down) := h.down
  have hus := ho.used; have hc1 := ho.cap1
  obtain ⟨_, v, kv, hi, -, -⟩ := h
  have d2 : w.cell? ⟨r, 2, none⟩ = some (.int .i64 σ.reads) := hi.head.cell 2
  have z2 := hi.head.free 2
  clear hi ho hf
  cases hd : σ.down with
  | true =>
    rw [hd] at d3
    have HM : Hid (readM σ nm a n = ([], 61, σ)) := Lib.hid (by unfold readM; rw [if_pos hd])
    rw [HM.out]
    clear hd
    go_enter Try.func27, Try.ntmps27
    go_wp2_with fail
    go_ret2
    exact ⟨rfl, RR.same H.out HF.out⟩
  | false =>
    rw [hd] at d3
    have HD := Lib.hid hd
    have HSt : Hid (RkS w r F (rm (tellM σ) fl) (w.setCell ⟨r, 2, none⟩ (.int .i64 (wrap64 (σ.reads + 1))))) := Lib.hid (H.out.putHead (ρ' := rm (tellM σ) fl) 2 _ (fun _ _ => rfl) rfl rfl (okR_rm HO.out.tell HF.out.rng.1 HF.out.rng.2))
    have HRR : Hid (RR w r F B (tellM σ) (w.setCell ⟨r, 2, none⟩ (.int .i64 (wrap64 (σ.reads + 1))))) := Lib.hid ⟨fl, HSt.out, (HF.out.less (Nat.le_succ B)).like rfl rfl⟩
    clear hd
    go_enter Try.func27, Try.ntmps27
    go_wp2_with fail
    refine (rfind_c HSt.out.rk nm).mono ?_
    rintro e w' ⟨⟨i, rfl, hpos⟩, rfl⟩
    rcases hpos with ⟨rfl, hno⟩ | ⟨k, hk, rfl, he⟩
    · have HM : Hid (readM σ nm a n = ([], 4, tellM σ)) := Lib.hid (by unfold readM; rw [if_neg (by rw [HD.out]; decide), findN_of_none (l := σ.L) hno])
      clear hno
      go_wp2_with fail
      go_ret2
      rw [HM.out]
      exact ⟨rfl, HRR.out⟩
    have hfd : findN FM.nm nm σ.L = some (σ.L[k]'hk) := pos_find (L := σ.L) HO.out.ord hk he
    obtain ⟨g, cap, q, -, q1, -, -, hc2, hc3⟩ := H.out.at (k := k) hk
    have hgr := H.out.apartG q
    have hrg : r ≠ g := Ne.symm hgr
    obtain ⟨f, hfe⟩ : ∃ f, σ.L[k]'hk = f := ⟨_, rfl⟩
    rw [hfe] at hfd
    have HFd := Lib.hid hfd
    have q1' : w.cell? ⟨g, k * 3 + 1, none⟩ = some (.string ⟨f.da.toArray⟩) := by rw [← hfe]; exact q1
    have hk2 : k < (rm σ fl).L.length := hk
    obtain ⟨nn, hnn⟩ : ∃ nn, (rm σ fl).L.length = nn := ⟨_, rfl⟩
    rw [hnn] at q hc2 hk2
    have hbd : f.da.length ≤ 1048576 := by
      have h1 : f.da.length ≤ usedM σ.L := by rw [← hfe]; exact usedM_mem (List.getElem_mem hk)
      omega
    have hbi : (f.da.length : Int) ≤ 1048576 := by omega
    clear hfd hfe hnn q1 he
    obtain ⟨da, hda⟩ : ∃ da, f.da = da := ⟨_, rfl⟩
    rw [hda] at q1' hbd hbi
    by_cases hok : 0 ≤ a ∧ 0 ≤ n ∧ a ≤ (da.length : Int) ∧ n ≤ (da.length : Int) - a
    case neg =>
      have HM : Hid (readM σ nm a n = ([], 2, tellM σ)) := Lib.hid (by unfold readM; rw [if_neg (by rw [HD.out]; decide), HFd.out]; simp only; rw [hda, if_neg hok])
      clear hda
      by_cases p1 : a < 0
      · go_wp2_with fail
        go_ret2
        rw [HM.out]
        exact ⟨rfl, HRR.out⟩
      by_cases p2 : n < 0
      · go_wp2_with fail
        go_ret2
        rw [HM.out]
        exact ⟨rfl, HRR.out⟩
      by_cases p3 : (da.length : Int) < a
      · go_wp2_with fail
        go_ret2
        rw [HM.out]
        exact ⟨rfl, HRR.out⟩
      have p4 : (da.length : Int) - a < n := by omega
      have hw1 : IntKind.i64.wrap ((da.length : Int) - a) = (da.length : Int) - a := IntWalk.i64_in _ (by omega)
      clear hok
      go_wp2_with fail
      go_ret2
      rw [HM.out]
      exact ⟨rfl, HRR.out⟩
    case pos =>
    obtain ⟨h1, h2, h3, h4⟩ := hok
    obtain ⟨A, rfl⟩ : ∃ A : Nat, a = (A : Int) := ⟨a.toNat, by omega⟩
    obtain ⟨T, hT⟩ : ∃ T : Nat, (T : Int) = (A : Int) + n := ⟨A + n.toNat, by omega⟩
    have HM : Hid (readM σ nm A n = ((da.take T).drop A, 0, tellM σ)) := Lib.hid (by
      unfold readM; rw [if_neg (by rw [HD.out]; decide), HFd.out]; simp only; rw [hda, if_pos ⟨h1, h2, h3, h4⟩]
      have e1 : (A : Int).toNat = A := by omega
      have e2 : n.toNat = T - A := by omega
      rw [e1, e2, List.drop_take])
    have hw1 : IntKind.i64.wrap ((da.length : Int) - (A : Int)) = (da.length : Int) - (A : Int) := IntWalk.i64_in _ (by omega)
    have hw2 : IntKind.i64.wrap ((A : Int) + n) = (T : Int) := by rw [hT]; exact IntWalk.i64_in _ (by omega)
    have hAT : (A : Int) ≤ (T : Int) := by omega
    have hTl : (T : Int) ≤ (da.length : Int) := by omega
    clear hda hT
    go_wp2_with fail
    go_ret2
    rw [HM.out]
    exact ⟨rfl, HRR.out⟩

end Go.Proofs.Ytmpiepkkikmpmaa
