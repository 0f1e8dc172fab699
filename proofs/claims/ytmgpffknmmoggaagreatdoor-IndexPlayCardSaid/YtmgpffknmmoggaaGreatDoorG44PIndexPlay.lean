/- Plain laws: a Merge of an index on a disk that is well; the last version. Walks: an index is opened (index.Open). -/
import Derived.Test.YtmgpffknmmoggaaGreatDoorG43PIndexPlay
import Derived.Test.YtmgpffknmmoggaaGreatDoorG42PIndexPlay
set_option linter.unusedVariables false
set_option linter.unusedSimpArgs false
namespace Go.Proofs.YtmgpffknmmoggaaGreatDoor
open Go.RowKit
section
variable {st : IxSt} {σ σ' : DM} {c s : Int} {φ : Fls} {u cnt : Nat} {B : List En}
theorem PInv.unionLe (h : PInv st σ c s φ u cnt B) (ns : List Int) : okM (unionE (ns.map (TL st))) ∧ (unionE (ns.map (TL st))).length ≤ B.length ∧ ∀ x ∈ unionE (ns.map (TL st)), x ∈ B := by
  have hm : ∀ x ∈ unionE (ns.map (TL st)), x ∈ B := fun x hx => by
    obtain ⟨L, hL, hx2⟩ := mem_union.1 hx
    obtain ⟨n, hn, rfl⟩ := List.mem_map.1 hL
    unfold TL at hx2
    cases he : st.t n with
    | none => rw [he] at hx2; simp at hx2
    | some e => rw [he] at hx2; exact (h.mem x).2 (.inr ⟨n, e, he, hx2⟩)
  have hl := sort_sub_len (union_sort (ns.map (TL st))) h.okB.sort hm
  exact ⟨⟨union_sort _, fun x hx => h.okB.ok x (hm x hx), by have := h.okB.len; omega⟩, hl, hm⟩
theorem PInv.merge (h : PInv st σ c s φ u cnt B) {lv : Int} {old : List Int} {L2 : List (List Int)} {f : List UInt8} (hp : pickS st.m.L lv = (old, 0)) (hrp : replaceS st.m.L lv st.m.nx = (L2, 0)) {U : List En} (hU : unionE (old.map (TL st)) = U)
    (hnx : st.m.nx < 1000000) (hcn : cnt < 397) (hr : 6000 ≤ c - (u : Int) - ((tabB U).length : Int) - (f.length : Int) - 300) :
    ∃ σ1 σ2, turnM σ (st.m.add L2 st.m.ck) st.m.nx U f = (0, some U, σ1) ∧ dropsM σ1 old = (0, σ2) ∧ ∀ b may, (∀ x ∈ U, may x.1 = true) →
      PInv ((st.put (st.m.add L2 st.m.ck) st.m.nx ⟨b, U, may⟩).del old) σ2 c s (dropF (turnF φ st.m.nx f (tabB U) (st.m.add L2 st.m.ck).S) old) (u + f.length + (tabB U).length + 300) (cnt + 3) B := by
  have hb := Man.bounds h.man
  have hnn : 0 ≤ st.m.nx ∧ st.m.nx ≤ 999999 := by omega
  obtain ⟨p1, p2, p3, p4, p5⟩ := pickS_parts (L := st.m.L) (lv := lv) (by rw [hp])
  rw [hp] at p5
  simp only at p5
  obtain ⟨_, r2, r3⟩ := replaceS_parts hrp
  have hperm := (replaceS_mem hrp).1
  rw [hp] at hperm
  simp only at hperm
  have hcast : ((st.m.nx.toNat : Nat) : Int) = st.m.nx := by omega
  have hnf : st.m.nx ∉ st.m.L.flatten := fun e => r2 (.inr e)
  have hg := (h.grow.rep (k := lv.toNat) (by omega) p4).1
  rw [hcast, ← r3] at hg
  have hndF : (st.m.L.flatten ++ [st.m.nx]).Nodup := by
    rw [List.nodup_append]
    refine ⟨hb.2.2.2.2.2.2.1, by simp, fun a ha b hb' => ?_⟩
    rw [List.mem_singleton.1 hb']
    intro e; exact hnf (e ▸ ha)
  have hnd2 := hperm.nodup_iff.2 hndF
  obtain ⟨nd1, nd2, nd3⟩ := List.nodup_append.1 hnd2
  have holdm : ∀ y ∈ old, y ∈ st.m.L.flatten := fun y hy => by
    rw [p5] at hy
    rcases Nat.lt_or_ge lv.toNat st.m.L.length with hl | hl
    · rw [List.getD_eq_getElem?_getD, List.getElem?_eq_getElem hl] at hy
      exact List.mem_flatten.2 ⟨_, List.getElem_mem hl, hy⟩
    · rw [List.getD_eq_getElem?_getD, List.getElem?_eq_none hl] at hy
      cases hy
  have hmem2 : ∀ y, y ∈ L2.flatten ↔ (y ∈ st.m.L.flatten ∧ y ∉ old) ∨ y = st.m.nx := fun y => by
    have hm := hperm.mem_iff (a := y)
    rw [List.mem_append, List.mem_append, List.mem_singleton] at hm
    constructor
    · intro hy
      have hno : y ∉ old := fun e => nd3 y hy y e rfl
      rcases hm.1 (.inl hy) with h1 | h1
      · exact .inl ⟨h1, hno⟩
      · exact .inr h1
    · rintro (⟨h1, h2⟩ | h1)
      · rcases hm.2 (.inl h1) with h3 | h3
        · exact h3
        · exact absurd h3 h2
      · rcases hm.2 (.inr h1) with h3 | h3
        · exact h3
        · exact absurd (holdm y h3) (by rw [h1]; exact hnf)
  have hmv : mvalid (st.m.add L2 st.m.ck).nx (st.m.add L2 st.m.ck).ck (st.m.add L2 st.m.ck).L = true := by
    unfold mvalid Man.add
    simp only [Bool.and_eq_true, decide_eq_true_eq, List.all_eq_true]
    exact ⟨⟨⟨by omega, by omega, by omega, by omega⟩, hg.1⟩, fun x hx => by have := hg.2 x hx; push_cast at this; omega⟩
  obtain ⟨f1, f2⟩ := h.fresh hnn hnf
  obtain ⟨ou, _, hUB⟩ := h.unionLe old
  rw [hU] at ou hUB
  obtain ⟨σ1, e1, hfl⟩ := h.fl.turn (m := st.m.add L2 st.m.ck) hmv hnn ou.sort ((sortB_iff _).2 ou.sort) ou.ok ou.len (f := f) f1 f2 h.noNew hcn hr
  have hrng : ∀ y ∈ old, (0 ≤ y ∧ y ≤ 999999) ∧ y ≠ st.m.nx := fun y hy => by
    have := h.range (holdm y hy)
    omega
  obtain ⟨σ2, e2, hfl2⟩ := Fl.drops old hfl nd2 (fun n hn => by
    obtain ⟨e, he⟩ := h.full n (holdm n hn)
    obtain ⟨t0, t1, ⟨y, t2⟩, _⟩ := h.tb n e he
    obtain ⟨o1, o2⟩ := turnF_old φ hnn (hrng n hn).1 (hrng n hn).2 f (tabB U) (st.m.add L2 st.m.ck).S
    exact ⟨(hrng n hn).1, ⟨_, o1.trans t1⟩, ⟨y, o2.trans t2⟩⟩)
  have hkeep : ∀ n, (0 ≤ n ∧ n ≤ 999999) → n ∉ old → dropF (turnF φ st.m.nx f (tabB U) (st.m.add L2 st.m.ck).S) old (nameS 116 n) = turnF φ st.m.nx f (tabB U) (st.m.add L2 st.m.ck).S (nameS 116 n) ∧
      dropF (turnF φ st.m.nx f (tabB U) (st.m.add L2 st.m.ck).S) old (nameS 98 n) = turnF φ st.m.nx f (tabB U) (st.m.add L2 st.m.ck).S (nameS 98 n) := fun n hn hno => by
    constructor
    · exact dropF_keep _ old _ fun y hy => ⟨fun e => hno ((name_inj lt116 lt116 hn (hrng y hy).1 e).2 ▸ hy), name_tb n y hn (hrng y hy).1⟩
    · exact dropF_keep _ old _ fun y hy => ⟨fun e => name_tb y n (hrng y hy).1 hn e.symm, fun e => hno ((name_inj lt98 lt98 hn (hrng y hy).1 e).2 ▸ hy)⟩
  have hnxo : st.m.nx ∉ old := fun e => (hrng _ e).2 rfl
  refine ⟨σ1, σ2, e1, e2, fun b may hth => ⟨hfl2, ⟨hmv, h.man.2⟩, fun x hx => ?_, fun n e3 he => ?_, fun nm hnm => ?_, h.okw, h.okB, fun x => ?_⟩⟩
  · unfold IxSt.del IxSt.put
    simp only
    rcases (hmem2 x).1 hx with ⟨h1, h2⟩ | h1
    · obtain ⟨e, he⟩ := h.full x h1
      refine ⟨e, ?_⟩
      rw [if_neg h2, if_neg (fun e4 : x = st.m.nx => hnf (e4 ▸ h1))]
      exact he
    · exact ⟨_, by rw [if_neg (h1 ▸ hnxo), if_pos h1]⟩
  · unfold IxSt.del IxSt.put at he
    simp only at he
    by_cases hno : n ∈ old
    · rw [if_pos hno] at he; cases he
    · rw [if_neg hno] at he
      by_cases hne : n = st.m.nx
      · rw [if_pos hne] at he
        injection he with he
        subst he
        subst hne
        obtain ⟨k1, k2⟩ := hkeep st.m.nx hnn hno
        obtain ⟨t1, t2⟩ := turnF_new φ hnn f (tabB U) (st.m.add L2 st.m.ck).S
        exact ⟨(hmem2 _).2 (.inr rfl), k1.trans t1, ⟨_, k2.trans t2⟩, ou, hth⟩
      · rw [if_neg hne] at he
        obtain ⟨t0, t1, ⟨y, t2⟩, t3, t4⟩ := h.tb n e3 he
        have hr2 := h.range t0
        obtain ⟨k1, k2⟩ := hkeep n (by omega) hno
        obtain ⟨o1, o2⟩ := turnF_old φ hnn (m := n) (by omega) hne f (tabB U) (st.m.add L2 st.m.ck).S
        exact ⟨(hmem2 n).2 (.inl ⟨t0, hno⟩), k1.trans (o1.trans t1), ⟨y, k2.trans (o2.trans t2)⟩, t3, t4⟩
  · obtain ⟨d1, d2⟩ := dropF_only nm old _ hnm
    rcases turnF_only d1 with e4 | e4 | e4 | e4
    · exact .inl e4
    · exact .inr ⟨st.m.nx, (hmem2 _).2 (.inr rfl), .inl e4⟩
    · exact .inr ⟨st.m.nx, (hmem2 _).2 (.inr rfl), .inr e4⟩
    · rcases h.only nm e4 with e5 | ⟨n, hn, e5⟩
      · exact .inl e5
      · have hno : n ∉ old := fun e6 => by
          rcases e5 with e5 | e5
          · exact (d2 n e6).1 e5
          · exact (d2 n e6).2 e5
        exact .inr ⟨n, (hmem2 n).2 (.inl ⟨hn, hno⟩), e5⟩
  · rw [h.mem x]
    unfold IxSt.del IxSt.put
    simp only
    constructor
    · rintro (h1 | ⟨n, e3, he, h1⟩)
      · exact .inl h1
      · by_cases hno : n ∈ old
        · refine .inr ⟨st.m.nx, _, by rw [if_neg hnxo, if_pos rfl], ?_⟩
          show x ∈ U
          rw [← hU, mem_union]
          exact ⟨TL st n, List.mem_map.2 ⟨n, hno, rfl⟩, by rw [TL_some he]; exact h1⟩
        · have hne : n ≠ st.m.nx := fun e4 => hnf (e4 ▸ (h.tb n e3 he).1)
          exact .inr ⟨n, e3, by rw [if_neg hno, if_neg hne]; exact he, h1⟩
    · rintro (h1 | ⟨n, e3, he, h1⟩)
      · exact .inl h1
      · by_cases hno : n ∈ old
        · rw [if_pos hno] at he; cases he
        · rw [if_neg hno] at he
          by_cases hne : n = st.m.nx
          · rw [if_pos hne] at he
            injection he with he
            subst he
            have := hUB x h1
            exact (h.mem x).1 this
          · rw [if_neg hne] at he
            exact .inr ⟨n, e3, he, h1⟩
def LastIs (B : List En) (x u r : Int) : Prop := (∀ y ∈ B, y.1 = x → y.2.1 ≤ u → y.2.1 ≤ r) ∧ ((r = -1) ∨ ∃ y ∈ B, y.1 = x ∧ y.2.1 ≤ u ∧ y.2.1 = r)
theorem LastIs.uniq {B : List En} {x u r r' : Int} (hv : ∀ y ∈ B, 0 ≤ y.2.1) (h : LastIs B x u r) (h' : LastIs B x u r') : r = r' := by
  rcases h.2 with e | ⟨y, hy, y1, y2, y3⟩
  · rcases h'.2 with e' | ⟨z, hz, z1, z2, z3⟩
    · omega
    · have := h.1 z hz z1 z2; have := hv z hz; omega
  · have q1 := h'.1 y hy y1 y2
    rcases h'.2 with e' | ⟨z, hz, z1, z2, z3⟩
    · have := hv y hy; omega
    · have := h.1 z hz z1 z2; omega
theorem lastE_is {L : List En} (hs : sortE L) (x u : Int) : LastIs L x u (outE L x u) := by
  unfold outE lastE
  cases hl : (L.filter (inE x u)).getLast? with
  | none =>
    have := List.getLast?_eq_none_iff.1 hl
    refine ⟨fun y hy h1 h2 => ?_, .inl rfl⟩
    have : y ∈ L.filter (inE x u) := List.mem_filter.2 ⟨hy, by unfold inE; simp [h1, h2]⟩
    rw [List.getLast?_eq_none_iff.1 hl] at this
    cases this
  | some e =>
    have hme := List.mem_of_getLast? hl
    obtain ⟨m1, m2⟩ := List.mem_filter.1 hme
    unfold inE at m2
    simp only [Bool.and_eq_true, decide_eq_true_eq] at m2
    refine ⟨fun y hy h1 h2 => ?_, .inr ⟨e, m1, m2.1, m2.2, rfl⟩⟩
    have hyf : y ∈ L.filter (inE x u) := List.mem_filter.2 ⟨hy, by unfold inE; simp [h1, h2]⟩
    have hsf : sortE (L.filter (inE x u)) := hs.filter _
    obtain ⟨l, hl2⟩ := List.getLast?_eq_some_iff.1 hl
    rw [hl2] at hyf hsf
    rcases List.mem_append.1 hyf with h3 | h3
    · have h4 := (List.pairwise_append.1 hsf).2.2 y h3 e (by simp)
      rw [lessE_iff] at h4
      show y.2.1 ≤ e.2.1
      omega
    · rw [List.mem_singleton.1 h3]; exact Int.le_refl _
end
end Go.Proofs.YtmgpffknmmoggaaGreatDoor
namespace Go.Proofs.YtmgpffknmmoggaaGreatDoor
open Go.RowKit Go.Maps
set_option maxRecDepth 100000
set_option linter.unusedVariables false
set_option maxHeartbeats 12800000
def DkX (wb W : World) (g : Nat) (σ : DM) (K : Nat → Prop) : Prop := ∃ F, DkF wb W g F σ K
def opensM : DM → List Int → (Int → Option (List En)) → (Int → Option (List En)) × Int × DM
  | σ, [], acc => (acc, 0, σ)
  | σ, n :: ns, acc => match openM σ n with
    | (none, e, τ) => (acc, e, τ)
    | (some L, _, τ) => opensM τ ns (fun x => if x = n then some L else acc x)
def IOpenR (wb w : World) (g : Nat) (m : Man) (rate : Nat) (K : Nat → Prop) (σ : DM) (e : Ending) (w' : World) : Prop :=
  (mvalid m.nx m.ck m.L = false ∧ e = .returned (.tuple #[.pointer none, .int .i64 2]) ∧ DkX wb w' g σ K ∧ Stay K w w') ∨
  (mvalid m.nx m.ck m.L = true ∧ σ.down = true ∧ e = .returned (.tuple #[.pointer none, .int .i64 61]) ∧ DkX wb w' g σ K ∧ Stay K w w') ∨
  (mvalid m.nx m.ck m.L = true ∧ σ.down = false ∧ (opensM σ m.L.flatten (fun _ => none)).2.1 ≠ 0 ∧ e = .returned (.tuple #[.pointer none, .int .i64 (opensM σ m.L.flatten (fun _ => none)).2.1]) ∧ DkX wb w' g (opensM σ m.L.flatten (fun _ => none)).2.2 K ∧ Stay K w w') ∨
  (mvalid m.nx m.ck m.L = true ∧ σ.down = false ∧ (opensM σ m.L.flatten (fun _ => none)).2.1 = 0 ∧ ∃ gx t, e = .returned (.tuple #[.pointer (some ⟨gx, 0, none⟩), .int .i64 0]) ∧
    IxK wb w' g gx ⟨m, rate, [], t, m.L.flatten.length⟩ (opensM σ m.L.flatten (fun _ => none)).2.2 K ∧ Stay K w w' ∧ ∀ n, (t n).map TE.L = (opensM σ m.L.flatten (fun _ => none)).1 n)
section
variable {wb w0 w W W1 w1 w2 : World} {g gx gm gt B : Nat} {st st1 : IxSt} {F Y Y1 K K' V T : Nat → Prop} {σ σ1 : DM} {va v v1 v2 vm : Value} {vs : List Value} {ns : List Int} {acc : List (List En)} {M L : List En}
theorem IxI.putO {D : DataW Unit} {nn : Nat} (h : IxI w gx g gm gt st v vs vm D nn Y) {n : Int} {t : Nat} {may : Int → Bool}
    (hO : w2.ownsMap Tryz.prog 3 ptrE gt (nn + 1) (D.put (.int .i64 n) (.lit (.int .i64 t)))) (hoff : OffS (fun i => i = gt) w w2)
    (htb : Tb w t g n L may T) (hT : ∀ i, T i → ¬ InX gx gm gt i) :
    IxI w2 gx g gm gt ⟨st.m, st.rate, st.w, (fun x => if x = n then some ⟨t, L, may⟩ else st.t x), st.c + 1⟩ v vs vm (D.put (.int .i64 n) (.lit (.int .i64 t))) (nn + 1) (fun i => Y i ∨ T i) := by
  have hY : ∀ i, i < w.heap.size → i ≠ gt → w2.heap[i]? = w.heap[i]? := fun i hi hx => hoff.block i hi hx
  have hYl : ∀ i, (Y i ∨ T i) → i < w.heap.size ∧ ¬ InX gx gm gt i := fun i hi => by
    rcases hi with hi | hi
    · exact ⟨h.lt i hi, h.apart i hi⟩
    · exact ⟨htb.lt i hi, hT i hi⟩
  have hYY : ∀ i, (Y i ∨ T i) → w2.heap[i]? = w.heap[i]? := fun i hi => hY i (hYl i hi).1 fun e => (hYl i hi).2 (.inr (.inr e))
  refine ⟨h.blk.same (hY _ h.blk.lt h.ne.2.1), ?_, ogr_same h.lev fun i hi => hYY i (.inl (h.inY i (hi.elim .inl fun e => .inr (.inl e)))), hO, Nat.succ_le_succ h.cnt, fun x => ?_, fun x e hx => ?_, fun i hi => .inl (h.inY i hi), fun i hi => Nat.lt_of_lt_of_le (hYl i hi).1 hoff.size, fun i hi => (hYl i hi).2, h.ne⟩
  · refine h.mem.same fun i hi => ?_
    rcases hi with rfl | hi
    · exact hY _ h.mem.blk.lt h.ne.2.2
    · exact hYY i (.inl (h.inY i (.inr (.inr hi))))
  · exact look_put (e := ⟨t, L, may⟩) h.look h.map.isMap x
  · simp only at hx
    by_cases hxn : x = n
    · rw [if_pos hxn] at hx
      injection hx with hx
      subst hx
      subst hxn
      exact (htb.same hoff.size fun i hi => hYY i (.inr hi)).mono (fun i hi => .inr hi) fun i hi => Nat.lt_of_lt_of_le (hYl i hi).1 hoff.size
    · rw [if_neg hxn] at hx
      exact ((h.tab x e hx).same hoff.size fun i hi => hYY i (.inl hi)).mono (fun i hi => .inl hi) fun i hi => Nat.lt_of_lt_of_le (hYl i hi).1 hoff.size
theorem iopen_c (h : DkF wb w g F σ K) {m : Man} {ao : Option Addr} {cap : Nat} (hG : Grid w ao m.L.length cap m.L) (hsum : m.L.flatten.length ≤ 1000000000) (hwf : ∀ x ∈ m.L.flatten, (Lit.int .i64 x).wf = true) (hs0 : 0 ≤ m.sd) (hs1 : m.sd < 18446744073709551616) (rate : Nat) :
    Calls Tryz.prog 10 #[.pointer (some ⟨g, 0, none⟩), .agg #[.int .i64 m.nx, .int .i64 m.ck, .int .u64 m.sd, .slice ao m.L.length cap], .float .f64 rate] w (IOpenR wb w g m rate K σ) := by
  have HD := Lib.hid h
  have hx1 := ext_a1 w (.cells #[.int .i64 m.nx, .int .i64 m.ck, .int .u64 m.sd, .slice ao m.L.length cap] 38)
  have hbk := Blk.new w 38 #[.int .i64 m.nx, .int .i64 m.ck, .int .u64 m.sd, .slice ao m.L.length cap]
  have HSz := Lib.hid (size_c (h.d.ext hx1) [] (by decide))
  have hc : ∃ z c, sizeM σ [] = (z, c) ∧ (c == 1) = false ∧ ((c == 61) = σ.down) ∧ (σ.down = true → c = 61) := by
    unfold sizeM
    cases σ.down with
    | true => exact ⟨_, _, rfl, rfl, rfl, fun _ => rfl⟩
    | false =>
      simp only [Bool.false_eq_true, if_false]
      split
      · exact ⟨_, _, rfl, rfl, rfl, fun h => by cases h⟩
      · exact ⟨_, _, rfl, rfl, rfl, fun h => by cases h⟩
  obtain ⟨z, c, hz, hc1, hc2, hc3⟩ := hc
  rw [hz] at HSz
  have HV := Lib.hid (mvalid_c m.nx m.ck m.sd ao m.L.length cap m.L _ (hG.ext hx1) (by omega) hwf)
  have HG := Lib.hid hG
  have HX1 := Lib.hid hx1; have HBk := Lib.hid hbk
  obtain ⟨w1, hw1⟩ : ∃ w1, w.alloc (.cells #[.int .i64 m.nx, .int .i64 m.ck, .int .u64 m.sd, .slice ao m.L.length cap] 38) = w1 := ⟨_, rfl⟩
  rw [hw1] at HSz HV HX1 HBk
  obtain ⟨p, hp⟩ : ∃ p, w.heap.size = p := ⟨_, rfl⟩
  have HP := Lib.hid hp
  rw [hp] at HBk
  have b0 : w1.cell? ⟨p, 0, none⟩ = some (.int .i64 m.nx) := HBk.out.cell 0
  have b1 : w1.cell? ⟨p, 1, none⟩ = some (.int .i64 m.ck) := HBk.out.cell 1
  have b2 : w1.cell? ⟨p, 2, none⟩ = some (.int .u64 m.sd) := HBk.out.cell 2
  have b3 : w1.cell? ⟨p, 3, none⟩ = some (.slice ao m.L.length cap) := HBk.out.cell 3
  have hmm := @run_makeMap Tryz.prog
  clear h hx1 hbk hz hG
  cases hv : mvalid m.nx m.ck m.L with
  | false =>
    rw [hv] at HV
    have HVv := Lib.hid hv
    clear hv
    go_enter Tryz.func10, Tryz.ntmps10
    go_wp2_with fail
    refine HSz.out.mono ?_
    rintro e w2 ⟨rfl, rfl⟩
    go_wp2_with fail
    refine HV.out.mono ?_
    rintro e w2 ⟨rfl, hb2⟩
    have HX2 := Lib.hid (HX1.out.trans hb2)
    clear hb2
    go_wp2_with fail
    go_ret2
    exact .inl ⟨HVv.out, rfl, ⟨F, HD.out.grow HX2.out⟩, fun i hi => HX2.out.block i (HD.out.k i hi).1⟩
  | true =>
    rw [hv] at HV
    have HVv := Lib.hid hv
    clear hv
    cases hdn : σ.down with
    | true =>
      rw [hdn] at hc2
      obtain rfl := hc3 hdn
      have HDn := Lib.hid hdn
      clear hdn hc3
      go_enter Tryz.func10, Tryz.ntmps10
      go_wp2_with fail
      refine HSz.out.mono ?_
      rintro e w2 ⟨rfl, rfl⟩
      go_wp2_with fail
      refine HV.out.mono ?_
      rintro e w2 ⟨rfl, hb2⟩
      have HX2 := Lib.hid (HX1.out.trans hb2)
      clear hb2
      go_wp2_with fail
      go_ret2
      exact .inr (.inl ⟨HVv.out, HDn.out, rfl, ⟨F, HD.out.grow HX2.out⟩, fun i hi => HX2.out.block i (HD.out.k i hi).1⟩)
    | false =>
      rw [hdn] at hc2
      have HDn := Lib.hid hdn
      have hman : m.ok := ⟨HVv.out, hs0, hs1⟩
      have hbd := Man.bounds hman
      clear hdn hc3
      go_enter Tryz.func10, Tryz.ntmps10
      go_wp2_with fail
      refine HSz.out.mono ?_
      rintro e w2 ⟨rfl, rfl⟩
      go_wp2_with fail
      refine HV.out.mono ?_
      rintro e w2 ⟨rfl, hb2⟩
      have HX2 := Lib.hid (HX1.out.trans hb2)
      have b0 := cell_ext hb2 b0; have b1 := cell_ext hb2 b1; have b2 := cell_ext hb2 b2; have b3 := cell_ext hb2 b3
      have HBk2 := Lib.hid (HBk.out.ext hb2)
      clear hb2
      go_wp2_with fail
      refine (copied_c m.nx m.ck m.sd ao m.L.length cap m.L w2 (HG.out.ext HX2.out) (fun i => by have := hbd.2.2.1 i; omega) (by omega)).mono ?_
      rintro e w3 ⟨v3, vs3, rfl, hog3, hb3⟩
      have HOg := Lib.hid hog3
      have HX3 := Lib.hid hb3
      obtain ⟨a3, k3, rfl⟩ := hog3.own.slice
      clear hog3 hb3
      go_wp2_with fail
      refine (mnew_c w3).mono ?_
      rintro e w4 ⟨gm, rfl, hmem, hgm, hb4⟩
      have HMm := Lib.hid hmem; have HX4 := Lib.hid hb4
      have b3 := cell_ext hb4 (cell_ext HX3.out b3)
      clear hmem hb4
      obtain ⟨WX, hWX⟩ : ∃ WX, (w4.alloc (.map #[] 0)).alloc (.cells #[.pointer (some ⟨g, 0, none⟩), .int .i64 m.nx, .int .i64 m.ck, .int .u64 m.sd, .slice a3 m.L.length k3, .float .f64 rate, .pointer (some ⟨gm, 0, none⟩), .map (some w4.heap.size)] 103) = WX := ⟨_, rfl⟩
      have HX5 : Hid (Ext w4 WX) := Lib.hid (hWX ▸ ext_a2 _ _ _)
      have HBI : Hid (Blk WX (w4.heap.size + 1) 103 #[.pointer (some ⟨g, 0, none⟩), .int .i64 m.nx, .int .i64 m.ck, .int .u64 m.sd, .slice a3 m.L.length k3, .float .f64 rate, .pointer (some ⟨gm, 0, none⟩), .map (some w4.heap.size)]) := Lib.hid (by
        have h := Blk.new (w4.alloc (.map #[] 0)) 103 #[.pointer (some ⟨g, 0, none⟩), .int .i64 m.nx, .int .i64 m.ck, .int .u64 m.sd, .slice a3 m.L.length k3, .float .f64 rate, .pointer (some ⟨gm, 0, none⟩), .map (some w4.heap.size)]
        rw [World.size_alloc, hWX] at h
        exact h)
      have HMP : Hid (WX.ownsMap Tryz.prog 3 ptrE w4.heap.size 0 (.map [])) := Lib.hid (hWX ▸ (World.ownsMap_made (H := Unit) w4 Tryz.prog 3 ptrE).alloc _)
      have HSX : Hid (WX.heap.size = w4.heap.size + 2) := Lib.hid (by rw [← hWX, World.size_alloc, World.size_alloc])
      have b3X := cell_ext HX5.out b3
      have HXX := Lib.hid (((HX2.out.trans HX3.out).trans HX4.out).trans HX5.out)
      have hgX : gm < w4.heap.size := HMm.out.blk.lt
      have HIx : Hid (IxK wb WX g (w4.heap.size + 1) ⟨m, rate, [], (fun _ => none), 0⟩ σ K) := Lib.hid (by
        have hD := HD.out
        have hsz2 := HX2.out.size; have hsz3 := HX3.out.size; have hsz4 := HX4.out.size
        have hwb := hD.ext.size
        have hog : OGr WX w2.heap.size 88 3 (.slice a3 m.L.length k3) vs3 m.L := (HOg.out.ext HX4.out).ext HX5.out
        have hlt : ∀ i, ((Value.slice a3 m.L.length k3).ownBlock = some i ∨ ∃ q, (vs3.getD q (.slice none 0 0)).ownBlock = some i) → w2.heap.size ≤ i ∧ i < w3.heap.size := fun i hi => ogr_lt HOg.out i hi
        refine ⟨F, gm, w4.heap.size, fun i => ((Value.slice a3 m.L.length k3).ownBlock = some i ∨ ∃ q, (vs3.getD q (.slice none 0 0)).ownBlock = some i), ⟨hD.d.ext HXX.out, ⟨⟨hman, okM.nil, Nat.zero_le _⟩, .slice a3 m.L.length k3, vs3, .slice none 0 0, .map [], 0, ⟨HBI.out, HMm.out.ext HX5.out, ogr_base hog (Nat.zero_le _), HMP.out, Nat.le_refl _, fun n => rfl, fun n e he => (by cases he), fun i hi => ?_, fun i hi => Nat.lt_of_lt_of_le (hlt i hi).2 (by have := HX5.out.size; omega), fun i hi hx => ?_, ⟨by omega, by omega, by omega⟩⟩⟩, fun i hi => ?_⟩, hD.bF, fun i hi => ?_, fun i hi => by have := hlt i hi; omega, hD.ext.trans HXX.out, fun i hi => ?_⟩
        · rcases hi with hi | hi | hi
          · exact .inl hi
          · exact .inr hi
          · cases hi
        · have h1 := hlt i hi
          rcases hx with rfl | rfl | rfl <;> omega
        · have h1 := hD.d.Flt i hi
          exact ⟨fun hx => by rcases hx with rfl | rfl | rfl <;> omega, fun hy => by have := hlt i hy; omega⟩
        · rcases hi with rfl | rfl | rfl <;> omega
        · have h1 := hD.k i hi
          have h2 := HXX.out.size
          exact ⟨by omega, h1.2, fun hx => by rcases hx with rfl | rfl | rfl <;> omega, fun hy => by have := hlt i hy; omega⟩)
      have HAl := Lib.hid (all_c ao m.L.length cap m.L WX (HG.out.ext HXX.out) (by omega))
      have hSt : ∀ i, K i → i < w.heap.size := fun i hi => (HD.out.k i hi).1
      have HStX : Hid (Stay K w WX) := Lib.hid fun i hi => HXX.out.block i (hSt i hi)
      clear hmm
      have hmm := @run_makeMap Tryz.prog
      go_wp2_with fail
      refine HAl.out.mono ?_
      rintro e w5 ⟨va, rfl, hall, hb5⟩
      obtain ⟨aa, ka, rfl⟩ := hall.slice
      obtain ⟨ns, hns⟩ : ∃ ns, m.L.flatten = ns := ⟨_, rfl⟩
      have HNs := Lib.hid hns
      rw [hns] at hall
      have HL0 := Lib.hid (LsW.start HIx.out (W := w5) hb5 hall)
      rw [hns]
      obtain ⟨R, hR⟩ : ∃ R, opensM σ ns (fun _ => none) = R := ⟨_, rfl⟩
      have HR := Lib.hid hR
      have HFin : Hid (∀ e w', ((R.2.1 ≠ 0 ∧ e = .returned (.tuple #[.pointer none, .int .i64 R.2.1]) ∧ DkX wb w' g R.2.2 K ∧ Stay K WX w') ∨ (R.2.1 = 0 ∧ ∃ gx t, e = .returned (.tuple #[.pointer (some ⟨gx, 0, none⟩), .int .i64 0]) ∧ IxK wb w' g gx ⟨m, rate, [], t, ns.length⟩ R.2.2 K ∧ Stay K WX w' ∧ ∀ n, (t n).map TE.L = R.1 n)) → IOpenR wb w g m rate K σ e w') := Lib.hid (by
        intro e w' h
        unfold IOpenR
        rw [hns, hR]
        rcases h with ⟨q1, q2, q3, q4⟩ | ⟨q1, gx, t, q2, q3, q4, q5⟩
        · exact .inr (.inr (.inl ⟨HVv.out, HDn.out, q1, q2, q3, HStX.out.trans q4⟩))
        · exact .inr (.inr (.inr ⟨HVv.out, HDn.out, q1, gx, t, q2, q3, HStX.out.trans q4, q5⟩)))
      obtain ⟨n, hn⟩ : ∃ n, ns.length = n := ⟨_, rfl⟩
      have HNl := Lib.hid hn
      have hn40 : n ≤ 40 := by rw [← hn, ← hns]; exact hbd.2.1
      have HBd := Lib.hid hbd
      obtain ⟨gx, hgx⟩ : ∃ gx, w4.heap.size + 1 = gx := ⟨_, rfl⟩
      rw [hn] at HL0
      rw [hgx] at HL0
      rw [hn]
      simp only [hgx]
      clear hall hb5 hns hn HAl HX1 HX2 HX3 HX4 HX5 HBI HMP HSX b3X b0 b1 b2 b3 HXX HIx HMm HOg hmm hR hbd HV HSz HG HBk HBk2 HP HStX hc1 hc2 hWX hgX hgm hgx
      go_wp2_with fail
      go_loopw [44] (fun i W => ∃ (k : Nat) (t : Int → Option TE) (acc : Int → Option (List En)) (τ : DM), k ≤ n ∧ i = .int .i64 (k : Int) ∧ LsW wb WX W g gx ⟨m, rate, [], t, k⟩ τ K (.slice aa n ka) (.slice none 0 0) [] ns [] WX.heap.size ∧ (∀ x, (t x).map TE.L = acc x) ∧ opensM τ (ns.drop k) acc = R) (fun i _ => n - (intOf i).toNat)
      case atStart => exact ⟨0, fun _ => none, fun _ => none, σ, Nat.zero_le _, rfl, HL0.out, fun x => rfl, HR.out⟩
      case round =>
        obtain ⟨k, tt, acc, τ, hk, rfl, hls, htt, hrr⟩ := hrel
        have HL := Lib.hid hls; have HRr := Lib.hid hrr; have HTt := Lib.hid htt
        clear hls hrr htt
        by_cases hlt : k < n
        · have hd : decide ((k : Int) < (n : Int)) = true := decide_eq_true (by omega)
          have q1 : IntKind.i64.wrap ((k : Int) + 1) = (k : Int) + 1 := by rw [IntKind.wrap_i64]; omega
          have q5 : (k : Int) < (n : Int) := by omega
          obtain ⟨_, _, ea, hia⟩ := own_ints HL.out.all
          rw [HNl.out] at ea
          cases ea
          rw [HNl.out] at hia
          obtain ⟨ba, oa, rfl, n0⟩ := hia.at hlt
          have hkl : k < ns.length := by rw [HNl.out]; exact hlt
          have hdrop : ns.drop k = ns.getD k 0 :: ns.drop (k + 1) := by
            rw [List.drop_eq_getElem_cons hkl, List.getD_eq_getElem?_getD, List.getElem?_eq_getElem hkl]; rfl
          have hmem : ns.getD k 0 ∈ m.L.flatten := by rw [HNs.out]; exact getD_mem ns k hkl
          have hrr := HRr.out
          rw [hdrop] at hrr
          have hwf2 := (HBd.out.2.2.2.1 _ hmem).1
          generalize ns.getD k 0 = nk at *
          rw [opensM] at hrr
          obtain ⟨F2, gm2, gt2, Y2, h2⟩ := HL.out.i
          have HOp := Lib.hid (popen_c h2.i.d nk)
          have HF2 := Lib.hid h2
          obtain ⟨r, hr⟩ : ∃ r, openM τ nk = r := ⟨_, rfl⟩
          rw [hr] at hrr HOp
          obtain ⟨o, c, τ2⟩ := r
          clear hia hdrop hmem h2
          cases o with
          | none =>
            simp only at hrr
            have hc := openM_ne hr
            have g2 : (c != 0) = true := by simpa using hc
            have HRR := Lib.hid hrr
            have HC := Lib.hid hc
            clear hr hrr hc
            go_wp2_with fail
            refine HOp.out.mono ?_
            rintro e3 w3 ⟨rfl, hd3⟩
            obtain ⟨h3, hst3⟩ := HF2.out.disk hd3
            have HE : Hid (IOpenR wb w g m rate K σ (.returned (.tuple #[.pointer none, .int .i64 c])) w3) := Lib.hid (HFin.out _ _ (.inl (by
              rw [← HRR.out]
              exact ⟨HC.out, rfl, ⟨_, h3.i.d, h3.bF, h3.ext, fun i hi => ⟨(h3.k i (.inl hi)).1, (h3.k i (.inl hi)).2.1⟩⟩, HL.out.stay.trans fun i hi => hst3 i (.inl hi)⟩)))
            clear hd3 h3 hst3
            go_wp2_with fail
            go_ret2
            exact HE.out
          | some L =>
            simp only at hrr
            obtain rfl := openM_some hr
            have HRR := Lib.hid hrr
            clear hr hrr
            go_wp2_with fail
            refine HOp.out.mono ?_
            rintro e3 w7 ⟨t, may, T, w6, rfl, hd3, hx7, htb, hT⟩
            obtain ⟨h3, hst3⟩ := HF2.out.disk hd3
            have h7 := h3.grow hx7
            have hst7 : Stay (fun i => K i ∨ InLs (.slice (some ⟨ba, oa, none⟩) n ka) (.slice none 0 0) [] i) wr w7 := hst3.trans (h3.kExt hx7)
            obtain ⟨hok7, v7, vs7, vm7, D7, nn7, hi7⟩ := h7.i.x
            have c7 := hi7.c7
            have hcn := hi7.cnt
            simp only at hcn
            obtain ⟨w8, hup, hO8, hg8⟩ := hi7.map.update Tryz.keyInt Tryz.underlying101 (by unfold maxLen; omega) (keyOf_int_mk Tryz.underlying3 hwf2) (ptrE_mk t)
            have hoff8 : OffS (fun i => i = gt2) w7 w8 := OffS.grown hg8 fun i hi => by injection hi with hi; exact hi.symm
            have hTX : ∀ i, T i → ¬ InX gx gm2 gt2 i := fun i hi hx => by have := hT i hi; have := h3.i.x.xlt i hx; omega
            have hix := hi7.putO hO8 hoff8 htb hTX
            obtain ⟨h8, hst8⟩ := h7.turnV (K := fun i => K i ∨ InLs (.slice (some ⟨ba, oa, none⟩) n ka) (.slice none 0 0) [] i) (st1 := ⟨m, rate, [], (fun x => if x = nk then some ⟨t, L, may⟩ else tt x), k + 1⟩) (Y1 := fun i => Y2 i ∨ T i) ⟨⟨hman, okM.nil, by show k + 1 ≤ 1000000; omega⟩, _, _, _, _, _, hix⟩ (hoff8.mono fun i _ hi => .inr (.inr hi)) (fun i hi => by
              rcases hi with hi | hi
              · exact ⟨h7.bY i hi, fun hf => (h7.i.ap i hf).2 hi⟩
              · have h9 := hT i hi
                exact ⟨by have := h3.ext.size; omega, fun hf => by have := h3.i.d.Flt i hf; omega⟩) (fun i hi => ⟨hi, fun hy => by
              rcases hy with hy | hy
              · exact (h7.k i hi).2.2.2 hy
              · have := hT i hy; have := (h3.k i hi).1; omega⟩)
            have HL8 := Lib.hid (HL.out.step ⟨_, _, _, _, h8⟩ (hst7.trans hst8) (by have := hd3.off.size; have := hx7.size; have := hoff8.size; omega))
            have HTt2 : Hid (∀ x, (if x = nk then some (⟨t, L, may⟩ : TE) else tt x).map TE.L = if x = nk then some L else acc x) := Lib.hid fun x => by
              by_cases hx : x = nk
              · rw [if_pos hx, if_pos hx]; rfl
              · rw [if_neg hx, if_neg hx]; exact HTt.out x
            have HUp := Lib.hid hup
            clear hd3 h3 hst3 h7 hst7 hok7 hi7 hO8 hg8 hoff8 hTX hix h8 hst8 htb hT hx7 hcn
            go_wp2_with fail
            go_roundw
            case rel => exact ⟨k + 1, _, _, τ2, hlt, by go_num, HL8.out, HTt2.out, HRR.out⟩
            case measure => simp [intOf]; omega
        · obtain rfl : k = n := by omega
          have hd : decide ((k : Int) < (k : Int)) = false := decide_eq_false (by omega)
          have hrr := HRr.out
          rw [List.drop_of_length_le (by rw [HNl.out]; exact Nat.le_refl _), opensM] at hrr
          have HE : Hid (IOpenR wb w g m rate K σ (.returned (.tuple #[.pointer (some ⟨gx, 0, none⟩), .int .i64 0])) wr) := Lib.hid (HFin.out _ _ (.inr (by
            rw [← hrr]
            exact ⟨rfl, gx, tt, rfl, by rw [HNl.out]; exact HL.out.i.beside fun i hi => .inl hi, HL.out.stay, HTt.out⟩)))
          clear hrr
          go_wp2_with fail
          go_ret2
          exact HE.out
end
end Go.Proofs.YtmgpffknmmoggaaGreatDoor
