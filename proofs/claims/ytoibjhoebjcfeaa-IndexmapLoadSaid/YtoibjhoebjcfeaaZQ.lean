/- Walks: a file of a disk spoilt, and cut off. -/
import Derived.Test.YtoibjhoebjcfeaaZP
import Derived.Lib.BufferWrite
namespace Go.Proofs.Ytoibjhoebjcfeaa
open Go.RowKit

theorem byteCells_map (l : List UInt8) : Lib.byteCells l = l.map byteV := rfl

/-- 'copy(b[k:], s)', s a string -/
theorem run_copy_over {P : Program} (w : World) (dT sT ty elem : TypeId) (r k m dCap : Nat) (s : List UInt8) (cur : Array Value) (t : TypeId)
    (hu : P.underlying dT = some (.slice elem)) (hs : (P.info? elem).map (·.size) = some 1) (hg : w.heap[r]? = some (.cells cur t (0, 0))) (hfit : k + m ≤ cur.size) :
    (Builtin.copy_ #[dT, sT] ty #[.slice (some ⟨r, k, none⟩) m dCap, .string ⟨s.toArray⟩]).run P w =
      .ok (goInt (min s.length m)) (w.setRow r (cur.toList.take k ++ (s.take m).map byteV ++ cur.toList.drop (k + min s.length m)).toArray) := by
  have hlen : ((s.take m).map byteV).length = min s.length m := by rw [List.length_map, List.length_take, Nat.min_comm]
  have hone : ∀ u ∈ (s.take m).map byteV, u.oneCell' = true := by
    intro u hu
    obtain ⟨b, _, rfl⟩ := List.mem_map.1 hu
    rfl
  have hst := run_storeCells_at P r k t ((s.take m).map byteV) 0 cur w hg (by rw [hlen]; omega) hone
  rw [hlen] at hst
  simp only [Nat.add_zero] at hst
  have hsz : (⟨s.toArray⟩ : ByteArray).size = s.length := by simp [ByteArray.size]
  have htk : List.take (min s.length m) (List.map (fun b : UInt8 => Value.int IntKind.u8 (b.toNat : Int)) s) = (s.take m).map byteV := by
    rw [← List.map_take]
    congr 1
    rw [List.take_eq_take_iff]; omega
  have hnm : Nat.min s.length m = min s.length m := rfl
  cases hq : P.info? elem with
  | none => simp [hq] at hs
  | some i =>
    simp [Builtin.copy_, run_underlying hu, Builtin.lenOf, Builtin.firstCells, sizeOf, typeInfo, hq, hsz, hnm]
    rw [htk, hst]
    simp [Result.andThen]
    exact congrArg goInt (by omega)

theorem over_own {w : World} {r n cap k : Nat} {cur : Array Value} {da s : List UInt8} (hg : w.heap[r]? = some (.cells cur 5 (0, 0))) (hl : da.length = n) (hn : n ≤ cap) (hc : cap ≤ 9223372036854775807) (hcs : cap ≤ cur.size) (ht : cur.toList.take n = da.map byteV) (hk : k ≤ n) :
    Own (w.setRow r (cur.toList.take k ++ (s.take (n - k)).map byteV ++ cur.toList.drop (k + min s.length (n - k))).toArray) 0 5 1 (.slice (some ⟨r, 0, none⟩) n cap) (overB da s k).length ((overB da s k).map byteV) := by
  have hcl : cur.toList.length = cur.size := Array.length_toList
  refine ⟨by simp, .inr ⟨r, cap, _, ?_, Nat.zero_le _, setRow_heap w r cur _ _ _ hg, ?_, hc, ?_, ?_⟩⟩
  · rw [overB_len, hl]
  · rw [overB_len, hl]; exact hn
  · simp only [List.size_toArray, List.length_append, List.length_take, List.length_map, List.length_drop, hcl]
    omega
  · rw [overB_len, hl, Nat.mul_one]
    unfold overB
    rw [hl, List.map_append, List.map_append]
    have e1 : (da.take k).map byteV = cur.toList.take k := by rw [List.map_take, ← ht, List.take_take, Nat.min_eq_left hk]
    have e2 : (da.drop (k + s.length)).map byteV = ((cur.toList.take n).drop (k + s.length)) := by rw [List.map_drop, ht]
    rw [e1, e2]
    have hs1 : ((s.take (n - k)).map byteV).length = min s.length (n - k) := by rw [List.length_map, List.length_take, Nat.min_comm]
    have hs2 : (cur.toList.take k).length = k := by rw [List.length_take, hcl]; omega
    have hs3 : (cur.toList.take k ++ (s.take (n - k)).map byteV).length = k + min s.length (n - k) := by rw [List.length_append, hs1, hs2]
    have hle : (cur.toList.take k ++ (s.take (n - k)).map byteV).length ≤ n := by rw [hs3]; omega
    rw [List.take_append, List.take_of_length_le hle, hs3]
    congr 1
    by_cases h : s.length ≤ n - k
    · rw [Nat.min_eq_left h, List.drop_take]
    · rw [show n - (k + min s.length (n - k)) = 0 by omega, List.take_zero, List.drop_eq_nil_of_le (by rw [List.length_take]; omega)]

set_option maxRecDepth 100000
set_option linter.unusedVariables false
set_option maxHeartbeats 1600000

theorem spoilt_no (w : World) (p : Option Addr) (h : NoD w p) (s : ByteArray) (n : Value) : Calls Try.prog 47 #[.pointer p, .string s, n] w fun e w' => e = .returned (.tuple #[.pointer none, .int .i64 1]) ∧ w = w' := by
  have H := Lib.hid h; clear h
  go_enter Try.func47, Try.ntmps47
  go_wp2_with fail
  refine (none_no _ p H.out).mono ?_
  rintro e w' ⟨rfl, rfl⟩
  go_wp2_with fail
  go_ret2
  exact ⟨rfl, rfl⟩

theorem spoilt_c {w : World} {g m : Nat} {kv : Value} {L : List FE} {us : Int} {σ : DM} (h : DkI w g m kv L us σ) (nm : List UInt8) (hl : nm.length ≤ 9223372036854775807) (n : Int) :
    (findN FM.nm nm σ.L = none ∧ ∃ R : Hid (Calls Try.prog 47 #[.pointer (some ⟨g, 0, none⟩), .string ⟨nm.toArray⟩, .int .i64 n] w fun e w' => e = .returned (.tuple #[.pointer none, .int .i64 4]) ∧ w = w'), True) ∨
    (∃ e : FE, findN FM.nm nm σ.L = some e.f ∧ n < 0 ∧ ∃ R : Hid (Calls Try.prog 47 #[.pointer (some ⟨g, 0, none⟩), .string ⟨nm.toArray⟩, .int .i64 n] w fun e w' => e = .returned (.tuple #[.pointer none, .int .i64 2]) ∧ w = w'), True) ∨
    (∃ e : FE, findN FE.nm nm L = some e ∧ findN FM.nm nm σ.L = some e.f ∧ e ∈ L ∧ 0 ≤ n ∧ ∃ R : Hid (Calls Try.prog 47 #[.pointer (some ⟨g, 0, none⟩), .string ⟨nm.toArray⟩, .int .i64 n] w fun en w' => en = .returned (.tuple #[.pointer (some ⟨e.b, 0, none⟩), .int .i64 0]) ∧ w = w'), True) := by
  have HN := Lib.hid (none_at w g true h.c0)
  have c3 := h.c3
  cases hf : findN FE.nm nm L with
  | none =>
    have hfm : findN FM.nm nm σ.L = none := by rw [← h.files, findN_map (k := FE.nm) (k' := FM.nm) (h := FE.f) (fun x => rfl), hf]; rfl
    have hrun := look_no h.fs hl hf
    refine .inl ⟨hfm, Lib.hid ?_, trivial⟩
    clear h hf hfm
    go_enter Try.func47, Try.ntmps47
    go_wp2_with fail
    refine HN.out.mono ?_
    rintro e w' ⟨rfl, rfl⟩
    go_wp2_with fail
    go_ret2
    exact ⟨rfl, rfl⟩
  | some e =>
    have hfm : findN FM.nm nm σ.L = some e.f := by rw [← h.files, findN_map (k := FE.nm) (k' := FM.nm) (h := FE.f) (fun x => rfl), hf]; rfl
    have hrun := look_yes h.fs hl hf
    by_cases hn : n < 0
    · refine .inr (.inl ⟨e, hfm, hn, Lib.hid ?_, trivial⟩)
      clear h hf hfm
      generalize e.b = bb at *
      go_enter Try.func47, Try.ntmps47
      go_wp2_with fail
      refine HN.out.mono ?_
      rintro e w' ⟨rfl, rfl⟩
      go_wp2_with fail
      go_ret2
      exact ⟨rfl, rfl⟩
    · refine .inr (.inr ⟨e, rfl, hfm, (findN_some hf).1, by omega, Lib.hid ?_, trivial⟩)
      clear h hf hfm
      generalize e.b = bb at *
      go_enter Try.func47, Try.ntmps47
      go_wp2_with fail
      refine HN.out.mono ?_
      rintro e w' ⟨rfl, rfl⟩
      go_wp2_with fail
      go_ret2
      exact ⟨rfl, rfl⟩

theorem cutD_no (w : World) (p : Option Addr) (h : NoD w p) (s : ByteArray) (n : Value) : Calls Try.prog 23 #[.pointer p, .string s, n] w fun e w' => e = .returned (.int .i64 1) ∧ w = w' := by
  have H := Lib.hid h; clear h
  go_enter Try.func23, Try.ntmps23
  go_wp2_with fail
  refine (spoilt_no _ p H.out s n).mono ?_
  rintro e w' ⟨rfl, rfl⟩
  go_wp2_with fail
  go_ret
  exact ⟨rfl, rfl⟩

theorem cutD_c {w : World} {g : Nat} {F : Nat → Prop} {σ : DM} (h : Dk w g F σ) (nm : List UInt8) (hl : nm.length ≤ 9223372036854775807) (n : Int) (hn1 : n ≤ 9223372036854775807) :
    Calls Try.prog 23 #[.pointer (some ⟨g, 0, none⟩), .string ⟨nm.toArray⟩, .int .i64 n] w fun e w' => e = .returned (.int .i64 (cutM σ nm n).1) ∧ DkS w g F (cutM σ nm n).2 w' := by
  obtain ⟨ho, m, kv, L, hi, fin⟩ := h.openD
  have HF := Lib.hid fin; have HI := Lib.hid hi; have HO := Lib.hid ho
  clear h fin
  rcases spoilt_c hi nm hl n with ⟨hf, R, _⟩ | ⟨e, hf, hn, R, _⟩ | ⟨e, hfe, hf, he, hn, R, _⟩
  · have HM : Hid (cutM σ nm n = (4, σ)) := Lib.hid (by unfold cutM; rw [hf]; rfl)
    clear hi ho hf
    go_enter Try.func23, Try.ntmps23
    go_wp2_with fail
    refine R.out.mono ?_
    rintro e w' ⟨rfl, rfl⟩
    go_wp2_with fail
    go_ret
    rw [HM.out]
    exact ⟨rfl, HF.out _ _ (Fin.same HO.out HI.out)⟩
  · have HM : Hid (cutM σ nm n = (2, σ)) := Lib.hid (by unfold cutM; rw [hf, if_neg (by simp), if_pos hn])
    clear hi ho hf hn
    go_enter Try.func23, Try.ntmps23
    go_wp2_with fail
    refine R.out.mono ?_
    rintro e w' ⟨rfl, rfl⟩
    go_wp2_with fail
    go_ret
    rw [HM.out]
    exact ⟨rfl, HF.out _ _ (Fin.same HO.out HI.out)⟩
  · have HM : Hid (cutM σ nm n = (0, { σ with L := updN FM.nm nm (cutF n.toNat) σ.L })) := Lib.hid (by unfold cutM; rw [hf, if_neg (by simp), if_neg (by omega)])
    have HO' := Lib.hid (ho.cut (n := n.toNat) hf)
    have hus := ho.used; have hcap := ho.cap1
    have HC := Lib.hid (cut_c hi rfl (by omega) ho.ord hfe (ho.sy _ (findN_some hf).1) n hn hn1)
    have HFe := Lib.hid hfe
    obtain ⟨bb, hbb⟩ : ∃ bb, e.b = bb := ⟨_, rfl⟩
    have HBb := Lib.hid hbb
    rw [hbb] at R HC
    clear hi ho hf hfe he hbb hus hcap
    go_enter Try.func23, Try.ntmps23
    go_wp2_with fail
    refine R.out.mono ?_
    rintro en w' ⟨rfl, rfl⟩
    go_wp2_with fail
    refine HC.out.mono ?_
    rintro en w1 ⟨rfl, e', h1, h2, h3, hd, hof⟩
    have HD := Lib.hid hd; have HOf := Lib.hid hof; have H2 := Lib.hid h2; have H3 := Lib.hid h3
    clear hd hof h1 h2 h3
    go_wp2_with fail
    go_ret
    rw [HM.out]
    refine ⟨rfl, HF.out _ _ ⟨HO'.out, m, kv, _, HD.out, fun i hi => ?_, HOf.out.inD⟩⟩
    have he := (findN_some HFe.out).1
    rcases hi with h1 | h1 | h1
    · exact .inl (.inl h1)
    · rcases InF.upd HI.out.fs.ord HFe.out (H2.out.trans HBb.out.symm) h1 with h4 | h4
      · exact .inl (.inr (.inl h4))
      · exact .inl (.inr (.inl (.inr ⟨e, he, .inr (H3.out i h4)⟩)))
    · exact .inl (.inr (.inr h1))

theorem spoil_no (w : World) (p : Option Addr) (h : NoD w p) (s : ByteArray) (n : Int) (t : Value) : Calls Try.prog 22 #[.pointer p, .string s, .int .i64 n, t] w fun e w' => e = .returned (.int .i64 1) ∧ w = w' := by
  have H := Lib.hid h; clear h
  go_enter Try.func22, Try.ntmps22
  go_wp2_with fail
  refine (spoilt_no _ p H.out s _).mono ?_
  rintro e w' ⟨rfl, rfl⟩
  go_wp2_with fail
  go_ret
  exact ⟨rfl, rfl⟩

theorem info_b : (Try.prog.info? 5).map (fun i => (i.zero, i.size, i.bytes)) = some (some (.int .u8 0), 1, 1) := by kernel_rfl
theorem size_b : (Try.prog.info? 5).map (·.size) = some 1 := by kernel_rfl

theorem spoil_c {w : World} {g : Nat} {F : Nat → Prop} {σ : DM} (h : Dk w g F σ) (nm s : List UInt8) (hl : nm.length ≤ 9223372036854775807) (hsl : s.length ≤ 9223372036854775807) (n : Int) (hn1 : n ≤ 9223372036854775807) :
    Calls Try.prog 22 #[.pointer (some ⟨g, 0, none⟩), .string ⟨nm.toArray⟩, .int .i64 n, .string ⟨s.toArray⟩] w fun e w' => e = .returned (.int .i64 (spoilM σ nm n s).1) ∧ DkS w g F (spoilM σ nm n s).2 w' := by
  obtain ⟨ho, m, kv, L, hi, fin⟩ := h.openD
  have HF := Lib.hid fin; have HI := Lib.hid hi; have HO := Lib.hid ho
  clear h fin
  rcases spoilt_c hi nm hl n with ⟨hf, R, _⟩ | ⟨e, hf, hn, R, _⟩ | ⟨e, hfe, hf, he, hn, R, _⟩
  · have HM : Hid (spoilM σ nm n s = (4, σ)) := Lib.hid (by unfold spoilM; rw [hf]; rfl)
    clear hi ho hf
    go_enter Try.func22, Try.ntmps22
    go_wp2_with fail
    refine R.out.mono ?_
    rintro e w' ⟨rfl, rfl⟩
    go_wp2_with fail
    go_ret
    rw [HM.out]
    exact ⟨rfl, HF.out _ _ (Fin.same HO.out HI.out)⟩
  · have HM : Hid (spoilM σ nm n s = (2, σ)) := Lib.hid (by unfold spoilM; rw [hf, if_neg (by simp), if_pos hn])
    clear hi ho hf hn
    go_enter Try.func22, Try.ntmps22
    go_wp2_with fail
    refine R.out.mono ?_
    rintro e w' ⟨rfl, rfl⟩
    go_wp2_with fail
    go_ret
    rw [HM.out]
    exact ⟨rfl, HF.out _ _ (Fin.same HO.out HI.out)⟩
  · obtain ⟨k, rfl⟩ : ∃ k : Nat, n = (k : Int) := ⟨n.toNat, by omega⟩
    have HM : Hid (spoilM σ nm (k : Int) s = (0, { σ with L := updN FM.nm nm (fun f => { f with da := overB f.da s k }) σ.L })) := Lib.hid (by unfold spoilM; rw [hf, if_neg (by simp), if_neg (by omega)]; rfl)
    have HO' := Lib.hid (ho.spoil (s := s) (k := k) hf)
    have hown := hi.fs.row e he
    have hgb := hi.neB he
    have f0 := hi.f0 he
    obtain ⟨dl, hdl⟩ : ∃ dl, e.f.da.length = dl := ⟨_, rfl⟩
    have hrb := (hi.fs.blk e he).own (hi.fs.row e he) (by decide)
    have hrg : ∀ i, e.v.ownBlock = some i → i ≠ g := fun i h1 e1 => hi.ne (.inr ⟨e, he, .inr (e1 ▸ h1)⟩)
    have HRb := Lib.hid hrb; have HRg := Lib.hid hrg; have HGb := Lib.hid hgb
    have HFe := Lib.hid hfe
    by_cases hk : k < dl
    · rcases hown.2 with ⟨hv, h0⟩ | ⟨r, cap, cur, hv, _, hg, hnc, hcm, hcs, htk⟩
      · omega
      rw [hdl] at hv hnc htk
      rw [hv] at f0
      simp only [Nat.mul_one] at hcs htk
      have hcopy := fun ty => run_copy_over (P := Try.prog) w 74 9 ty 5 r k (dl - k) (cap - k) s cur _ Try.underlying74 size_b hg (by omega)
      have hOw := over_own (s := s) hg hdl hnc hcm hcs htk (Nat.le_of_lt hk)
      generalize (cur.toList.take k ++ (s.take (dl - k)).map byteV ++ cur.toList.drop (k + min s.length (dl - k))).toArray = row at hcopy hOw
      have HOw := Lib.hid hOw
      have HV := Lib.hid hv
      have HDl := Lib.hid hdl
      obtain ⟨bb, hbb⟩ : ∃ bb, e.b = bb := ⟨_, rfl⟩
      have HBb := Lib.hid hbb
      rw [hbb] at R f0
      clear hi ho hf hfe he hbb hown hv hg hcs htk hdl hrb hrg hgb hOw
      go_enter Try.func22, Try.ntmps22
      go_wp2_with fail
      refine R.out.mono ?_
      rintro en w' ⟨rfl, rfl⟩
      go_wp2_with fail
      go_ret
      rw [HM.out]
      have hob : e.v.ownBlock = some r := by rw [HV.out]; rfl
      have hse : ∀ i, i ≠ r → (w.setRow r row).heap[i]? = w.heap[i]? := fun i hi => setRow_other w r i _ hi
      refine ⟨rfl, HF.out _ _ (Fin.file HO'.out.1 HI.out HFe.out (⟨{ e.f with da := overB e.f.da s k }, e.b, e.v⟩ : FE) (findN_some HFe.out).2 rfl (by simp) rfl rfl rfl (fun i _ _ _ h4 => hse i fun e1 => h4 (by rw [e1]; exact hob)) ?_ ((HI.out.fs.blk e (findN_some HFe.out).1).same (hse _ fun e1 => HRb.out (by rw [e1]; exact hob))) (by rw [HV.out]; exact HOw.out) (fun i hi => .inl hi) (fun f => { f with da := overB f.da s k }) rfl rfl rfl)⟩
      have hh := HI.out.head.same (hse g fun e1 => HRg.out r hob e1.symm)
      have hus : (usedM (updN FM.nm nm (fun f => { f with da := overB f.da s k }) σ.L) : Int) = usedM σ.L := by rw [HO'.out.2]
      rw [← hus] at hh
      exact hh
    · obtain ⟨ao, cap, hv, h1, h2, h3, _⟩ := hown.rd
      rw [hv, hdl] at f0
      have HOver := Lib.hid (overB_out e.f.da s k (by omega))
      have HE := Lib.hid he
      have HDl := Lib.hid hdl
      obtain ⟨bb, hbb⟩ : ∃ bb, e.b = bb := ⟨_, rfl⟩
      rw [hbb] at R f0
      clear hi ho hf hfe he hbb hown hv hrb hrg hgb hdl
      go_enter Try.func22, Try.ntmps22
      go_wp2_with fail
      refine R.out.mono ?_
      rintro en w' ⟨rfl, rfl⟩
      go_wp2_with fail
      go_ret
      rw [HM.out]
      have hL : updN FM.nm nm (fun f => { f with da := overB f.da s k }) σ.L = σ.L := by
        have hfm : findN FM.nm nm σ.L = some e.f := by rw [← HI.out.files, findN_map (k := FE.nm) (k' := FM.nm) (h := FE.f) (fun x => rfl), HFe.out]; rfl
        rw [updN_congr (g := fun f => f) HO.out.ord hfm (by show ({ e.f with da := overB e.f.da s k } : FM) = e.f; rw [HOver.out])]
        unfold updN
        simp
      have hX : Fin w g m kv L ({ σ with L := updN FM.nm nm (fun f => { f with da := overB f.da s k }) σ.L }) w := by rw [hL]; exact Fin.same HO.out HI.out
      exact ⟨rfl, HF.out _ _ hX⟩

end Go.Proofs.Ytoibjhoebjcfeaa
