/- Walks: the law FoldsBack. (Some small laws stand in XMP and XMU too: never import both.) -/
import Derived.Test.YtkkafjknogfdnaaChecked
import Derived.Test.YtkkafjknogfdnaaFX
import Derived.Test.YtkkafjknogfdnaaFE
namespace Go.Proofs.Ytkkafjknogfdnaa
open Go.RowKit

theorem be_inj {k x y : Nat} (hx : x < 256 ^ k) (hy : y < 256 ^ k) (h : be k x = be k y) : x = y := by
  have := congrArg unbe h
  rwa [unbe_be, unbe_be, Nat.mod_eq_of_lt hx, Nat.mod_eq_of_lt hy] at this

theorem lowS_inj {s t : BitVec 32} (h : lowS s = lowS t) : s = t := by
  unfold lowS at h
  have h2 := List.reverse_inj.1 h
  exact BitVec.eq_of_toNat_eq (be_inj (by have := s.isLt; simpa using this) (by have := t.isLt; simpa using this) h2)

/-- one byte turned: no seal -/
theorem open_spoilt (l : List UInt8) (k : Nat) (u d : UInt8) (hu : (sealS l)[k]? = some u) (hd : d ≠ u) : openB ((sealS l).set k d) = false := by
  have hl := sealS_length l
  have hk : k < (sealS l).length := (List.getElem?_eq_some_iff.1 hu).1
  have hlen : ((sealS l).set k d).length - 4 = l.length := by simp; omega
  rw [openB_eq _ (by simp; omega), decide_eq_false_iff_not, hlen]
  intro hx
  have e0 : (sealS l).take l.length = l := by unfold sealS; exact List.take_left
  have e9 : (sealS l).drop l.length = lowS (crcSum l) := by unfold sealS; exact List.drop_left
  rw [List.take_set, e0] at hx
  by_cases hkl : k < l.length
  · rw [List.drop_set_of_lt hkl, e9] at hx
    have hs := lowS_inj hx
    have hsk : l[k]? = some u := by
      rw [← hu]; unfold sealS; rw [List.getElem?_append_left hkl]
    have hlk : l[k] = u := by rw [List.getElem?_eq_getElem hkl] at hsk; exact Option.some.inj hsk
    have ea : l.set k d = l.take k ++ d :: l.drop (k + 1) := by rw [List.set_eq_take_append_cons_drop, if_pos hkl]
    have eb : l = l.take k ++ u :: l.drop (k + 1) := by
      rw [← hlk, List.getElem_cons_drop, List.take_append_drop]
    have hs2 : crcSum (l.take k ++ d :: l.drop (k + 1)) = crcSum (l.take k ++ u :: l.drop (k + 1)) := by rw [← ea, ← eb]; exact hs
    exact hd (crcSum_byte _ _ _ _ hs2)
  · rw [List.set_eq_of_length_le (by omega), List.drop_set, if_neg hkl, e9] at hx
    have hj : k - l.length < (lowS (crcSum l)).length := by rw [lowS_length]; omega
    have h1 : (lowS (crcSum l))[k - l.length]? = some u := by
      rw [← hu]; unfold sealS; rw [List.getElem?_append_right (by omega)]
    have h2 : ((lowS (crcSum l)).set (k - l.length) d)[k - l.length]? = some d := List.getElem?_set_self hj
    rw [← hx, h1] at h2
    exact hd (Option.some.inj h2).symm

/-- '[]byte(s)' -/
theorem bytes_of (w : World) (l : List UInt8) : ∃ W cap, (convert 9 36 (.string ⟨l.toArray⟩)).run Try.prog w = .ok (.slice (some ⟨w.heap.size, 0, none⟩) l.length cap) W ∧
    Rd W (some ⟨w.heap.size, 0, none⟩) (l.map byteV) ∧ (∀ j, j < l.length → W.frozen? ⟨w.heap.size, j, none⟩ = false) ∧ Ext w W ∧ w.heap.size < W.heap.size := by
  have h := run_bytes_of_string (P := Try.prog) w 9 36 5 ⟨l.toArray⟩ Try.underlying9 Try.underlying36 Try.underlying5
  obtain ⟨h1, h2, h3⟩ := bytes_world w 5 l (grownCap w (⟨l.toArray⟩ : ByteArray).size 0 5)
  refine ⟨_, _, h, h1, h2, h3, ?_⟩
  show w.heap.size < ((w.alloc _).drew).heap.size
  simp

theorem rd_set1 {w : World} {g : Nat} {cs : List Value} (h : Rd w (some ⟨g, 0, none⟩) cs) {k : Nat} (hk : k < cs.length) (u : Value) : Rd (w.setCell ⟨g, k, none⟩ u) (some ⟨g, 0, none⟩) (cs.set k u) := by
  intro j x hj
  refine ⟨g, 0, rfl, ?_⟩
  rw [Nat.zero_add]
  rw [List.getElem?_set] at hj
  split at hj
  · rename_i e
    subst e
    cases hj
    obtain ⟨_, _, e2, hc⟩ := h.at hk
    cases e2
    rw [Nat.zero_add] at hc
    exact World.cell?_setCell_same _ _ _ hc
  · rename_i e
    obtain ⟨_, _, e2, hc⟩ := h j x hj
    cases e2
    rw [Nat.zero_add] at hc
    rw [World.cell?_setCell_other (h := addr_ne e)]
    exact hc

theorem wrap_byte (x : UInt8) : IntKind.u8.wrap (x.toNat : Int) = (x.toNat : Int) := by
  have := x.toNat_lt
  rw [IntKind.wrap_u8]; omega

theorem ofInt_byte (x : UInt8) : BitVec.ofInt 8 (x.toNat : Int) = x.toBitVec := by
  rw [BitVec.ofInt_natCast]
  apply BitVec.eq_of_toNat_eq
  have := x.toNat_lt
  simp

theorem bits_xor_byte (x y : UInt8) : bits .xor .u8 (x.toNat : Int) (y.toNat : Int) = ((x ^^^ y).toNat : Int) := by
  show IntKind.u8.wrap ((BitVec.ofInt 8 (x.toNat : Int) ^^^ BitVec.ofInt 8 (y.toNat : Int)).toNat : Int) = _
  rw [ofInt_byte, ofInt_byte]
  exact wrap_byte (x ^^^ y)

theorem byte_of_int {c : Int} (h0 : 0 ≤ c) (h1 : c ≤ 255) : ∃ y : UInt8, c = (y.toNat : Int) := ⟨UInt8.ofNat c.toNat, by simp; omega⟩

theorem xor_ne (x y : UInt8) (h : y ≠ 0) : x ^^^ y ≠ x := by
  intro e
  apply h
  have e2 : x ^^^ (x ^^^ y) = x ^^^ x := by rw [e]
  rw [← UInt8.xor_assoc, UInt8.xor_self, UInt8.zero_xor] at e2
  exact e2

theorem fget_spoilt (l : List UInt8) (k : Nat) (u d : UInt8) (hu : (sealS l)[k]? = some u) (hd : d ≠ u) : fgetS ((sealS l).set k d) = badS :=
  fget_closed (open_spoilt l k u d hu hd)

theorem stBody_length {nx : Int} {K : List Kd} (h : okState nx K) : (stBody nx K).length ≤ 7686 := by
  have h1 := kdBs_le K fun i hi => (okState_kd h i hi).2.1
  have h2 := h.2.2.1
  unfold stBody stHead
  simp only [List.length_append, be_length]
  omega

set_option maxRecDepth 100000 in
set_option maxHeartbeats 6400000 in
theorem fback_c (nx : Int) (ao : Option Addr) (n cap : Nat) (K : List Kd) (wa : Int) (cb : UInt8) (w : World) (hx : Kds w ao n cap K) (htx : ∀ j, j < n → (K.getD j kd0).t.length ≤ 9223372036854775807) (ha0 : 0 ≤ wa) (ha1 : wa ≤ 65535) :
    Calls Try.prog 11 #[.agg #[.int .i64 nx, .slice ao n cap], .int .u16 wa, .int .u8 (cb.toNat : Int)] w fun e w' => e = .returned (.bool true) ∧ Ext w w' := by
  have Hx := Lib.hid hx; have HTx := Lib.hid htx; have HLen := Lib.hid hx.len
  have E0 := Lib.hid (ext_a1 w (.cells #[.int .i64 nx, .slice ao n cap] 55))
  have B0 := Lib.hid (Blk.new w 55 #[.int .i64 nx, .slice ao n cap])
  clear hx htx
  go_enter Try.func11, Try.ntmps11
  go_wp2_with fail
  refine (fgreat_c nx _ _ _ K _ (Hx.out.ext E0.out) HTx.out).mono ?_
  rintro e w1 ⟨rfl, hb1⟩
  have HB1 := Lib.hid hb1
  have S1 := Lib.hid (B0.out.ext hb1)
  have c0 : w1.cell? ⟨w.heap.size, 0, none⟩ = some (.int .i64 nx) := S1.out.cell 0
  have c1 : w1.cell? ⟨w.heap.size, 1, none⟩ = some (.slice ao n cap) := S1.out.cell 1
  clear hb1
  by_cases hgr : fgreatB K = true
  · go_wp2_with fail
    refine (folded_c _).mono ?_
    rintro e w2 ⟨rfl, hb2⟩
    have HB2 := Lib.hid ((E0.out.trans HB1.out).trans hb2)
    clear hb2
    go_wp2_with fail
    go_ret
    exact ⟨rfl, HB2.out⟩
  have hgr' : fgreatB K = false := by simpa using hgr
  clear hgr
  by_cases hcb : cb = 0
  · subst hcb
    go_wp2_with fail
    refine (folded_c _).mono ?_
    rintro e w2 ⟨rfl, hb2⟩
    have HB2 := Lib.hid ((E0.out.trans HB1.out).trans hb2)
    clear hb2
    go_wp2_with fail
    go_ret
    exact ⟨rfl, HB2.out⟩
  have hcz : ((cb.toNat : Int) == 0) = false := by
    rw [beq_eq_false_iff_ne]
    intro h
    apply hcb
    apply UInt8.toNat_inj.1
    simpa using h
  go_wp2_with fail
  refine (fput_c nx ao n cap K _ ((Hx.out.ext E0.out).ext HB1.out)).mono ?_
  rcases check_cases nx K with hck | hck
  case inr =>
    have HP1 := Lib.hid (fputS_no hck)
    clear hck
    rw [HP1.out]
    rintro e w2 ⟨rfl, hb2⟩
    have HB2 := Lib.hid ((E0.out.trans HB1.out).trans hb2)
    clear hb2
    go_wp2_with fail
    refine (folded_c _).mono ?_
    rintro e w3 ⟨rfl, hb3⟩
    have HB3 := Lib.hid (HB2.out.trans hb3)
    clear hb3
    go_wp2_with fail
    go_ret
    exact ⟨rfl, HB3.out⟩
  have hok := check_ok hck
  obtain ⟨P, hP⟩ : ∃ P, sealS (stBody nx K) = P := ⟨_, rfl⟩
  have HP1 : Hid (fputS nx K = (P, 0)) := Lib.hid (by rw [fputS_yes hck, hP])
  have HG0 : Hid (fgetS P = ⟨nx, K, 0⟩) := Lib.hid (by rw [← hP]; exact fget_put hok)
  have HG1 : Hid (∀ k u d, P[k]? = some u → d ≠ u → fgetS (P.set k d) = badS) := Lib.hid (fun k u d hu hd => by rw [← hP] at hu ⊢; exact fget_spoilt _ k u d hu hd)
  have HG2 : Hid (∀ k, k < P.length → fgetS (P.take k) = badS) := Lib.hid (fun k hk => by rw [← hP] at hk ⊢; exact fget_cut hok k hk)
  have hPl : 4 ≤ P.length ∧ P.length ≤ 7690 := by
    rw [← hP, sealS_length]
    have := stBody_length hok
    omega
  obtain ⟨pl, hpl⟩ : ∃ pl, P.length = pl := ⟨_, rfl⟩
  rw [hpl] at hPl
  have HPl := Lib.hid hpl
  have hpl1 : 4 ≤ pl := hPl.1
  have hpl2 : (pl : Int) ≤ 7690 := by omega
  clear hP hok hck hPl hpl
  rw [HP1.out]
  rintro e w2 ⟨rfl, hb2⟩
  have HB2 := Lib.hid (HB1.out.trans hb2)
  have S2 := Lib.hid (S1.out.ext hb2)
  clear hb2 c0 c1
  have hpl := HPl.out
  have hpz : ((pl : Int) == 0) = false := by simp; omega
  go_wp2_with fail
  refine (fget_c P _ (by rw [HPl.out]; omega)).mono ?_
  rw [HG0.out]
  intro e w3 hret
  obtain ⟨a3, c3, rfl, hk3, hb3⟩ := hret.out
  have HB3 := Lib.hid (HB2.out.trans (hb3.trans (ext_a1 w3 (.cells #[.int .i64 nx, .slice a3 K.length c3] 55))))
  have S3 := Lib.hid ((S2.out.ext hb3).ext (ext_a1 w3 (.cells #[.int .i64 nx, .slice a3 K.length c3] 55)))
  have X3 := Lib.hid (Blk.new w3 55 #[.int .i64 nx, .slice a3 K.length c3])
  have HK3 := Lib.hid (hk3.ext (ext_a1 w3 (.cells #[.int .i64 nx, .slice a3 K.length c3] 55)))
  clear hret hk3 hb3
  obtain ⟨V, hV⟩ : ∃ V, w3.alloc (.cells #[.int .i64 nx, .slice a3 K.length c3] 55) = V := ⟨_, rfl⟩
  obtain ⟨W, cp, hrun, hrd, hfz, hex, hlt⟩ := bytes_of (w3.alloc (.cells #[.int .i64 nx, .slice a3 K.length c3] 55)) P
  rw [hpl] at hrun hfz
  rw [hV] at HB3 S3 X3 HK3
  simp only [World.size_alloc] at hrun hrd hfz hex hlt
  obtain ⟨k, hk0⟩ : ∃ k : Nat, (k : Int) = wa % (pl : Int) := ⟨(wa % (pl : Int)).toNat, by have := Int.emod_nonneg wa (b := (pl : Int)) (by omega); omega⟩
  have hk : k < pl := by have := Int.emod_lt_of_pos wa (b := (pl : Int)) (by omega); omega
  have hkw : wa % (pl : Int) = (k : Int) := hk0.symm
  obtain ⟨u, hu⟩ : ∃ u, P[k]? = some u := ⟨P[k]'(by omega), List.getElem?_eq_getElem (by omega)⟩
  have hcell : W.cell? ⟨w3.heap.size + 1, k, none⟩ = some (.int .u8 (u.toNat : Int)) := by
    obtain ⟨_, _, e2, hc⟩ := hrd k (byteV u) (by rw [List.getElem?_map, hu]; rfl)
    cases e2
    rw [Nat.zero_add] at hc
    exact hc
  have hfk := hfz k hk
  have hd1 := xor_ne u cb hcb
  have hxor := bits_xor_byte u cb
  generalize u ^^^ cb = d at hd1 hxor
  have hrd2 := rd_set1 hrd (k := k) (by rw [List.length_map, hpl]; exact hk) (byteV d)
  rw [← List.map_set] at hrd2
  have hcv := run_tostr (P := Try.prog) _ 36 9 5 (n := pl) (l := P.set k d) (cap := cp) Try.underlying36 Try.underlying5 Try.underlying9 (by rw [List.length_set, hpl]) hrd2
  have HGs : Hid (fgetS (P.set k d) = badS) := Lib.hid (HG1.out k u _ hu hd1)
  have hVW : Ext V (W.setCell ⟨w3.heap.size + 1, k, none⟩ (byteV d)) := Below.setCell (by rw [← hV]; exact hex) (p := ⟨w3.heap.size + 1, k, none⟩) (by rw [← hV, World.size_alloc]; exact Nat.le_refl _) _
  have HVW := Lib.hid hVW
  have HSl : Hid ((P.set k d).length ≤ 1000000) := Lib.hid (by rw [List.length_set, hpl]; omega)
  clear hd1 hVW hk0 hu hrd hfz hrd2 hV hex
  generalize P.set k d = PS at *
  go_wp2_with fail
  refine (fget_c PS _ HSl.out).mono ?_
  rw [HGs.out]
  intro e w4 hret
  obtain ⟨a4, c4, rfl, _, hb4⟩ : ∃ a c, e = .returned (.tuple #[.agg #[.int .i64 0, .slice a 0 c], .int .i64 10]) ∧ Kds w4 a 0 c [] ∧ Ext _ w4 := hret.out
  have HX4 := Lib.hid ((HVW.out.trans hb4).trans (ext_a1 w4 (.cells #[.int .i64 0, .slice a4 0 c4] 55)))
  have HGc : Hid (fgetS (P.take k) = badS) := Lib.hid (HG2.out k (by rw [hpl]; exact hk))
  have hjl : (P.take k).length = k := by rw [List.length_take, hpl]; omega
  have HJL := Lib.hid hjl
  clear hret hb4 hcell hfk hxor hcv hrun hjl
  go_wp2_with fail
  refine (fget_c (P.take k) _ (by rw [HJL.out]; omega)).mono ?_
  rw [HGc.out]
  intro e w5 hret
  obtain ⟨a5, c5, rfl, _, hb5⟩ : ∃ a c, e = .returned (.tuple #[.agg #[.int .i64 0, .slice a 0 c], .int .i64 10]) ∧ Kds w5 a 0 c [] ∧ Ext _ w5 := hret.out
  have hx5 := (HX4.out.trans hb5).trans (ext_a1 w5 (.cells #[.int .i64 0, .slice a5 0 c5] 55))
  have S5 := Lib.hid (S3.out.ext hx5); have X5 := Lib.hid (X3.out.ext hx5); have HK5 := Lib.hid (HK3.out.ext hx5)
  have HX5 := Lib.hid hx5
  have HKs := Lib.hid (((Hx.out.ext E0.out).ext HB3.out).ext hx5)
  have s0 : (w5.alloc (.cells #[.int .i64 0, .slice a5 0 c5] 55)).cell? ⟨w.heap.size, 0, none⟩ = some (.int .i64 nx) := S5.out.cell 0
  have s1 : (w5.alloc (.cells #[.int .i64 0, .slice a5 0 c5] 55)).cell? ⟨w.heap.size, 1, none⟩ = some (.slice ao n cap) := S5.out.cell 1
  have x0 : (w5.alloc (.cells #[.int .i64 0, .slice a5 0 c5] 55)).cell? ⟨w3.heap.size, 0, none⟩ = some (.int .i64 nx) := X5.out.cell 0
  have x1 : (w5.alloc (.cells #[.int .i64 0, .slice a5 0 c5] 55)).cell? ⟨w3.heap.size, 1, none⟩ = some (.slice a3 K.length c3) := X5.out.cell 1
  clear hret hb5 hkw hk hx5
  go_wp2_with fail
  refine (fsame_c nx nx _ _ _ _ _ _ K K _ HK5.out HKs.out).mono ?_
  rw [sameS_refl]
  rintro e w6 ⟨rfl, hb6⟩
  have HX6 := Lib.hid (E0.out.trans (HB3.out.trans (HX5.out.trans hb6)))
  clear hb6
  go_wp2_with fail
  refine (folded_c _).mono ?_
  rintro e w7 ⟨rfl, hb7⟩
  have HX7 := Lib.hid (HX6.out.trans hb7)
  clear hb7
  go_wp2_with fail
  go_ret
  exact ⟨rfl, HX7.out⟩

end Go.Proofs.Ytkkafjknogfdnaa
