/- Walks: a manifest of which one byte is another one is none, nor is one that is cut off, or has a byte more. -/
import Derived.Test.YtkkafjknogfdnaaChecked
import Derived.Test.YtkkafjknogfdnaaMS
namespace Go.Proofs.Ytkkafjknogfdnaa
open Go.RowKit

/-- '[]byte(s)' -/
theorem bytes_of (w : World) (l : List UInt8) : ∃ W cap, (convert 9 36 (.string ⟨l.toArray⟩)).run Try.prog w = .ok (.slice (some ⟨w.heap.size, 0, none⟩) l.length cap) W ∧
    Rd W (some ⟨w.heap.size, 0, none⟩) (l.map byteV) ∧ (∀ j, j < l.length → W.frozen? ⟨w.heap.size, j, none⟩ = false) ∧ Ext w W ∧ w.heap.size < W.heap.size := by
  have h := run_bytes_of_string (P := Try.prog) w 9 36 5 ⟨l.toArray⟩ Try.underlying9 Try.underlying36 Try.underlying5
  obtain ⟨h1, h2, h3⟩ := bytes_world w 5 l (grownCap w (⟨l.toArray⟩ : ByteArray).size 0 5)
  refine ⟨_, _, h, h1, h2, h3, ?_⟩
  show w.heap.size < ((w.alloc _).drew).heap.size
  simp

theorem rd_set1 {w : World} {g : Nat} {cs : List Value} (h : Rd w (some ⟨g, 0, none⟩) cs) {k : Nat} (hk : k < cs.length) (u : Value) : Rd (w.setCell ⟨g, k, none⟩ u) (some ⟨g, 0, none⟩) (cs.set k u) := by
  intro j x hj
  refine ⟨g, 0, rfl, ?_⟩
  rw [Nat.zero_add]
  rw [List.getElem?_set] at hj
  split at hj
  · rename_i e
    subst e
    cases hj
    obtain ⟨_, _, e2, hc⟩ := h.at hk
    cases e2
    rw [Nat.zero_add] at hc
    exact World.cell?_setCell_same _ _ _ hc
  · rename_i e
    obtain ⟨_, _, e2, hc⟩ := h j x hj
    cases e2
    rw [Nat.zero_add] at hc
    rw [World.cell?_setCell_other (h := addr_ne e)]
    exact hc

theorem wrap_byte (x : UInt8) : IntKind.u8.wrap (x.toNat : Int) = (x.toNat : Int) := by
  have := x.toNat_lt
  rw [IntKind.wrap_u8]; omega

theorem ofInt_byte (x : UInt8) : BitVec.ofInt 8 (x.toNat : Int) = x.toBitVec := by
  rw [BitVec.ofInt_natCast]
  apply BitVec.eq_of_toNat_eq
  have := x.toNat_lt
  simp

theorem bits_or_byte (x y : UInt8) : bits .or .u8 (x.toNat : Int) (y.toNat : Int) = ((x ||| y).toNat : Int) := by
  show IntKind.u8.wrap ((BitVec.ofInt 8 (x.toNat : Int) ||| BitVec.ofInt 8 (y.toNat : Int)).toNat : Int) = _
  rw [ofInt_byte, ofInt_byte]
  exact wrap_byte (x ||| y)
theorem bits_xor_byte (x y : UInt8) : bits .xor .u8 (x.toNat : Int) (y.toNat : Int) = ((x ^^^ y).toNat : Int) := by
  show IntKind.u8.wrap ((BitVec.ofInt 8 (x.toNat : Int) ^^^ BitVec.ofInt 8 (y.toNat : Int)).toNat : Int) = _
  rw [ofInt_byte, ofInt_byte]
  exact wrap_byte (x ^^^ y)

theorem byte_of_int {c : Int} (h0 : 0 ≤ c) (h1 : c ≤ 255) : ∃ y : UInt8, c = (y.toNat : Int) := ⟨UInt8.ofNat c.toNat, by simp; omega⟩

theorem xor_ne (x y : UInt8) (h : y ≠ 0) : x ^^^ y ≠ x := by
  intro e
  apply h
  have e2 : x ^^^ (x ^^^ y) = x ^^^ x := by rw [e]
  rw [← UInt8.xor_assoc, UInt8.xor_self, UInt8.zero_xor] at e2
  exact e2

theorem or_one_ne (y : UInt8) : y ||| 1 ≠ 0 := by
  intro e
  have := congrArg UInt8.toBitVec e
  have h : (y ||| 1).toBitVec.getLsbD 0 = true := by simp
  rw [this] at h
  simp at h

set_option maxRecDepth 100000 in
set_option maxHeartbeats 6400000 in
theorem mspoilt_c (nx ck sd : Int) (ao : Option Addr) (n cap : Nat) (L : List (List Int)) (wa wb : Int) (cb : UInt8) (w : World) (hx : Grid w ao n cap L)
    (hwf : ∀ x ∈ L.flatten, (Lit.int .i64 x).wf = true) (hs0 : 0 ≤ sd) (hs1 : sd < 18446744073709551616) (ha0 : 0 ≤ wa) (ha1 : wa ≤ 65535) (hb0 : 0 ≤ wb) (hb1 : wb ≤ 65535) :
    Calls Try.prog 6 #[.agg #[.int .i64 nx, .int .i64 ck, .int .u64 sd, .slice ao n cap], .agg #[.int .u16 wa, .int .u16 wb], .int .u8 (cb.toNat : Int)] w fun e w' => e = .returned (.bool true) ∧ Ext w w' := by
  have Hx := Lib.hid hx
  have HWF := Lib.hid hwf
  have S1 := Lib.hid hs1
  clear hx hwf hs1
  obtain ⟨f0, f1, f2, f3, _⟩ := ((Mbx.mk w nx ck sd (.slice ao n cap)).ext (ext_a1 _ (.cells #[.int .u16 wa, .int .u16 wb] 43))).cs
  have E0 := Lib.hid (ext_a2 w (.cells #[.int .i64 nx, .int .i64 ck, .int .u64 sd, .slice ao n cap] 41) (.cells #[.int .u16 wa, .int .u16 wb] 43))
  have g0 : ((w.alloc (.cells #[.int .i64 nx, .int .i64 ck, .int .u64 sd, .slice ao n cap] 41)).alloc (.cells #[.int .u16 wa, .int .u16 wb] 43)).cell? ⟨w.heap.size + 1, 0, none⟩ = some (.int .u16 wa) := by simp
  have g1 : ((w.alloc (.cells #[.int .i64 nx, .int .i64 ck, .int .u64 sd, .slice ao n cap] 41)).alloc (.cells #[.int .u16 wa, .int .u16 wb] 43)).cell? ⟨w.heap.size + 1, 1, none⟩ = some (.int .u16 wb) := by simp
  go_enter Try.func6, Try.ntmps6
  go_wp2_with fail
  refine (great_c _ _ _ L _ (Hx.out.ext E0.out)).mono ?_
  rintro e w1 ⟨rfl, hb1'⟩
  have HB1 := Lib.hid hb1'; clear hb1'
  by_cases hgr : greatB L = true
  · go_wp2_with fail
    refine (sealed_c _).mono ?_
    rintro e w2 ⟨rfl, hb2⟩
    have HB2 := Lib.hid ((E0.out.trans HB1.out).trans hb2)
    clear hb2
    go_wp2_with fail
    go_ret
    exact ⟨rfl, HB2.out⟩
  have hgr' : greatB L = false := by simpa using hgr
  obtain ⟨l1, l2, l3⟩ := great_len L hgr'
  have LL3 : Hid (L.flatten.length ≤ 17592186044416) := Lib.hid (by omega)
  clear l1 l2 l3 hgr
  have r0 := cell_ext HB1.out f0; have r1 := cell_ext HB1.out f1; have r2 := cell_ext HB1.out f2; have r3 := cell_ext HB1.out f3
  go_wp2_with fail
  refine (mvalid_c nx ck sd _ _ _ L _ ((Hx.out.ext E0.out).ext HB1.out) LL3.out HWF.out).mono ?_
  rintro e w2 ⟨rfl, hb2⟩
  have HB2 := Lib.hid (HB1.out.trans hb2)
  clear hb2 r0 r1 r2 r3
  by_cases hv : mvalid nx ck L = false
  · rw [hv]
    go_wp2_with fail
    refine (sealed_c _).mono ?_
    rintro e w3 ⟨rfl, hb3⟩
    have HB3 := Lib.hid ((E0.out.trans HB2.out).trans hb3)
    clear hb3
    go_wp2_with fail
    go_ret
    exact ⟨rfl, HB3.out⟩
  have hv' : mvalid nx ck L = true := by simpa using hv
  clear hv
  rw [hv']
  obtain ⟨P, hP⟩ : ∃ P, sealS (manBody nx ck sd L) = P := ⟨_, rfl⟩
  have HP1 : Hid (mputS nx ck sd L = (P, 0)) := Lib.hid (by rw [mput_bytes hv', hP])
  have HG1 : Hid (∀ k u d, P[k]? = some u → d ≠ u → mgetS (P.set k d) = badM) := Lib.hid (fun k u d hu hd => by rw [← hP] at hu ⊢; exact mget_spoilt _ k u d hu hd)
  have HG2 : Hid (∀ k, k < P.length → mgetS (P.take k) = badM) := Lib.hid (fun k hk => by rw [← hP] at hk ⊢; exact mget_cut hv' hs0 S1.out k hk)
  have HG3 : Hid (mgetS (P ++ [120]) = badM) := Lib.hid (by rw [← hP]; exact mget_more hv' hs0 S1.out [120] (by simp))
  have hPl : 25 ≤ P.length ∧ P.length ≤ 4611686018427387000 := by
    rw [← hP, sealS_length]
    unfold manBody
    rw [List.length_append, manHead_length, levs_length, trimL_flatten]
    have := LL3.out
    have h5 := (rows_ok hv').1
    omega
  obtain ⟨pl, hpl⟩ : ∃ pl, P.length = pl := ⟨_, rfl⟩
  rw [hpl] at hPl
  have HPl := Lib.hid hpl
  have hpl1 : 25 ≤ pl := hPl.1
  have hpl2 : (pl : Int) ≤ 4611686018427387000 := by omega
  clear hP hv' hPl hpl
  have r0 := cell_ext HB2.out f0; have r1 := cell_ext HB2.out f1; have r2 := cell_ext HB2.out f2; have r3 := cell_ext HB2.out f3
  go_wp2_with fail
  refine (mput_c nx ck sd _ _ _ L _ ((Hx.out.ext E0.out).ext HB2.out) LL3.out HWF.out (by omega) S1.out).mono ?_
  rw [HP1.out]
  rintro e w3 ⟨rfl, hb3⟩
  have HB3 := Lib.hid (HB2.out.trans hb3)
  clear hb3 r0 r1 r2 r3
  have hpl := HPl.out
  have hpz : ((pl : Int) == 0) = false := by simp; omega
  obtain ⟨W, cp, hrun, hrd, hfz, hex, hlt⟩ := bytes_of w3 P
  rw [hpl] at hrun hfz
  have q0 := cell_ext (HB3.out.trans hex) g0
  obtain ⟨k, hk0⟩ : ∃ k : Nat, (k : Int) = wa % (pl : Int) := ⟨(wa % (pl : Int)).toNat, by have := Int.emod_nonneg wa (b := (pl : Int)) (by omega); omega⟩
  have hk : k < pl := by have := Int.emod_lt_of_pos wa (b := (pl : Int)) (by omega); omega
  have hkw : wa % (pl : Int) = (k : Int) := hk0.symm
  obtain ⟨u, hu⟩ : ∃ u, P[k]? = some u := ⟨P[k]'(by omega), List.getElem?_eq_getElem (by omega)⟩
  have hcell : W.cell? ⟨w3.heap.size, k, none⟩ = some (.int .u8 (u.toNat : Int)) := by
    obtain ⟨_, _, e2, hc⟩ := hrd k (byteV u) (by rw [List.getElem?_map, hu]; rfl)
    cases e2
    rw [Nat.zero_add] at hc
    exact hc
  have hfk := hfz k hk
  have hy1 := or_one_ne cb
  have hor : bits .or .u8 (cb.toNat : Int) 1 = ((cb ||| 1).toNat : Int) := bits_or_byte cb 1
  generalize cb ||| 1 = y at hy1 hor
  have hd1 := xor_ne u y hy1
  have hxor := bits_xor_byte u y
  generalize u ^^^ y = d at hd1 hxor
  have hrd2 := rd_set1 hrd (k := k) (by rw [List.length_map, hpl]; exact hk) (byteV d)
  rw [← List.map_set] at hrd2
  have hcv := run_tostr (P := Try.prog) _ 36 9 5 (n := pl) (l := P.set k d) (cap := cp) Try.underlying36 Try.underlying5 Try.underlying9 (by rw [List.length_set, hpl]) hrd2
  have HGs : Hid (mgetS (P.set k d) = badM) := Lib.hid (HG1.out k u _ hu hd1)
  have HBW : Hid (Ext w3 (W.setCell ⟨w3.heap.size, k, none⟩ (byteV d))) := Lib.hid (Below.setCell hex (p := ⟨w3.heap.size, k, none⟩) (Nat.le_refl _) _)
  have HSl : Hid ((P.set k d).length ≤ 4611686018427387903) := Lib.hid (by rw [List.length_set, hpl]; omega)
  clear hy1 hd1
  have HEx := Lib.hid hex
  clear hk0 hu hrd hfz hex hrd2
  generalize P.set k d = PS at *
  go_wp2_with fail
  refine (mget_c PS _ HSl.out).mono ?_
  rw [HGs.out]
  intro e w4 hret
  obtain ⟨a4, c4, rfl, hb4⟩ := hret.bad_out
  have HX4 := Lib.hid ((HBW.out.trans hb4).trans (ext_a1 w4 (.cells #[.int .i64 0, .int .i64 0, .int .u64 0, .slice a4 0 c4] 41)))
  have q1 := cell_ext (HB3.out.trans HX4.out) g1
  obtain ⟨j, hj0⟩ : ∃ k : Nat, (k : Int) = wb % (pl : Int) := ⟨(wb % (pl : Int)).toNat, by have := Int.emod_nonneg wb (b := (pl : Int)) (by omega); omega⟩
  have hj : j < pl := by have := Int.emod_lt_of_pos wb (b := (pl : Int)) (by omega); omega
  have hjw : wb % (pl : Int) = (j : Int) := hj0.symm
  have HGc : Hid (mgetS (P.take j) = badM) := Lib.hid (HG2.out j (by rw [hpl]; exact hj))
  clear hret hb4 hkw hk hcell hfk hor hxor hcv hrun q0 hj0
  have hjl : (P.take j).length = j := by rw [List.length_take, hpl]; omega
  have HJL := Lib.hid hjl; clear hjl
  go_wp2_with fail
  refine (mget_c (P.take j) _ (by rw [HJL.out]; omega)).mono ?_
  rw [HGc.out]
  intro e w5 hret
  obtain ⟨a5, c5, rfl, hb5⟩ := hret.bad_out
  have HX5 := Lib.hid ((HX4.out.trans hb5).trans (ext_a1 w5 (.cells #[.int .i64 0, .int .i64 0, .int .u64 0, .slice a5 0 c5] 41)))
  clear hret hb5 hjw hj q1
  go_wp2_with fail
  refine (mget_c (P ++ [120]) _ (by rw [List.length_append, hpl]; simp; omega)).mono ?_
  rw [HG3.out]
  intro e w6 hret
  obtain ⟨a6, c6, rfl, hb6⟩ := hret.bad_out
  have HX6 := Lib.hid ((HX5.out.trans hb6).trans (ext_a1 w6 (.cells #[.int .i64 0, .int .i64 0, .int .u64 0, .slice a6 0 c6] 41)))
  clear hret hb6
  go_wp2_with fail
  refine (sealed_c _).mono ?_
  rintro e w7 ⟨rfl, hb7⟩
  have HX7 := Lib.hid (E0.out.trans (HB3.out.trans (HX6.out.trans hb7)))
  clear hb7
  go_wp2_with fail
  go_ret
  exact ⟨rfl, HX7.out⟩

end Go.Proofs.Ytkkafjknogfdnaa
