/- Walks: the manifest of some bytes. Walks: the document's manifest of some bytes. Walks: the document's manifest of some bytes. Plain laws: the bytes of a manifest, read, give it back; and no such bytes begin others. Plain laws: the document's parse of a manifest's bytes, and that both parses say the same of any bytes. Walks: the manifest that lies on a disk. Walks: the chapter's manifest on a disk; the law IndexmapLoad. Plain laws: a manifest that is laid on a disk, whenever the disk goes down. Walks: a manifest is laid on any disk. -/
import Derived.Test.YtmgpffknmmoggaaGreatDoorChecked
import Derived.Test.YtmgpffknmmoggaaGreatDoorG38PIndexPlay
import Derived.Test.YtmgpffknmmoggaaGreatDoorG4PIndexPlay
import Derived.Test.YtmgpffknmmoggaaGreatDoorG20PIndexPlay
import Derived.Laws.ResultCell
import Derived.Test.YtmgpffknmmoggaaGreatDoorG16PIndexPlay
import Derived.Test.YtmgpffknmmoggaaGreatDoorG6PIndexPlay
set_option linter.unusedVariables false
set_option linter.unusedSimpArgs false
namespace Go.Proofs.YtmgpffknmmoggaaGreatDoor
open Go.RowKit
end Go.Proofs.YtmgpffknmmoggaaGreatDoor
namespace Go.Proofs.YtmgpffknmmoggaaGreatDoor
open Go.RowKit
end Go.Proofs.YtmgpffknmmoggaaGreatDoor
namespace Go.Proofs.YtmgpffknmmoggaaGreatDoor
open Go.RowKit
end Go.Proofs.YtmgpffknmmoggaaGreatDoor
namespace Go.Proofs.YtmgpffknmmoggaaGreatDoor
end Go.Proofs.YtmgpffknmmoggaaGreatDoor
namespace Go.Proofs.YtmgpffknmmoggaaGreatDoor
end Go.Proofs.YtmgpffknmmoggaaGreatDoor
namespace Go.Proofs.YtmgpffknmmoggaaGreatDoor
open Go.RowKit
def mapN : List UInt8 := [109, 97, 112]
def newN : List UInt8 := [110, 101, 119]
set_option maxRecDepth 100000
set_option linter.unusedVariables false
set_option maxHeartbeats 3200000
end Go.Proofs.YtmgpffknmmoggaaGreatDoor
namespace Go.Proofs.YtmgpffknmmoggaaGreatDoor
open Go.RowKit
theorem msame_self (nx ck sd : Int) (L : List (List Int)) : msame nx ck sd L nx ck sd L = true := by rw [msame_yes]; simp
set_option maxRecDepth 100000
set_option linter.unusedVariables false
set_option maxHeartbeats 3200000
end Go.Proofs.YtmgpffknmmoggaaGreatDoor
namespace Go.Proofs.YtmgpffknmmoggaaGreatDoor
open Go.RowKit
def stepM (r : Int × DM) (k : DM → Int × DM) : Int × DM := if r.1 = 0 then k r.2 else r
def overM (σ : DM) : Int := if σ.down then 61 else 0
def goneM (σ : DM) (nm : List UInt8) : Int × DM := if (deleteM σ nm).1 = 4 then (0, (deleteM σ nm).2) else deleteM σ nm
def layM (σ : DM) (S : List UInt8) : Int × DM :=
  if freeM σ - (S.length : Int) < 6000 then (60, σ) else
  stepM (createM σ newN) fun b => stepM (appendM b newN S) fun c => stepM (syncM c newN) fun d => renameM d newN mapN
def swapM (σ : DM) (S : List UInt8) (e : Int) : Int × DM :=
  if e ≠ 0 then (e, σ) else if σ.down then (61, σ) else stepM (goneM σ newN) fun a => layM a S
theorem new_ne_map : newN ≠ mapN := by decide
variable {σ : DM} {o : Option (List UInt8)}
end Go.Proofs.YtmgpffknmmoggaaGreatDoor
namespace Go.Proofs.YtmgpffknmmoggaaGreatDoor
open Go.RowKit
theorem man_le {nx ck : Int} (sd : Int) {L : List (List Int)} (h : mvalid nx ck L = true) : (sealS (manBody nx ck sd L)).length ≤ 300 := by
  have hv := validB_parts (mvalid_parts h).2.1
  have h1 : (trimL L).length ≤ L.length := by unfold trimL; rw [List.length_take]; omega
  have h2 : (trimL L).flatten.length ≤ L.flatten.length := by unfold trimL; exact flatten_take_le L _
  have h3 := hv.1; have h4 := hv.2.1
  rw [sealS_length]
  unfold manBody
  rw [List.length_append, manHead_length, levs_length]
  omega
set_option maxRecDepth 100000
set_option linter.unusedVariables false
set_option maxHeartbeats 3200000
theorem over_c {w : World} {g : Nat} {F : Nat → Prop} {σ : DM} (h : Dk w g F σ) : Calls Tryz.prog 151 #[.pointer (some ⟨g, 0, none⟩)] w fun e w' => e = .returned (.int .i64 (overM σ)) ∧ w = w' := by
  have HS := Lib.hid (size_c h [] (by decide))
  have hc : ∃ z c, sizeM σ [] = (z, c) ∧ ((c = 61 ∧ overM σ = 61) ∨ (c = 4 ∧ overM σ = 0) ∨ (c = 0 ∧ overM σ = 0)) := by
    unfold sizeM overM
    split
    · exact ⟨_, _, rfl, .inl ⟨rfl, rfl⟩⟩
    · split
      · exact ⟨_, _, rfl, .inr (.inl ⟨rfl, rfl⟩)⟩
      · exact ⟨_, _, rfl, .inr (.inr ⟨rfl, rfl⟩)⟩
  obtain ⟨z, c, hz, hc⟩ := hc
  rw [hz] at HS
  clear h hz
  rcases hc with ⟨rfl, ho⟩ | ⟨rfl, ho⟩ | ⟨rfl, ho⟩ <;> rw [ho] <;> clear ho
  all_goals
    go_enter Tryz.func151, Tryz.ntmps151
    go_wp2_with fail
    refine HS.out.mono ?_
    rintro e w' ⟨rfl, rfl⟩
    go_wp2_with fail
    go_ret
    exact ⟨rfl, rfl⟩
theorem gone_c {w : World} {g : Nat} {F : Nat → Prop} {σ : DM} (h : Dk w g F σ) (nm : List UInt8) (hl : nm.length ≤ 9223372036854775807) : Calls Tryz.prog 178 #[.pointer (some ⟨g, 0, none⟩), .string ⟨nm.toArray⟩] w fun e w' => e = .returned (.int .i64 (goneM σ nm).1) ∧ DkS w g F (goneM σ nm).2 w' := by
  have HS := Lib.hid (delete_c h nm hl)
  obtain ⟨r, hr⟩ : ∃ r, deleteM σ nm = r := ⟨_, rfl⟩
  rw [hr] at HS
  have HG : Hid (goneM σ nm = if r.1 = 4 then (0, r.2) else r) := Lib.hid (by unfold goneM; rw [hr])
  obtain ⟨c, τ⟩ := r
  clear h hr
  by_cases h4 : c = 4
  · have HE : Hid (goneM σ nm = (0, τ)) := Lib.hid (by rw [HG.out]; simp only; rw [if_pos h4])
    subst h4
    rw [HE.out]
    go_enter Tryz.func178, Tryz.ntmps178
    go_wp2_with fail
    refine HS.out.mono ?_
    rintro e w' ⟨rfl, hd⟩
    have HD := Lib.hid hd
    clear hd
    go_wp2_with fail
    go_ret
    exact ⟨rfl, HD.out⟩
  · have HE : Hid (goneM σ nm = (c, τ)) := Lib.hid (by rw [HG.out]; simp only; rw [if_neg h4])
    rw [HE.out]
    have hb1 : (c != 4) = true := by simpa using h4
    have hb2 : (c == 4) = false := by simpa using h4
    clear h4
    go_enter Tryz.func178, Tryz.ntmps178
    go_wp2_with fail
    refine HS.out.mono ?_
    rintro e w' ⟨rfl, hd⟩
    have HD := Lib.hid hd
    clear hd
    go_wp2_with fail
    go_ret
    exact ⟨rfl, HD.out⟩
theorem free_bounds {w : World} {g : Nat} {F : Nat → Prop} {σ : DM} (h : Dk w g F σ) : 0 ≤ freeM σ ∧ freeM σ ≤ 1048576 := by
  have h1 := h.1.used; have h2 := h.1.cap1; unfold freeM; omega
theorem swap_c {w : World} {g : Nat} {F : Nat → Prop} {σ : DM} (h : Dk w g F σ) {ao : Option Addr} {n cap : Nat} {nx ck sd : Int} {L : List (List Int)} (hG : Grid w ao n cap L) (hsum : L.flatten.length ≤ 17592186044416) (hwf : ∀ x ∈ L.flatten, (Lit.int .i64 x).wf = true) (hs0 : 0 ≤ sd) (hs1 : sd < 18446744073709551616) {S : List UInt8} {E : Int} (hS : mputS nx ck sd L = (S, E)) (hSl : (S.length : Int) ≤ 1000000) :
    Calls Tryz.prog 118 #[.pointer (some ⟨g, 0, none⟩), .agg #[.int .i64 nx, .int .i64 ck, .int .u64 sd, .slice ao n cap]] w fun e w' => e = .returned (.int .i64 (swapM σ S E).1) ∧ DkS w g F (swapM σ S E).2 w' := by
  have hx := ext_a1 w (.cells #[.int .i64 nx, .int .i64 ck, .int .u64 sd, .slice ao n cap] 38)
  have HH := Lib.hid ((DkS.refl h).ext hx)
  have HP := Lib.hid (mput_c nx ck sd ao n cap L _ (hG.ext hx) hsum hwf hs0 hs1)
  rw [hS] at HP
  have hb := Blk.new w 38 #[.int .i64 nx, .int .i64 ck, .int .u64 sd, .slice ao n cap]
  have d0 := hb.cell 0; have d1 := hb.cell 1; have d2 := hb.cell 2; have d3 := hb.cell 3
  clear h hG hsum hwf hs0 hs1 hS hx hb
  by_cases hE : E = 0
  case neg =>
    have HM : Hid (swapM σ S E = (E, σ)) := Lib.hid (by unfold swapM; rw [if_pos hE])
    rw [HM.out]
    have hb1 : (E != 0) = true := by simpa using hE
    clear hE
    have ho : overM σ = 61 ∨ overM σ = 0 := by unfold overM; split; exact .inl rfl; exact .inr rfl
    go_enter Tryz.func118, Tryz.ntmps118
    go_wp2_with fail
    refine HP.out.mono ?_
    rintro e w1 ⟨rfl, hx⟩
    have HH := Lib.hid (HH.out.ext hx)
    clear hx d0 d1 d2 d3
    go_wp2_with fail
    refine (over_c HH.out.dk).mono ?_
    rcases ho with ho | ho <;> rw [ho] <;> clear ho
    all_goals
      rintro e w' ⟨rfl, rfl⟩
      go_wp2_with fail
      go_ret
      exact ⟨rfl, HH.out⟩
  case pos =>
  subst hE
  cases hd : σ.down with
  | true =>
    have HM : Hid (swapM σ S 0 = (61, σ)) := Lib.hid (by unfold swapM; rw [if_neg (by decide), if_pos hd])
    have HO : Hid (overM σ = 61) := Lib.hid (by unfold overM; rw [if_pos hd])
    rw [HM.out]
    clear hd
    go_enter Tryz.func118, Tryz.ntmps118
    go_wp2_with fail
    refine HP.out.mono ?_
    rintro e w1 ⟨rfl, hx⟩
    have HH := Lib.hid (HH.out.ext hx)
    clear hx d0 d1 d2 d3
    go_wp2_with fail
    refine (over_c HH.out.dk).mono ?_
    rw [HO.out]
    rintro e w' ⟨rfl, rfl⟩
    go_wp2_with fail
    go_ret
    exact ⟨rfl, HH.out⟩
  | false =>
  have HO : Hid (overM σ = 0) := Lib.hid (by unfold overM; rw [if_neg (by rw [hd]; decide)])
  obtain ⟨r0, e0⟩ : ∃ r, goneM σ newN = r := ⟨_, rfl⟩
  have HM0 : Hid (swapM σ S 0 = stepM r0 fun a => layM a S) := Lib.hid (by unfold swapM; rw [if_neg (by decide), if_neg (by rw [hd]; decide), e0])
  have HE0 := Lib.hid e0
  obtain ⟨c0, s0⟩ := r0
  clear hd e0
  go_enter Tryz.func118, Tryz.ntmps118
  go_wp2_with fail
  refine HP.out.mono ?_
  rintro e w1 ⟨rfl, hx⟩
  have HH := Lib.hid (HH.out.ext hx)
  clear hx d0 d1 d2 d3
  go_wp2_with fail
  refine (over_c HH.out.dk).mono ?_
  rw [HO.out]
  rintro e w' ⟨rfl, rfl⟩
  go_wp2_with fail
  refine (gone_c HH.out.dk newN (by decide)).mono ?_
  rw [HE0.out]
  rintro e w2 ⟨rfl, hd⟩
  have HH := Lib.hid (HH.out.trans hd)
  clear hd
  by_cases h0 : c0 = 0
  case neg =>
    have hb : (c0 != 0) = true := by simpa using h0
    have HR : Hid (swapM σ S 0 = (c0, s0)) := Lib.hid (by rw [HM0.out, stepM, if_neg h0])
    clear h0
    go_wp2_with fail
    go_ret
    rw [HR.out]
    exact ⟨rfl, HH.out⟩
  case pos =>
  subst h0
  have HM1 : Hid (swapM σ S 0 = layM s0 S) := Lib.hid (by rw [HM0.out, stepM, if_pos rfl])
  have hfb := free_bounds HH.out.dk
  obtain ⟨fr, hfr⟩ : ∃ fr, freeM s0 = fr := ⟨_, rfl⟩
  have HFr := Lib.hid hfr
  rw [hfr] at hfb
  obtain ⟨hf0, hf1⟩ := hfb
  have hw : IntKind.i64.wrap (fr - (S.length : Int)) = fr - (S.length : Int) := IntWalk.i64_in _ (by omega)
  clear hfr
  go_wp2_with fail
  refine (free_c HH.out.dk).mono ?_
  rw [HFr.out]
  rintro e w3 ⟨rfl, hx⟩
  have HH := Lib.hid (HH.out.ext hx)
  clear hx
  by_cases hlt : fr - (S.length : Int) < 6000
  case pos =>
    have HR : Hid (swapM σ S 0 = (60, s0)) := Lib.hid (by rw [HM1.out, layM, HFr.out, if_pos hlt])
    go_wp2_with fail
    go_ret
    rw [HR.out]
    exact ⟨rfl, HH.out⟩
  case neg =>
  obtain ⟨r1, e1⟩ : ∃ r, createM s0 newN = r := ⟨_, rfl⟩
  have HM2 : Hid (swapM σ S 0 = stepM r1 fun b => stepM (appendM b newN S) fun c => stepM (syncM c newN) fun d => renameM d newN mapN) := Lib.hid (by rw [HM1.out, layM, HFr.out, if_neg hlt, e1])
  have HE1 := Lib.hid e1
  obtain ⟨c1, s1⟩ := r1
  clear e1
  go_wp2_with fail
  refine (create_c HH.out.dk newN (by decide)).mono ?_
  rw [HE1.out]
  rintro e w4 ⟨rfl, hd⟩
  have HH := Lib.hid (HH.out.trans hd)
  clear hd hw hf0 hf1 hlt
  by_cases hc1 : c1 = 0
  case neg =>
    have hb : (c1 != 0) = true := by simpa using hc1
    have HR : Hid (swapM σ S 0 = (c1, s1)) := Lib.hid (by rw [HM2.out, stepM, if_neg hc1])
    clear hc1
    go_wp2_with fail
    go_ret
    rw [HR.out]
    exact ⟨rfl, HH.out⟩
  case pos =>
  subst hc1
  obtain ⟨r2, e2⟩ : ∃ r, appendM s1 newN S = r := ⟨_, rfl⟩
  have HM3 : Hid (swapM σ S 0 = stepM r2 fun c => stepM (syncM c newN) fun d => renameM d newN mapN) := Lib.hid (by rw [HM2.out, stepM, if_pos rfl]; rw [e2])
  have HE2 := Lib.hid e2
  obtain ⟨c2, s2⟩ := r2
  clear e2
  go_wp2_with fail
  refine (append_c HH.out.dk newN S (by decide) (by omega)).mono ?_
  rw [HE2.out]
  rintro e w5 ⟨rfl, hd⟩
  have HH := Lib.hid (HH.out.trans hd)
  clear hd
  by_cases hc2 : c2 = 0
  case neg =>
    have hb : (c2 != 0) = true := by simpa using hc2
    have HR : Hid (swapM σ S 0 = (c2, s2)) := Lib.hid (by rw [HM3.out, stepM, if_neg hc2])
    clear hc2
    go_wp2_with fail
    go_ret
    rw [HR.out]
    exact ⟨rfl, HH.out⟩
  case pos =>
  subst hc2
  obtain ⟨r3, e3⟩ : ∃ r, syncM s2 newN = r := ⟨_, rfl⟩
  have HM4 : Hid (swapM σ S 0 = stepM r3 fun d => renameM d newN mapN) := Lib.hid (by rw [HM3.out, stepM, if_pos rfl]; rw [e3])
  have HE3 := Lib.hid e3
  obtain ⟨c3, s3⟩ := r3
  clear e3
  go_wp2_with fail
  refine (sync_c HH.out.dk newN (by decide)).mono ?_
  rw [HE3.out]
  rintro e w6 ⟨rfl, hd⟩
  have HH := Lib.hid (HH.out.trans hd)
  clear hd
  by_cases hc3 : c3 = 0
  case neg =>
    have hb : (c3 != 0) = true := by simpa using hc3
    have HR : Hid (swapM σ S 0 = (c3, s3)) := Lib.hid (by rw [HM4.out, stepM, if_neg hc3])
    clear hc3
    go_wp2_with fail
    go_ret
    rw [HR.out]
    exact ⟨rfl, HH.out⟩
  case pos =>
  subst hc3
  obtain ⟨r4, e4⟩ : ∃ r, renameM s3 newN mapN = r := ⟨_, rfl⟩
  have HM5 : Hid (swapM σ S 0 = r4) := Lib.hid (by rw [HM4.out, stepM, if_pos rfl]; exact e4)
  have HE4 := Lib.hid e4
  obtain ⟨c4, s4⟩ := r4
  clear e4
  go_wp2_with fail
  refine (rename_c HH.out.dk newN mapN (by decide) (by decide)).mono ?_
  rw [HE4.out]
  rintro e w7 ⟨rfl, hd⟩
  have HH := Lib.hid (HH.out.trans hd)
  clear hd
  go_wp2_with fail
  go_ret
  rw [HM5.out]
  exact ⟨rfl, HH.out⟩
end Go.Proofs.YtmgpffknmmoggaaGreatDoor
