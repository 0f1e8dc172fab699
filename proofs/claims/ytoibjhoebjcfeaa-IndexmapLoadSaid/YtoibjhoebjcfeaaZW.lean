/- Walks: the chapter's disk. -/
import Derived.Test.YtoibjhoebjcfeaaZV
namespace Go.Proofs.Ytoibjhoebjcfeaa
open Go.RowKit

set_option maxRecDepth 100000
set_option linter.unusedVariables false
set_option maxHeartbeats 3200000

theorem sinks_c (w : World) : Calls Try.prog 9 #[] w fun e w' => e = .returned (.bool true) ∧ Ext w w' := by
  go_enter Try.func9, Try.ntmps9
  go_wp2_with fail
  refine (KD.new w 5 (by decide) (by decide) (Ext.refl _)).mono ?_
  rintro e w' ⟨g, rfl, hk⟩
  have HK := Lib.hid hk
  clear hk
  go_wp2_with fail
  refine (KD.create HK.out [97] (by decide) (c := 0) (σ' := ⟨5, [⟨[97], [], 0⟩], 0, 0, false, false, 0, []⟩) (by kernel_rfl)).mono ?_
  rintro e w' ⟨rfl, hk⟩
  have HK := Lib.hid hk
  clear hk
  go_wp2_with fail
  refine (KD.append HK.out [97] [120, 121, 122] (by decide) (by decide) (c := 0) (σ' := ⟨5, [⟨[97], [120, 121, 122], 0⟩], 0, 0, false, false, 0, []⟩) (by kernel_rfl)).mono ?_
  rintro e w' ⟨rfl, hk⟩
  have HK := Lib.hid hk
  clear hk
  go_wp2_with fail
  refine (KD.append HK.out [97] [117, 118, 119] (by decide) (by decide) (c := 60) (σ' := ⟨5, [⟨[97], [120, 121, 122], 0⟩], 0, 0, false, false, 0, []⟩) (by kernel_rfl)).mono ?_
  rintro e w' ⟨rfl, hk⟩
  have HK := Lib.hid hk
  clear hk
  go_wp2_with fail
  refine (KD.append HK.out [98] [120] (by decide) (by decide) (c := 4) (σ' := ⟨5, [⟨[97], [120, 121, 122], 0⟩], 0, 0, false, false, 0, []⟩) (by kernel_rfl)).mono ?_
  rintro e w' ⟨rfl, hk⟩
  have HK := Lib.hid hk
  clear hk
  go_wp2_with fail
  refine (KD.free HK.out (n := 2) (by kernel_rfl)).mono ?_
  rintro e w' ⟨rfl, hx⟩
  have HK := Lib.hid (HK.out.ext hx)
  clear hx
  go_wp2_with fail
  refine (KD.read HK.out [97] 1 2 (by decide) (by decide) (by decide) (by decide) (by decide) (s := [121, 122]) (c := 0) (σ' := ⟨5, [⟨[97], [120, 121, 122], 0⟩], 1, 0, false, false, 0, []⟩) (by kernel_rfl)).mono ?_
  rintro e w' ⟨rfl, hk⟩
  have HK := Lib.hid hk
  clear hk
  go_wp2_with fail
  refine (KD.read HK.out [97] 2 2 (by decide) (by decide) (by decide) (by decide) (by decide) (s := []) (c := 2) (σ' := ⟨5, [⟨[97], [120, 121, 122], 0⟩], 2, 0, false, false, 0, []⟩) (by kernel_rfl)).mono ?_
  rintro e w' ⟨rfl, hk⟩
  have HK := Lib.hid hk
  clear hk
  go_wp2_with fail
  refine (KD.reads HK.out (n := 2) (by kernel_rfl)).mono ?_
  rintro e w' ⟨rfl, rfl⟩
  go_wp2_with fail
  refine (KD.sync HK.out [97] (by decide) (c := 0) (σ' := ⟨5, [⟨[97], [120, 121, 122], 3⟩], 2, 0, false, false, 0, []⟩) (by kernel_rfl)).mono ?_
  rintro e w' ⟨rfl, hk⟩
  have HK := Lib.hid hk
  clear hk
  go_wp2_with fail
  refine (KD.append HK.out [97] [117, 118] (by decide) (by decide) (c := 0) (σ' := ⟨5, [⟨[97], [120, 121, 122, 117, 118], 3⟩], 2, 0, false, false, 0, []⟩) (by kernel_rfl)).mono ?_
  rintro e w' ⟨rfl, hk⟩
  have HK := Lib.hid hk
  clear hk
  go_wp2_with fail
  refine (KD.crash1 HK.out 1 (c := 0) (σ' := ⟨5, [⟨[97], [120, 121, 122, 117], 4⟩], 2, 0, true, false, 0, []⟩) (by kernel_rfl)).mono ?_
  rintro e w' ⟨rfl, hk⟩
  have HK := Lib.hid hk
  clear hk
  go_wp2_with fail
  refine (KD.start HK.out (c := 0) (σ' := ⟨5, [⟨[97], [120, 121, 122, 117], 4⟩], 2, 1, false, false, 0, []⟩) (by kernel_rfl)).mono ?_
  rintro e w' ⟨rfl, hk⟩
  have HK := Lib.hid hk
  clear hk
  go_wp2_with fail
  refine (KD.size HK.out [97] (by decide) (n := 4) (c := 0) (by kernel_rfl)).mono ?_
  rintro e w' ⟨rfl, rfl⟩
  go_wp2_with fail
  refine (KD.fail0 HK.out 0 (by decide) (c := 0) (σ' := ⟨5, [⟨[97], [120, 121, 122, 117], 4⟩], 2, 1, false, true, 0, []⟩) (by kernel_rfl)).mono ?_
  rintro e w' ⟨rfl, hk⟩
  have HK := Lib.hid hk
  clear hk
  go_wp2_with fail
  refine (KD.append HK.out [97] [116] (by decide) (by decide) (c := 61) (σ' := ⟨5, [⟨[97], [120, 121, 122, 117], 4⟩], 2, 1, true, false, 0, []⟩) (by kernel_rfl)).mono ?_
  rintro e w' ⟨rfl, hk⟩
  have HK := Lib.hid hk
  clear hk
  go_wp2_with fail
  refine (KD.up HK.out (b := false) (by kernel_rfl)).mono ?_
  rintro e w' ⟨rfl, rfl⟩
  go_wp2_with fail
  refine (KD.start HK.out (c := 0) (σ' := ⟨5, [⟨[97], [120, 121, 122, 117], 4⟩], 2, 2, false, false, 0, []⟩) (by kernel_rfl)).mono ?_
  rintro e w' ⟨rfl, hk⟩
  have HK := Lib.hid hk
  clear hk
  go_wp2_with fail
  refine (KD.size HK.out [97] (by decide) (n := 4) (c := 0) (by kernel_rfl)).mono ?_
  rintro e w' ⟨rfl, rfl⟩
  go_wp2_with fail
  refine (KD.spoil HK.out [97] [120, 120] (by decide) (by decide) 3 (by decide) (c := 0) (σ' := ⟨5, [⟨[97], [120, 121, 122, 120], 4⟩], 2, 2, false, false, 0, []⟩) (by kernel_rfl)).mono ?_
  rintro e w' ⟨rfl, hk⟩
  have HK := Lib.hid hk
  clear hk
  go_wp2_with fail
  refine (KD.read HK.out [97] 0 4 (by decide) (by decide) (by decide) (by decide) (by decide) (s := [120, 121, 122, 120]) (c := 0) (σ' := ⟨5, [⟨[97], [120, 121, 122, 120], 4⟩], 3, 2, false, false, 0, []⟩) (by kernel_rfl)).mono ?_
  rintro e w' ⟨rfl, hk⟩
  have HK := Lib.hid hk
  clear hk
  go_wp2_with fail
  refine (KD.cut HK.out [97] (by decide) 1 (by decide) (c := 0) (σ' := ⟨5, [⟨[97], [120], 1⟩], 3, 2, false, false, 0, []⟩) (by kernel_rfl)).mono ?_
  rintro e w' ⟨rfl, hk⟩
  have HK := Lib.hid hk
  clear hk
  go_wp2_with fail
  refine (KD.size HK.out [97] (by decide) (n := 1) (c := 0) (by kernel_rfl)).mono ?_
  rintro e w' ⟨rfl, rfl⟩
  go_wp2_with fail
  go_ret
  exact ⟨rfl, HK.out.base⟩

end Go.Proofs.Ytoibjhoebjcfeaa
