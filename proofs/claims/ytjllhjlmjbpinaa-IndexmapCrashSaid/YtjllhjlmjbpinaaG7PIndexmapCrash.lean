/- The shelf's contracts of slices.Sort and slices.Clone at this seat, in plain words: written by a tool of the kit (lay-plain) from a short module of mine, turned into a template. -/
import Derived.WalkKit
import Derived.Ground.NamesProg
import Derived.Ground.Names2Prog
import Derived.Shelf.Sort.Plain
import Derived.Shelf.Slices.Clone
import Derived.Test.YtjllhjlmjbpinaaProg
set_option linter.unusedVariables false
set_option linter.unusedSimpArgs false
namespace Go.Proofs
open Go.Shelf
def Try.lays190_ren : Go.Shelf.Ren := ⟨fun | 190 => 80 | 125 => 94 | 258 => 93 | 128 => 111 | 129 => 112 | 302 => 102 | 303 => 103 | 304 => 104 | 305 => 105 | 306 => 106 | 307 => 107 | 308 => 108 | 309 => 109 | 310 => 110 | 333 => 116 | 329 => 117 | 330 => 118 | 334 => 119 | 335 => 120 | 336 => 121 | 344 => 124 | n => n, fun | 31 => 70 | 9 => 9 | 3 => 3 | 46 => 112 | 0 => 0 | 51 => 114 | 53 => 42 | 4 => 4 | 183 => 119 | 182 => 118 | 131 => 124 | 5 => 5 | 218 => 130 | 222 => 134 | 228 => 137 | 229 => 138 | n => n, fun | n => n⟩
theorem Try.lays190 : Go.Proofs.Lays.n190 Try.prog Try.lays190_ren := {
  mixed := by kernel_rfl
  f125 := Try.func94.trans (congrArg some (by kernel_rfl))
  f128 := Try.func111.trans (congrArg some (by kernel_rfl))
  f129 := Try.func112.trans (congrArg some (by kernel_rfl))
  f190 := Try.func80.trans (congrArg some (by kernel_rfl))
  f258 := Try.func93.trans (congrArg some (by kernel_rfl))
  f302 := Try.func102.trans (congrArg some (by kernel_rfl))
  f303 := Try.func103.trans (congrArg some (by kernel_rfl))
  f304 := Try.func104.trans (congrArg some (by kernel_rfl))
  f305 := Try.func105.trans (congrArg some (by kernel_rfl))
  f306 := Try.func106.trans (congrArg some (by kernel_rfl))
  f307 := Try.func107.trans (congrArg some (by kernel_rfl))
  f308 := Try.func108.trans (congrArg some (by kernel_rfl))
  f309 := Try.func109.trans (congrArg some (by kernel_rfl))
  f310 := Try.func110.trans (congrArg some (by kernel_rfl))
  f329 := Try.func117.trans (congrArg some (by kernel_rfl))
  f330 := Try.func118.trans (congrArg some (by kernel_rfl))
  f333 := Try.func116.trans (congrArg some (by kernel_rfl))
  f334 := Try.func119.trans (congrArg some (by kernel_rfl))
  f335 := Try.func120.trans (congrArg some (by kernel_rfl))
  f336 := Try.func121.trans (congrArg some (by kernel_rfl))
  f344 := Try.func124.trans (congrArg some (by kernel_rfl))
  t0 := Try.underlying0
  a0 := Try.isAgg0
  z0 := Try.sizeOf0
  v0 := Try.zeroValue0
  t3 := Try.underlying3
  a3 := Try.isAgg3
  z3 := Try.sizeOf3
  v3 := Try.zeroValue3
  t4 := Try.underlying4
  a4 := Try.isAgg4
  z4 := Try.sizeOf4
  v4 := Try.zeroValue4
  t5 := Try.underlying5
  a5 := Try.isAgg5
  z5 := Try.sizeOf5
  v5 := Try.zeroValue5
  t9 := Try.underlying9
  a9 := Try.isAgg9
  z9 := Try.sizeOf9
  v9 := Try.zeroValue9
  t31 := Try.underlying70
  a31 := Try.isAgg70
  z31 := Try.sizeOf70
  v31 := Try.zeroValue70
  t46 := Try.underlying112
  a46 := Try.isAgg112
  z46 := Try.sizeOf112
  v46 := Try.zeroValue112
  t51 := Try.underlying114
  a51 := Try.isAgg114
  z51 := Try.sizeOf114
  v51 := Try.zeroValue114
  t53 := Try.underlying42
  a53 := Try.isAgg42
  z53 := Try.sizeOf42
  v53 := Try.zeroValue42
  t131 := Try.underlying124
  a131 := Try.isAgg124
  z131 := Try.sizeOf124
  v131 := Try.zeroValue124
  t182 := Try.underlying118
  a182 := Try.isAgg118
  z182 := Try.sizeOf118
  v182 := Try.zeroValue118
  t183 := Try.underlying119
  a183 := Try.isAgg119
  z183 := Try.sizeOf119
  v183 := Try.zeroValue119
  t218 := Try.underlying130
  a218 := Try.isAgg130
  z218 := Try.sizeOf130
  v218 := Try.zeroValue130
  t222 := Try.underlying134
  a222 := Try.isAgg134
  z222 := Try.sizeOf134
  v222 := Try.zeroValue134
  t228 := Try.underlying137
  a228 := Try.isAgg137
  z228 := Try.sizeOf137
  v228 := Try.zeroValue137
  t229 := Try.underlying138
  a229 := Try.isAgg138
  z229 := Try.sizeOf138
  v229 := Try.zeroValue138 }
def Try.lays2_15_ren : Go.Shelf.Ren := ⟨fun | 15 => 70 | n => n, fun | 22 => 32 | 3 => 3 | 4 => 4 | n => n, fun | n => n⟩
theorem Try.lays2_15 : Go.Proofs.Lays2.n15 Try.prog Try.lays2_15_ren := {
  mixed := by kernel_rfl
  f15 := Try.func70.trans (congrArg some (by kernel_rfl))
  t3 := Try.underlying3
  a3 := Try.isAgg3
  z3 := Try.sizeOf3
  v3 := Try.zeroValue3
  t4 := Try.underlying4
  a4 := Try.isAgg4
  z4 := Try.sizeOf4
  v4 := Try.zeroValue4
  t22 := Try.underlying32
  a22 := Try.isAgg32
  z22 := Try.sizeOf32
  v22 := Try.zeroValue32
  i3 := by kernel_rfl }
end Go.Proofs
