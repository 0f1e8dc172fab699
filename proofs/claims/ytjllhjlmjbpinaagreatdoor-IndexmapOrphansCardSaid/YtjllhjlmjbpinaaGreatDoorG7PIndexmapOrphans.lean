/- The shelf's contracts of slices.Sort and slices.Clone at this seat, in plain words: written by a tool of the kit (lay-plain) from a short module of mine, turned into a template. -/
import Derived.WalkKit
import Derived.Ground.NamesProg
import Derived.Ground.Names2Prog
import Derived.Shelf.Sort.Plain
import Derived.Shelf.Slices.Clone
import Derived.Test.YtjllhjlmjbpinaaGreatDoorProg
set_option linter.unusedVariables false
set_option linter.unusedSimpArgs false
namespace Go.Proofs
open Go.Shelf
def Tryz.lays190_ren : Go.Shelf.Ren := ⟨fun | 190 => 21 | 125 => 47 | 258 => 46 | 128 => 70 | 129 => 71 | 302 => 61 | 303 => 62 | 304 => 63 | 305 => 64 | 306 => 65 | 307 => 66 | 308 => 67 | 309 => 68 | 310 => 69 | 333 => 87 | 329 => 88 | 330 => 89 | 334 => 90 | 335 => 91 | 336 => 92 | 344 => 99 | n => n, fun | 31 => 31 | 9 => 9 | 3 => 3 | 46 => 76 | 0 => 0 | 51 => 104 | 53 => 23 | 4 => 4 | 183 => 96 | 182 => 95 | 131 => 101 | 5 => 5 | 218 => 120 | 222 => 124 | 228 => 133 | 229 => 134 | n => n, fun | n => n⟩
theorem Tryz.lays190 : Go.Proofs.Lays.n190 Tryz.prog Tryz.lays190_ren := {
  mixed := by kernel_rfl
  f125 := Tryz.func47.trans (congrArg some (by kernel_rfl))
  f128 := Tryz.func70.trans (congrArg some (by kernel_rfl))
  f129 := Tryz.func71.trans (congrArg some (by kernel_rfl))
  f190 := Tryz.func21.trans (congrArg some (by kernel_rfl))
  f258 := Tryz.func46.trans (congrArg some (by kernel_rfl))
  f302 := Tryz.func61.trans (congrArg some (by kernel_rfl))
  f303 := Tryz.func62.trans (congrArg some (by kernel_rfl))
  f304 := Tryz.func63.trans (congrArg some (by kernel_rfl))
  f305 := Tryz.func64.trans (congrArg some (by kernel_rfl))
  f306 := Tryz.func65.trans (congrArg some (by kernel_rfl))
  f307 := Tryz.func66.trans (congrArg some (by kernel_rfl))
  f308 := Tryz.func67.trans (congrArg some (by kernel_rfl))
  f309 := Tryz.func68.trans (congrArg some (by kernel_rfl))
  f310 := Tryz.func69.trans (congrArg some (by kernel_rfl))
  f329 := Tryz.func88.trans (congrArg some (by kernel_rfl))
  f330 := Tryz.func89.trans (congrArg some (by kernel_rfl))
  f333 := Tryz.func87.trans (congrArg some (by kernel_rfl))
  f334 := Tryz.func90.trans (congrArg some (by kernel_rfl))
  f335 := Tryz.func91.trans (congrArg some (by kernel_rfl))
  f336 := Tryz.func92.trans (congrArg some (by kernel_rfl))
  f344 := Tryz.func99.trans (congrArg some (by kernel_rfl))
  t0 := Tryz.underlying0
  a0 := Tryz.isAgg0
  z0 := Tryz.sizeOf0
  v0 := Tryz.zeroValue0
  t3 := Tryz.underlying3
  a3 := Tryz.isAgg3
  z3 := Tryz.sizeOf3
  v3 := Tryz.zeroValue3
  t4 := Tryz.underlying4
  a4 := Tryz.isAgg4
  z4 := Tryz.sizeOf4
  v4 := Tryz.zeroValue4
  t5 := Tryz.underlying5
  a5 := Tryz.isAgg5
  z5 := Tryz.sizeOf5
  v5 := Tryz.zeroValue5
  t9 := Tryz.underlying9
  a9 := Tryz.isAgg9
  z9 := Tryz.sizeOf9
  v9 := Tryz.zeroValue9
  t31 := Tryz.underlying31
  a31 := Tryz.isAgg31
  z31 := Tryz.sizeOf31
  v31 := Tryz.zeroValue31
  t46 := Tryz.underlying76
  a46 := Tryz.isAgg76
  z46 := Tryz.sizeOf76
  v46 := Tryz.zeroValue76
  t51 := Tryz.underlying104
  a51 := Tryz.isAgg104
  z51 := Tryz.sizeOf104
  v51 := Tryz.zeroValue104
  t53 := Tryz.underlying23
  a53 := Tryz.isAgg23
  z53 := Tryz.sizeOf23
  v53 := Tryz.zeroValue23
  t131 := Tryz.underlying101
  a131 := Tryz.isAgg101
  z131 := Tryz.sizeOf101
  v131 := Tryz.zeroValue101
  t182 := Tryz.underlying95
  a182 := Tryz.isAgg95
  z182 := Tryz.sizeOf95
  v182 := Tryz.zeroValue95
  t183 := Tryz.underlying96
  a183 := Tryz.isAgg96
  z183 := Tryz.sizeOf96
  v183 := Tryz.zeroValue96
  t218 := Tryz.underlying120
  a218 := Tryz.isAgg120
  z218 := Tryz.sizeOf120
  v218 := Tryz.zeroValue120
  t222 := Tryz.underlying124
  a222 := Tryz.isAgg124
  z222 := Tryz.sizeOf124
  v222 := Tryz.zeroValue124
  t228 := Tryz.underlying133
  a228 := Tryz.isAgg133
  z228 := Tryz.sizeOf133
  v228 := Tryz.zeroValue133
  t229 := Tryz.underlying134
  a229 := Tryz.isAgg134
  z229 := Tryz.sizeOf134
  v229 := Tryz.zeroValue134 }
end Go.Proofs
