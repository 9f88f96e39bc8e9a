/- The contracts of slices.Sort and slices.Compact at []int, laid at this program (written by a tool of the kit). -/
import Derived.Shelf.Sort.Plain
import Derived.Shelf.Slices.CompactI
import Derived.Test.YtocggojbafediaaDoorProg
namespace Go.Proofs.YtocggojbafediaaDoor.Ref
set_option linter.unusedVariables false
set_option linter.unusedSimpArgs false
open Go.Shelf
def lays189_ren : Go.Shelf.Ren := ⟨fun | 189 => 73 | 125 => 106 | 257 => 105 | 128 => 131 | 129 => 132 | 294 => 122 | 295 => 123 | 296 => 124 | 297 => 125 | 298 => 126 | 299 => 127 | 216 => 128 | 300 => 129 | 301 => 130 | 328 => 141 | 329 => 142 | 330 => 143 | 331 => 144 | 332 => 145 | 215 => 146 | 343 => 150 | n => n, fun | 28 => 86 | 3 => 3 | 46 => 127 | 0 => 0 | 51 => 166 | 53 => 141 | 4 => 4 | 183 => 159 | 182 => 158 | 131 => 111 | 5 => 5 | 9 => 9 | 218 => 176 | 222 => 180 | 228 => 183 | 229 => 57 | n => n, fun | n => n⟩
theorem lays189 : Go.Proofs.Lays.n189 Tryd.prog lays189_ren := {
  mixed := by kernel_rfl
  f125 := Tryd.func106.trans (congrArg some (by kernel_rfl))
  f128 := Tryd.func131.trans (congrArg some (by kernel_rfl))
  f129 := Tryd.func132.trans (congrArg some (by kernel_rfl))
  f189 := Tryd.func73.trans (congrArg some (by kernel_rfl))
  f215 := Tryd.func146.trans (congrArg some (by kernel_rfl))
  f216 := Tryd.func128.trans (congrArg some (by kernel_rfl))
  f257 := Tryd.func105.trans (congrArg some (by kernel_rfl))
  f294 := Tryd.func122.trans (congrArg some (by kernel_rfl))
  f295 := Tryd.func123.trans (congrArg some (by kernel_rfl))
  f296 := Tryd.func124.trans (congrArg some (by kernel_rfl))
  f297 := Tryd.func125.trans (congrArg some (by kernel_rfl))
  f298 := Tryd.func126.trans (congrArg some (by kernel_rfl))
  f299 := Tryd.func127.trans (congrArg some (by kernel_rfl))
  f300 := Tryd.func129.trans (congrArg some (by kernel_rfl))
  f301 := Tryd.func130.trans (congrArg some (by kernel_rfl))
  f328 := Tryd.func141.trans (congrArg some (by kernel_rfl))
  f329 := Tryd.func142.trans (congrArg some (by kernel_rfl))
  f330 := Tryd.func143.trans (congrArg some (by kernel_rfl))
  f331 := Tryd.func144.trans (congrArg some (by kernel_rfl))
  f332 := Tryd.func145.trans (congrArg some (by kernel_rfl))
  f343 := Tryd.func150.trans (congrArg some (by kernel_rfl))
  t0 := Tryd.underlying0
  a0 := Tryd.isAgg0
  z0 := Tryd.sizeOf0
  v0 := Tryd.zeroValue0
  t3 := Tryd.underlying3
  a3 := Tryd.isAgg3
  z3 := Tryd.sizeOf3
  v3 := Tryd.zeroValue3
  t4 := Tryd.underlying4
  a4 := Tryd.isAgg4
  z4 := Tryd.sizeOf4
  v4 := Tryd.zeroValue4
  t5 := Tryd.underlying5
  a5 := Tryd.isAgg5
  z5 := Tryd.sizeOf5
  v5 := Tryd.zeroValue5
  t9 := Tryd.underlying9
  a9 := Tryd.isAgg9
  z9 := Tryd.sizeOf9
  v9 := Tryd.zeroValue9
  t28 := Tryd.underlying86
  a28 := Tryd.isAgg86
  z28 := Tryd.sizeOf86
  v28 := Tryd.zeroValue86
  t46 := Tryd.underlying127
  a46 := Tryd.isAgg127
  z46 := Tryd.sizeOf127
  v46 := Tryd.zeroValue127
  t51 := Tryd.underlying166
  a51 := Tryd.isAgg166
  z51 := Tryd.sizeOf166
  v51 := Tryd.zeroValue166
  t53 := Tryd.underlying141
  a53 := Tryd.isAgg141
  z53 := Tryd.sizeOf141
  v53 := Tryd.zeroValue141
  t131 := Tryd.underlying111
  a131 := Tryd.isAgg111
  z131 := Tryd.sizeOf111
  v131 := Tryd.zeroValue111
  t182 := Tryd.underlying158
  a182 := Tryd.isAgg158
  z182 := Tryd.sizeOf158
  v182 := Tryd.zeroValue158
  t183 := Tryd.underlying159
  a183 := Tryd.isAgg159
  z183 := Tryd.sizeOf159
  v183 := Tryd.zeroValue159
  t218 := Tryd.underlying176
  a218 := Tryd.isAgg176
  z218 := Tryd.sizeOf176
  v218 := Tryd.zeroValue176
  t222 := Tryd.underlying180
  a222 := Tryd.isAgg180
  z222 := Tryd.sizeOf180
  v222 := Tryd.zeroValue180
  t228 := Tryd.underlying183
  a228 := Tryd.isAgg183
  z228 := Tryd.sizeOf183
  v228 := Tryd.zeroValue183
  t229 := Tryd.underlying57
  a229 := Tryd.isAgg57
  z229 := Tryd.sizeOf57
  v229 := Tryd.zeroValue57 }
def lays2_20_ren : Go.Shelf.Ren := ⟨fun | 20 => 74 | n => n, fun | 22 => 86 | 3 => 3 | 4 => 4 | 0 => 0 | n => n, fun | n => n⟩
theorem lays2_20 : Go.Proofs.Lays2.n20 Tryd.prog lays2_20_ren := {
  mixed := by kernel_rfl
  f20 := Tryd.func74.trans (congrArg some (by kernel_rfl))
  t0 := Tryd.underlying0
  a0 := Tryd.isAgg0
  z0 := Tryd.sizeOf0
  v0 := Tryd.zeroValue0
  t3 := Tryd.underlying3
  a3 := Tryd.isAgg3
  z3 := Tryd.sizeOf3
  v3 := Tryd.zeroValue3
  t4 := Tryd.underlying4
  a4 := Tryd.isAgg4
  z4 := Tryd.sizeOf4
  v4 := Tryd.zeroValue4
  t22 := Tryd.underlying86
  a22 := Tryd.isAgg86
  z22 := Tryd.sizeOf86
  v22 := Tryd.zeroValue86
  i3 := by kernel_rfl }
end Go.Proofs.YtocggojbafediaaDoor.Ref
