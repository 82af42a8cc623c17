/-
  DERIVED: THE SHELF's CONTRACTS AT THIS DUMP, IN PLAIN WORDS (tools/lay-plain.mjs out of 'ZzShelf0.lean', which tools/lay-shelf.mjs wrote): THE SAME DECLARATIONS UNDER THE SAME NAMES: 'import', 'namespace', 'open', 'def', 'theorem' AND NOTHING ELSE: no command of the shelf's: FOR A HAND-IN. Each laying: the table of numbers ('.._ren') and one theorem, a field a fact of the dump's own or the kernel's comparison; each contract: ONE APPLICATION.
-/
import Derived.Shelf.Lays
import Derived.Shelf.Lays2
import Derived.Ground.NamesProg
import Derived.Ground.Names2Prog
import Derived.Test.YtbjdadekheoebaaProg
set_option linter.all false
set_option linter.unusedVariables false
set_option linter.unusedSimpArgs false
set_option linter.unusedSectionVars false
set_option linter.unnecessarySimpa false
namespace Go.Proofs
open Go.Shelf
def Try.lays192_ren : Go.Shelf.Ren := ⟨fun | 192 => 201 | 190 => 211 | 125 => 194 | 258 => 237 | 128 => 230 | 129 => 231 | 302 => 245 | 303 => 246 | 304 => 247 | 305 => 248 | 306 => 249 | 307 => 250 | 308 => 251 | 309 => 252 | 310 => 253 | 333 => 256 | 329 => 240 | 330 => 241 | 334 => 257 | 335 => 258 | 336 => 259 | 344 => 260 | n => n, fun | 31 => 156 | 0 => 0 | 9 => 9 | 3 => 3 | 46 => 286 | 51 => 317 | 53 => 54 | 4 => 4 | 183 => 311 | 182 => 310 | 131 => 114 | 5 => 5 | 218 => 323 | 222 => 326 | 228 => 334 | 229 => 335 | n => n, fun | n => n⟩
theorem Try.lays192 : Go.Proofs.Lays.n192 Try.prog Try.lays192_ren := {
  mixed := by kernel_rfl
  f125 := Try.func194.trans (congrArg some (by kernel_rfl))
  f128 := Try.func230.trans (congrArg some (by kernel_rfl))
  f129 := Try.func231.trans (congrArg some (by kernel_rfl))
  f190 := Try.func211.trans (congrArg some (by kernel_rfl))
  f192 := Try.func201.trans (congrArg some (by kernel_rfl))
  f258 := Try.func237.trans (congrArg some (by kernel_rfl))
  f302 := Try.func245.trans (congrArg some (by kernel_rfl))
  f303 := Try.func246.trans (congrArg some (by kernel_rfl))
  f304 := Try.func247.trans (congrArg some (by kernel_rfl))
  f305 := Try.func248.trans (congrArg some (by kernel_rfl))
  f306 := Try.func249.trans (congrArg some (by kernel_rfl))
  f307 := Try.func250.trans (congrArg some (by kernel_rfl))
  f308 := Try.func251.trans (congrArg some (by kernel_rfl))
  f309 := Try.func252.trans (congrArg some (by kernel_rfl))
  f310 := Try.func253.trans (congrArg some (by kernel_rfl))
  f329 := Try.func240.trans (congrArg some (by kernel_rfl))
  f330 := Try.func241.trans (congrArg some (by kernel_rfl))
  f333 := Try.func256.trans (congrArg some (by kernel_rfl))
  f334 := Try.func257.trans (congrArg some (by kernel_rfl))
  f335 := Try.func258.trans (congrArg some (by kernel_rfl))
  f336 := Try.func259.trans (congrArg some (by kernel_rfl))
  f344 := Try.func260.trans (congrArg some (by kernel_rfl))
  t0 := Try.underlying0
  a0 := Try.isAgg0
  z0 := Try.sizeOf0
  v0 := Try.zeroValue0
  t3 := Try.underlying3
  a3 := Try.isAgg3
  z3 := Try.sizeOf3
  v3 := Try.zeroValue3
  t4 := Try.underlying4
  a4 := Try.isAgg4
  z4 := Try.sizeOf4
  v4 := Try.zeroValue4
  t5 := Try.underlying5
  a5 := Try.isAgg5
  z5 := Try.sizeOf5
  v5 := Try.zeroValue5
  t9 := Try.underlying9
  a9 := Try.isAgg9
  z9 := Try.sizeOf9
  v9 := Try.zeroValue9
  t31 := Try.underlying156
  a31 := Try.isAgg156
  z31 := Try.sizeOf156
  v31 := Try.zeroValue156
  t46 := Try.underlying286
  a46 := Try.isAgg286
  z46 := Try.sizeOf286
  v46 := Try.zeroValue286
  t51 := Try.underlying317
  a51 := Try.isAgg317
  z51 := Try.sizeOf317
  v51 := Try.zeroValue317
  t53 := Try.underlying54
  a53 := Try.isAgg54
  z53 := Try.sizeOf54
  v53 := Try.zeroValue54
  t131 := Try.underlying114
  a131 := Try.isAgg114
  z131 := Try.sizeOf114
  v131 := Try.zeroValue114
  t182 := Try.underlying310
  a182 := Try.isAgg310
  z182 := Try.sizeOf310
  v182 := Try.zeroValue310
  t183 := Try.underlying311
  a183 := Try.isAgg311
  z183 := Try.sizeOf311
  v183 := Try.zeroValue311
  t218 := Try.underlying323
  a218 := Try.isAgg323
  z218 := Try.sizeOf323
  v218 := Try.zeroValue323
  t222 := Try.underlying326
  a222 := Try.isAgg326
  z222 := Try.sizeOf326
  v222 := Try.zeroValue326
  t228 := Try.underlying334
  a228 := Try.isAgg334
  z228 := Try.sizeOf334
  v228 := Try.zeroValue334
  t229 := Try.underlying335
  a229 := Try.isAgg335
  z229 := Try.sizeOf335
  v229 := Try.zeroValue335 }
def Try.laysNm225_ren : Go.Shelf.Ren := ⟨fun | 25 => 189 | 31 => 219 | 32 => 220 | 37 => 238 | n => n, fun | 22 => 72 | 3 => 3 | 4 => 4 | 40 => 286 | 0 => 0 | n => n, fun | n => n⟩
theorem Try.laysNm225 : Go.Proofs.Lays2.n25 Try.prog Try.laysNm225_ren := {
  mixed := by kernel_rfl
  f25 := Try.func189.trans (congrArg some (by kernel_rfl))
  f31 := Try.func219.trans (congrArg some (by kernel_rfl))
  f32 := Try.func220.trans (congrArg some (by kernel_rfl))
  f37 := Try.func238.trans (congrArg some (by kernel_rfl))
  t0 := Try.underlying0
  a0 := Try.isAgg0
  z0 := Try.sizeOf0
  v0 := Try.zeroValue0
  t3 := Try.underlying3
  a3 := Try.isAgg3
  z3 := Try.sizeOf3
  v3 := Try.zeroValue3
  t4 := Try.underlying4
  a4 := Try.isAgg4
  z4 := Try.sizeOf4
  v4 := Try.zeroValue4
  t22 := Try.underlying72
  a22 := Try.isAgg72
  z22 := Try.sizeOf72
  v22 := Try.zeroValue72
  t40 := Try.underlying286
  a40 := Try.isAgg286
  z40 := Try.sizeOf286
  v40 := Try.zeroValue286 }
def Try.laysNm221_ren : Go.Shelf.Ren := ⟨fun | 21 => 195 | 27 => 232 | 28 => 233 | 35 => 244 | 39 => 255 | n => n, fun | 22 => 72 | 3 => 3 | 4 => 4 | 0 => 0 | n => n, fun | n => n⟩
theorem Try.laysNm221 : Go.Proofs.Lays2.n21 Try.prog Try.laysNm221_ren := {
  mixed := by kernel_rfl
  f21 := Try.func195.trans (congrArg some (by kernel_rfl))
  f27 := Try.func232.trans (congrArg some (by kernel_rfl))
  f28 := Try.func233.trans (congrArg some (by kernel_rfl))
  f35 := Try.func244.trans (congrArg some (by kernel_rfl))
  f39 := Try.func255.trans (congrArg some (by kernel_rfl))
  t0 := Try.underlying0
  a0 := Try.isAgg0
  z0 := Try.sizeOf0
  v0 := Try.zeroValue0
  t3 := Try.underlying3
  a3 := Try.isAgg3
  z3 := Try.sizeOf3
  v3 := Try.zeroValue3
  t4 := Try.underlying4
  a4 := Try.isAgg4
  z4 := Try.sizeOf4
  v4 := Try.zeroValue4
  t22 := Try.underlying72
  a22 := Try.isAgg72
  z22 := Try.sizeOf72
  v22 := Try.zeroValue72
  i3 := by kernel_rfl }
end Go.Proofs
