/-
  DERIVED: THE SHELF's CONTRACTS AT THIS DUMP, IN PLAIN WORDS (tools/lay-plain.mjs out of 'AeLayS2.lean', which tools/lay-shelf.mjs wrote): THE SAME DECLARATIONS UNDER THE SAME NAMES: 'import', 'namespace', 'open', 'def', 'theorem' AND NOTHING ELSE: no command of the shelf's: FOR A HAND-IN. Each laying: the table of numbers ('.._ren') and one theorem, a field a fact of the dump's own or the kernel's comparison; each contract: ONE APPLICATION.
-/
import Derived.Shelf.SlLaysNS
import Derived.Test.YtoepfmodbhfckaaRows
import Derived.KernelRfl
namespace Go.Proofs
open Go.Shelf
def sort124_ren : Go.Shelf.Ren := ⟨fun | 53 => 124 | 64 => 151 | 63 => 155 | 78 => 174 | 79 => 175 | 70 => 177 | 71 => 178 | 72 => 179 | 73 => 180 | 74 => 181 | 75 => 182 | 59 => 153 | 76 => 183 | 77 => 184 | 88 => 194 | 89 => 190 | 90 => 191 | 91 => 195 | 92 => 196 | 68 => 176 | 96 => 207 | n => n, fun | 22 => 23 | 23 => 3 | 3 => 3 | 51 => 189 | 0 => 0 | 67 => 212 | 69 => 26 | 4 => 4 | 61 => 206 | 60 => 205 | 44 => 154 | 5 => 5 | 9 => 9 | 75 => 222 | 79 => 225 | 83 => 235 | 84 => 236 | n => n, fun | n => n⟩
theorem sort124 : Go.Proofs.SlLaysN.n53 Try.prog sort124_ren := {
 mixed := by kernel_rfl
 f53 := ⟨Try.f124.name, by decide, Try.func124.trans (congrArg some (by kernel_rfl))⟩
 f59 := ⟨Try.f153.name, by decide, Try.func153.trans (congrArg some (by kernel_rfl))⟩
 f63 := ⟨Try.f155.name, by decide, Try.func155.trans (congrArg some (by kernel_rfl))⟩
 f64 := Try.func151.trans (congrArg some (by kernel_rfl))
 f68 := ⟨Try.f176.name, by decide, Try.func176.trans (congrArg some (by kernel_rfl))⟩
 f70 := ⟨Try.f177.name, by decide, Try.func177.trans (congrArg some (by kernel_rfl))⟩
 f71 := ⟨Try.f178.name, by decide, Try.func178.trans (congrArg some (by kernel_rfl))⟩
 f72 := ⟨Try.f179.name, by decide, Try.func179.trans (congrArg some (by kernel_rfl))⟩
 f73 := ⟨Try.f180.name, by decide, Try.func180.trans (congrArg some (by kernel_rfl))⟩
 f74 := ⟨Try.f181.name, by decide, Try.func181.trans (congrArg some (by kernel_rfl))⟩
 f75 := ⟨Try.f182.name, by decide, Try.func182.trans (congrArg some (by kernel_rfl))⟩
 f76 := ⟨Try.f183.name, by decide, Try.func183.trans (congrArg some (by kernel_rfl))⟩
 f77 := ⟨Try.f184.name, by decide, Try.func184.trans (congrArg some (by kernel_rfl))⟩
 f78 := Try.func174.trans (congrArg some (by kernel_rfl))
 f79 := Try.func175.trans (congrArg some (by kernel_rfl))
 f88 := ⟨Try.f194.name, by decide, Try.func194.trans (congrArg some (by kernel_rfl))⟩
 f89 := Try.func190.trans (congrArg some (by kernel_rfl))
 f90 := Try.func191.trans (congrArg some (by kernel_rfl))
 f91 := ⟨Try.f195.name, by decide, Try.func195.trans (congrArg some (by kernel_rfl))⟩
 f92 := ⟨Try.f196.name, by decide, Try.func196.trans (congrArg some (by kernel_rfl))⟩
 f96 := ⟨Try.f207.name, by decide, Try.func207.trans (congrArg some (by kernel_rfl))⟩
 t0 := Try.underlying0
 a0 := Try.isAgg0
 z0 := Try.sizeOf0
 v0 := Try.zeroValue0
 t3 := Try.underlying3
 a3 := Try.isAgg3
 z3 := Try.sizeOf3
 v3 := Try.zeroValue3
 t4 := Try.underlying4
 a4 := Try.isAgg4
 z4 := Try.sizeOf4
 v4 := Try.zeroValue4
 t5 := Try.underlying5
 a5 := Try.isAgg5
 z5 := Try.sizeOf5
 v5 := Try.zeroValue5
 t9 := Try.underlying9
 a9 := Try.isAgg9
 z9 := Try.sizeOf9
 v9 := Try.zeroValue9
 t22 := Try.underlying23
 a22 := Try.isAgg23
 z22 := Try.sizeOf23
 v22 := Try.zeroValue23
 t23 := Try.underlying3
 a23 := Try.isAgg3
 z23 := Try.sizeOf3
 v23 := Try.zeroValue3
 t44 := Try.underlying154
 a44 := Try.isAgg154
 z44 := Try.sizeOf154
 v44 := Try.zeroValue154
 t51 := Try.underlying189
 a51 := Try.isAgg189
 z51 := Try.sizeOf189
 v51 := Try.zeroValue189
 t60 := Try.underlying205
 a60 := Try.isAgg205
 z60 := Try.sizeOf205
 v60 := Try.zeroValue205
 t61 := Try.underlying206
 a61 := Try.isAgg206
 z61 := Try.sizeOf206
 v61 := Try.zeroValue206
 t67 := Try.underlying212
 a67 := Try.isAgg212
 z67 := Try.sizeOf212
 v67 := Try.zeroValue212
 t69 := Try.underlying26
 a69 := Try.isAgg26
 z69 := Try.sizeOf26
 v69 := Try.zeroValue26
 t75 := Try.underlying222
 a75 := Try.isAgg222
 z75 := Try.sizeOf222
 v75 := Try.zeroValue222
 t79 := Try.underlying225
 a79 := Try.isAgg225
 z79 := Try.sizeOf225
 v79 := Try.zeroValue225
 t83 := Try.underlying235
 a83 := Try.isAgg235
 z83 := Try.sizeOf235
 v83 := Try.zeroValue235
 t84 := Try.underlying236
 a84 := Try.isAgg236
 z84 := Try.sizeOf236
 v84 := Try.zeroValue236 }
end Go.Proofs
