/-
  DERIVED: THE SHELF's CONTRACTS AT THIS DUMP, IN PLAIN WORDS (tools/lay-plain.mjs out of 'AeLayS.lean', which tools/lay-shelf.mjs wrote): THE SAME DECLARATIONS UNDER THE SAME NAMES: 'import', 'namespace', 'open', 'def', 'theorem' AND NOTHING ELSE: no command of the shelf's: FOR A HAND-IN. Each laying: the table of numbers ('.._ren') and one theorem, a field a fact of the dump's own or the kernel's comparison; each contract: ONE APPLICATION.
-/
import Derived.Shelf.SlLaysF0
import Derived.Test.YtoepfmodbhfckaaRows
import Derived.KernelRfl
namespace Go.Proofs
open Go.Shelf
def sort113_ren : Go.Shelf.Ren := ⟨fun | 6 => 113 | 15 => 151 | 14 => 150 | 28 => 174 | 29 => 175 | 20 => 166 | 21 => 167 | 22 => 168 | 23 => 169 | 24 => 170 | 25 => 171 | 26 => 172 | 27 => 173 | 46 => 189 | 47 => 190 | 48 => 191 | 49 => 192 | 50 => 193 | 57 => 206 | n => n, fun | 22 => 34 | 24 => 80 | 25 => 145 | 3 => 3 | 39 => 189 | 0 => 0 | 53 => 212 | 55 => 26 | 4 => 4 | 46 => 206 | 45 => 205 | 50 => 154 | 5 => 5 | 9 => 9 | 66 => 222 | 70 => 225 | 76 => 235 | 77 => 236 | n => n, fun | n => n⟩
theorem sort113 : Go.Proofs.SlLaysF0.n6 Try.prog sort113_ren := {
 mixed := by kernel_rfl
 f6 := ⟨Try.f113.name, by decide, Try.func113.trans (congrArg some (by kernel_rfl))⟩
 f14 := ⟨Try.f150.name, by decide, Try.func150.trans (congrArg some (by kernel_rfl))⟩
 f15 := Try.func151.trans (congrArg some (by kernel_rfl))
 f20 := ⟨Try.f166.name, by decide, Try.func166.trans (congrArg some (by kernel_rfl))⟩
 f21 := ⟨Try.f167.name, by decide, Try.func167.trans (congrArg some (by kernel_rfl))⟩
 f22 := ⟨Try.f168.name, by decide, Try.func168.trans (congrArg some (by kernel_rfl))⟩
 f23 := ⟨Try.f169.name, by decide, Try.func169.trans (congrArg some (by kernel_rfl))⟩
 f24 := ⟨Try.f170.name, by decide, Try.func170.trans (congrArg some (by kernel_rfl))⟩
 f25 := ⟨Try.f171.name, by decide, Try.func171.trans (congrArg some (by kernel_rfl))⟩
 f26 := ⟨Try.f172.name, by decide, Try.func172.trans (congrArg some (by kernel_rfl))⟩
 f27 := ⟨Try.f173.name, by decide, Try.func173.trans (congrArg some (by kernel_rfl))⟩
 f28 := Try.func174.trans (congrArg some (by kernel_rfl))
 f29 := Try.func175.trans (congrArg some (by kernel_rfl))
 f46 := ⟨Try.f189.name, by decide, Try.func189.trans (congrArg some (by kernel_rfl))⟩
 f47 := Try.func190.trans (congrArg some (by kernel_rfl))
 f48 := Try.func191.trans (congrArg some (by kernel_rfl))
 f49 := ⟨Try.f192.name, by decide, Try.func192.trans (congrArg some (by kernel_rfl))⟩
 f50 := ⟨Try.f193.name, by decide, Try.func193.trans (congrArg some (by kernel_rfl))⟩
 f57 := ⟨Try.f206.name, by decide, Try.func206.trans (congrArg some (by kernel_rfl))⟩
 t0 := Try.underlying0
 a0 := Try.isAgg0
 z0 := Try.sizeOf0
 v0 := Try.zeroValue0
 t3 := Try.underlying3
 a3 := Try.isAgg3
 z3 := Try.sizeOf3
 v3 := Try.zeroValue3
 t4 := Try.underlying4
 a4 := Try.isAgg4
 z4 := Try.sizeOf4
 v4 := Try.zeroValue4
 t5 := Try.underlying5
 a5 := Try.isAgg5
 z5 := Try.sizeOf5
 v5 := Try.zeroValue5
 t9 := Try.underlying9
 a9 := Try.isAgg9
 z9 := Try.sizeOf9
 v9 := Try.zeroValue9
 t22 := Try.underlying34
 a22 := Try.isAgg34
 z22 := Try.sizeOf34
 v22 := Try.zeroValue34
 t25 := Try.underlying145
 a25 := Try.isAgg145
 z25 := Try.sizeOf145
 v25 := Try.zeroValue145
 t39 := Try.underlying189
 a39 := Try.isAgg189
 z39 := Try.sizeOf189
 v39 := Try.zeroValue189
 t45 := Try.underlying205
 a45 := Try.isAgg205
 z45 := Try.sizeOf205
 v45 := Try.zeroValue205
 t46 := Try.underlying206
 a46 := Try.isAgg206
 z46 := Try.sizeOf206
 v46 := Try.zeroValue206
 t50 := Try.underlying154
 a50 := Try.isAgg154
 z50 := Try.sizeOf154
 v50 := Try.zeroValue154
 t53 := Try.underlying212
 a53 := Try.isAgg212
 z53 := Try.sizeOf212
 v53 := Try.zeroValue212
 t55 := Try.underlying26
 a55 := Try.isAgg26
 z55 := Try.sizeOf26
 v55 := Try.zeroValue26
 t66 := Try.underlying222
 a66 := Try.isAgg222
 z66 := Try.sizeOf222
 v66 := Try.zeroValue222
 t70 := Try.underlying225
 a70 := Try.isAgg225
 z70 := Try.sizeOf225
 v70 := Try.zeroValue225
 t76 := Try.underlying235
 a76 := Try.isAgg235
 z76 := Try.sizeOf235
 v76 := Try.zeroValue235
 t77 := Try.underlying236
 a77 := Try.isAgg236
 z77 := Try.sizeOf236
 v77 := Try.zeroValue236 }
end Go.Proofs
