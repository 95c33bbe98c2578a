/- The library sort, laid at this translation, in plain words, by the kit shelf tool. Conditions: none.
  DERIVED: THE SHELF's CONTRACTS AT THIS DUMP, IN PLAIN WORDS (tools/lay-plain.mjs out of 'YtjemihhhkhdbeaaShelfSpan.lean', which tools/lay-shelf.mjs wrote): THE SAME DECLARATIONS UNDER THE SAME NAMES: 'import', 'namespace', 'open', 'def', 'theorem' AND NOTHING ELSE: no command of the shelf's: FOR A HAND-IN. Each laying: the table of numbers ('.._ren') and one theorem, a field a fact of the dump's own or the kernel's comparison; each contract: ONE APPLICATION.
-/
import Derived.Shelf.SlSortCmp.WholeK
import Derived.Test.YtjemihhhkhdbeaaProg
namespace Go.Proofs
open Go.Shelf
def Try.sortSpan_ren : Go.Shelf.Ren := ⟨fun | 6 => 155 | 15 => 184 | 14 => 185 | 28 => 205 | 29 => 206 | 20 => 207 | 21 => 208 | 22 => 209 | 23 => 210 | 24 => 211 | 25 => 212 | 26 => 213 | 27 => 214 | 46 => 223 | 47 => 219 | 48 => 220 | 49 => 224 | 50 => 225 | 57 => 228 | n => n, fun | 22 => 39 | 24 => 123 | 25 => 182 | 3 => 3 | 39 => 204 | 0 => 0 | 53 => 225 | 55 => 227 | 4 => 4 | 46 => 219 | 45 => 218 | 50 => 120 | 5 => 5 | 9 => 9 | 66 => 235 | 70 => 239 | 76 => 243 | 77 => 213 | n => n, fun | n => n⟩
theorem Try.sortSpan : Go.Proofs.SlLaysF0.n6 Try.prog Try.sortSpan_ren := {
  mixed := by kernel_rfl
  f6 := ⟨Try.f155.name, by decide, Try.func155.trans (congrArg some (by kernel_rfl))⟩
  f14 := ⟨Try.f185.name, by decide, Try.func185.trans (congrArg some (by kernel_rfl))⟩
  f15 := Try.func184.trans (congrArg some (by kernel_rfl))
  f20 := ⟨Try.f207.name, by decide, Try.func207.trans (congrArg some (by kernel_rfl))⟩
  f21 := ⟨Try.f208.name, by decide, Try.func208.trans (congrArg some (by kernel_rfl))⟩
  f22 := ⟨Try.f209.name, by decide, Try.func209.trans (congrArg some (by kernel_rfl))⟩
  f23 := ⟨Try.f210.name, by decide, Try.func210.trans (congrArg some (by kernel_rfl))⟩
  f24 := ⟨Try.f211.name, by decide, Try.func211.trans (congrArg some (by kernel_rfl))⟩
  f25 := ⟨Try.f212.name, by decide, Try.func212.trans (congrArg some (by kernel_rfl))⟩
  f26 := ⟨Try.f213.name, by decide, Try.func213.trans (congrArg some (by kernel_rfl))⟩
  f27 := ⟨Try.f214.name, by decide, Try.func214.trans (congrArg some (by kernel_rfl))⟩
  f28 := Try.func205.trans (congrArg some (by kernel_rfl))
  f29 := Try.func206.trans (congrArg some (by kernel_rfl))
  f46 := ⟨Try.f223.name, by decide, Try.func223.trans (congrArg some (by kernel_rfl))⟩
  f47 := Try.func219.trans (congrArg some (by kernel_rfl))
  f48 := Try.func220.trans (congrArg some (by kernel_rfl))
  f49 := ⟨Try.f224.name, by decide, Try.func224.trans (congrArg some (by kernel_rfl))⟩
  f50 := ⟨Try.f225.name, by decide, Try.func225.trans (congrArg some (by kernel_rfl))⟩
  f57 := ⟨Try.f228.name, by decide, Try.func228.trans (congrArg some (by kernel_rfl))⟩
  t0 := Try.underlying0
  a0 := Try.isAgg0
  z0 := Try.sizeOf0
  v0 := Try.zeroValue0
  t3 := Try.underlying3
  a3 := Try.isAgg3
  z3 := Try.sizeOf3
  v3 := Try.zeroValue3
  t4 := Try.underlying4
  a4 := Try.isAgg4
  z4 := Try.sizeOf4
  v4 := Try.zeroValue4
  t5 := Try.underlying5
  a5 := Try.isAgg5
  z5 := Try.sizeOf5
  v5 := Try.zeroValue5
  t9 := Try.underlying9
  a9 := Try.isAgg9
  z9 := Try.sizeOf9
  v9 := Try.zeroValue9
  t22 := Try.underlying39
  a22 := Try.isAgg39
  z22 := Try.sizeOf39
  v22 := Try.zeroValue39
  t25 := Try.underlying182
  a25 := Try.isAgg182
  z25 := Try.sizeOf182
  v25 := Try.zeroValue182
  t39 := Try.underlying204
  a39 := Try.isAgg204
  z39 := Try.sizeOf204
  v39 := Try.zeroValue204
  t45 := Try.underlying218
  a45 := Try.isAgg218
  z45 := Try.sizeOf218
  v45 := Try.zeroValue218
  t46 := Try.underlying219
  a46 := Try.isAgg219
  z46 := Try.sizeOf219
  v46 := Try.zeroValue219
  t50 := Try.underlying120
  a50 := Try.isAgg120
  z50 := Try.sizeOf120
  v50 := Try.zeroValue120
  t53 := Try.underlying225
  a53 := Try.isAgg225
  z53 := Try.sizeOf225
  v53 := Try.zeroValue225
  t55 := Try.underlying227
  a55 := Try.isAgg227
  z55 := Try.sizeOf227
  v55 := Try.zeroValue227
  t66 := Try.underlying235
  a66 := Try.isAgg235
  z66 := Try.sizeOf235
  v66 := Try.zeroValue235
  t70 := Try.underlying239
  a70 := Try.isAgg239
  z70 := Try.sizeOf239
  v70 := Try.zeroValue239
  t76 := Try.underlying243
  a76 := Try.isAgg243
  z76 := Try.sizeOf243
  v76 := Try.zeroValue243
  t77 := Try.underlying213
  a77 := Try.isAgg213
  z77 := Try.sizeOf213
  v77 := Try.zeroValue213 }
end Go.Proofs
