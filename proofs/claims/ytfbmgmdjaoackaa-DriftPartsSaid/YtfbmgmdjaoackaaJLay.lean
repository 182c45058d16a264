/-
  Lemmas for the statements of this seat; no statement is proved here. No condition.
-/
import Derived.Test.YtfbmgmdjaoackaaM2
import Derived.Shelf.SlSortCmp.WholeK
import Derived.Shelf.Small.Bits
namespace Go.Proofs
open Go.Shelf
def Try.sortSpan_ren : Go.Shelf.Ren := ⟨fun | 6 => 275 | 15 => 284 | 14 => 293 | 28 => 306 | 29 => 307 | 20 => 310 | 21 => 311 | 22 => 312 | 23 => 313 | 24 => 314 | 25 => 315 | 26 => 316 | 27 => 317 | 46 => 323 | 47 => 319 | 48 => 320 | 49 => 324 | 50 => 325 | 57 => 327 | n => n, fun | 22 => 193 | 24 => 306 | 25 => 307 | 3 => 3 | 39 => 350 | 0 => 0 | 53 => 24 | 55 => 299 | 4 => 4 | 46 => 392 | 45 => 391 | 50 => 396 | 5 => 5 | 9 => 9 | 66 => 406 | 70 => 410 | 76 => 414 | 77 => 41 | n => n, fun | n => n⟩
theorem Try.sortSpan : Go.Proofs.SlLaysF0.n6 Try.prog Try.sortSpan_ren := {
  mixed := by kernel_rfl
  f6 := ⟨Try.f275.name, by decide, Try.func275.trans (congrArg some (by kernel_rfl))⟩
  f14 := ⟨Try.f293.name, by decide, Try.func293.trans (congrArg some (by kernel_rfl))⟩
  f15 := Try.func284.trans (congrArg some (by kernel_rfl))
  f20 := ⟨Try.f310.name, by decide, Try.func310.trans (congrArg some (by kernel_rfl))⟩
  f21 := ⟨Try.f311.name, by decide, Try.func311.trans (congrArg some (by kernel_rfl))⟩
  f22 := ⟨Try.f312.name, by decide, Try.func312.trans (congrArg some (by kernel_rfl))⟩
  f23 := ⟨Try.f313.name, by decide, Try.func313.trans (congrArg some (by kernel_rfl))⟩
  f24 := ⟨Try.f314.name, by decide, Try.func314.trans (congrArg some (by kernel_rfl))⟩
  f25 := ⟨Try.f315.name, by decide, Try.func315.trans (congrArg some (by kernel_rfl))⟩
  f26 := ⟨Try.f316.name, by decide, Try.func316.trans (congrArg some (by kernel_rfl))⟩
  f27 := ⟨Try.f317.name, by decide, Try.func317.trans (congrArg some (by kernel_rfl))⟩
  f28 := Try.func306.trans (congrArg some (by kernel_rfl))
  f29 := Try.func307.trans (congrArg some (by kernel_rfl))
  f46 := ⟨Try.f323.name, by decide, Try.func323.trans (congrArg some (by kernel_rfl))⟩
  f47 := Try.func319.trans (congrArg some (by kernel_rfl))
  f48 := Try.func320.trans (congrArg some (by kernel_rfl))
  f49 := ⟨Try.f324.name, by decide, Try.func324.trans (congrArg some (by kernel_rfl))⟩
  f50 := ⟨Try.f325.name, by decide, Try.func325.trans (congrArg some (by kernel_rfl))⟩
  f57 := ⟨Try.f327.name, by decide, Try.func327.trans (congrArg some (by kernel_rfl))⟩
  t0 := Try.underlying0
  a0 := Try.isAgg0
  z0 := Try.sizeOf0
  v0 := Try.zeroValue0
  t3 := Try.underlying3
  a3 := Try.isAgg3
  z3 := Try.sizeOf3
  v3 := Try.zeroValue3
  t4 := Try.underlying4
  a4 := Try.isAgg4
  z4 := Try.sizeOf4
  v4 := Try.zeroValue4
  t5 := Try.underlying5
  a5 := Try.isAgg5
  z5 := Try.sizeOf5
  v5 := Try.zeroValue5
  t9 := Try.underlying9
  a9 := Try.isAgg9
  z9 := Try.sizeOf9
  v9 := Try.zeroValue9
  t22 := Try.underlying193
  a22 := Try.isAgg193
  z22 := Try.sizeOf193
  v22 := Try.zeroValue193
  t25 := Try.underlying307
  a25 := Try.isAgg307
  z25 := Try.sizeOf307
  v25 := Try.zeroValue307
  t39 := Try.underlying350
  a39 := Try.isAgg350
  z39 := Try.sizeOf350
  v39 := Try.zeroValue350
  t45 := Try.underlying391
  a45 := Try.isAgg391
  z45 := Try.sizeOf391
  v45 := Try.zeroValue391
  t46 := Try.underlying392
  a46 := Try.isAgg392
  z46 := Try.sizeOf392
  v46 := Try.zeroValue392
  t50 := Try.underlying396
  a50 := Try.isAgg396
  z50 := Try.sizeOf396
  v50 := Try.zeroValue396
  t53 := Try.underlying24
  a53 := Try.isAgg24
  z53 := Try.sizeOf24
  v53 := Try.zeroValue24
  t55 := Try.underlying299
  a55 := Try.isAgg299
  z55 := Try.sizeOf299
  v55 := Try.zeroValue299
  t66 := Try.underlying406
  a66 := Try.isAgg406
  z66 := Try.sizeOf406
  v66 := Try.zeroValue406
  t70 := Try.underlying410
  a70 := Try.isAgg410
  z70 := Try.sizeOf410
  v70 := Try.zeroValue410
  t76 := Try.underlying414
  a76 := Try.isAgg414
  z76 := Try.sizeOf414
  v76 := Try.zeroValue414
  t77 := Try.underlying41
  a77 := Try.isAgg41
  z77 := Try.sizeOf41
  v77 := Try.zeroValue41 }
end Go.Proofs
namespace Go.Proofs
open Go.Shelf
def Try.lays125_ren : Go.Shelf.Ren := ⟨fun | 125 => 284 | 128 => 306 | 129 => 307 | n => n, fun | 46 => 350 | 3 => 3 | 51 => 24 | 53 => 299 | 4 => 4 | 5 => 5 | 9 => 9 | n => n, fun | n => n⟩
theorem Try.lays125 : Go.Proofs.Lays.n125 Try.prog Try.lays125_ren := {
  mixed := by kernel_rfl
  f125 := Try.func284.trans (congrArg some (by kernel_rfl))
  f128 := Try.func306.trans (congrArg some (by kernel_rfl))
  f129 := Try.func307.trans (congrArg some (by kernel_rfl))
  t3 := Try.underlying3
  a3 := Try.isAgg3
  z3 := Try.sizeOf3
  v3 := Try.zeroValue3
  t4 := Try.underlying4
  a4 := Try.isAgg4
  z4 := Try.sizeOf4
  v4 := Try.zeroValue4
  t5 := Try.underlying5
  a5 := Try.isAgg5
  z5 := Try.sizeOf5
  v5 := Try.zeroValue5
  t9 := Try.underlying9
  a9 := Try.isAgg9
  z9 := Try.sizeOf9
  v9 := Try.zeroValue9
  t46 := Try.underlying350
  a46 := Try.isAgg350
  z46 := Try.sizeOf350
  v46 := Try.zeroValue350
  t51 := Try.underlying24
  a51 := Try.isAgg24
  z51 := Try.sizeOf24
  v51 := Try.zeroValue24
  t53 := Try.underlying299
  a53 := Try.isAgg299
  z53 := Try.sizeOf299
  v53 := Try.zeroValue299 }
end Go.Proofs
