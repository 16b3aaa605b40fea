/- This program bears the bodies of the library's sort of terms. -/
import Derived.Test.YtlpkcbkflfbclaaDoorTypes
import Derived.Test.YtlpkcbkflfbclaaDoorSortMem
namespace Go.Proofs.YtlpkcbkflfbclaaDoor.S
open Go.RowKit

def sortLayRen : Go.Shelf.Ren := ⟨fun | 6 => 40 | 15 => 62 | 14 => 61 | 28 => 87 | 29 => 88 | 20 => 76 | 21 => 80 | 22 => 81 | 23 => 82 | 24 => 83 | 25 => 84 | 26 => 85 | 27 => 86 | 46 => 105 | 47 => 106 | 48 => 107 | 49 => 108 | 50 => 109 | 57 => 118 | n => n, fun | 22 => 23 | 24 => 26 | 25 => 30 | 3 => 3 | 39 => 91 | 0 => 0 | 53 => 116 | 55 => 118 | 4 => 4 | 46 => 110 | 45 => 109 | 50 => 101 | 5 => 5 | 9 => 9 | 66 => 131 | 70 => 135 | 76 => 143 | 77 => 61 | n => n, fun  | n => n⟩
theorem sortLay : Go.Proofs.SlLaysF0.n6 P sortLayRen where
  mixed := by kernel_rfl
  f6 := ⟨Go.Proofs.Tryd.f40.name, by kernel_rfl, Go.Proofs.Tryd.func40.trans (congrArg some (by kernel_rfl))⟩
  f14 := ⟨Go.Proofs.Tryd.f61.name, by kernel_rfl, Go.Proofs.Tryd.func61.trans (congrArg some (by kernel_rfl))⟩
  f15 := Go.Proofs.Tryd.func62.trans (congrArg some (by kernel_rfl))
  f20 := ⟨Go.Proofs.Tryd.f76.name, by kernel_rfl, Go.Proofs.Tryd.func76.trans (congrArg some (by kernel_rfl))⟩
  f21 := ⟨Go.Proofs.Tryd.f80.name, by kernel_rfl, Go.Proofs.Tryd.func80.trans (congrArg some (by kernel_rfl))⟩
  f22 := ⟨Go.Proofs.Tryd.f81.name, by kernel_rfl, Go.Proofs.Tryd.func81.trans (congrArg some (by kernel_rfl))⟩
  f23 := ⟨Go.Proofs.Tryd.f82.name, by kernel_rfl, Go.Proofs.Tryd.func82.trans (congrArg some (by kernel_rfl))⟩
  f24 := ⟨Go.Proofs.Tryd.f83.name, by kernel_rfl, Go.Proofs.Tryd.func83.trans (congrArg some (by kernel_rfl))⟩
  f25 := ⟨Go.Proofs.Tryd.f84.name, by kernel_rfl, Go.Proofs.Tryd.func84.trans (congrArg some (by kernel_rfl))⟩
  f26 := ⟨Go.Proofs.Tryd.f85.name, by kernel_rfl, Go.Proofs.Tryd.func85.trans (congrArg some (by kernel_rfl))⟩
  f27 := ⟨Go.Proofs.Tryd.f86.name, by kernel_rfl, Go.Proofs.Tryd.func86.trans (congrArg some (by kernel_rfl))⟩
  f28 := Go.Proofs.Tryd.func87.trans (congrArg some (by kernel_rfl))
  f29 := Go.Proofs.Tryd.func88.trans (congrArg some (by kernel_rfl))
  f46 := ⟨Go.Proofs.Tryd.f105.name, by kernel_rfl, Go.Proofs.Tryd.func105.trans (congrArg some (by kernel_rfl))⟩
  f47 := Go.Proofs.Tryd.func106.trans (congrArg some (by kernel_rfl))
  f48 := Go.Proofs.Tryd.func107.trans (congrArg some (by kernel_rfl))
  f49 := ⟨Go.Proofs.Tryd.f108.name, by kernel_rfl, Go.Proofs.Tryd.func108.trans (congrArg some (by kernel_rfl))⟩
  f50 := ⟨Go.Proofs.Tryd.f109.name, by kernel_rfl, Go.Proofs.Tryd.func109.trans (congrArg some (by kernel_rfl))⟩
  f57 := ⟨Go.Proofs.Tryd.f118.name, by kernel_rfl, Go.Proofs.Tryd.func118.trans (congrArg some (by kernel_rfl))⟩
  t0 := Go.Proofs.Tryd.underlying0
  a0 := Go.Proofs.Tryd.isAgg0
  z0 := Go.Proofs.Tryd.sizeOf0
  v0 := Go.Proofs.Tryd.zeroValue0
  t3 := Go.Proofs.Tryd.underlying3
  a3 := Go.Proofs.Tryd.isAgg3
  z3 := Go.Proofs.Tryd.sizeOf3
  v3 := Go.Proofs.Tryd.zeroValue3
  t4 := Go.Proofs.Tryd.underlying4
  a4 := Go.Proofs.Tryd.isAgg4
  z4 := Go.Proofs.Tryd.sizeOf4
  v4 := Go.Proofs.Tryd.zeroValue4
  t5 := Go.Proofs.Tryd.underlying5
  a5 := Go.Proofs.Tryd.isAgg5
  z5 := Go.Proofs.Tryd.sizeOf5
  v5 := Go.Proofs.Tryd.zeroValue5
  t9 := Go.Proofs.Tryd.underlying9
  a9 := Go.Proofs.Tryd.isAgg9
  z9 := Go.Proofs.Tryd.sizeOf9
  v9 := Go.Proofs.Tryd.zeroValue9
  t22 := Go.Proofs.Tryd.underlying23
  a22 := Go.Proofs.Tryd.isAgg23
  z22 := Go.Proofs.Tryd.sizeOf23
  v22 := Go.Proofs.Tryd.zeroValue23
  t25 := Go.Proofs.Tryd.underlying30
  a25 := Go.Proofs.Tryd.isAgg30
  z25 := Go.Proofs.Tryd.sizeOf30
  v25 := Go.Proofs.Tryd.zeroValue30
  t39 := Go.Proofs.Tryd.underlying91
  a39 := Go.Proofs.Tryd.isAgg91
  z39 := Go.Proofs.Tryd.sizeOf91
  v39 := Go.Proofs.Tryd.zeroValue91
  t45 := Go.Proofs.Tryd.underlying109
  a45 := Go.Proofs.Tryd.isAgg109
  z45 := Go.Proofs.Tryd.sizeOf109
  v45 := Go.Proofs.Tryd.zeroValue109
  t46 := Go.Proofs.Tryd.underlying110
  a46 := Go.Proofs.Tryd.isAgg110
  z46 := Go.Proofs.Tryd.sizeOf110
  v46 := Go.Proofs.Tryd.zeroValue110
  t50 := Go.Proofs.Tryd.underlying101
  a50 := Go.Proofs.Tryd.isAgg101
  z50 := Go.Proofs.Tryd.sizeOf101
  v50 := Go.Proofs.Tryd.zeroValue101
  t53 := Go.Proofs.Tryd.underlying116
  a53 := Go.Proofs.Tryd.isAgg116
  z53 := Go.Proofs.Tryd.sizeOf116
  v53 := Go.Proofs.Tryd.zeroValue116
  t55 := Go.Proofs.Tryd.underlying118
  a55 := Go.Proofs.Tryd.isAgg118
  z55 := Go.Proofs.Tryd.sizeOf118
  v55 := Go.Proofs.Tryd.zeroValue118
  t66 := Go.Proofs.Tryd.underlying131
  a66 := Go.Proofs.Tryd.isAgg131
  z66 := Go.Proofs.Tryd.sizeOf131
  v66 := Go.Proofs.Tryd.zeroValue131
  t70 := Go.Proofs.Tryd.underlying135
  a70 := Go.Proofs.Tryd.isAgg135
  z70 := Go.Proofs.Tryd.sizeOf135
  v70 := Go.Proofs.Tryd.zeroValue135
  t76 := Go.Proofs.Tryd.underlying143
  a76 := Go.Proofs.Tryd.isAgg143
  z76 := Go.Proofs.Tryd.sizeOf143
  v76 := Go.Proofs.Tryd.zeroValue143
  t77 := Go.Proofs.Tryd.underlying61
  a77 := Go.Proofs.Tryd.isAgg61
  z77 := Go.Proofs.Tryd.sizeOf61
  v77 := Go.Proofs.Tryd.zeroValue61
end Go.Proofs.YtlpkcbkflfbclaaDoor.S
