/- This program bears the bodies of the library's sort of terms. -/
import Derived.Test.YtlpkcbkflfbclaaGreatDoorTypes
import Derived.Test.YtlpkcbkflfbclaaGreatDoorSortMem
namespace Go.Proofs.YtlpkcbkflfbclaaGreatDoor.S
open Go.RowKit

def sortLayRen : Go.Shelf.Ren := ⟨fun | 6 => 42 | 15 => 78 | 14 => 77 | 28 => 112 | 29 => 113 | 20 => 102 | 21 => 105 | 22 => 106 | 23 => 107 | 24 => 108 | 25 => 109 | 26 => 110 | 27 => 111 | 46 => 139 | 47 => 140 | 48 => 141 | 49 => 142 | 50 => 143 | 57 => 156 | n => n, fun | 22 => 22 | 24 => 24 | 25 => 72 | 3 => 3 | 39 => 132 | 0 => 0 | 53 => 155 | 55 => 157 | 4 => 4 | 46 => 148 | 45 => 147 | 50 => 152 | 5 => 5 | 9 => 9 | 66 => 178 | 70 => 182 | 76 => 191 | 77 => 78 | n => n, fun  | n => n⟩
theorem sortLay : Go.Proofs.SlLaysF0.n6 P sortLayRen where
  mixed := by kernel_rfl
  f6 := ⟨Go.Proofs.Tryz.f42.name, by kernel_rfl, Go.Proofs.Tryz.func42.trans (congrArg some (by kernel_rfl))⟩
  f14 := ⟨Go.Proofs.Tryz.f77.name, by kernel_rfl, Go.Proofs.Tryz.func77.trans (congrArg some (by kernel_rfl))⟩
  f15 := Go.Proofs.Tryz.func78.trans (congrArg some (by kernel_rfl))
  f20 := ⟨Go.Proofs.Tryz.f102.name, by kernel_rfl, Go.Proofs.Tryz.func102.trans (congrArg some (by kernel_rfl))⟩
  f21 := ⟨Go.Proofs.Tryz.f105.name, by kernel_rfl, Go.Proofs.Tryz.func105.trans (congrArg some (by kernel_rfl))⟩
  f22 := ⟨Go.Proofs.Tryz.f106.name, by kernel_rfl, Go.Proofs.Tryz.func106.trans (congrArg some (by kernel_rfl))⟩
  f23 := ⟨Go.Proofs.Tryz.f107.name, by kernel_rfl, Go.Proofs.Tryz.func107.trans (congrArg some (by kernel_rfl))⟩
  f24 := ⟨Go.Proofs.Tryz.f108.name, by kernel_rfl, Go.Proofs.Tryz.func108.trans (congrArg some (by kernel_rfl))⟩
  f25 := ⟨Go.Proofs.Tryz.f109.name, by kernel_rfl, Go.Proofs.Tryz.func109.trans (congrArg some (by kernel_rfl))⟩
  f26 := ⟨Go.Proofs.Tryz.f110.name, by kernel_rfl, Go.Proofs.Tryz.func110.trans (congrArg some (by kernel_rfl))⟩
  f27 := ⟨Go.Proofs.Tryz.f111.name, by kernel_rfl, Go.Proofs.Tryz.func111.trans (congrArg some (by kernel_rfl))⟩
  f28 := Go.Proofs.Tryz.func112.trans (congrArg some (by kernel_rfl))
  f29 := Go.Proofs.Tryz.func113.trans (congrArg some (by kernel_rfl))
  f46 := ⟨Go.Proofs.Tryz.f139.name, by kernel_rfl, Go.Proofs.Tryz.func139.trans (congrArg some (by kernel_rfl))⟩
  f47 := Go.Proofs.Tryz.func140.trans (congrArg some (by kernel_rfl))
  f48 := Go.Proofs.Tryz.func141.trans (congrArg some (by kernel_rfl))
  f49 := ⟨Go.Proofs.Tryz.f142.name, by kernel_rfl, Go.Proofs.Tryz.func142.trans (congrArg some (by kernel_rfl))⟩
  f50 := ⟨Go.Proofs.Tryz.f143.name, by kernel_rfl, Go.Proofs.Tryz.func143.trans (congrArg some (by kernel_rfl))⟩
  f57 := ⟨Go.Proofs.Tryz.f156.name, by kernel_rfl, Go.Proofs.Tryz.func156.trans (congrArg some (by kernel_rfl))⟩
  t0 := Go.Proofs.Tryz.underlying0
  a0 := Go.Proofs.Tryz.isAgg0
  z0 := Go.Proofs.Tryz.sizeOf0
  v0 := Go.Proofs.Tryz.zeroValue0
  t3 := Go.Proofs.Tryz.underlying3
  a3 := Go.Proofs.Tryz.isAgg3
  z3 := Go.Proofs.Tryz.sizeOf3
  v3 := Go.Proofs.Tryz.zeroValue3
  t4 := Go.Proofs.Tryz.underlying4
  a4 := Go.Proofs.Tryz.isAgg4
  z4 := Go.Proofs.Tryz.sizeOf4
  v4 := Go.Proofs.Tryz.zeroValue4
  t5 := Go.Proofs.Tryz.underlying5
  a5 := Go.Proofs.Tryz.isAgg5
  z5 := Go.Proofs.Tryz.sizeOf5
  v5 := Go.Proofs.Tryz.zeroValue5
  t9 := Go.Proofs.Tryz.underlying9
  a9 := Go.Proofs.Tryz.isAgg9
  z9 := Go.Proofs.Tryz.sizeOf9
  v9 := Go.Proofs.Tryz.zeroValue9
  t22 := Go.Proofs.Tryz.underlying22
  a22 := Go.Proofs.Tryz.isAgg22
  z22 := Go.Proofs.Tryz.sizeOf22
  v22 := Go.Proofs.Tryz.zeroValue22
  t25 := Go.Proofs.Tryz.underlying72
  a25 := Go.Proofs.Tryz.isAgg72
  z25 := Go.Proofs.Tryz.sizeOf72
  v25 := Go.Proofs.Tryz.zeroValue72
  t39 := Go.Proofs.Tryz.underlying132
  a39 := Go.Proofs.Tryz.isAgg132
  z39 := Go.Proofs.Tryz.sizeOf132
  v39 := Go.Proofs.Tryz.zeroValue132
  t45 := Go.Proofs.Tryz.underlying147
  a45 := Go.Proofs.Tryz.isAgg147
  z45 := Go.Proofs.Tryz.sizeOf147
  v45 := Go.Proofs.Tryz.zeroValue147
  t46 := Go.Proofs.Tryz.underlying148
  a46 := Go.Proofs.Tryz.isAgg148
  z46 := Go.Proofs.Tryz.sizeOf148
  v46 := Go.Proofs.Tryz.zeroValue148
  t50 := Go.Proofs.Tryz.underlying152
  a50 := Go.Proofs.Tryz.isAgg152
  z50 := Go.Proofs.Tryz.sizeOf152
  v50 := Go.Proofs.Tryz.zeroValue152
  t53 := Go.Proofs.Tryz.underlying155
  a53 := Go.Proofs.Tryz.isAgg155
  z53 := Go.Proofs.Tryz.sizeOf155
  v53 := Go.Proofs.Tryz.zeroValue155
  t55 := Go.Proofs.Tryz.underlying157
  a55 := Go.Proofs.Tryz.isAgg157
  z55 := Go.Proofs.Tryz.sizeOf157
  v55 := Go.Proofs.Tryz.zeroValue157
  t66 := Go.Proofs.Tryz.underlying178
  a66 := Go.Proofs.Tryz.isAgg178
  z66 := Go.Proofs.Tryz.sizeOf178
  v66 := Go.Proofs.Tryz.zeroValue178
  t70 := Go.Proofs.Tryz.underlying182
  a70 := Go.Proofs.Tryz.isAgg182
  z70 := Go.Proofs.Tryz.sizeOf182
  v70 := Go.Proofs.Tryz.zeroValue182
  t76 := Go.Proofs.Tryz.underlying191
  a76 := Go.Proofs.Tryz.isAgg191
  z76 := Go.Proofs.Tryz.sizeOf191
  v76 := Go.Proofs.Tryz.zeroValue191
  t77 := Go.Proofs.Tryz.underlying78
  a77 := Go.Proofs.Tryz.isAgg78
  z77 := Go.Proofs.Tryz.sizeOf78
  v77 := Go.Proofs.Tryz.zeroValue78
end Go.Proofs.YtlpkcbkflfbclaaGreatDoor.S
