/- The closed facts of this seat's program: its types and functions, as the kernel reckons them. Written by a program of the prover's own (gen.py). -/
import Derived.Test.YtlpkcbkflfbclaaDoorOps6
import Derived.Test.YtlpkcbkflfbclaaDoorProg
namespace Go.Proofs.YtlpkcbkflfbclaaDoor.S
noncomputable abbrev P : Program := Go.Proofs.Tryd.prog
theorem mixed : P.follows .mixedOrders = true := by kernel_rfl
theorem one_3 : OneT P 3 true := by unfold OneT; kernel_rfl
theorem sz_3 : SizeIs P 3 1 := by unfold SizeIs; kernel_rfl
theorem by_3 : BytesIs P 3 8 := by unfold BytesIs; kernel_rfl
theorem zr_3 : ZeroIs P 3 (.int .i64 0) := by unfold ZeroIs; kernel_rfl
theorem ty_3 : P.underlying 3 = some (.int .i64) := by kernel_rfl
theorem one_4 : OneT P 4 true := by unfold OneT; kernel_rfl
theorem sz_4 : SizeIs P 4 1 := by unfold SizeIs; kernel_rfl
theorem by_4 : BytesIs P 4 1 := by unfold BytesIs; kernel_rfl
theorem zr_4 : ZeroIs P 4 (.bool false) := by unfold ZeroIs; kernel_rfl
theorem ty_4 : P.underlying 4 = some .bool := by kernel_rfl
theorem one_9 : OneT P 9 true := by unfold OneT; kernel_rfl
theorem ty_9 : P.underlying 9 = some .string := by kernel_rfl
theorem one_23 : OneT P 23 true := by unfold OneT; kernel_rfl
theorem sz_23 : SizeIs P 23 1 := by unfold SizeIs; kernel_rfl
theorem ty_23 : P.underlying 23 = some (.slice 26) := by kernel_rfl
theorem kd_23 : Kd P 23 := .inl ⟨_, ty_23⟩
theorem one_26 : OneT P 26 false := by unfold OneT; kernel_rfl
theorem sz_26 : SizeIs P 26 3 := by unfold SizeIs; kernel_rfl
theorem by_26 : BytesIs P 26 48 := by unfold BytesIs; kernel_rfl
theorem zr_26 : ZeroIs P 26 (.agg #[.int .i64 0, .string ⟨#[]⟩, .slice none 0 0]) := by unfold ZeroIs; kernel_rfl
theorem fl_26_0 : FieldIs P 26 0 0 := .of (k := 0) (by kernel_rfl)
theorem fl_26_1 : FieldIs P 26 1 1 := .of (k := 0) (by kernel_rfl)
theorem fl_26_2 : FieldIs P 26 2 2 := .of (k := 0) (by kernel_rfl)
theorem pl_26 : PlacesAre P 26 #[(0, 1), (1, 1), (2, 1)] := .of (by kernel_rfl)
theorem one_35 : OneT P 35 true := by unfold OneT; kernel_rfl
theorem ty_35 : P.underlying 35 = some (.pointer 66) := by kernel_rfl
theorem one_47 : OneT P 47 true := by unfold OneT; kernel_rfl
theorem sz_47 : SizeIs P 47 1 := by unfold SizeIs; kernel_rfl
theorem ty_47 : P.underlying 47 = some (.slice 49) := by kernel_rfl
theorem kd_47 : Kd P 47 := .inl ⟨_, ty_47⟩
theorem one_49 : OneT P 49 false := by unfold OneT; kernel_rfl
theorem sz_49 : SizeIs P 49 3 := by unfold SizeIs; kernel_rfl
theorem by_49 : BytesIs P 49 48 := by unfold BytesIs; kernel_rfl
theorem zr_49 : ZeroIs P 49 (.agg #[.int .i64 0, .string ⟨#[]⟩, .slice none 0 0]) := by unfold ZeroIs; kernel_rfl
theorem fl_49_0 : FieldIs P 49 0 0 := .of (k := 0) (by kernel_rfl)
theorem fl_49_1 : FieldIs P 49 1 1 := .of (k := 0) (by kernel_rfl)
theorem fl_49_2 : FieldIs P 49 2 2 := .of (k := 0) (by kernel_rfl)
theorem pl_49 : PlacesAre P 49 #[(0, 1), (1, 1), (2, 1)] := .of (by kernel_rfl)
theorem one_64 : OneT P 64 true := by unfold OneT; kernel_rfl
theorem sz_64 : SizeIs P 64 1 := by unfold SizeIs; kernel_rfl
theorem ty_64 : P.underlying 64 = some (.slice 26) := by kernel_rfl
theorem kd_64 : Kd P 64 := .inl ⟨_, ty_64⟩
theorem sz_66 : SizeIs P 66 1 := by unfold SizeIs; kernel_rfl
theorem zr_66 : ZeroIs P 66 (.agg #[.slice none 0 0]) := by unfold ZeroIs; kernel_rfl
theorem fl_66_0 : FieldIs P 66 0 0 := .of (k := 0) (by kernel_rfl)
theorem pl_66 : PlacesAre P 66 #[(0, 1)] := .of (by kernel_rfl)
theorem ty_84 : P.underlying 84 = some (.slice 3) := by kernel_rfl
theorem ty_91 : P.underlying 91 = some (.int .u64) := by kernel_rfl
theorem ty_105 : P.underlying 105 = some (.slice 4) := by kernel_rfl
theorem one_126 : OneT P 126 false := by unfold OneT; kernel_rfl
theorem sz_126 : SizeIs P 126 256 := by unfold SizeIs; kernel_rfl
theorem zr_126 : ZeroIs P 126 (.agg #[.bool false, .bool false, .bool false, .bool false, .bool false, .bool false, .bool false, .bool false, .bool false, .bool false, .bool false, .bool false, .bool false, .bool false, .bool false, .bool false, .bool false, .bool false, .bool false, .bool false, .bool false, .bool false, .bool false, .bool false, .bool false, .bool false, .bool false, .bool false, .bool false, .bool false, .bool false, .bool false, .bool false, .bool false, .bool false, .bool false, .bool false, .bool false, .bool false, .bool false, .bool false, .bool false, .bool false, .bool false, .bool false, .bool false, .bool false, .bool false, .bool false, .bool false, .bool false, .bool false, .bool false, .bool false, .bool false, .bool false, .bool false, .bool false, .bool false, .bool false, .bool false, .bool false, .bool false, .bool false, .bool false, .bool false, .bool false, .bool false, .bool false, .bool false, .bool false, .bool false, .bool false, .bool false, .bool false, .bool false, .bool false, .bool false, .bool false, .bool false, .bool false, .bool false, .bool false, .bool false, .bool false, .bool false, .bool false, .bool false, .bool false, .bool false, .bool false, .bool false, .bool false, .bool false, .bool false, .bool false, .bool false, .bool false, .bool false, .bool false, .bool false, .bool false, .bool false, .bool false, .bool false, .bool false, .bool false, .bool false, .bool false, .bool false, .bool false, .bool false, .bool false, .bool false, .bool false, .bool false, .bool false, .bool false, .bool false, .bool false, .bool false, .bool false, .bool false, .bool false, .bool false, .bool false, .bool false, .bool false, .bool false, .bool false, .bool false, .bool false, .bool false, .bool false, .bool false, .bool false, .bool false, .bool false, .bool false, .bool false, .bool false, .bool false, .bool false, .bool false, .bool false, .bool false, .bool false, .bool false, .bool false, .bool false, .bool false, .bool false, .bool false, .bool false, .bool false, .bool false, .bool false, .bool false, .bool false, .bool false, .bool false, .bool false, .bool false, .bool false, .bool false, .bool false, .bool false, .bool false, .bool false, .bool false, .bool false, .bool false, .bool false, .bool false, .bool false, .bool false, .bool false, .bool false, .bool false, .bool false, .bool false, .bool false, .bool false, .bool false, .bool false, .bool false, .bool false, .bool false, .bool false, .bool false, .bool false, .bool false, .bool false, .bool false, .bool false, .bool false, .bool false, .bool false, .bool false, .bool false, .bool false, .bool false, .bool false, .bool false, .bool false, .bool false, .bool false, .bool false, .bool false, .bool false, .bool false, .bool false, .bool false, .bool false, .bool false, .bool false, .bool false, .bool false, .bool false, .bool false, .bool false, .bool false, .bool false, .bool false, .bool false, .bool false, .bool false, .bool false, .bool false, .bool false, .bool false, .bool false, .bool false, .bool false, .bool false, .bool false, .bool false, .bool false, .bool false, .bool false, .bool false, .bool false, .bool false, .bool false, .bool false, .bool false, .bool false, .bool false, .bool false, .bool false, .bool false, .bool false, .bool false, .bool false, .bool false, .bool false]) := by unfold ZeroIs; kernel_rfl
theorem ty_126 : P.underlying 126 = some (.array 256 4) := by kernel_rfl
theorem has_12 : Has P 12 := ⟨_, Go.Proofs.Tryd.func12, by kernel_rfl, by kernel_rfl⟩
theorem has_15 : Has P 15 := ⟨_, Go.Proofs.Tryd.func15, by kernel_rfl, by kernel_rfl⟩
theorem has_16 : Has P 16 := ⟨_, Go.Proofs.Tryd.func16, by kernel_rfl, by kernel_rfl⟩
theorem has_17 : Has P 17 := ⟨_, Go.Proofs.Tryd.func17, by kernel_rfl, by kernel_rfl⟩
theorem has_18 : Has P 18 := ⟨_, Go.Proofs.Tryd.func18, by kernel_rfl, by kernel_rfl⟩
theorem has_19 : Has P 19 := ⟨_, Go.Proofs.Tryd.func19, by kernel_rfl, by kernel_rfl⟩
theorem has_20 : Has P 20 := ⟨_, Go.Proofs.Tryd.func20, by kernel_rfl, by kernel_rfl⟩
theorem has_24 : Has P 24 := ⟨_, Go.Proofs.Tryd.func24, by kernel_rfl, by kernel_rfl⟩
theorem has_25 : Has P 25 := ⟨_, Go.Proofs.Tryd.func25, by kernel_rfl, by kernel_rfl⟩
theorem has_26 : Has P 26 := ⟨_, Go.Proofs.Tryd.func26, by kernel_rfl, by kernel_rfl⟩
theorem has_27 : Has P 27 := ⟨_, Go.Proofs.Tryd.func27, by kernel_rfl, by kernel_rfl⟩
theorem has_28 : Has P 28 := ⟨_, Go.Proofs.Tryd.func28, by kernel_rfl, by kernel_rfl⟩
theorem has_29 : Has P 29 := ⟨_, Go.Proofs.Tryd.func29, by kernel_rfl, by kernel_rfl⟩
theorem has_30 : Has P 30 := ⟨_, Go.Proofs.Tryd.func30, by kernel_rfl, by kernel_rfl⟩
theorem has_31 : Has P 31 := ⟨_, Go.Proofs.Tryd.func31, by kernel_rfl, by kernel_rfl⟩
theorem has_32 : Has P 32 := ⟨_, Go.Proofs.Tryd.func32, by kernel_rfl, by kernel_rfl⟩
theorem has_33 : Has P 33 := ⟨_, Go.Proofs.Tryd.func33, by kernel_rfl, by kernel_rfl⟩
theorem has_34 : Has P 34 := ⟨_, Go.Proofs.Tryd.func34, by kernel_rfl, by kernel_rfl⟩
theorem has_35 : Has P 35 := ⟨_, Go.Proofs.Tryd.func35, by kernel_rfl, by kernel_rfl⟩
theorem has_36 : Has P 36 := ⟨_, Go.Proofs.Tryd.func36, by kernel_rfl, by kernel_rfl⟩
theorem has_37 : Has P 37 := ⟨_, Go.Proofs.Tryd.func37, by kernel_rfl, by kernel_rfl⟩
theorem has_38 : Has P 38 := ⟨_, Go.Proofs.Tryd.func38, by kernel_rfl, by kernel_rfl⟩
theorem has_39 : Has P 39 := ⟨_, Go.Proofs.Tryd.func39, by kernel_rfl, by kernel_rfl⟩
theorem has_40 : Has P 40 := ⟨_, Go.Proofs.Tryd.func40, by kernel_rfl, by kernel_rfl⟩
theorem has_41 : Has P 41 := ⟨_, Go.Proofs.Tryd.func41, by kernel_rfl, by kernel_rfl⟩
theorem has_47 : Has P 47 := ⟨_, Go.Proofs.Tryd.func47, by kernel_rfl, by kernel_rfl⟩
theorem has_48 : Has P 48 := ⟨_, Go.Proofs.Tryd.func48, by kernel_rfl, by kernel_rfl⟩
theorem has_49 : Has P 49 := ⟨_, Go.Proofs.Tryd.func49, by kernel_rfl, by kernel_rfl⟩
theorem has_50 : Has P 50 := ⟨_, Go.Proofs.Tryd.func50, by kernel_rfl, by kernel_rfl⟩
theorem has_51 : Has P 51 := ⟨_, Go.Proofs.Tryd.func51, by kernel_rfl, by kernel_rfl⟩
theorem has_52 : Has P 52 := ⟨_, Go.Proofs.Tryd.func52, by kernel_rfl, by kernel_rfl⟩
theorem has_53 : Has P 53 := ⟨_, Go.Proofs.Tryd.func53, by kernel_rfl, by kernel_rfl⟩
theorem has_54 : Has P 54 := ⟨_, Go.Proofs.Tryd.func54, by kernel_rfl, by kernel_rfl⟩
theorem has_55 : Has P 55 := ⟨_, Go.Proofs.Tryd.func55, by kernel_rfl, by kernel_rfl⟩
theorem has_56 : Has P 56 := ⟨_, Go.Proofs.Tryd.func56, by kernel_rfl, by kernel_rfl⟩
theorem has_57 : Has P 57 := ⟨_, Go.Proofs.Tryd.func57, by kernel_rfl, by kernel_rfl⟩
theorem has_58 : Has P 58 := ⟨_, Go.Proofs.Tryd.func58, by kernel_rfl, by kernel_rfl⟩
theorem has_59 : Has P 59 := ⟨_, Go.Proofs.Tryd.func59, by kernel_rfl, by kernel_rfl⟩
theorem has_60 : Has P 60 := ⟨_, Go.Proofs.Tryd.func60, by kernel_rfl, by kernel_rfl⟩
theorem has_63 : Has P 63 := ⟨_, Go.Proofs.Tryd.func63, by kernel_rfl, by kernel_rfl⟩
theorem has_64 : Has P 64 := ⟨_, Go.Proofs.Tryd.func64, by kernel_rfl, by kernel_rfl⟩
theorem has_65 : Has P 65 := ⟨_, Go.Proofs.Tryd.func65, by kernel_rfl, by kernel_rfl⟩
theorem has_72 : Has P 72 := ⟨_, Go.Proofs.Tryd.func72, by kernel_rfl, by kernel_rfl⟩
theorem has_73 : Has P 73 := ⟨_, Go.Proofs.Tryd.func73, by kernel_rfl, by kernel_rfl⟩
theorem has_74 : Has P 74 := ⟨_, Go.Proofs.Tryd.func74, by kernel_rfl, by kernel_rfl⟩
theorem has_76 : Has P 76 := ⟨_, Go.Proofs.Tryd.func76, by kernel_rfl, by kernel_rfl⟩
theorem has_78 : Has P 78 := ⟨_, Go.Proofs.Tryd.func78, by kernel_rfl, by kernel_rfl⟩
theorem has_79 : Has P 79 := ⟨_, Go.Proofs.Tryd.func79, by kernel_rfl, by kernel_rfl⟩
theorem has_95 : Has P 95 := ⟨_, Go.Proofs.Tryd.func95, by kernel_rfl, by kernel_rfl⟩
theorem has_96 : Has P 96 := ⟨_, Go.Proofs.Tryd.func96, by kernel_rfl, by kernel_rfl⟩
theorem has_100 : Has P 100 := ⟨_, Go.Proofs.Tryd.func100, by kernel_rfl, by kernel_rfl⟩
theorem has_101 : Has P 101 := ⟨_, Go.Proofs.Tryd.func101, by kernel_rfl, by kernel_rfl⟩
theorem has_102 : Has P 102 := ⟨_, Go.Proofs.Tryd.func102, by kernel_rfl, by kernel_rfl⟩
theorem has_114 : Has P 114 := ⟨_, Go.Proofs.Tryd.func114, by kernel_rfl, by kernel_rfl⟩
end Go.Proofs.YtlpkcbkflfbclaaDoor.S
