/- The closed facts of this seat's program: its types and functions, as the kernel reckons them. Written by a program of the prover's own (gen.py). -/
import Derived.Test.YtlpkcbkflfbclaaGreatDoorOps6
import Derived.Test.YtlpkcbkflfbclaaGreatDoorProg
namespace Go.Proofs.YtlpkcbkflfbclaaGreatDoor.S
noncomputable abbrev P : Program := Go.Proofs.Tryz.prog
theorem mixed : P.follows .mixedOrders = true := by kernel_rfl
theorem one_3 : OneT P 3 true := by unfold OneT; kernel_rfl
theorem sz_3 : SizeIs P 3 1 := by unfold SizeIs; kernel_rfl
theorem ce_3 : P.cellsOf 3 = 1 := by kernel_rfl
theorem by_3 : BytesIs P 3 8 := by unfold BytesIs; kernel_rfl
theorem zr_3 : ZeroIs P 3 (.int .i64 0) := by unfold ZeroIs; kernel_rfl
theorem ty_3 : P.underlying 3 = some (.int .i64) := by kernel_rfl
theorem one_4 : OneT P 4 true := by unfold OneT; kernel_rfl
theorem sz_4 : SizeIs P 4 1 := by unfold SizeIs; kernel_rfl
theorem ty_4 : P.underlying 4 = some .bool := by kernel_rfl
theorem sz_5 : SizeIs P 5 1 := by unfold SizeIs; kernel_rfl
theorem ce_5 : P.cellsOf 5 = 1 := by kernel_rfl
theorem by_5 : BytesIs P 5 1 := by unfold BytesIs; kernel_rfl
theorem zr_5 : ZeroIs P 5 (.int .u8 0) := by unfold ZeroIs; kernel_rfl
theorem ty_5 : P.underlying 5 = some (.int .u8) := by kernel_rfl
theorem one_9 : OneT P 9 true := by unfold OneT; kernel_rfl
theorem sz_9 : SizeIs P 9 1 := by unfold SizeIs; kernel_rfl
theorem by_9 : BytesIs P 9 16 := by unfold BytesIs; kernel_rfl
theorem zr_9 : ZeroIs P 9 (.string ⟨#[]⟩) := by unfold ZeroIs; kernel_rfl
theorem ty_9 : P.underlying 9 = some .string := by kernel_rfl
theorem kd_9 : Kd P 9 := .inr ty_9
theorem one_22 : OneT P 22 true := by unfold OneT; kernel_rfl
theorem sz_22 : SizeIs P 22 1 := by unfold SizeIs; kernel_rfl
theorem ty_22 : P.underlying 22 = some (.slice 24) := by kernel_rfl
theorem kd_22 : Kd P 22 := .inl ⟨_, ty_22⟩
theorem one_24 : OneT P 24 false := by unfold OneT; kernel_rfl
theorem sz_24 : SizeIs P 24 3 := by unfold SizeIs; kernel_rfl
theorem by_24 : BytesIs P 24 48 := by unfold BytesIs; kernel_rfl
theorem zr_24 : ZeroIs P 24 (.agg #[.int .i64 0, .string ⟨#[]⟩, .slice none 0 0]) := by unfold ZeroIs; kernel_rfl
theorem fl_24_0 : FieldIs P 24 0 0 := .of (k := 0) (by kernel_rfl)
theorem fl_24_1 : FieldIs P 24 1 1 := .of (k := 0) (by kernel_rfl)
theorem fl_24_2 : FieldIs P 24 2 2 := .of (k := 0) (by kernel_rfl)
theorem pl_24 : PlacesAre P 24 #[(0, 1), (1, 1), (2, 1)] := .of (by kernel_rfl)
theorem ty_42 : P.underlying 42 = some (.slice 62) := by kernel_rfl
theorem kd_42 : Kd P 42 := .inl ⟨_, ty_42⟩
theorem ty_43 : P.underlying 43 = some (.slice 55) := by kernel_rfl
theorem kd_43 : Kd P 43 := .inl ⟨_, ty_43⟩
theorem one_44 : OneT P 44 true := by unfold OneT; kernel_rfl
theorem sz_44 : SizeIs P 44 1 := by unfold SizeIs; kernel_rfl
theorem ty_44 : P.underlying 44 = some (.slice 3) := by kernel_rfl
theorem kd_44 : Kd P 44 := .inl ⟨_, ty_44⟩
theorem ty_49 : P.underlying 49 = some (.slice 57) := by kernel_rfl
theorem kd_49 : Kd P 49 := .inl ⟨_, ty_49⟩
theorem ty_50 : P.underlying 50 = some (.slice 9) := by kernel_rfl
theorem kd_50 : Kd P 50 := .inl ⟨_, ty_50⟩
theorem one_55 : OneT P 55 false := by unfold OneT; kernel_rfl
theorem sz_55 : SizeIs P 55 6 := by unfold SizeIs; kernel_rfl
theorem by_55 : BytesIs P 55 88 := by unfold BytesIs; kernel_rfl
theorem zr_55 : ZeroIs P 55 (.agg #[.int .i64 0, .int .i64 0, .slice none 0 0, .int .i64 0, .string ⟨#[]⟩, .slice none 0 0]) := by unfold ZeroIs; kernel_rfl
theorem fl_55_0 : FieldIs P 55 0 0 := .of (k := 0) (by kernel_rfl)
theorem fl_55_1 : FieldIs P 55 1 1 := .of (k := 0) (by kernel_rfl)
theorem fl_55_2 : FieldIs P 55 2 2 := .of (k := 0) (by kernel_rfl)
theorem fl_55_3 : FieldIs P 55 3 3 := .of (k := 2) (by kernel_rfl)
theorem pl_55 : PlacesAre P 55 #[(0, 1), (1, 1), (2, 1), (3, 3)] := .of (by kernel_rfl)
theorem one_57 : OneT P 57 false := by unfold OneT; kernel_rfl
theorem sz_57 : SizeIs P 57 5 := by unfold SizeIs; kernel_rfl
theorem by_57 : BytesIs P 57 64 := by unfold BytesIs; kernel_rfl
theorem zr_57 : ZeroIs P 57 (.agg #[.int .i64 0, .int .i64 0, .slice none 0 0, .string ⟨#[]⟩, .bool false]) := by unfold ZeroIs; kernel_rfl
theorem fl_57_0 : FieldIs P 57 0 0 := .of (k := 0) (by kernel_rfl)
theorem fl_57_1 : FieldIs P 57 1 1 := .of (k := 0) (by kernel_rfl)
theorem fl_57_2 : FieldIs P 57 2 2 := .of (k := 0) (by kernel_rfl)
theorem fl_57_3 : FieldIs P 57 3 3 := .of (k := 0) (by kernel_rfl)
theorem fl_57_4 : FieldIs P 57 4 4 := .of (k := 0) (by kernel_rfl)
theorem pl_57 : PlacesAre P 57 #[(0, 1), (1, 1), (2, 1), (3, 1), (4, 1)] := .of (by kernel_rfl)
theorem one_62 : OneT P 62 false := by unfold OneT; kernel_rfl
theorem sz_62 : SizeIs P 62 2 := by unfold SizeIs; kernel_rfl
theorem ce_62 : P.cellsOf 62 = 2 := by kernel_rfl
theorem by_62 : BytesIs P 62 16 := by unfold BytesIs; kernel_rfl
theorem zr_62 : ZeroIs P 62 (.agg #[.int .i64 0, .int .i64 0]) := by unfold ZeroIs; kernel_rfl
theorem fl_62_0 : FieldIs P 62 0 0 := .of (k := 0) (by kernel_rfl)
theorem fl_62_1 : FieldIs P 62 1 1 := .of (k := 0) (by kernel_rfl)
theorem pl_62 : PlacesAre P 62 #[(0, 1), (1, 1)] := .of (by kernel_rfl)
theorem one_65 : OneT P 65 true := by unfold OneT; kernel_rfl
theorem sz_65 : SizeIs P 65 1 := by unfold SizeIs; kernel_rfl
theorem zr_65 : ZeroIs P 65 (.pointer none) := by unfold ZeroIs; kernel_rfl
theorem one_80 : OneT P 80 true := by unfold OneT; kernel_rfl
theorem sz_80 : SizeIs P 80 1 := by unfold SizeIs; kernel_rfl
theorem ty_80 : P.underlying 80 = some (.pointer 83) := by kernel_rfl
theorem one_81 : OneT P 81 true := by unfold OneT; kernel_rfl
theorem sz_81 : SizeIs P 81 1 := by unfold SizeIs; kernel_rfl
theorem ty_81 : P.underlying 81 = some (.slice 5) := by kernel_rfl
theorem kd_81 : Kd P 81 := .inl ⟨_, ty_81⟩
theorem sz_83 : SizeIs P 83 2 := by unfold SizeIs; kernel_rfl
theorem zr_83 : ZeroIs P 83 (.agg #[.pointer none, .slice none 0 0]) := by unfold ZeroIs; kernel_rfl
theorem fl_83_0 : FieldIs P 83 0 0 := .of (k := 0) (by kernel_rfl)
theorem fl_83_1 : FieldIs P 83 1 1 := .of (k := 0) (by kernel_rfl)
theorem zr_89 : ZeroIs P 89 (.agg #[.slice none 0 0, .int .i64 0, .int .i64 0, .slice none 0 0, .slice none 0 0]) := by unfold ZeroIs; kernel_rfl
theorem fl_89_0 : FieldIs P 89 0 0 := .of (k := 0) (by kernel_rfl)
theorem fl_89_1 : FieldIs P 89 1 1 := .of (k := 0) (by kernel_rfl)
theorem fl_89_2 : FieldIs P 89 2 2 := .of (k := 0) (by kernel_rfl)
theorem fl_89_3 : FieldIs P 89 3 3 := .of (k := 0) (by kernel_rfl)
theorem fl_89_4 : FieldIs P 89 4 4 := .of (k := 0) (by kernel_rfl)
theorem pl_89 : PlacesAre P 89 #[(0, 1), (1, 1), (2, 1), (3, 1), (4, 1)] := .of (by kernel_rfl)
theorem one_106 : OneT P 106 true := by unfold OneT; kernel_rfl
theorem sz_106 : SizeIs P 106 1 := by unfold SizeIs; kernel_rfl
theorem ty_106 : P.underlying 106 = some (.slice 24) := by kernel_rfl
theorem kd_106 : Kd P 106 := .inl ⟨_, ty_106⟩
theorem sz_108 : SizeIs P 108 1 := by unfold SizeIs; kernel_rfl
theorem zr_108 : ZeroIs P 108 (.agg #[.slice none 0 0]) := by unfold ZeroIs; kernel_rfl
theorem fl_108_0 : FieldIs P 108 0 0 := .of (k := 0) (by kernel_rfl)
theorem pl_108 : PlacesAre P 108 #[(0, 1)] := .of (by kernel_rfl)
theorem ty_127 : P.underlying 127 = some (.pointer 5) := by kernel_rfl
theorem ty_132 : P.underlying 132 = some (.int .u64) := by kernel_rfl
theorem ty_157 : P.underlying 157 = some (.int .u64) := by kernel_rfl
theorem one_171 : OneT P 171 false := by unfold OneT; kernel_rfl
theorem sz_171 : SizeIs P 171 256 := by unfold SizeIs; kernel_rfl
theorem zr_171 : ZeroIs P 171 (.agg #[.bool false, .bool false, .bool false, .bool false, .bool false, .bool false, .bool false, .bool false, .bool false, .bool false, .bool false, .bool false, .bool false, .bool false, .bool false, .bool false, .bool false, .bool false, .bool false, .bool false, .bool false, .bool false, .bool false, .bool false, .bool false, .bool false, .bool false, .bool false, .bool false, .bool false, .bool false, .bool false, .bool false, .bool false, .bool false, .bool false, .bool false, .bool false, .bool false, .bool false, .bool false, .bool false, .bool false, .bool false, .bool false, .bool false, .bool false, .bool false, .bool false, .bool false, .bool false, .bool false, .bool false, .bool false, .bool false, .bool false, .bool false, .bool false, .bool false, .bool false, .bool false, .bool false, .bool false, .bool false, .bool false, .bool false, .bool false, .bool false, .bool false, .bool false, .bool false, .bool false, .bool false, .bool false, .bool false, .bool false, .bool false, .bool false, .bool false, .bool false, .bool false, .bool false, .bool false, .bool false, .bool false, .bool false, .bool false, .bool false, .bool false, .bool false, .bool false, .bool false, .bool false, .bool false, .bool false, .bool false, .bool false, .bool false, .bool false, .bool false, .bool false, .bool false, .bool false, .bool false, .bool false, .bool false, .bool false, .bool false, .bool false, .bool false, .bool false, .bool false, .bool false, .bool false, .bool false, .bool false, .bool false, .bool false, .bool false, .bool false, .bool false, .bool false, .bool false, .bool false, .bool false, .bool false, .bool false, .bool false, .bool false, .bool false, .bool false, .bool false, .bool false, .bool false, .bool false, .bool false, .bool false, .bool false, .bool false, .bool false, .bool false, .bool false, .bool false, .bool false, .bool false, .bool false, .bool false, .bool false, .bool false, .bool false, .bool false, .bool false, .bool false, .bool false, .bool false, .bool false, .bool false, .bool false, .bool false, .bool false, .bool false, .bool false, .bool false, .bool false, .bool false, .bool false, .bool false, .bool false, .bool false, .bool false, .bool false, .bool false, .bool false, .bool false, .bool false, .bool false, .bool false, .bool false, .bool false, .bool false, .bool false, .bool false, .bool false, .bool false, .bool false, .bool false, .bool false, .bool false, .bool false, .bool false, .bool false, .bool false, .bool false, .bool false, .bool false, .bool false, .bool false, .bool false, .bool false, .bool false, .bool false, .bool false, .bool false, .bool false, .bool false, .bool false, .bool false, .bool false, .bool false, .bool false, .bool false, .bool false, .bool false, .bool false, .bool false, .bool false, .bool false, .bool false, .bool false, .bool false, .bool false, .bool false, .bool false, .bool false, .bool false, .bool false, .bool false, .bool false, .bool false, .bool false, .bool false, .bool false, .bool false, .bool false, .bool false, .bool false, .bool false, .bool false, .bool false, .bool false, .bool false, .bool false, .bool false, .bool false, .bool false, .bool false, .bool false, .bool false, .bool false, .bool false, .bool false, .bool false, .bool false, .bool false, .bool false, .bool false]) := by unfold ZeroIs; kernel_rfl
theorem ty_171 : P.underlying 171 = some (.array 256 4) := by kernel_rfl
theorem has_13 : Has P 13 := ⟨_, Go.Proofs.Tryz.func13, by kernel_rfl, by kernel_rfl⟩
theorem has_14 : Has P 14 := ⟨_, Go.Proofs.Tryz.func14, by kernel_rfl, by kernel_rfl⟩
theorem has_17 : Has P 17 := ⟨_, Go.Proofs.Tryz.func17, by kernel_rfl, by kernel_rfl⟩
theorem has_21 : Has P 21 := ⟨_, Go.Proofs.Tryz.func21, by kernel_rfl, by kernel_rfl⟩
theorem has_22 : Has P 22 := ⟨_, Go.Proofs.Tryz.func22, by kernel_rfl, by kernel_rfl⟩
theorem has_23 : Has P 23 := ⟨_, Go.Proofs.Tryz.func23, by kernel_rfl, by kernel_rfl⟩
theorem has_24 : Has P 24 := ⟨_, Go.Proofs.Tryz.func24, by kernel_rfl, by kernel_rfl⟩
theorem has_25 : Has P 25 := ⟨_, Go.Proofs.Tryz.func25, by kernel_rfl, by kernel_rfl⟩
theorem has_26 : Has P 26 := ⟨_, Go.Proofs.Tryz.func26, by kernel_rfl, by kernel_rfl⟩
theorem has_27 : Has P 27 := ⟨_, Go.Proofs.Tryz.func27, by kernel_rfl, by kernel_rfl⟩
theorem has_28 : Has P 28 := ⟨_, Go.Proofs.Tryz.func28, by kernel_rfl, by kernel_rfl⟩
theorem has_30 : Has P 30 := ⟨_, Go.Proofs.Tryz.func30, by kernel_rfl, by kernel_rfl⟩
theorem has_32 : Has P 32 := ⟨_, Go.Proofs.Tryz.func32, by kernel_rfl, by kernel_rfl⟩
theorem has_36 : Has P 36 := ⟨_, Go.Proofs.Tryz.func36, by kernel_rfl, by kernel_rfl⟩
theorem has_37 : Has P 37 := ⟨_, Go.Proofs.Tryz.func37, by kernel_rfl, by kernel_rfl⟩
theorem has_38 : Has P 38 := ⟨_, Go.Proofs.Tryz.func38, by kernel_rfl, by kernel_rfl⟩
theorem has_39 : Has P 39 := ⟨_, Go.Proofs.Tryz.func39, by kernel_rfl, by kernel_rfl⟩
theorem has_40 : Has P 40 := ⟨_, Go.Proofs.Tryz.func40, by kernel_rfl, by kernel_rfl⟩
theorem has_43 : Has P 43 := ⟨_, Go.Proofs.Tryz.func43, by kernel_rfl, by kernel_rfl⟩
theorem has_44 : Has P 44 := ⟨_, Go.Proofs.Tryz.func44, by kernel_rfl, by kernel_rfl⟩
theorem has_45 : Has P 45 := ⟨_, Go.Proofs.Tryz.func45, by kernel_rfl, by kernel_rfl⟩
theorem has_46 : Has P 46 := ⟨_, Go.Proofs.Tryz.func46, by kernel_rfl, by kernel_rfl⟩
theorem has_47 : Has P 47 := ⟨_, Go.Proofs.Tryz.func47, by kernel_rfl, by kernel_rfl⟩
theorem has_48 : Has P 48 := ⟨_, Go.Proofs.Tryz.func48, by kernel_rfl, by kernel_rfl⟩
theorem has_49 : Has P 49 := ⟨_, Go.Proofs.Tryz.func49, by kernel_rfl, by kernel_rfl⟩
theorem has_50 : Has P 50 := ⟨_, Go.Proofs.Tryz.func50, by kernel_rfl, by kernel_rfl⟩
theorem has_51 : Has P 51 := ⟨_, Go.Proofs.Tryz.func51, by kernel_rfl, by kernel_rfl⟩
theorem has_52 : Has P 52 := ⟨_, Go.Proofs.Tryz.func52, by kernel_rfl, by kernel_rfl⟩
theorem has_53 : Has P 53 := ⟨_, Go.Proofs.Tryz.func53, by kernel_rfl, by kernel_rfl⟩
theorem has_54 : Has P 54 := ⟨_, Go.Proofs.Tryz.func54, by kernel_rfl, by kernel_rfl⟩
theorem has_55 : Has P 55 := ⟨_, Go.Proofs.Tryz.func55, by kernel_rfl, by kernel_rfl⟩
theorem has_56 : Has P 56 := ⟨_, Go.Proofs.Tryz.func56, by kernel_rfl, by kernel_rfl⟩
theorem has_57 : Has P 57 := ⟨_, Go.Proofs.Tryz.func57, by kernel_rfl, by kernel_rfl⟩
theorem has_58 : Has P 58 := ⟨_, Go.Proofs.Tryz.func58, by kernel_rfl, by kernel_rfl⟩
theorem has_59 : Has P 59 := ⟨_, Go.Proofs.Tryz.func59, by kernel_rfl, by kernel_rfl⟩
theorem has_60 : Has P 60 := ⟨_, Go.Proofs.Tryz.func60, by kernel_rfl, by kernel_rfl⟩
theorem has_61 : Has P 61 := ⟨_, Go.Proofs.Tryz.func61, by kernel_rfl, by kernel_rfl⟩
theorem has_65 : Has P 65 := ⟨_, Go.Proofs.Tryz.func65, by kernel_rfl, by kernel_rfl⟩
theorem has_66 : Has P 66 := ⟨_, Go.Proofs.Tryz.func66, by kernel_rfl, by kernel_rfl⟩
theorem has_67 : Has P 67 := ⟨_, Go.Proofs.Tryz.func67, by kernel_rfl, by kernel_rfl⟩
theorem has_68 : Has P 68 := ⟨_, Go.Proofs.Tryz.func68, by kernel_rfl, by kernel_rfl⟩
theorem has_70 : Has P 70 := ⟨_, Go.Proofs.Tryz.func70, by kernel_rfl, by kernel_rfl⟩
theorem has_71 : Has P 71 := ⟨_, Go.Proofs.Tryz.func71, by kernel_rfl, by kernel_rfl⟩
theorem has_72 : Has P 72 := ⟨_, Go.Proofs.Tryz.func72, by kernel_rfl, by kernel_rfl⟩
theorem has_73 : Has P 73 := ⟨_, Go.Proofs.Tryz.func73, by kernel_rfl, by kernel_rfl⟩
theorem has_74 : Has P 74 := ⟨_, Go.Proofs.Tryz.func74, by kernel_rfl, by kernel_rfl⟩
theorem has_75 : Has P 75 := ⟨_, Go.Proofs.Tryz.func75, by kernel_rfl, by kernel_rfl⟩
theorem has_78 : Has P 78 := ⟨_, Go.Proofs.Tryz.func78, by kernel_rfl, by kernel_rfl⟩
theorem has_79 : Has P 79 := ⟨_, Go.Proofs.Tryz.func79, by kernel_rfl, by kernel_rfl⟩
theorem has_80 : Has P 80 := ⟨_, Go.Proofs.Tryz.func80, by kernel_rfl, by kernel_rfl⟩
theorem has_81 : Has P 81 := ⟨_, Go.Proofs.Tryz.func81, by kernel_rfl, by kernel_rfl⟩
theorem has_82 : Has P 82 := ⟨_, Go.Proofs.Tryz.func82, by kernel_rfl, by kernel_rfl⟩
theorem has_83 : Has P 83 := ⟨_, Go.Proofs.Tryz.func83, by kernel_rfl, by kernel_rfl⟩
theorem has_84 : Has P 84 := ⟨_, Go.Proofs.Tryz.func84, by kernel_rfl, by kernel_rfl⟩
theorem has_85 : Has P 85 := ⟨_, Go.Proofs.Tryz.func85, by kernel_rfl, by kernel_rfl⟩
theorem has_86 : Has P 86 := ⟨_, Go.Proofs.Tryz.func86, by kernel_rfl, by kernel_rfl⟩
theorem has_87 : Has P 87 := ⟨_, Go.Proofs.Tryz.func87, by kernel_rfl, by kernel_rfl⟩
theorem has_88 : Has P 88 := ⟨_, Go.Proofs.Tryz.func88, by kernel_rfl, by kernel_rfl⟩
theorem has_89 : Has P 89 := ⟨_, Go.Proofs.Tryz.func89, by kernel_rfl, by kernel_rfl⟩
theorem has_90 : Has P 90 := ⟨_, Go.Proofs.Tryz.func90, by kernel_rfl, by kernel_rfl⟩
theorem has_91 : Has P 91 := ⟨_, Go.Proofs.Tryz.func91, by kernel_rfl, by kernel_rfl⟩
theorem has_92 : Has P 92 := ⟨_, Go.Proofs.Tryz.func92, by kernel_rfl, by kernel_rfl⟩
theorem has_97 : Has P 97 := ⟨_, Go.Proofs.Tryz.func97, by kernel_rfl, by kernel_rfl⟩
theorem has_98 : Has P 98 := ⟨_, Go.Proofs.Tryz.func98, by kernel_rfl, by kernel_rfl⟩
theorem has_100 : Has P 100 := ⟨_, Go.Proofs.Tryz.func100, by kernel_rfl, by kernel_rfl⟩
theorem has_101 : Has P 101 := ⟨_, Go.Proofs.Tryz.func101, by kernel_rfl, by kernel_rfl⟩
theorem has_102 : Has P 102 := ⟨_, Go.Proofs.Tryz.func102, by kernel_rfl, by kernel_rfl⟩
theorem has_104 : Has P 104 := ⟨_, Go.Proofs.Tryz.func104, by kernel_rfl, by kernel_rfl⟩
theorem has_113 : Has P 113 := ⟨_, Go.Proofs.Tryz.func113, by kernel_rfl, by kernel_rfl⟩
theorem has_114 : Has P 114 := ⟨_, Go.Proofs.Tryz.func114, by kernel_rfl, by kernel_rfl⟩
theorem has_115 : Has P 115 := ⟨_, Go.Proofs.Tryz.func115, by kernel_rfl, by kernel_rfl⟩
theorem has_121 : Has P 121 := ⟨_, Go.Proofs.Tryz.func121, by kernel_rfl, by kernel_rfl⟩
theorem has_124 : Has P 124 := ⟨_, Go.Proofs.Tryz.func124, by kernel_rfl, by kernel_rfl⟩
theorem has_125 : Has P 125 := ⟨_, Go.Proofs.Tryz.func125, by kernel_rfl, by kernel_rfl⟩
theorem has_132 : Has P 132 := ⟨_, Go.Proofs.Tryz.func132, by kernel_rfl, by kernel_rfl⟩
theorem has_133 : Has P 133 := ⟨_, Go.Proofs.Tryz.func133, by kernel_rfl, by kernel_rfl⟩
theorem has_134 : Has P 134 := ⟨_, Go.Proofs.Tryz.func134, by kernel_rfl, by kernel_rfl⟩
theorem has_144 : Has P 144 := ⟨_, Go.Proofs.Tryz.func144, by kernel_rfl, by kernel_rfl⟩
theorem has_151 : Has P 151 := ⟨_, Go.Proofs.Tryz.func151, by kernel_rfl, by kernel_rfl⟩
theorem has_157 : Has P 157 := ⟨_, Go.Proofs.Tryz.func157, by kernel_rfl, by kernel_rfl⟩
theorem has_163 : Has P 163 := ⟨_, Go.Proofs.Tryz.func163, by kernel_rfl, by kernel_rfl⟩
end Go.Proofs.YtlpkcbkflfbclaaGreatDoor.S
