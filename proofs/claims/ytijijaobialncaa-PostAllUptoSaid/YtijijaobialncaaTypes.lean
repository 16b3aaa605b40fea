/- The closed facts of this seat's program: its types and functions, as the kernel reckons them. Written by a program of the prover's own (gen.py). -/
import Derived.Test.YtijijaobialncaaOps6
import Derived.Test.YtijijaobialncaaProg
namespace Go.Proofs.Ytijijaobialncaa.S
noncomputable abbrev P : Program := Go.Proofs.Try.prog
theorem mixed : P.follows .mixedOrders = true := by kernel_rfl
theorem one_3 : OneT P 3 true := by unfold OneT; kernel_rfl
theorem sz_3 : SizeIs P 3 1 := by unfold SizeIs; kernel_rfl
theorem ce_3 : P.cellsOf 3 = 1 := by kernel_rfl
theorem by_3 : BytesIs P 3 8 := by unfold BytesIs; kernel_rfl
theorem zr_3 : ZeroIs P 3 (.int .i64 0) := by unfold ZeroIs; kernel_rfl
theorem ty_3 : P.underlying 3 = some (.int .i64) := by kernel_rfl
theorem one_4 : OneT P 4 true := by unfold OneT; kernel_rfl
theorem one_5 : OneT P 5 true := by unfold OneT; kernel_rfl
theorem sz_5 : SizeIs P 5 1 := by unfold SizeIs; kernel_rfl
theorem ce_5 : P.cellsOf 5 = 1 := by kernel_rfl
theorem by_5 : BytesIs P 5 1 := by unfold BytesIs; kernel_rfl
theorem zr_5 : ZeroIs P 5 (.int .u8 0) := by unfold ZeroIs; kernel_rfl
theorem ty_5 : P.underlying 5 = some (.int .u8) := by kernel_rfl
theorem one_9 : OneT P 9 true := by unfold OneT; kernel_rfl
theorem sz_9 : SizeIs P 9 1 := by unfold SizeIs; kernel_rfl
theorem by_9 : BytesIs P 9 16 := by unfold BytesIs; kernel_rfl
theorem zr_9 : ZeroIs P 9 (.string ⟨#[]⟩) := by unfold ZeroIs; kernel_rfl
theorem ty_9 : P.underlying 9 = some .string := by kernel_rfl
theorem ty_23 : P.underlying 23 = some (.pointer 65) := by kernel_rfl
theorem one_25 : OneT P 25 true := by unfold OneT; kernel_rfl
theorem sz_25 : SizeIs P 25 1 := by unfold SizeIs; kernel_rfl
theorem one_27 : OneT P 27 true := by unfold OneT; kernel_rfl
theorem sz_27 : SizeIs P 27 1 := by unfold SizeIs; kernel_rfl
theorem ce_27 : P.cellsOf 27 = 1 := by kernel_rfl
theorem by_27 : BytesIs P 27 4 := by unfold BytesIs; kernel_rfl
theorem zr_27 : ZeroIs P 27 (.int .u32 0) := by unfold ZeroIs; kernel_rfl
theorem ty_27 : P.underlying 27 = some (.int .u32) := by kernel_rfl
theorem one_29 : OneT P 29 true := by unfold OneT; kernel_rfl
theorem sz_29 : SizeIs P 29 1 := by unfold SizeIs; kernel_rfl
theorem ce_29 : P.cellsOf 29 = 1 := by kernel_rfl
theorem by_29 : BytesIs P 29 24 := by unfold BytesIs; kernel_rfl
theorem zr_29 : ZeroIs P 29 (.slice none 0 0) := by unfold ZeroIs; kernel_rfl
theorem ty_29 : P.underlying 29 = some (.slice 5) := by kernel_rfl
theorem kd_29 : Kd P 29 := .inl ⟨_, ty_29⟩
theorem one_34 : OneT P 34 true := by unfold OneT; kernel_rfl
theorem sz_34 : SizeIs P 34 1 := by unfold SizeIs; kernel_rfl
theorem ty_34 : P.underlying 34 = some (.slice 29) := by kernel_rfl
theorem kd_34 : Kd P 34 := .inl ⟨_, ty_34⟩
theorem one_35 : OneT P 35 true := by unfold OneT; kernel_rfl
theorem sz_35 : SizeIs P 35 1 := by unfold SizeIs; kernel_rfl
theorem ce_35 : P.cellsOf 35 = 1 := by kernel_rfl
theorem ty_35 : P.underlying 35 = some (.slice 60) := by kernel_rfl
theorem kd_35 : Kd P 35 := .inl ⟨_, ty_35⟩
theorem one_36 : OneT P 36 true := by unfold OneT; kernel_rfl
theorem sz_36 : SizeIs P 36 1 := by unfold SizeIs; kernel_rfl
theorem ce_36 : P.cellsOf 36 = 1 := by kernel_rfl
theorem ty_36 : P.underlying 36 = some (.slice 27) := by kernel_rfl
theorem kd_36 : Kd P 36 := .inl ⟨_, ty_36⟩
theorem one_37 : OneT P 37 true := by unfold OneT; kernel_rfl
theorem sz_37 : SizeIs P 37 1 := by unfold SizeIs; kernel_rfl
theorem ce_37 : P.cellsOf 37 = 1 := by kernel_rfl
theorem ty_37 : P.underlying 37 = some (.slice 86) := by kernel_rfl
theorem kd_37 : Kd P 37 := .inl ⟨_, ty_37⟩
theorem one_39 : OneT P 39 false := by unfold OneT; kernel_rfl
theorem sz_39 : SizeIs P 39 5 := by unfold SizeIs; kernel_rfl
theorem ce_39 : P.cellsOf 39 = 5 := by kernel_rfl
theorem by_39 : BytesIs P 39 104 := by unfold BytesIs; kernel_rfl
theorem zr_39 : ZeroIs P 39 (.agg #[.int .i64 0, .slice none 0 0, .slice none 0 0, .slice none 0 0, .slice none 0 0]) := by unfold ZeroIs; kernel_rfl
theorem fl_39_0 : FieldIs P 39 0 0 := .of (k := 0) (by kernel_rfl)
theorem fl_39_1 : FieldIs P 39 1 1 := .of (k := 0) (by kernel_rfl)
theorem fl_39_2 : FieldIs P 39 2 2 := .of (k := 0) (by kernel_rfl)
theorem fl_39_3 : FieldIs P 39 3 3 := .of (k := 0) (by kernel_rfl)
theorem fl_39_4 : FieldIs P 39 4 4 := .of (k := 0) (by kernel_rfl)
theorem pl_39 : PlacesAre P 39 #[(0, 1), (1, 1), (2, 1), (3, 1), (4, 1)] := .of (by kernel_rfl)
theorem one_42 : OneT P 42 true := by unfold OneT; kernel_rfl
theorem sz_42 : SizeIs P 42 1 := by unfold SizeIs; kernel_rfl
theorem ce_42 : P.cellsOf 42 = 1 := by kernel_rfl
theorem ty_42 : P.underlying 42 = some (.slice 39) := by kernel_rfl
theorem kd_42 : Kd P 42 := .inl ⟨_, ty_42⟩
theorem ty_47 : P.underlying 47 = some (.slice 51) := by kernel_rfl
theorem ty_49 : P.underlying 49 = some (.slice 101) := by kernel_rfl
theorem kd_49 : Kd P 49 := .inl ⟨_, ty_49⟩
theorem one_51 : OneT P 51 false := by unfold OneT; kernel_rfl
theorem sz_51 : SizeIs P 51 6 := by unfold SizeIs; kernel_rfl
theorem ce_51 : P.cellsOf 51 = 6 := by kernel_rfl
theorem zr_51 : ZeroIs P 51 (.agg #[.int .i64 0, .int .u32 0, .int .i64 0, .slice none 0 0, .slice none 0 0, .slice none 0 0]) := by unfold ZeroIs; kernel_rfl
theorem fl_51_0 : FieldIs P 51 0 0 := .of (k := 0) (by kernel_rfl)
theorem fl_51_1 : FieldIs P 51 1 1 := .of (k := 0) (by kernel_rfl)
theorem fl_51_2 : FieldIs P 51 2 2 := .of (k := 0) (by kernel_rfl)
theorem fl_51_3 : FieldIs P 51 3 3 := .of (k := 0) (by kernel_rfl)
theorem fl_51_4 : FieldIs P 51 4 4 := .of (k := 0) (by kernel_rfl)
theorem fl_51_5 : FieldIs P 51 5 5 := .of (k := 0) (by kernel_rfl)
theorem ty_56 : P.underlying 56 = some (.map 27 3) := by kernel_rfl
theorem one_60 : OneT P 60 false := by unfold OneT; kernel_rfl
theorem sz_60 : SizeIs P 60 32 := by unfold SizeIs; kernel_rfl
theorem ce_60 : P.cellsOf 60 = 32 := by kernel_rfl
theorem by_60 : BytesIs P 60 32 := by unfold BytesIs; kernel_rfl
theorem zr_60 : ZeroIs P 60 (.agg #[.int .u8 0, .int .u8 0, .int .u8 0, .int .u8 0, .int .u8 0, .int .u8 0, .int .u8 0, .int .u8 0, .int .u8 0, .int .u8 0, .int .u8 0, .int .u8 0, .int .u8 0, .int .u8 0, .int .u8 0, .int .u8 0, .int .u8 0, .int .u8 0, .int .u8 0, .int .u8 0, .int .u8 0, .int .u8 0, .int .u8 0, .int .u8 0, .int .u8 0, .int .u8 0, .int .u8 0, .int .u8 0, .int .u8 0, .int .u8 0, .int .u8 0, .int .u8 0]) := by unfold ZeroIs; kernel_rfl
theorem ty_60 : P.underlying 60 = some (.array 32 5) := by kernel_rfl
theorem eg_60 : Program.eqGuardType P P.depth 60 = false := by kernel_rfl
theorem one_63 : OneT P 63 true := by unfold OneT; kernel_rfl
theorem ty_63 : P.underlying 63 = some (.map 27 66) := by kernel_rfl
theorem zr_65 : ZeroIs P 65 (.agg #[.map none]) := by unfold ZeroIs; kernel_rfl
theorem fl_65_0 : FieldIs P 65 0 0 := .of (k := 0) (by kernel_rfl)
theorem pl_65 : PlacesAre P 65 #[(0, 1)] := .of (by kernel_rfl)
theorem zr_66 : ZeroIs P 66 (.pointer none) := by unfold ZeroIs; kernel_rfl
theorem ty_66 : P.underlying 66 = some (.pointer 71) := by kernel_rfl
theorem one_67 : OneT P 67 true := by unfold OneT; kernel_rfl
theorem sz_67 : SizeIs P 67 1 := by unfold SizeIs; kernel_rfl
theorem ty_67 : P.underlying 67 = some (.pointer 39) := by kernel_rfl
theorem fl_69_0 : FieldIs P 69 0 0 := .of (k := 0) (by kernel_rfl)
theorem fl_69_1 : FieldIs P 69 1 1 := .of (k := 0) (by kernel_rfl)
theorem zr_71 : ZeroIs P 71 (.agg #[.pointer none, .slice none 0 0, .slice none 0 0, .int .i64 0]) := by unfold ZeroIs; kernel_rfl
theorem fl_71_0 : FieldIs P 71 0 0 := .of (k := 0) (by kernel_rfl)
theorem fl_71_1 : FieldIs P 71 1 1 := .of (k := 0) (by kernel_rfl)
theorem fl_71_2 : FieldIs P 71 2 2 := .of (k := 1) (by kernel_rfl)
theorem pl_71 : PlacesAre P 71 #[(0, 1), (1, 1), (2, 2)] := .of (by kernel_rfl)
theorem zr_78 : ZeroIs P 78 (.agg #[.slice none 0 0, .int .i64 0]) := by unfold ZeroIs; kernel_rfl
theorem fl_78_0 : FieldIs P 78 0 0 := .of (k := 0) (by kernel_rfl)
theorem fl_78_1 : FieldIs P 78 1 1 := .of (k := 0) (by kernel_rfl)
theorem pl_78 : PlacesAre P 78 #[(0, 1), (1, 1)] := .of (by kernel_rfl)
theorem one_81 : OneT P 81 false := by unfold OneT; kernel_rfl
theorem sz_81 : SizeIs P 81 4 := by unfold SizeIs; kernel_rfl
theorem zr_81 : ZeroIs P 81 (.agg #[.int .i64 0, .int .i64 0, .int .i64 0, .bool false]) := by unfold ZeroIs; kernel_rfl
theorem fl_81_0 : FieldIs P 81 0 0 := .of (k := 0) (by kernel_rfl)
theorem fl_81_1 : FieldIs P 81 1 1 := .of (k := 0) (by kernel_rfl)
theorem fl_81_2 : FieldIs P 81 2 2 := .of (k := 0) (by kernel_rfl)
theorem fl_81_3 : FieldIs P 81 3 3 := .of (k := 0) (by kernel_rfl)
theorem pl_81 : PlacesAre P 81 #[(0, 1), (1, 1), (2, 1), (3, 1)] := .of (by kernel_rfl)
theorem one_86 : OneT P 86 false := by unfold OneT; kernel_rfl
theorem sz_86 : SizeIs P 86 64 := by unfold SizeIs; kernel_rfl
theorem ce_86 : P.cellsOf 86 = 64 := by kernel_rfl
theorem by_86 : BytesIs P 86 64 := by unfold BytesIs; kernel_rfl
theorem zr_86 : ZeroIs P 86 (.agg #[.int .u8 0, .int .u8 0, .int .u8 0, .int .u8 0, .int .u8 0, .int .u8 0, .int .u8 0, .int .u8 0, .int .u8 0, .int .u8 0, .int .u8 0, .int .u8 0, .int .u8 0, .int .u8 0, .int .u8 0, .int .u8 0, .int .u8 0, .int .u8 0, .int .u8 0, .int .u8 0, .int .u8 0, .int .u8 0, .int .u8 0, .int .u8 0, .int .u8 0, .int .u8 0, .int .u8 0, .int .u8 0, .int .u8 0, .int .u8 0, .int .u8 0, .int .u8 0, .int .u8 0, .int .u8 0, .int .u8 0, .int .u8 0, .int .u8 0, .int .u8 0, .int .u8 0, .int .u8 0, .int .u8 0, .int .u8 0, .int .u8 0, .int .u8 0, .int .u8 0, .int .u8 0, .int .u8 0, .int .u8 0, .int .u8 0, .int .u8 0, .int .u8 0, .int .u8 0, .int .u8 0, .int .u8 0, .int .u8 0, .int .u8 0, .int .u8 0, .int .u8 0, .int .u8 0, .int .u8 0, .int .u8 0, .int .u8 0, .int .u8 0, .int .u8 0]) := by unfold ZeroIs; kernel_rfl
theorem ty_86 : P.underlying 86 = some (.array 64 5) := by kernel_rfl
theorem eg_86 : Program.eqGuardType P P.depth 86 = false := by kernel_rfl
theorem ty_94 : P.underlying 94 = some (.slice 3) := by kernel_rfl
theorem kd_94 : Kd P 94 := .inl ⟨_, ty_94⟩
theorem one_99 : OneT P 99 true := by unfold OneT; kernel_rfl
theorem sz_99 : SizeIs P 99 1 := by unfold SizeIs; kernel_rfl
theorem ty_99 : P.underlying 99 = some (.slice 9) := by kernel_rfl
theorem kd_99 : Kd P 99 := .inl ⟨_, ty_99⟩
theorem one_101 : OneT P 101 false := by unfold OneT; kernel_rfl
theorem sz_101 : SizeIs P 101 4 := by unfold SizeIs; kernel_rfl
theorem by_101 : BytesIs P 101 80 := by unfold BytesIs; kernel_rfl
theorem zr_101 : ZeroIs P 101 (.agg #[.int .i64 0, .slice none 0 0, .slice none 0 0, .slice none 0 0]) := by unfold ZeroIs; kernel_rfl
theorem fl_101_0 : FieldIs P 101 0 0 := .of (k := 0) (by kernel_rfl)
theorem fl_101_1 : FieldIs P 101 1 1 := .of (k := 0) (by kernel_rfl)
theorem fl_101_2 : FieldIs P 101 2 2 := .of (k := 0) (by kernel_rfl)
theorem fl_101_3 : FieldIs P 101 3 3 := .of (k := 0) (by kernel_rfl)
theorem pl_101 : PlacesAre P 101 #[(0, 1), (1, 1), (2, 1), (3, 1)] := .of (by kernel_rfl)
theorem sz_107 : SizeIs P 107 1 := by unfold SizeIs; kernel_rfl
theorem zr_107 : ZeroIs P 107 (.agg #[.slice none 0 0]) := by unfold ZeroIs; kernel_rfl
theorem fl_107_0 : FieldIs P 107 0 0 := .of (k := 0) (by kernel_rfl)
theorem pl_107 : PlacesAre P 107 #[(0, 1)] := .of (by kernel_rfl)
theorem ty_110 : P.underlying 110 = some (.int .u64) := by kernel_rfl
theorem one_123 : OneT P 123 false := by unfold OneT; kernel_rfl
theorem sz_123 : SizeIs P 123 4 := by unfold SizeIs; kernel_rfl
theorem zr_123 : ZeroIs P 123 (.agg #[.int .i64 0, .int .i64 0, .int .i64 0, .int .i64 0]) := by unfold ZeroIs; kernel_rfl
theorem ty_123 : P.underlying 123 = some (.array 4 3) := by kernel_rfl
theorem sz_130 : SizeIs P 130 32 := by unfold SizeIs; kernel_rfl
theorem zr_130 : ZeroIs P 130 (.agg #[.int .i64 0, .int .i64 0, .int .i64 0, .int .i64 0, .int .i64 0, .int .i64 0, .int .i64 0, .int .i64 0, .int .i64 0, .int .i64 0, .int .i64 0, .int .i64 0, .int .i64 0, .int .i64 0, .int .i64 0, .int .i64 0, .int .i64 0, .int .i64 0, .int .i64 0, .int .i64 0, .int .i64 0, .int .i64 0, .int .i64 0, .int .i64 0, .int .i64 0, .int .i64 0, .int .i64 0, .int .i64 0, .int .i64 0, .int .i64 0, .int .i64 0, .int .i64 0]) := by unfold ZeroIs; kernel_rfl
theorem ty_130 : P.underlying 130 = some (.array 8 123) := by kernel_rfl
theorem ty_141 : P.underlying 141 = some (.int .u64) := by kernel_rfl
theorem one_142 : OneT P 142 true := by unfold OneT; kernel_rfl
theorem sz_142 : SizeIs P 142 1 := by unfold SizeIs; kernel_rfl
theorem zr_142 : ZeroIs P 142 (.int .u64 0) := by unfold ZeroIs; kernel_rfl
theorem ty_142 : P.underlying 142 = some (.int .u64) := by kernel_rfl
theorem has_8 : Has P 8 := ⟨_, Go.Proofs.Try.func8, by kernel_rfl, by kernel_rfl⟩
theorem has_9 : Has P 9 := ⟨_, Go.Proofs.Try.func9, by kernel_rfl, by kernel_rfl⟩
theorem has_10 : Has P 10 := ⟨_, Go.Proofs.Try.func10, by kernel_rfl, by kernel_rfl⟩
theorem has_11 : Has P 11 := ⟨_, Go.Proofs.Try.func11, by kernel_rfl, by kernel_rfl⟩
theorem has_12 : Has P 12 := ⟨_, Go.Proofs.Try.func12, by kernel_rfl, by kernel_rfl⟩
theorem has_13 : Has P 13 := ⟨_, Go.Proofs.Try.func13, by kernel_rfl, by kernel_rfl⟩
theorem has_14 : Has P 14 := ⟨_, Go.Proofs.Try.func14, by kernel_rfl, by kernel_rfl⟩
theorem has_15 : Has P 15 := ⟨_, Go.Proofs.Try.func15, by kernel_rfl, by kernel_rfl⟩
theorem has_16 : Has P 16 := ⟨_, Go.Proofs.Try.func16, by kernel_rfl, by kernel_rfl⟩
theorem has_17 : Has P 17 := ⟨_, Go.Proofs.Try.func17, by kernel_rfl, by kernel_rfl⟩
theorem has_18 : Has P 18 := ⟨_, Go.Proofs.Try.func18, by kernel_rfl, by kernel_rfl⟩
theorem has_19 : Has P 19 := ⟨_, Go.Proofs.Try.func19, by kernel_rfl, by kernel_rfl⟩
theorem has_20 : Has P 20 := ⟨_, Go.Proofs.Try.func20, by kernel_rfl, by kernel_rfl⟩
theorem has_21 : Has P 21 := ⟨_, Go.Proofs.Try.func21, by kernel_rfl, by kernel_rfl⟩
theorem has_22 : Has P 22 := ⟨_, Go.Proofs.Try.func22, by kernel_rfl, by kernel_rfl⟩
theorem has_23 : Has P 23 := ⟨_, Go.Proofs.Try.func23, by kernel_rfl, by kernel_rfl⟩
theorem has_24 : Has P 24 := ⟨_, Go.Proofs.Try.func24, by kernel_rfl, by kernel_rfl⟩
theorem has_25 : Has P 25 := ⟨_, Go.Proofs.Try.func25, by kernel_rfl, by kernel_rfl⟩
theorem has_26 : Has P 26 := ⟨_, Go.Proofs.Try.func26, by kernel_rfl, by kernel_rfl⟩
theorem has_27 : Has P 27 := ⟨_, Go.Proofs.Try.func27, by kernel_rfl, by kernel_rfl⟩
theorem has_28 : Has P 28 := ⟨_, Go.Proofs.Try.func28, by kernel_rfl, by kernel_rfl⟩
theorem has_29 : Has P 29 := ⟨_, Go.Proofs.Try.func29, by kernel_rfl, by kernel_rfl⟩
theorem has_30 : Has P 30 := ⟨_, Go.Proofs.Try.func30, by kernel_rfl, by kernel_rfl⟩
theorem has_31 : Has P 31 := ⟨_, Go.Proofs.Try.func31, by kernel_rfl, by kernel_rfl⟩
theorem has_32 : Has P 32 := ⟨_, Go.Proofs.Try.func32, by kernel_rfl, by kernel_rfl⟩
theorem has_33 : Has P 33 := ⟨_, Go.Proofs.Try.func33, by kernel_rfl, by kernel_rfl⟩
theorem has_34 : Has P 34 := ⟨_, Go.Proofs.Try.func34, by kernel_rfl, by kernel_rfl⟩
theorem has_35 : Has P 35 := ⟨_, Go.Proofs.Try.func35, by kernel_rfl, by kernel_rfl⟩
theorem has_36 : Has P 36 := ⟨_, Go.Proofs.Try.func36, by kernel_rfl, by kernel_rfl⟩
theorem has_37 : Has P 37 := ⟨_, Go.Proofs.Try.func37, by kernel_rfl, by kernel_rfl⟩
theorem has_38 : Has P 38 := ⟨_, Go.Proofs.Try.func38, by kernel_rfl, by kernel_rfl⟩
theorem has_39 : Has P 39 := ⟨_, Go.Proofs.Try.func39, by kernel_rfl, by kernel_rfl⟩
theorem has_40 : Has P 40 := ⟨_, Go.Proofs.Try.func40, by kernel_rfl, by kernel_rfl⟩
theorem has_41 : Has P 41 := ⟨_, Go.Proofs.Try.func41, by kernel_rfl, by kernel_rfl⟩
theorem has_42 : Has P 42 := ⟨_, Go.Proofs.Try.func42, by kernel_rfl, by kernel_rfl⟩
theorem has_43 : Has P 43 := ⟨_, Go.Proofs.Try.func43, by kernel_rfl, by kernel_rfl⟩
theorem has_44 : Has P 44 := ⟨_, Go.Proofs.Try.func44, by kernel_rfl, by kernel_rfl⟩
theorem has_45 : Has P 45 := ⟨_, Go.Proofs.Try.func45, by kernel_rfl, by kernel_rfl⟩
theorem has_46 : Has P 46 := ⟨_, Go.Proofs.Try.func46, by kernel_rfl, by kernel_rfl⟩
theorem has_47 : Has P 47 := ⟨_, Go.Proofs.Try.func47, by kernel_rfl, by kernel_rfl⟩
theorem has_48 : Has P 48 := ⟨_, Go.Proofs.Try.func48, by kernel_rfl, by kernel_rfl⟩
theorem has_49 : Has P 49 := ⟨_, Go.Proofs.Try.func49, by kernel_rfl, by kernel_rfl⟩
theorem has_50 : Has P 50 := ⟨_, Go.Proofs.Try.func50, by kernel_rfl, by kernel_rfl⟩
theorem has_51 : Has P 51 := ⟨_, Go.Proofs.Try.func51, by kernel_rfl, by kernel_rfl⟩
theorem has_52 : Has P 52 := ⟨_, Go.Proofs.Try.func52, by kernel_rfl, by kernel_rfl⟩
theorem has_53 : Has P 53 := ⟨_, Go.Proofs.Try.func53, by kernel_rfl, by kernel_rfl⟩
theorem has_55 : Has P 55 := ⟨_, Go.Proofs.Try.func55, by kernel_rfl, by kernel_rfl⟩
theorem has_56 : Has P 56 := ⟨_, Go.Proofs.Try.func56, by kernel_rfl, by kernel_rfl⟩
theorem has_58 : Has P 58 := ⟨_, Go.Proofs.Try.func58, by kernel_rfl, by kernel_rfl⟩
theorem has_59 : Has P 59 := ⟨_, Go.Proofs.Try.func59, by kernel_rfl, by kernel_rfl⟩
theorem has_60 : Has P 60 := ⟨_, Go.Proofs.Try.func60, by kernel_rfl, by kernel_rfl⟩
theorem has_61 : Has P 61 := ⟨_, Go.Proofs.Try.func61, by kernel_rfl, by kernel_rfl⟩
theorem has_62 : Has P 62 := ⟨_, Go.Proofs.Try.func62, by kernel_rfl, by kernel_rfl⟩
theorem has_63 : Has P 63 := ⟨_, Go.Proofs.Try.func63, by kernel_rfl, by kernel_rfl⟩
theorem has_64 : Has P 64 := ⟨_, Go.Proofs.Try.func64, by kernel_rfl, by kernel_rfl⟩
theorem has_65 : Has P 65 := ⟨_, Go.Proofs.Try.func65, by kernel_rfl, by kernel_rfl⟩
theorem has_66 : Has P 66 := ⟨_, Go.Proofs.Try.func66, by kernel_rfl, by kernel_rfl⟩
theorem has_68 : Has P 68 := ⟨_, Go.Proofs.Try.func68, by kernel_rfl, by kernel_rfl⟩
theorem has_70 : Has P 70 := ⟨_, Go.Proofs.Try.func70, by kernel_rfl, by kernel_rfl⟩
theorem has_71 : Has P 71 := ⟨_, Go.Proofs.Try.func71, by kernel_rfl, by kernel_rfl⟩
theorem has_72 : Has P 72 := ⟨_, Go.Proofs.Try.func72, by kernel_rfl, by kernel_rfl⟩
theorem has_73 : Has P 73 := ⟨_, Go.Proofs.Try.func73, by kernel_rfl, by kernel_rfl⟩
theorem has_74 : Has P 74 := ⟨_, Go.Proofs.Try.func74, by kernel_rfl, by kernel_rfl⟩
theorem has_75 : Has P 75 := ⟨_, Go.Proofs.Try.func75, by kernel_rfl, by kernel_rfl⟩
theorem has_76 : Has P 76 := ⟨_, Go.Proofs.Try.func76, by kernel_rfl, by kernel_rfl⟩
theorem has_77 : Has P 77 := ⟨_, Go.Proofs.Try.func77, by kernel_rfl, by kernel_rfl⟩
end Go.Proofs.Ytijijaobialncaa.S
