/- The closed facts of this seat's program: its types and functions, as the kernel reckons them. Written by a program of the prover's own (gen.py). -/
import Derived.Test.YtlpkcbkflfbclaaDoorOps8
import Derived.Test.YtlpkcbkflfbclaaDoorProg
namespace Go.Proofs.YtlpkcbkflfbclaaDoor.S
noncomputable abbrev P : Program := Go.Proofs.Tryd.prog
theorem mixed : P.follows .mixedOrders = true := by kernel_rfl
theorem one_0 : OneT P 0 true := by unfold OneT; kernel_rfl
theorem sz_0 : SizeIs P 0 1 := by unfold SizeIs; kernel_rfl
theorem ce_0 : P.cellsOf 0 = 1 := by kernel_rfl
theorem by_0 : BytesIs P 0 0 := by unfold BytesIs; kernel_rfl
theorem zr_0 : ZeroIs P 0 (.tuple #[]) := by unfold ZeroIs; kernel_rfl
theorem one_1 : OneT P 1 true := by unfold OneT; kernel_rfl
theorem sz_1 : SizeIs P 1 1 := by unfold SizeIs; kernel_rfl
theorem ce_1 : P.cellsOf 1 = 1 := by kernel_rfl
theorem by_1 : BytesIs P 1 8 := by unfold BytesIs; kernel_rfl
theorem zr_1 : ZeroIs P 1 (.nilFunc) := by unfold ZeroIs; kernel_rfl
theorem one_2 : OneT P 2 true := by unfold OneT; kernel_rfl
theorem sz_2 : SizeIs P 2 1 := by unfold SizeIs; kernel_rfl
theorem ce_2 : P.cellsOf 2 = 1 := by kernel_rfl
theorem by_2 : BytesIs P 2 8 := by unfold BytesIs; kernel_rfl
theorem zr_2 : ZeroIs P 2 (.int .i64 0) := by unfold ZeroIs; kernel_rfl
theorem ty_2 : P.underlying 2 = some (.int .i64) := by kernel_rfl
theorem one_3 : OneT P 3 true := by unfold OneT; kernel_rfl
theorem sz_3 : SizeIs P 3 1 := by unfold SizeIs; kernel_rfl
theorem ce_3 : P.cellsOf 3 = 1 := by kernel_rfl
theorem by_3 : BytesIs P 3 8 := by unfold BytesIs; kernel_rfl
theorem zr_3 : ZeroIs P 3 (.int .i64 0) := by unfold ZeroIs; kernel_rfl
theorem ty_3 : P.underlying 3 = some (.int .i64) := by kernel_rfl
theorem one_4 : OneT P 4 true := by unfold OneT; kernel_rfl
theorem sz_4 : SizeIs P 4 1 := by unfold SizeIs; kernel_rfl
theorem ce_4 : P.cellsOf 4 = 1 := by kernel_rfl
theorem by_4 : BytesIs P 4 1 := by unfold BytesIs; kernel_rfl
theorem zr_4 : ZeroIs P 4 (.bool false) := by unfold ZeroIs; kernel_rfl
theorem ty_4 : P.underlying 4 = some .bool := by kernel_rfl
theorem one_5 : OneT P 5 true := by unfold OneT; kernel_rfl
theorem sz_5 : SizeIs P 5 1 := by unfold SizeIs; kernel_rfl
theorem ce_5 : P.cellsOf 5 = 1 := by kernel_rfl
theorem by_5 : BytesIs P 5 1 := by unfold BytesIs; kernel_rfl
theorem zr_5 : ZeroIs P 5 (.int .u8 0) := by unfold ZeroIs; kernel_rfl
theorem ty_5 : P.underlying 5 = some (.int .u8) := by kernel_rfl
theorem one_6 : OneT P 6 true := by unfold OneT; kernel_rfl
theorem sz_6 : SizeIs P 6 1 := by unfold SizeIs; kernel_rfl
theorem ce_6 : P.cellsOf 6 = 1 := by kernel_rfl
theorem by_6 : BytesIs P 6 1 := by unfold BytesIs; kernel_rfl
theorem zr_6 : ZeroIs P 6 (.int .u8 0) := by unfold ZeroIs; kernel_rfl
theorem ty_6 : P.underlying 6 = some (.int .u8) := by kernel_rfl
theorem one_8 : OneT P 8 false := by unfold OneT; kernel_rfl
theorem sz_8 : SizeIs P 8 4 := by unfold SizeIs; kernel_rfl
theorem ce_8 : P.cellsOf 8 = 4 := by kernel_rfl
theorem by_8 : BytesIs P 8 24 := by unfold BytesIs; kernel_rfl
theorem zr_8 : ZeroIs P 8 (.agg #[.int .i64 0, .int .i64 0, .bool false, .int .u8 0]) := by unfold ZeroIs; kernel_rfl
theorem fl_8_0 : FieldIs P 8 0 0 := .of (k := 0) (by kernel_rfl)
theorem fl_8_1 : FieldIs P 8 1 1 := .of (k := 0) (by kernel_rfl)
theorem fl_8_2 : FieldIs P 8 2 2 := .of (k := 0) (by kernel_rfl)
theorem fl_8_3 : FieldIs P 8 3 3 := .of (k := 0) (by kernel_rfl)
theorem pl_8 : PlacesAre P 8 #[(0, 1), (1, 1), (2, 1), (3, 1)] := .of (by kernel_rfl)
theorem one_9 : OneT P 9 true := by unfold OneT; kernel_rfl
theorem sz_9 : SizeIs P 9 1 := by unfold SizeIs; kernel_rfl
theorem ce_9 : P.cellsOf 9 = 1 := by kernel_rfl
theorem by_9 : BytesIs P 9 16 := by unfold BytesIs; kernel_rfl
theorem zr_9 : ZeroIs P 9 (.string ⟨#[]⟩) := by unfold ZeroIs; kernel_rfl
theorem ty_9 : P.underlying 9 = some .string := by kernel_rfl
theorem kd_9 : Kd P 9 := .inr ty_9
theorem one_10 : OneT P 10 true := by unfold OneT; kernel_rfl
theorem sz_10 : SizeIs P 10 1 := by unfold SizeIs; kernel_rfl
theorem ce_10 : P.cellsOf 10 = 1 := by kernel_rfl
theorem by_10 : BytesIs P 10 16 := by unfold BytesIs; kernel_rfl
theorem zr_10 : ZeroIs P 10 (.string ⟨#[]⟩) := by unfold ZeroIs; kernel_rfl
theorem ty_10 : P.underlying 10 = some .string := by kernel_rfl
theorem kd_10 : Kd P 10 := .inr ty_10
theorem one_11 : OneT P 11 true := by unfold OneT; kernel_rfl
theorem sz_11 : SizeIs P 11 1 := by unfold SizeIs; kernel_rfl
theorem ce_11 : P.cellsOf 11 = 1 := by kernel_rfl
theorem by_11 : BytesIs P 11 16 := by unfold BytesIs; kernel_rfl
theorem zr_11 : ZeroIs P 11 (.string ⟨#[]⟩) := by unfold ZeroIs; kernel_rfl
theorem ty_11 : P.underlying 11 = some .string := by kernel_rfl
theorem kd_11 : Kd P 11 := .inr ty_11
theorem one_12 : OneT P 12 true := by unfold OneT; kernel_rfl
theorem sz_12 : SizeIs P 12 1 := by unfold SizeIs; kernel_rfl
theorem ce_12 : P.cellsOf 12 = 1 := by kernel_rfl
theorem by_12 : BytesIs P 12 8 := by unfold BytesIs; kernel_rfl
theorem zr_12 : ZeroIs P 12 (.int .u64 0) := by unfold ZeroIs; kernel_rfl
theorem ty_12 : P.underlying 12 = some (.int .u64) := by kernel_rfl
theorem one_14 : OneT P 14 false := by unfold OneT; kernel_rfl
theorem sz_14 : SizeIs P 14 2 := by unfold SizeIs; kernel_rfl
theorem ce_14 : P.cellsOf 14 = 2 := by kernel_rfl
theorem by_14 : BytesIs P 14 24 := by unfold BytesIs; kernel_rfl
theorem zr_14 : ZeroIs P 14 (.agg #[.string ⟨#[]⟩, .int .u64 0]) := by unfold ZeroIs; kernel_rfl
theorem fl_14_0 : FieldIs P 14 0 0 := .of (k := 0) (by kernel_rfl)
theorem fl_14_1 : FieldIs P 14 1 1 := .of (k := 0) (by kernel_rfl)
theorem pl_14 : PlacesAre P 14 #[(0, 1), (1, 1)] := .of (by kernel_rfl)
theorem one_15 : OneT P 15 true := by unfold OneT; kernel_rfl
theorem sz_15 : SizeIs P 15 1 := by unfold SizeIs; kernel_rfl
theorem ce_15 : P.cellsOf 15 = 1 := by kernel_rfl
theorem by_15 : BytesIs P 15 8 := by unfold BytesIs; kernel_rfl
theorem zr_15 : ZeroIs P 15 (.pointer none) := by unfold ZeroIs; kernel_rfl
theorem ty_15 : P.underlying 15 = some (.pointer 155) := by kernel_rfl
theorem one_16 : OneT P 16 true := by unfold OneT; kernel_rfl
theorem sz_16 : SizeIs P 16 1 := by unfold SizeIs; kernel_rfl
theorem ce_16 : P.cellsOf 16 = 1 := by kernel_rfl
theorem by_16 : BytesIs P 16 8 := by unfold BytesIs; kernel_rfl
theorem zr_16 : ZeroIs P 16 (.pointer none) := by unfold ZeroIs; kernel_rfl
theorem ty_16 : P.underlying 16 = some (.pointer 158) := by kernel_rfl
theorem one_17 : OneT P 17 true := by unfold OneT; kernel_rfl
theorem sz_17 : SizeIs P 17 1 := by unfold SizeIs; kernel_rfl
theorem ce_17 : P.cellsOf 17 = 1 := by kernel_rfl
theorem by_17 : BytesIs P 17 8 := by unfold BytesIs; kernel_rfl
theorem zr_17 : ZeroIs P 17 (.pointer none) := by unfold ZeroIs; kernel_rfl
theorem ty_17 : P.underlying 17 = some (.pointer 166) := by kernel_rfl
theorem one_19 : OneT P 19 false := by unfold OneT; kernel_rfl
theorem sz_19 : SizeIs P 19 1 := by unfold SizeIs; kernel_rfl
theorem ce_19 : P.cellsOf 19 = 1 := by kernel_rfl
theorem by_19 : BytesIs P 19 8 := by unfold BytesIs; kernel_rfl
theorem zr_19 : ZeroIs P 19 (.agg #[.pointer none]) := by unfold ZeroIs; kernel_rfl
theorem fl_19_0 : FieldIs P 19 0 0 := .of (k := 0) (by kernel_rfl)
theorem pl_19 : PlacesAre P 19 #[(0, 1)] := .of (by kernel_rfl)
theorem one_20 : OneT P 20 true := by unfold OneT; kernel_rfl
theorem sz_20 : SizeIs P 20 1 := by unfold SizeIs; kernel_rfl
theorem ce_20 : P.cellsOf 20 = 1 := by kernel_rfl
theorem by_20 : BytesIs P 20 16 := by unfold BytesIs; kernel_rfl
theorem zr_20 : ZeroIs P 20 (.nilIface) := by unfold ZeroIs; kernel_rfl
theorem one_21 : OneT P 21 true := by unfold OneT; kernel_rfl
theorem sz_21 : SizeIs P 21 1 := by unfold SizeIs; kernel_rfl
theorem ce_21 : P.cellsOf 21 = 1 := by kernel_rfl
theorem by_21 : BytesIs P 21 4 := by unfold BytesIs; kernel_rfl
theorem zr_21 : ZeroIs P 21 (.int .i32 0) := by unfold ZeroIs; kernel_rfl
theorem ty_21 : P.underlying 21 = some (.int .i32) := by kernel_rfl
theorem one_22 : OneT P 22 false := by unfold OneT; kernel_rfl
theorem sz_22 : SizeIs P 22 5 := by unfold SizeIs; kernel_rfl
theorem ce_22 : P.cellsOf 22 = 5 := by kernel_rfl
theorem by_22 : BytesIs P 22 5 := by unfold BytesIs; kernel_rfl
theorem zr_22 : ZeroIs P 22 (.agg #[.bool false, .bool false, .bool false, .bool false, .bool false]) := by unfold ZeroIs; kernel_rfl
theorem ty_22 : P.underlying 22 = some (.array 5 4) := by kernel_rfl
theorem eg_22 : Program.eqGuardType P P.depth 22 = false := by kernel_rfl
theorem one_23 : OneT P 23 true := by unfold OneT; kernel_rfl
theorem sz_23 : SizeIs P 23 1 := by unfold SizeIs; kernel_rfl
theorem ce_23 : P.cellsOf 23 = 1 := by kernel_rfl
theorem by_23 : BytesIs P 23 24 := by unfold BytesIs; kernel_rfl
theorem zr_23 : ZeroIs P 23 (.slice none 0 0) := by unfold ZeroIs; kernel_rfl
theorem ty_23 : P.underlying 23 = some (.slice 26) := by kernel_rfl
theorem kd_23 : Kd P 23 := .inl ⟨_, ty_23⟩
theorem one_24 : OneT P 24 false := by unfold OneT; kernel_rfl
theorem sz_24 : SizeIs P 24 5 := by unfold SizeIs; kernel_rfl
theorem ce_24 : P.cellsOf 24 = 5 := by kernel_rfl
theorem by_24 : BytesIs P 24 80 := by unfold BytesIs; kernel_rfl
theorem zr_24 : ZeroIs P 24 (.agg #[.string ⟨#[]⟩, .string ⟨#[]⟩, .string ⟨#[]⟩, .string ⟨#[]⟩, .string ⟨#[]⟩]) := by unfold ZeroIs; kernel_rfl
theorem ty_24 : P.underlying 24 = some (.array 5 9) := by kernel_rfl
theorem eg_24 : Program.eqGuardType P P.depth 24 = false := by kernel_rfl
theorem one_26 : OneT P 26 false := by unfold OneT; kernel_rfl
theorem sz_26 : SizeIs P 26 3 := by unfold SizeIs; kernel_rfl
theorem ce_26 : P.cellsOf 26 = 3 := by kernel_rfl
theorem by_26 : BytesIs P 26 48 := by unfold BytesIs; kernel_rfl
theorem zr_26 : ZeroIs P 26 (.agg #[.int .i64 0, .string ⟨#[]⟩, .slice none 0 0]) := by unfold ZeroIs; kernel_rfl
theorem fl_26_0 : FieldIs P 26 0 0 := .of (k := 0) (by kernel_rfl)
theorem fl_26_1 : FieldIs P 26 1 1 := .of (k := 0) (by kernel_rfl)
theorem fl_26_2 : FieldIs P 26 2 2 := .of (k := 0) (by kernel_rfl)
theorem pl_26 : PlacesAre P 26 #[(0, 1), (1, 1), (2, 1)] := .of (by kernel_rfl)
theorem one_30 : OneT P 30 true := by unfold OneT; kernel_rfl
theorem sz_30 : SizeIs P 30 1 := by unfold SizeIs; kernel_rfl
theorem ce_30 : P.cellsOf 30 = 1 := by kernel_rfl
theorem by_30 : BytesIs P 30 8 := by unfold BytesIs; kernel_rfl
theorem zr_30 : ZeroIs P 30 (.nilFunc) := by unfold ZeroIs; kernel_rfl
theorem one_32 : OneT P 32 true := by unfold OneT; kernel_rfl
theorem sz_32 : SizeIs P 32 1 := by unfold SizeIs; kernel_rfl
theorem ce_32 : P.cellsOf 32 = 1 := by kernel_rfl
theorem by_32 : BytesIs P 32 8 := by unfold BytesIs; kernel_rfl
theorem zr_32 : ZeroIs P 32 (.int .i64 0) := by unfold ZeroIs; kernel_rfl
theorem ty_32 : P.underlying 32 = some (.int .i64) := by kernel_rfl
theorem one_35 : OneT P 35 true := by unfold OneT; kernel_rfl
theorem sz_35 : SizeIs P 35 1 := by unfold SizeIs; kernel_rfl
theorem ce_35 : P.cellsOf 35 = 1 := by kernel_rfl
theorem by_35 : BytesIs P 35 8 := by unfold BytesIs; kernel_rfl
theorem zr_35 : ZeroIs P 35 (.pointer none) := by unfold ZeroIs; kernel_rfl
theorem ty_35 : P.underlying 35 = some (.pointer 66) := by kernel_rfl
theorem one_36 : OneT P 36 true := by unfold OneT; kernel_rfl
theorem sz_36 : SizeIs P 36 1 := by unfold SizeIs; kernel_rfl
theorem ce_36 : P.cellsOf 36 = 1 := by kernel_rfl
theorem by_36 : BytesIs P 36 0 := by unfold BytesIs; kernel_rfl
theorem zr_36 : ZeroIs P 36 (.tuple #[.pointer none, .int .i64 0]) := by unfold ZeroIs; kernel_rfl
theorem one_38 : OneT P 38 true := by unfold OneT; kernel_rfl
theorem sz_38 : SizeIs P 38 1 := by unfold SizeIs; kernel_rfl
theorem ce_38 : P.cellsOf 38 = 1 := by kernel_rfl
theorem by_38 : BytesIs P 38 8 := by unfold BytesIs; kernel_rfl
theorem zr_38 : ZeroIs P 38 (.nilFunc) := by unfold ZeroIs; kernel_rfl
theorem one_41 : OneT P 41 true := by unfold OneT; kernel_rfl
theorem sz_41 : SizeIs P 41 1 := by unfold SizeIs; kernel_rfl
theorem ce_41 : P.cellsOf 41 = 1 := by kernel_rfl
theorem by_41 : BytesIs P 41 0 := by unfold BytesIs; kernel_rfl
theorem zr_41 : ZeroIs P 41 (.tuple #[.agg #[.int .i64 0, .string ⟨#[]⟩, .slice none 0 0], .int .i64 0]) := by unfold ZeroIs; kernel_rfl
theorem one_47 : OneT P 47 true := by unfold OneT; kernel_rfl
theorem sz_47 : SizeIs P 47 1 := by unfold SizeIs; kernel_rfl
theorem ce_47 : P.cellsOf 47 = 1 := by kernel_rfl
theorem by_47 : BytesIs P 47 24 := by unfold BytesIs; kernel_rfl
theorem zr_47 : ZeroIs P 47 (.slice none 0 0) := by unfold ZeroIs; kernel_rfl
theorem ty_47 : P.underlying 47 = some (.slice 49) := by kernel_rfl
theorem kd_47 : Kd P 47 := .inl ⟨_, ty_47⟩
theorem one_49 : OneT P 49 false := by unfold OneT; kernel_rfl
theorem sz_49 : SizeIs P 49 3 := by unfold SizeIs; kernel_rfl
theorem ce_49 : P.cellsOf 49 = 3 := by kernel_rfl
theorem by_49 : BytesIs P 49 48 := by unfold BytesIs; kernel_rfl
theorem zr_49 : ZeroIs P 49 (.agg #[.int .i64 0, .string ⟨#[]⟩, .slice none 0 0]) := by unfold ZeroIs; kernel_rfl
theorem fl_49_0 : FieldIs P 49 0 0 := .of (k := 0) (by kernel_rfl)
theorem fl_49_1 : FieldIs P 49 1 1 := .of (k := 0) (by kernel_rfl)
theorem fl_49_2 : FieldIs P 49 2 2 := .of (k := 0) (by kernel_rfl)
theorem pl_49 : PlacesAre P 49 #[(0, 1), (1, 1), (2, 1)] := .of (by kernel_rfl)
theorem one_61 : OneT P 61 true := by unfold OneT; kernel_rfl
theorem sz_61 : SizeIs P 61 1 := by unfold SizeIs; kernel_rfl
theorem ce_61 : P.cellsOf 61 = 1 := by kernel_rfl
theorem by_61 : BytesIs P 61 0 := by unfold BytesIs; kernel_rfl
theorem zr_61 : ZeroIs P 61 (.tuple #[.int .i64 0, .int .i64 0]) := by unfold ZeroIs; kernel_rfl
theorem one_64 : OneT P 64 true := by unfold OneT; kernel_rfl
theorem sz_64 : SizeIs P 64 1 := by unfold SizeIs; kernel_rfl
theorem ce_64 : P.cellsOf 64 = 1 := by kernel_rfl
theorem by_64 : BytesIs P 64 24 := by unfold BytesIs; kernel_rfl
theorem zr_64 : ZeroIs P 64 (.slice none 0 0) := by unfold ZeroIs; kernel_rfl
theorem ty_64 : P.underlying 64 = some (.slice 26) := by kernel_rfl
theorem kd_64 : Kd P 64 := .inl ⟨_, ty_64⟩
theorem one_66 : OneT P 66 false := by unfold OneT; kernel_rfl
theorem sz_66 : SizeIs P 66 1 := by unfold SizeIs; kernel_rfl
theorem ce_66 : P.cellsOf 66 = 1 := by kernel_rfl
theorem by_66 : BytesIs P 66 24 := by unfold BytesIs; kernel_rfl
theorem zr_66 : ZeroIs P 66 (.agg #[.slice none 0 0]) := by unfold ZeroIs; kernel_rfl
theorem fl_66_0 : FieldIs P 66 0 0 := .of (k := 0) (by kernel_rfl)
theorem pl_66 : PlacesAre P 66 #[(0, 1)] := .of (by kernel_rfl)
theorem one_68 : OneT P 68 false := by unfold OneT; kernel_rfl
theorem sz_68 : SizeIs P 68 0 := by unfold SizeIs; kernel_rfl
theorem ce_68 : P.cellsOf 68 = 0 := by kernel_rfl
theorem by_68 : BytesIs P 68 0 := by unfold BytesIs; kernel_rfl
theorem zr_68 : ZeroIs P 68 (.agg #[]) := by unfold ZeroIs; kernel_rfl
theorem pl_68 : PlacesAre P 68 #[] := .of (by kernel_rfl)
theorem one_69 : OneT P 69 true := by unfold OneT; kernel_rfl
theorem sz_69 : SizeIs P 69 1 := by unfold SizeIs; kernel_rfl
theorem ce_69 : P.cellsOf 69 = 1 := by kernel_rfl
theorem by_69 : BytesIs P 69 0 := by unfold BytesIs; kernel_rfl
theorem zr_69 : ZeroIs P 69 (.tuple #[.agg #[], .bool false]) := by unfold ZeroIs; kernel_rfl
theorem one_70 : OneT P 70 true := by unfold OneT; kernel_rfl
theorem sz_70 : SizeIs P 70 1 := by unfold SizeIs; kernel_rfl
theorem ce_70 : P.cellsOf 70 = 1 := by kernel_rfl
theorem by_70 : BytesIs P 70 8 := by unfold BytesIs; kernel_rfl
theorem zr_70 : ZeroIs P 70 (.pointer none) := by unfold ZeroIs; kernel_rfl
theorem ty_70 : P.underlying 70 = some (.pointer 72) := by kernel_rfl
theorem one_72 : OneT P 72 false := by unfold OneT; kernel_rfl
theorem sz_72 : SizeIs P 72 3 := by unfold SizeIs; kernel_rfl
theorem ce_72 : P.cellsOf 72 = 3 := by kernel_rfl
theorem by_72 : BytesIs P 72 32 := by unfold BytesIs; kernel_rfl
theorem zr_72 : ZeroIs P 72 (.agg #[.string ⟨#[]⟩, .int .i64 0, .int .i64 0]) := by unfold ZeroIs; kernel_rfl
theorem fl_72_0 : FieldIs P 72 0 0 := .of (k := 0) (by kernel_rfl)
theorem fl_72_1 : FieldIs P 72 1 1 := .of (k := 0) (by kernel_rfl)
theorem fl_72_2 : FieldIs P 72 2 2 := .of (k := 0) (by kernel_rfl)
theorem pl_72 : PlacesAre P 72 #[(0, 1), (1, 1), (2, 1)] := .of (by kernel_rfl)
theorem one_74 : OneT P 74 true := by unfold OneT; kernel_rfl
theorem sz_74 : SizeIs P 74 1 := by unfold SizeIs; kernel_rfl
theorem ce_74 : P.cellsOf 74 = 1 := by kernel_rfl
theorem by_74 : BytesIs P 74 8 := by unfold BytesIs; kernel_rfl
theorem zr_74 : ZeroIs P 74 (.pointer none) := by unfold ZeroIs; kernel_rfl
theorem ty_74 : P.underlying 74 = some (.pointer 77) := by kernel_rfl
theorem one_75 : OneT P 75 true := by unfold OneT; kernel_rfl
theorem sz_75 : SizeIs P 75 1 := by unfold SizeIs; kernel_rfl
theorem ce_75 : P.cellsOf 75 = 1 := by kernel_rfl
theorem by_75 : BytesIs P 75 24 := by unfold BytesIs; kernel_rfl
theorem zr_75 : ZeroIs P 75 (.slice none 0 0) := by unfold ZeroIs; kernel_rfl
theorem ty_75 : P.underlying 75 = some (.slice 5) := by kernel_rfl
theorem kd_75 : Kd P 75 := .inl ⟨_, ty_75⟩
theorem one_77 : OneT P 77 false := by unfold OneT; kernel_rfl
theorem sz_77 : SizeIs P 77 2 := by unfold SizeIs; kernel_rfl
theorem ce_77 : P.cellsOf 77 = 2 := by kernel_rfl
theorem by_77 : BytesIs P 77 32 := by unfold BytesIs; kernel_rfl
theorem zr_77 : ZeroIs P 77 (.agg #[.pointer none, .slice none 0 0]) := by unfold ZeroIs; kernel_rfl
theorem fl_77_0 : FieldIs P 77 0 0 := .of (k := 0) (by kernel_rfl)
theorem fl_77_1 : FieldIs P 77 1 1 := .of (k := 0) (by kernel_rfl)
theorem pl_77 : PlacesAre P 77 #[(0, 1), (1, 1)] := .of (by kernel_rfl)
theorem one_84 : OneT P 84 true := by unfold OneT; kernel_rfl
theorem sz_84 : SizeIs P 84 1 := by unfold SizeIs; kernel_rfl
theorem ce_84 : P.cellsOf 84 = 1 := by kernel_rfl
theorem by_84 : BytesIs P 84 24 := by unfold BytesIs; kernel_rfl
theorem zr_84 : ZeroIs P 84 (.slice none 0 0) := by unfold ZeroIs; kernel_rfl
theorem ty_84 : P.underlying 84 = some (.slice 3) := by kernel_rfl
theorem kd_84 : Kd P 84 := .inl ⟨_, ty_84⟩
theorem one_91 : OneT P 91 true := by unfold OneT; kernel_rfl
theorem sz_91 : SizeIs P 91 1 := by unfold SizeIs; kernel_rfl
theorem ce_91 : P.cellsOf 91 = 1 := by kernel_rfl
theorem by_91 : BytesIs P 91 8 := by unfold BytesIs; kernel_rfl
theorem zr_91 : ZeroIs P 91 (.int .u64 0) := by unfold ZeroIs; kernel_rfl
theorem ty_91 : P.underlying 91 = some (.int .u64) := by kernel_rfl
theorem one_95 : OneT P 95 true := by unfold OneT; kernel_rfl
theorem sz_95 : SizeIs P 95 1 := by unfold SizeIs; kernel_rfl
theorem ce_95 : P.cellsOf 95 = 1 := by kernel_rfl
theorem by_95 : BytesIs P 95 16 := by unfold BytesIs; kernel_rfl
theorem zr_95 : ZeroIs P 95 (.nilIface) := by unfold ZeroIs; kernel_rfl
theorem one_96 : OneT P 96 true := by unfold OneT; kernel_rfl
theorem sz_96 : SizeIs P 96 1 := by unfold SizeIs; kernel_rfl
theorem ce_96 : P.cellsOf 96 = 1 := by kernel_rfl
theorem by_96 : BytesIs P 96 0 := by unfold BytesIs; kernel_rfl
theorem zr_96 : ZeroIs P 96 (.tuple #[.int .i64 0, .nilIface]) := by unfold ZeroIs; kernel_rfl
theorem one_99 : OneT P 99 true := by unfold OneT; kernel_rfl
theorem sz_99 : SizeIs P 99 1 := by unfold SizeIs; kernel_rfl
theorem ce_99 : P.cellsOf 99 = 1 := by kernel_rfl
theorem by_99 : BytesIs P 99 8 := by unfold BytesIs; kernel_rfl
theorem zr_99 : ZeroIs P 99 (.pointer none) := by unfold ZeroIs; kernel_rfl
theorem ty_99 : P.underlying 99 = some (.pointer 5) := by kernel_rfl
theorem one_100 : OneT P 100 true := by unfold OneT; kernel_rfl
theorem sz_100 : SizeIs P 100 1 := by unfold SizeIs; kernel_rfl
theorem ce_100 : P.cellsOf 100 = 1 := by kernel_rfl
theorem by_100 : BytesIs P 100 8 := by unfold BytesIs; kernel_rfl
theorem zr_100 : ZeroIs P 100 (.pointer none) := by unfold ZeroIs; kernel_rfl
theorem ty_100 : P.underlying 100 = some (.pointer 64) := by kernel_rfl
theorem one_101 : OneT P 101 true := by unfold OneT; kernel_rfl
theorem sz_101 : SizeIs P 101 1 := by unfold SizeIs; kernel_rfl
theorem ce_101 : P.cellsOf 101 = 1 := by kernel_rfl
theorem by_101 : BytesIs P 101 0 := by unfold BytesIs; kernel_rfl
theorem zr_101 : ZeroIs P 101 (.tuple #[.int .i64 0, .bool false]) := by unfold ZeroIs; kernel_rfl
theorem one_105 : OneT P 105 true := by unfold OneT; kernel_rfl
theorem sz_105 : SizeIs P 105 1 := by unfold SizeIs; kernel_rfl
theorem ce_105 : P.cellsOf 105 = 1 := by kernel_rfl
theorem by_105 : BytesIs P 105 24 := by unfold BytesIs; kernel_rfl
theorem zr_105 : ZeroIs P 105 (.slice none 0 0) := by unfold ZeroIs; kernel_rfl
theorem ty_105 : P.underlying 105 = some (.slice 4) := by kernel_rfl
theorem kd_105 : Kd P 105 := .inl ⟨_, ty_105⟩
theorem one_109 : OneT P 109 true := by unfold OneT; kernel_rfl
theorem sz_109 : SizeIs P 109 1 := by unfold SizeIs; kernel_rfl
theorem ce_109 : P.cellsOf 109 = 1 := by kernel_rfl
theorem by_109 : BytesIs P 109 8 := by unfold BytesIs; kernel_rfl
theorem zr_109 : ZeroIs P 109 (.int .i64 0) := by unfold ZeroIs; kernel_rfl
theorem ty_109 : P.underlying 109 = some (.int .i64) := by kernel_rfl
theorem one_110 : OneT P 110 true := by unfold OneT; kernel_rfl
theorem sz_110 : SizeIs P 110 1 := by unfold SizeIs; kernel_rfl
theorem ce_110 : P.cellsOf 110 = 1 := by kernel_rfl
theorem by_110 : BytesIs P 110 0 := by unfold BytesIs; kernel_rfl
theorem zr_110 : ZeroIs P 110 (.tuple #[.int .i64 0, .int .i64 0]) := by unfold ZeroIs; kernel_rfl
theorem one_116 : OneT P 116 true := by unfold OneT; kernel_rfl
theorem sz_116 : SizeIs P 116 1 := by unfold SizeIs; kernel_rfl
theorem ce_116 : P.cellsOf 116 = 1 := by kernel_rfl
theorem by_116 : BytesIs P 116 4 := by unfold BytesIs; kernel_rfl
theorem zr_116 : ZeroIs P 116 (.int .u32 0) := by unfold ZeroIs; kernel_rfl
theorem ty_116 : P.underlying 116 = some (.int .u32) := by kernel_rfl
theorem one_118 : OneT P 118 true := by unfold OneT; kernel_rfl
theorem sz_118 : SizeIs P 118 1 := by unfold SizeIs; kernel_rfl
theorem ce_118 : P.cellsOf 118 = 1 := by kernel_rfl
theorem by_118 : BytesIs P 118 8 := by unfold BytesIs; kernel_rfl
theorem zr_118 : ZeroIs P 118 (.int .u64 0) := by unfold ZeroIs; kernel_rfl
theorem ty_118 : P.underlying 118 = some (.int .u64) := by kernel_rfl
theorem one_119 : OneT P 119 true := by unfold OneT; kernel_rfl
theorem sz_119 : SizeIs P 119 1 := by unfold SizeIs; kernel_rfl
theorem ce_119 : P.cellsOf 119 = 1 := by kernel_rfl
theorem by_119 : BytesIs P 119 0 := by unfold BytesIs; kernel_rfl
theorem zr_119 : ZeroIs P 119 (.tuple #[.string ⟨#[]⟩, .bool false]) := by unfold ZeroIs; kernel_rfl
theorem one_126 : OneT P 126 false := by unfold OneT; kernel_rfl
theorem sz_126 : SizeIs P 126 256 := by unfold SizeIs; kernel_rfl
theorem ce_126 : P.cellsOf 126 = 256 := by kernel_rfl
theorem by_126 : BytesIs P 126 256 := by unfold BytesIs; kernel_rfl
theorem zr_126 : ZeroIs P 126 (.agg #[.bool false, .bool false, .bool false, .bool false, .bool false, .bool false, .bool false, .bool false, .bool false, .bool false, .bool false, .bool false, .bool false, .bool false, .bool false, .bool false, .bool false, .bool false, .bool false, .bool false, .bool false, .bool false, .bool false, .bool false, .bool false, .bool false, .bool false, .bool false, .bool false, .bool false, .bool false, .bool false, .bool false, .bool false, .bool false, .bool false, .bool false, .bool false, .bool false, .bool false, .bool false, .bool false, .bool false, .bool false, .bool false, .bool false, .bool false, .bool false, .bool false, .bool false, .bool false, .bool false, .bool false, .bool false, .bool false, .bool false, .bool false, .bool false, .bool false, .bool false, .bool false, .bool false, .bool false, .bool false, .bool false, .bool false, .bool false, .bool false, .bool false, .bool false, .bool false, .bool false, .bool false, .bool false, .bool false, .bool false, .bool false, .bool false, .bool false, .bool false, .bool false, .bool false, .bool false, .bool false, .bool false, .bool false, .bool false, .bool false, .bool false, .bool false, .bool false, .bool false, .bool false, .bool false, .bool false, .bool false, .bool false, .bool false, .bool false, .bool false, .bool false, .bool false, .bool false, .bool false, .bool false, .bool false, .bool false, .bool false, .bool false, .bool false, .bool false, .bool false, .bool false, .bool false, .bool false, .bool false, .bool false, .bool false, .bool false, .bool false, .bool false, .bool false, .bool false, .bool false, .bool false, .bool false, .bool false, .bool false, .bool false, .bool false, .bool false, .bool false, .bool false, .bool false, .bool false, .bool false, .bool false, .bool false, .bool false, .bool false, .bool false, .bool false, .bool false, .bool false, .bool false, .bool false, .bool false, .bool false, .bool false, .bool false, .bool false, .bool false, .bool false, .bool false, .bool false, .bool false, .bool false, .bool false, .bool false, .bool false, .bool false, .bool false, .bool false, .bool false, .bool false, .bool false, .bool false, .bool false, .bool false, .bool false, .bool false, .bool false, .bool false, .bool false, .bool false, .bool false, .bool false, .bool false, .bool false, .bool false, .bool false, .bool false, .bool false, .bool false, .bool false, .bool false, .bool false, .bool false, .bool false, .bool false, .bool false, .bool false, .bool false, .bool false, .bool false, .bool false, .bool false, .bool false, .bool false, .bool false, .bool false, .bool false, .bool false, .bool false, .bool false, .bool false, .bool false, .bool false, .bool false, .bool false, .bool false, .bool false, .bool false, .bool false, .bool false, .bool false, .bool false, .bool false, .bool false, .bool false, .bool false, .bool false, .bool false, .bool false, .bool false, .bool false, .bool false, .bool false, .bool false, .bool false, .bool false, .bool false, .bool false, .bool false, .bool false, .bool false, .bool false, .bool false, .bool false, .bool false, .bool false, .bool false, .bool false, .bool false, .bool false, .bool false, .bool false, .bool false, .bool false, .bool false, .bool false, .bool false, .bool false, .bool false, .bool false, .bool false]) := by unfold ZeroIs; kernel_rfl
theorem ty_126 : P.underlying 126 = some (.array 256 4) := by kernel_rfl
theorem eg_126 : Program.eqGuardType P P.depth 126 = false := by kernel_rfl
theorem one_127 : OneT P 127 true := by unfold OneT; kernel_rfl
theorem sz_127 : SizeIs P 127 1 := by unfold SizeIs; kernel_rfl
theorem ce_127 : P.cellsOf 127 = 1 := by kernel_rfl
theorem by_127 : BytesIs P 127 0 := by unfold BytesIs; kernel_rfl
theorem zr_127 : ZeroIs P 127 (.tuple #[.agg #[.bool false, .bool false, .bool false, .bool false, .bool false, .bool false, .bool false, .bool false, .bool false, .bool false, .bool false, .bool false, .bool false, .bool false, .bool false, .bool false, .bool false, .bool false, .bool false, .bool false, .bool false, .bool false, .bool false, .bool false, .bool false, .bool false, .bool false, .bool false, .bool false, .bool false, .bool false, .bool false, .bool false, .bool false, .bool false, .bool false, .bool false, .bool false, .bool false, .bool false, .bool false, .bool false, .bool false, .bool false, .bool false, .bool false, .bool false, .bool false, .bool false, .bool false, .bool false, .bool false, .bool false, .bool false, .bool false, .bool false, .bool false, .bool false, .bool false, .bool false, .bool false, .bool false, .bool false, .bool false, .bool false, .bool false, .bool false, .bool false, .bool false, .bool false, .bool false, .bool false, .bool false, .bool false, .bool false, .bool false, .bool false, .bool false, .bool false, .bool false, .bool false, .bool false, .bool false, .bool false, .bool false, .bool false, .bool false, .bool false, .bool false, .bool false, .bool false, .bool false, .bool false, .bool false, .bool false, .bool false, .bool false, .bool false, .bool false, .bool false, .bool false, .bool false, .bool false, .bool false, .bool false, .bool false, .bool false, .bool false, .bool false, .bool false, .bool false, .bool false, .bool false, .bool false, .bool false, .bool false, .bool false, .bool false, .bool false, .bool false, .bool false, .bool false, .bool false, .bool false, .bool false, .bool false, .bool false, .bool false, .bool false, .bool false, .bool false, .bool false, .bool false, .bool false, .bool false, .bool false, .bool false, .bool false, .bool false, .bool false, .bool false, .bool false, .bool false, .bool false, .bool false, .bool false, .bool false, .bool false, .bool false, .bool false, .bool false, .bool false, .bool false, .bool false, .bool false, .bool false, .bool false, .bool false, .bool false, .bool false, .bool false, .bool false, .bool false, .bool false, .bool false, .bool false, .bool false, .bool false, .bool false, .bool false, .bool false, .bool false, .bool false, .bool false, .bool false, .bool false, .bool false, .bool false, .bool false, .bool false, .bool false, .bool false, .bool false, .bool false, .bool false, .bool false, .bool false, .bool false, .bool false, .bool false, .bool false, .bool false, .bool false, .bool false, .bool false, .bool false, .bool false, .bool false, .bool false, .bool false, .bool false, .bool false, .bool false, .bool false, .bool false, .bool false, .bool false, .bool false, .bool false, .bool false, .bool false, .bool false, .bool false, .bool false, .bool false, .bool false, .bool false, .bool false, .bool false, .bool false, .bool false, .bool false, .bool false, .bool false, .bool false, .bool false, .bool false, .bool false, .bool false, .bool false, .bool false, .bool false, .bool false, .bool false, .bool false, .bool false, .bool false, .bool false, .bool false, .bool false, .bool false, .bool false, .bool false, .bool false, .bool false, .bool false, .bool false, .bool false, .bool false, .bool false, .bool false, .bool false, .bool false, .bool false, .bool false, .bool false], .bool false]) := by unfold ZeroIs; kernel_rfl
theorem one_130 : OneT P 130 true := by unfold OneT; kernel_rfl
theorem sz_130 : SizeIs P 130 1 := by unfold SizeIs; kernel_rfl
theorem ce_130 : P.cellsOf 130 = 1 := by kernel_rfl
theorem by_130 : BytesIs P 130 8 := by unfold BytesIs; kernel_rfl
theorem zr_130 : ZeroIs P 130 (.pointer none) := by unfold ZeroIs; kernel_rfl
theorem ty_130 : P.underlying 130 = some (.pointer 126) := by kernel_rfl
theorem one_131 : OneT P 131 true := by unfold OneT; kernel_rfl
theorem sz_131 : SizeIs P 131 1 := by unfold SizeIs; kernel_rfl
theorem ce_131 : P.cellsOf 131 = 1 := by kernel_rfl
theorem by_131 : BytesIs P 131 8 := by unfold BytesIs; kernel_rfl
theorem zr_131 : ZeroIs P 131 (.int .u64 0) := by unfold ZeroIs; kernel_rfl
theorem ty_131 : P.underlying 131 = some (.int .u64) := by kernel_rfl
theorem one_135 : OneT P 135 true := by unfold OneT; kernel_rfl
theorem sz_135 : SizeIs P 135 1 := by unfold SizeIs; kernel_rfl
theorem ce_135 : P.cellsOf 135 = 1 := by kernel_rfl
theorem by_135 : BytesIs P 135 8 := by unfold BytesIs; kernel_rfl
theorem zr_135 : ZeroIs P 135 (.pointer none) := by unfold ZeroIs; kernel_rfl
theorem ty_135 : P.underlying 135 = some (.pointer 3) := by kernel_rfl
theorem one_137 : OneT P 137 true := by unfold OneT; kernel_rfl
theorem sz_137 : SizeIs P 137 1 := by unfold SizeIs; kernel_rfl
theorem ce_137 : P.cellsOf 137 = 1 := by kernel_rfl
theorem by_137 : BytesIs P 137 8 := by unfold BytesIs; kernel_rfl
theorem zr_137 : ZeroIs P 137 (.pointer none) := by unfold ZeroIs; kernel_rfl
theorem one_140 : OneT P 140 true := by unfold OneT; kernel_rfl
theorem sz_140 : SizeIs P 140 1 := by unfold SizeIs; kernel_rfl
theorem ce_140 : P.cellsOf 140 = 1 := by kernel_rfl
theorem by_140 : BytesIs P 140 0 := by unfold BytesIs; kernel_rfl
theorem zr_140 : ZeroIs P 140 (.tuple #[.int .i32 0, .int .i64 0]) := by unfold ZeroIs; kernel_rfl
theorem one_143 : OneT P 143 true := by unfold OneT; kernel_rfl
theorem sz_143 : SizeIs P 143 1 := by unfold SizeIs; kernel_rfl
theorem ce_143 : P.cellsOf 143 = 1 := by kernel_rfl
theorem by_143 : BytesIs P 143 8 := by unfold BytesIs; kernel_rfl
theorem zr_143 : ZeroIs P 143 (.pointer none) := by unfold ZeroIs; kernel_rfl
theorem ty_143 : P.underlying 143 = some (.pointer 131) := by kernel_rfl
theorem one_147 : OneT P 147 false := by unfold OneT; kernel_rfl
theorem sz_147 : SizeIs P 147 256 := by unfold SizeIs; kernel_rfl
theorem ce_147 : P.cellsOf 147 = 256 := by kernel_rfl
theorem by_147 : BytesIs P 147 256 := by unfold BytesIs; kernel_rfl
theorem zr_147 : ZeroIs P 147 (.agg #[.int .u8 0, .int .u8 0, .int .u8 0, .int .u8 0, .int .u8 0, .int .u8 0, .int .u8 0, .int .u8 0, .int .u8 0, .int .u8 0, .int .u8 0, .int .u8 0, .int .u8 0, .int .u8 0, .int .u8 0, .int .u8 0, .int .u8 0, .int .u8 0, .int .u8 0, .int .u8 0, .int .u8 0, .int .u8 0, .int .u8 0, .int .u8 0, .int .u8 0, .int .u8 0, .int .u8 0, .int .u8 0, .int .u8 0, .int .u8 0, .int .u8 0, .int .u8 0, .int .u8 0, .int .u8 0, .int .u8 0, .int .u8 0, .int .u8 0, .int .u8 0, .int .u8 0, .int .u8 0, .int .u8 0, .int .u8 0, .int .u8 0, .int .u8 0, .int .u8 0, .int .u8 0, .int .u8 0, .int .u8 0, .int .u8 0, .int .u8 0, .int .u8 0, .int .u8 0, .int .u8 0, .int .u8 0, .int .u8 0, .int .u8 0, .int .u8 0, .int .u8 0, .int .u8 0, .int .u8 0, .int .u8 0, .int .u8 0, .int .u8 0, .int .u8 0, .int .u8 0, .int .u8 0, .int .u8 0, .int .u8 0, .int .u8 0, .int .u8 0, .int .u8 0, .int .u8 0, .int .u8 0, .int .u8 0, .int .u8 0, .int .u8 0, .int .u8 0, .int .u8 0, .int .u8 0, .int .u8 0, .int .u8 0, .int .u8 0, .int .u8 0, .int .u8 0, .int .u8 0, .int .u8 0, .int .u8 0, .int .u8 0, .int .u8 0, .int .u8 0, .int .u8 0, .int .u8 0, .int .u8 0, .int .u8 0, .int .u8 0, .int .u8 0, .int .u8 0, .int .u8 0, .int .u8 0, .int .u8 0, .int .u8 0, .int .u8 0, .int .u8 0, .int .u8 0, .int .u8 0, .int .u8 0, .int .u8 0, .int .u8 0, .int .u8 0, .int .u8 0, .int .u8 0, .int .u8 0, .int .u8 0, .int .u8 0, .int .u8 0, .int .u8 0, .int .u8 0, .int .u8 0, .int .u8 0, .int .u8 0, .int .u8 0, .int .u8 0, .int .u8 0, .int .u8 0, .int .u8 0, .int .u8 0, .int .u8 0, .int .u8 0, .int .u8 0, .int .u8 0, .int .u8 0, .int .u8 0, .int .u8 0, .int .u8 0, .int .u8 0, .int .u8 0, .int .u8 0, .int .u8 0, .int .u8 0, .int .u8 0, .int .u8 0, .int .u8 0, .int .u8 0, .int .u8 0, .int .u8 0, .int .u8 0, .int .u8 0, .int .u8 0, .int .u8 0, .int .u8 0, .int .u8 0, .int .u8 0, .int .u8 0, .int .u8 0, .int .u8 0, .int .u8 0, .int .u8 0, .int .u8 0, .int .u8 0, .int .u8 0, .int .u8 0, .int .u8 0, .int .u8 0, .int .u8 0, .int .u8 0, .int .u8 0, .int .u8 0, .int .u8 0, .int .u8 0, .int .u8 0, .int .u8 0, .int .u8 0, .int .u8 0, .int .u8 0, .int .u8 0, .int .u8 0, .int .u8 0, .int .u8 0, .int .u8 0, .int .u8 0, .int .u8 0, .int .u8 0, .int .u8 0, .int .u8 0, .int .u8 0, .int .u8 0, .int .u8 0, .int .u8 0, .int .u8 0, .int .u8 0, .int .u8 0, .int .u8 0, .int .u8 0, .int .u8 0, .int .u8 0, .int .u8 0, .int .u8 0, .int .u8 0, .int .u8 0, .int .u8 0, .int .u8 0, .int .u8 0, .int .u8 0, .int .u8 0, .int .u8 0, .int .u8 0, .int .u8 0, .int .u8 0, .int .u8 0, .int .u8 0, .int .u8 0, .int .u8 0, .int .u8 0, .int .u8 0, .int .u8 0, .int .u8 0, .int .u8 0, .int .u8 0, .int .u8 0, .int .u8 0, .int .u8 0, .int .u8 0, .int .u8 0, .int .u8 0, .int .u8 0, .int .u8 0, .int .u8 0, .int .u8 0, .int .u8 0, .int .u8 0, .int .u8 0, .int .u8 0, .int .u8 0, .int .u8 0, .int .u8 0, .int .u8 0, .int .u8 0, .int .u8 0, .int .u8 0, .int .u8 0, .int .u8 0, .int .u8 0, .int .u8 0, .int .u8 0, .int .u8 0, .int .u8 0, .int .u8 0, .int .u8 0, .int .u8 0, .int .u8 0, .int .u8 0, .int .u8 0, .int .u8 0, .int .u8 0, .int .u8 0, .int .u8 0]) := by unfold ZeroIs; kernel_rfl
theorem ty_147 : P.underlying 147 = some (.array 256 5) := by kernel_rfl
theorem eg_147 : Program.eqGuardType P P.depth 147 = false := by kernel_rfl
theorem one_149 : OneT P 149 false := by unfold OneT; kernel_rfl
theorem sz_149 : SizeIs P 149 2 := by unfold SizeIs; kernel_rfl
theorem ce_149 : P.cellsOf 149 = 2 := by kernel_rfl
theorem by_149 : BytesIs P 149 2 := by unfold BytesIs; kernel_rfl
theorem zr_149 : ZeroIs P 149 (.agg #[.int .u8 0, .int .u8 0]) := by unfold ZeroIs; kernel_rfl
theorem fl_149_0 : FieldIs P 149 0 0 := .of (k := 0) (by kernel_rfl)
theorem fl_149_1 : FieldIs P 149 1 1 := .of (k := 0) (by kernel_rfl)
theorem pl_149 : PlacesAre P 149 #[(0, 1), (1, 1)] := .of (by kernel_rfl)
theorem one_150 : OneT P 150 false := by unfold OneT; kernel_rfl
theorem sz_150 : SizeIs P 150 32 := by unfold SizeIs; kernel_rfl
theorem ce_150 : P.cellsOf 150 = 32 := by kernel_rfl
theorem by_150 : BytesIs P 150 32 := by unfold BytesIs; kernel_rfl
theorem zr_150 : ZeroIs P 150 (.agg #[.int .u8 0, .int .u8 0, .int .u8 0, .int .u8 0, .int .u8 0, .int .u8 0, .int .u8 0, .int .u8 0, .int .u8 0, .int .u8 0, .int .u8 0, .int .u8 0, .int .u8 0, .int .u8 0, .int .u8 0, .int .u8 0, .int .u8 0, .int .u8 0, .int .u8 0, .int .u8 0, .int .u8 0, .int .u8 0, .int .u8 0, .int .u8 0, .int .u8 0, .int .u8 0, .int .u8 0, .int .u8 0, .int .u8 0, .int .u8 0, .int .u8 0, .int .u8 0]) := by unfold ZeroIs; kernel_rfl
theorem ty_150 : P.underlying 150 = some (.array 16 149) := by kernel_rfl
theorem eg_150 : Program.eqGuardType P P.depth 150 = false := by kernel_rfl
theorem one_161 : OneT P 161 true := by unfold OneT; kernel_rfl
theorem sz_161 : SizeIs P 161 1 := by unfold SizeIs; kernel_rfl
theorem ce_161 : P.cellsOf 161 = 1 := by kernel_rfl
theorem by_161 : BytesIs P 161 1 := by unfold BytesIs; kernel_rfl
theorem zr_161 : ZeroIs P 161 (.int .u8 0) := by unfold ZeroIs; kernel_rfl
theorem ty_161 : P.underlying 161 = some (.int .u8) := by kernel_rfl
theorem has_2 : Has P 2 := ⟨_, Go.Proofs.Tryd.func2, by kernel_rfl, by kernel_rfl⟩
theorem has_3 : Has P 3 := ⟨_, Go.Proofs.Tryd.func3, by kernel_rfl, by kernel_rfl⟩
theorem has_4 : Has P 4 := ⟨_, Go.Proofs.Tryd.func4, by kernel_rfl, by kernel_rfl⟩
theorem has_5 : Has P 5 := ⟨_, Go.Proofs.Tryd.func5, by kernel_rfl, by kernel_rfl⟩
theorem has_6 : Has P 6 := ⟨_, Go.Proofs.Tryd.func6, by kernel_rfl, by kernel_rfl⟩
theorem has_7 : Has P 7 := ⟨_, Go.Proofs.Tryd.func7, by kernel_rfl, by kernel_rfl⟩
theorem has_8 : Has P 8 := ⟨_, Go.Proofs.Tryd.func8, by kernel_rfl, by kernel_rfl⟩
theorem has_9 : Has P 9 := ⟨_, Go.Proofs.Tryd.func9, by kernel_rfl, by kernel_rfl⟩
theorem has_10 : Has P 10 := ⟨_, Go.Proofs.Tryd.func10, by kernel_rfl, by kernel_rfl⟩
theorem has_11 : Has P 11 := ⟨_, Go.Proofs.Tryd.func11, by kernel_rfl, by kernel_rfl⟩
theorem has_12 : Has P 12 := ⟨_, Go.Proofs.Tryd.func12, by kernel_rfl, by kernel_rfl⟩
theorem has_13 : Has P 13 := ⟨_, Go.Proofs.Tryd.func13, by kernel_rfl, by kernel_rfl⟩
theorem has_14 : Has P 14 := ⟨_, Go.Proofs.Tryd.func14, by kernel_rfl, by kernel_rfl⟩
theorem has_15 : Has P 15 := ⟨_, Go.Proofs.Tryd.func15, by kernel_rfl, by kernel_rfl⟩
theorem has_16 : Has P 16 := ⟨_, Go.Proofs.Tryd.func16, by kernel_rfl, by kernel_rfl⟩
theorem has_17 : Has P 17 := ⟨_, Go.Proofs.Tryd.func17, by kernel_rfl, by kernel_rfl⟩
theorem has_18 : Has P 18 := ⟨_, Go.Proofs.Tryd.func18, by kernel_rfl, by kernel_rfl⟩
theorem has_19 : Has P 19 := ⟨_, Go.Proofs.Tryd.func19, by kernel_rfl, by kernel_rfl⟩
theorem has_20 : Has P 20 := ⟨_, Go.Proofs.Tryd.func20, by kernel_rfl, by kernel_rfl⟩
theorem has_21 : Has P 21 := ⟨_, Go.Proofs.Tryd.func21, by kernel_rfl, by kernel_rfl⟩
theorem has_22 : Has P 22 := ⟨_, Go.Proofs.Tryd.func22, by kernel_rfl, by kernel_rfl⟩
theorem has_23 : Has P 23 := ⟨_, Go.Proofs.Tryd.func23, by kernel_rfl, by kernel_rfl⟩
theorem has_24 : Has P 24 := ⟨_, Go.Proofs.Tryd.func24, by kernel_rfl, by kernel_rfl⟩
theorem has_25 : Has P 25 := ⟨_, Go.Proofs.Tryd.func25, by kernel_rfl, by kernel_rfl⟩
theorem has_26 : Has P 26 := ⟨_, Go.Proofs.Tryd.func26, by kernel_rfl, by kernel_rfl⟩
theorem has_27 : Has P 27 := ⟨_, Go.Proofs.Tryd.func27, by kernel_rfl, by kernel_rfl⟩
theorem has_28 : Has P 28 := ⟨_, Go.Proofs.Tryd.func28, by kernel_rfl, by kernel_rfl⟩
theorem has_29 : Has P 29 := ⟨_, Go.Proofs.Tryd.func29, by kernel_rfl, by kernel_rfl⟩
theorem has_30 : Has P 30 := ⟨_, Go.Proofs.Tryd.func30, by kernel_rfl, by kernel_rfl⟩
theorem has_31 : Has P 31 := ⟨_, Go.Proofs.Tryd.func31, by kernel_rfl, by kernel_rfl⟩
theorem has_32 : Has P 32 := ⟨_, Go.Proofs.Tryd.func32, by kernel_rfl, by kernel_rfl⟩
theorem has_33 : Has P 33 := ⟨_, Go.Proofs.Tryd.func33, by kernel_rfl, by kernel_rfl⟩
theorem has_34 : Has P 34 := ⟨_, Go.Proofs.Tryd.func34, by kernel_rfl, by kernel_rfl⟩
theorem has_35 : Has P 35 := ⟨_, Go.Proofs.Tryd.func35, by kernel_rfl, by kernel_rfl⟩
theorem has_36 : Has P 36 := ⟨_, Go.Proofs.Tryd.func36, by kernel_rfl, by kernel_rfl⟩
theorem has_37 : Has P 37 := ⟨_, Go.Proofs.Tryd.func37, by kernel_rfl, by kernel_rfl⟩
theorem has_38 : Has P 38 := ⟨_, Go.Proofs.Tryd.func38, by kernel_rfl, by kernel_rfl⟩
theorem has_39 : Has P 39 := ⟨_, Go.Proofs.Tryd.func39, by kernel_rfl, by kernel_rfl⟩
theorem has_40 : Has P 40 := ⟨_, Go.Proofs.Tryd.func40, by kernel_rfl, by kernel_rfl⟩
theorem has_41 : Has P 41 := ⟨_, Go.Proofs.Tryd.func41, by kernel_rfl, by kernel_rfl⟩
theorem has_42 : Has P 42 := ⟨_, Go.Proofs.Tryd.func42, by kernel_rfl, by kernel_rfl⟩
theorem has_43 : Has P 43 := ⟨_, Go.Proofs.Tryd.func43, by kernel_rfl, by kernel_rfl⟩
theorem has_44 : Has P 44 := ⟨_, Go.Proofs.Tryd.func44, by kernel_rfl, by kernel_rfl⟩
theorem has_45 : Has P 45 := ⟨_, Go.Proofs.Tryd.func45, by kernel_rfl, by kernel_rfl⟩
theorem has_46 : Has P 46 := ⟨_, Go.Proofs.Tryd.func46, by kernel_rfl, by kernel_rfl⟩
theorem has_47 : Has P 47 := ⟨_, Go.Proofs.Tryd.func47, by kernel_rfl, by kernel_rfl⟩
theorem has_48 : Has P 48 := ⟨_, Go.Proofs.Tryd.func48, by kernel_rfl, by kernel_rfl⟩
theorem has_49 : Has P 49 := ⟨_, Go.Proofs.Tryd.func49, by kernel_rfl, by kernel_rfl⟩
theorem has_50 : Has P 50 := ⟨_, Go.Proofs.Tryd.func50, by kernel_rfl, by kernel_rfl⟩
theorem has_51 : Has P 51 := ⟨_, Go.Proofs.Tryd.func51, by kernel_rfl, by kernel_rfl⟩
theorem has_52 : Has P 52 := ⟨_, Go.Proofs.Tryd.func52, by kernel_rfl, by kernel_rfl⟩
theorem has_53 : Has P 53 := ⟨_, Go.Proofs.Tryd.func53, by kernel_rfl, by kernel_rfl⟩
theorem has_54 : Has P 54 := ⟨_, Go.Proofs.Tryd.func54, by kernel_rfl, by kernel_rfl⟩
theorem has_55 : Has P 55 := ⟨_, Go.Proofs.Tryd.func55, by kernel_rfl, by kernel_rfl⟩
theorem has_56 : Has P 56 := ⟨_, Go.Proofs.Tryd.func56, by kernel_rfl, by kernel_rfl⟩
theorem has_57 : Has P 57 := ⟨_, Go.Proofs.Tryd.func57, by kernel_rfl, by kernel_rfl⟩
theorem has_58 : Has P 58 := ⟨_, Go.Proofs.Tryd.func58, by kernel_rfl, by kernel_rfl⟩
theorem has_59 : Has P 59 := ⟨_, Go.Proofs.Tryd.func59, by kernel_rfl, by kernel_rfl⟩
theorem has_60 : Has P 60 := ⟨_, Go.Proofs.Tryd.func60, by kernel_rfl, by kernel_rfl⟩
theorem has_61 : Has P 61 := ⟨_, Go.Proofs.Tryd.func61, by kernel_rfl, by kernel_rfl⟩
theorem has_62 : Has P 62 := ⟨_, Go.Proofs.Tryd.func62, by kernel_rfl, by kernel_rfl⟩
theorem has_63 : Has P 63 := ⟨_, Go.Proofs.Tryd.func63, by kernel_rfl, by kernel_rfl⟩
theorem has_64 : Has P 64 := ⟨_, Go.Proofs.Tryd.func64, by kernel_rfl, by kernel_rfl⟩
theorem has_65 : Has P 65 := ⟨_, Go.Proofs.Tryd.func65, by kernel_rfl, by kernel_rfl⟩
theorem has_66 : Has P 66 := ⟨_, Go.Proofs.Tryd.func66, by kernel_rfl, by kernel_rfl⟩
theorem has_67 : Has P 67 := ⟨_, Go.Proofs.Tryd.func67, by kernel_rfl, by kernel_rfl⟩
theorem has_68 : Has P 68 := ⟨_, Go.Proofs.Tryd.func68, by kernel_rfl, by kernel_rfl⟩
theorem has_69 : Has P 69 := ⟨_, Go.Proofs.Tryd.func69, by kernel_rfl, by kernel_rfl⟩
theorem has_70 : Has P 70 := ⟨_, Go.Proofs.Tryd.func70, by kernel_rfl, by kernel_rfl⟩
theorem has_71 : Has P 71 := ⟨_, Go.Proofs.Tryd.func71, by kernel_rfl, by kernel_rfl⟩
theorem has_72 : Has P 72 := ⟨_, Go.Proofs.Tryd.func72, by kernel_rfl, by kernel_rfl⟩
theorem has_73 : Has P 73 := ⟨_, Go.Proofs.Tryd.func73, by kernel_rfl, by kernel_rfl⟩
theorem has_74 : Has P 74 := ⟨_, Go.Proofs.Tryd.func74, by kernel_rfl, by kernel_rfl⟩
theorem has_76 : Has P 76 := ⟨_, Go.Proofs.Tryd.func76, by kernel_rfl, by kernel_rfl⟩
theorem has_77 : Has P 77 := ⟨_, Go.Proofs.Tryd.func77, by kernel_rfl, by kernel_rfl⟩
theorem has_78 : Has P 78 := ⟨_, Go.Proofs.Tryd.func78, by kernel_rfl, by kernel_rfl⟩
theorem has_79 : Has P 79 := ⟨_, Go.Proofs.Tryd.func79, by kernel_rfl, by kernel_rfl⟩
theorem has_80 : Has P 80 := ⟨_, Go.Proofs.Tryd.func80, by kernel_rfl, by kernel_rfl⟩
theorem has_81 : Has P 81 := ⟨_, Go.Proofs.Tryd.func81, by kernel_rfl, by kernel_rfl⟩
theorem has_82 : Has P 82 := ⟨_, Go.Proofs.Tryd.func82, by kernel_rfl, by kernel_rfl⟩
theorem has_83 : Has P 83 := ⟨_, Go.Proofs.Tryd.func83, by kernel_rfl, by kernel_rfl⟩
theorem has_84 : Has P 84 := ⟨_, Go.Proofs.Tryd.func84, by kernel_rfl, by kernel_rfl⟩
theorem has_85 : Has P 85 := ⟨_, Go.Proofs.Tryd.func85, by kernel_rfl, by kernel_rfl⟩
theorem has_86 : Has P 86 := ⟨_, Go.Proofs.Tryd.func86, by kernel_rfl, by kernel_rfl⟩
theorem has_87 : Has P 87 := ⟨_, Go.Proofs.Tryd.func87, by kernel_rfl, by kernel_rfl⟩
theorem has_88 : Has P 88 := ⟨_, Go.Proofs.Tryd.func88, by kernel_rfl, by kernel_rfl⟩
theorem has_89 : Has P 89 := ⟨_, Go.Proofs.Tryd.func89, by kernel_rfl, by kernel_rfl⟩
theorem has_90 : Has P 90 := ⟨_, Go.Proofs.Tryd.func90, by kernel_rfl, by kernel_rfl⟩
theorem has_91 : Has P 91 := ⟨_, Go.Proofs.Tryd.func91, by kernel_rfl, by kernel_rfl⟩
theorem has_92 : Has P 92 := ⟨_, Go.Proofs.Tryd.func92, by kernel_rfl, by kernel_rfl⟩
theorem has_94 : Has P 94 := ⟨_, Go.Proofs.Tryd.func94, by kernel_rfl, by kernel_rfl⟩
theorem has_95 : Has P 95 := ⟨_, Go.Proofs.Tryd.func95, by kernel_rfl, by kernel_rfl⟩
theorem has_96 : Has P 96 := ⟨_, Go.Proofs.Tryd.func96, by kernel_rfl, by kernel_rfl⟩
theorem has_97 : Has P 97 := ⟨_, Go.Proofs.Tryd.func97, by kernel_rfl, by kernel_rfl⟩
theorem has_98 : Has P 98 := ⟨_, Go.Proofs.Tryd.func98, by kernel_rfl, by kernel_rfl⟩
theorem has_99 : Has P 99 := ⟨_, Go.Proofs.Tryd.func99, by kernel_rfl, by kernel_rfl⟩
theorem has_100 : Has P 100 := ⟨_, Go.Proofs.Tryd.func100, by kernel_rfl, by kernel_rfl⟩
theorem has_101 : Has P 101 := ⟨_, Go.Proofs.Tryd.func101, by kernel_rfl, by kernel_rfl⟩
theorem has_102 : Has P 102 := ⟨_, Go.Proofs.Tryd.func102, by kernel_rfl, by kernel_rfl⟩
theorem has_103 : Has P 103 := ⟨_, Go.Proofs.Tryd.func103, by kernel_rfl, by kernel_rfl⟩
theorem has_104 : Has P 104 := ⟨_, Go.Proofs.Tryd.func104, by kernel_rfl, by kernel_rfl⟩
theorem has_105 : Has P 105 := ⟨_, Go.Proofs.Tryd.func105, by kernel_rfl, by kernel_rfl⟩
theorem has_106 : Has P 106 := ⟨_, Go.Proofs.Tryd.func106, by kernel_rfl, by kernel_rfl⟩
theorem has_107 : Has P 107 := ⟨_, Go.Proofs.Tryd.func107, by kernel_rfl, by kernel_rfl⟩
theorem has_108 : Has P 108 := ⟨_, Go.Proofs.Tryd.func108, by kernel_rfl, by kernel_rfl⟩
theorem has_109 : Has P 109 := ⟨_, Go.Proofs.Tryd.func109, by kernel_rfl, by kernel_rfl⟩
theorem has_110 : Has P 110 := ⟨_, Go.Proofs.Tryd.func110, by kernel_rfl, by kernel_rfl⟩
theorem has_112 : Has P 112 := ⟨_, Go.Proofs.Tryd.func112, by kernel_rfl, by kernel_rfl⟩
theorem has_113 : Has P 113 := ⟨_, Go.Proofs.Tryd.func113, by kernel_rfl, by kernel_rfl⟩
theorem has_114 : Has P 114 := ⟨_, Go.Proofs.Tryd.func114, by kernel_rfl, by kernel_rfl⟩
theorem has_115 : Has P 115 := ⟨_, Go.Proofs.Tryd.func115, by kernel_rfl, by kernel_rfl⟩
theorem has_116 : Has P 116 := ⟨_, Go.Proofs.Tryd.func116, by kernel_rfl, by kernel_rfl⟩
theorem has_117 : Has P 117 := ⟨_, Go.Proofs.Tryd.func117, by kernel_rfl, by kernel_rfl⟩
theorem has_118 : Has P 118 := ⟨_, Go.Proofs.Tryd.func118, by kernel_rfl, by kernel_rfl⟩
theorem has_119 : Has P 119 := ⟨_, Go.Proofs.Tryd.func119, by kernel_rfl, by kernel_rfl⟩
theorem has_120 : Has P 120 := ⟨_, Go.Proofs.Tryd.func120, by kernel_rfl, by kernel_rfl⟩
theorem has_121 : Has P 121 := ⟨_, Go.Proofs.Tryd.func121, by kernel_rfl, by kernel_rfl⟩
theorem has_122 : Has P 122 := ⟨_, Go.Proofs.Tryd.func122, by kernel_rfl, by kernel_rfl⟩
theorem has_123 : Has P 123 := ⟨_, Go.Proofs.Tryd.func123, by kernel_rfl, by kernel_rfl⟩
theorem has_124 : Has P 124 := ⟨_, Go.Proofs.Tryd.func124, by kernel_rfl, by kernel_rfl⟩
theorem has_125 : Has P 125 := ⟨_, Go.Proofs.Tryd.func125, by kernel_rfl, by kernel_rfl⟩
theorem has_127 : Has P 127 := ⟨_, Go.Proofs.Tryd.func127, by kernel_rfl, by kernel_rfl⟩
theorem has_151 : Has P 151 := ⟨_, Go.Proofs.Tryd.func151, by kernel_rfl, by kernel_rfl⟩
end Go.Proofs.YtlpkcbkflfbclaaDoor.S
