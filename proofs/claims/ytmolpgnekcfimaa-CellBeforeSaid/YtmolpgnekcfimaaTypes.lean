/- The closed facts of this seat's program: its types and functions, as the kernel reckons them. Written by a program of the prover's own (gen.py). -/
import Derived.Test.YtmolpgnekcfimaaOps8
import Derived.Test.YtmolpgnekcfimaaProg
namespace Go.Proofs.Ytmolpgnekcfimaa.S
noncomputable abbrev P : Program := Go.Proofs.Try.prog
theorem mixed : P.follows .mixedOrders = true := by kernel_rfl
theorem one_0 : OneT P 0 true := by unfold OneT; kernel_rfl
theorem sz_0 : SizeIs P 0 1 := by unfold SizeIs; kernel_rfl
theorem ce_0 : P.cellsOf 0 = 1 := by kernel_rfl
theorem by_0 : BytesIs P 0 0 := by unfold BytesIs; kernel_rfl
theorem zr_0 : ZeroIs P 0 (.tuple #[]) := by unfold ZeroIs; kernel_rfl
theorem one_2 : OneT P 2 true := by unfold OneT; kernel_rfl
theorem sz_2 : SizeIs P 2 1 := by unfold SizeIs; kernel_rfl
theorem ce_2 : P.cellsOf 2 = 1 := by kernel_rfl
theorem by_2 : BytesIs P 2 8 := by unfold BytesIs; kernel_rfl
theorem zr_2 : ZeroIs P 2 (.int .i64 0) := by unfold ZeroIs; kernel_rfl
theorem ty_2 : P.underlying 2 = some (.int .i64) := by kernel_rfl
theorem one_3 : OneT P 3 true := by unfold OneT; kernel_rfl
theorem sz_3 : SizeIs P 3 1 := by unfold SizeIs; kernel_rfl
theorem ce_3 : P.cellsOf 3 = 1 := by kernel_rfl
theorem by_3 : BytesIs P 3 8 := by unfold BytesIs; kernel_rfl
theorem zr_3 : ZeroIs P 3 (.int .i64 0) := by unfold ZeroIs; kernel_rfl
theorem ty_3 : P.underlying 3 = some (.int .i64) := by kernel_rfl
theorem one_4 : OneT P 4 true := by unfold OneT; kernel_rfl
theorem sz_4 : SizeIs P 4 1 := by unfold SizeIs; kernel_rfl
theorem ce_4 : P.cellsOf 4 = 1 := by kernel_rfl
theorem by_4 : BytesIs P 4 1 := by unfold BytesIs; kernel_rfl
theorem zr_4 : ZeroIs P 4 (.bool false) := by unfold ZeroIs; kernel_rfl
theorem ty_4 : P.underlying 4 = some .bool := by kernel_rfl
theorem one_5 : OneT P 5 true := by unfold OneT; kernel_rfl
theorem sz_5 : SizeIs P 5 1 := by unfold SizeIs; kernel_rfl
theorem ce_5 : P.cellsOf 5 = 1 := by kernel_rfl
theorem by_5 : BytesIs P 5 1 := by unfold BytesIs; kernel_rfl
theorem zr_5 : ZeroIs P 5 (.int .u8 0) := by unfold ZeroIs; kernel_rfl
theorem ty_5 : P.underlying 5 = some (.int .u8) := by kernel_rfl
theorem one_6 : OneT P 6 true := by unfold OneT; kernel_rfl
theorem sz_6 : SizeIs P 6 1 := by unfold SizeIs; kernel_rfl
theorem ce_6 : P.cellsOf 6 = 1 := by kernel_rfl
theorem by_6 : BytesIs P 6 1 := by unfold BytesIs; kernel_rfl
theorem zr_6 : ZeroIs P 6 (.int .u8 0) := by unfold ZeroIs; kernel_rfl
theorem ty_6 : P.underlying 6 = some (.int .u8) := by kernel_rfl
theorem one_8 : OneT P 8 false := by unfold OneT; kernel_rfl
theorem sz_8 : SizeIs P 8 4 := by unfold SizeIs; kernel_rfl
theorem ce_8 : P.cellsOf 8 = 4 := by kernel_rfl
theorem by_8 : BytesIs P 8 24 := by unfold BytesIs; kernel_rfl
theorem zr_8 : ZeroIs P 8 (.agg #[.int .i64 0, .int .i64 0, .bool false, .int .u8 0]) := by unfold ZeroIs; kernel_rfl
theorem fl_8_0 : FieldIs P 8 0 0 := .of (k := 0) (by kernel_rfl)
theorem fl_8_1 : FieldIs P 8 1 1 := .of (k := 0) (by kernel_rfl)
theorem fl_8_2 : FieldIs P 8 2 2 := .of (k := 0) (by kernel_rfl)
theorem fl_8_3 : FieldIs P 8 3 3 := .of (k := 0) (by kernel_rfl)
theorem pl_8 : PlacesAre P 8 #[(0, 1), (1, 1), (2, 1), (3, 1)] := .of (by kernel_rfl)
theorem one_9 : OneT P 9 true := by unfold OneT; kernel_rfl
theorem sz_9 : SizeIs P 9 1 := by unfold SizeIs; kernel_rfl
theorem ce_9 : P.cellsOf 9 = 1 := by kernel_rfl
theorem by_9 : BytesIs P 9 16 := by unfold BytesIs; kernel_rfl
theorem zr_9 : ZeroIs P 9 (.string ⟨#[]⟩) := by unfold ZeroIs; kernel_rfl
theorem ty_9 : P.underlying 9 = some .string := by kernel_rfl
theorem kd_9 : Kd P 9 := .inr ty_9
theorem one_10 : OneT P 10 true := by unfold OneT; kernel_rfl
theorem sz_10 : SizeIs P 10 1 := by unfold SizeIs; kernel_rfl
theorem ce_10 : P.cellsOf 10 = 1 := by kernel_rfl
theorem by_10 : BytesIs P 10 16 := by unfold BytesIs; kernel_rfl
theorem zr_10 : ZeroIs P 10 (.string ⟨#[]⟩) := by unfold ZeroIs; kernel_rfl
theorem ty_10 : P.underlying 10 = some .string := by kernel_rfl
theorem kd_10 : Kd P 10 := .inr ty_10
theorem one_11 : OneT P 11 true := by unfold OneT; kernel_rfl
theorem sz_11 : SizeIs P 11 1 := by unfold SizeIs; kernel_rfl
theorem ce_11 : P.cellsOf 11 = 1 := by kernel_rfl
theorem by_11 : BytesIs P 11 16 := by unfold BytesIs; kernel_rfl
theorem zr_11 : ZeroIs P 11 (.string ⟨#[]⟩) := by unfold ZeroIs; kernel_rfl
theorem ty_11 : P.underlying 11 = some .string := by kernel_rfl
theorem kd_11 : Kd P 11 := .inr ty_11
theorem one_12 : OneT P 12 true := by unfold OneT; kernel_rfl
theorem sz_12 : SizeIs P 12 1 := by unfold SizeIs; kernel_rfl
theorem ce_12 : P.cellsOf 12 = 1 := by kernel_rfl
theorem by_12 : BytesIs P 12 8 := by unfold BytesIs; kernel_rfl
theorem zr_12 : ZeroIs P 12 (.int .u64 0) := by unfold ZeroIs; kernel_rfl
theorem ty_12 : P.underlying 12 = some (.int .u64) := by kernel_rfl
theorem one_14 : OneT P 14 false := by unfold OneT; kernel_rfl
theorem sz_14 : SizeIs P 14 2 := by unfold SizeIs; kernel_rfl
theorem ce_14 : P.cellsOf 14 = 2 := by kernel_rfl
theorem by_14 : BytesIs P 14 24 := by unfold BytesIs; kernel_rfl
theorem zr_14 : ZeroIs P 14 (.agg #[.string ⟨#[]⟩, .int .u64 0]) := by unfold ZeroIs; kernel_rfl
theorem fl_14_0 : FieldIs P 14 0 0 := .of (k := 0) (by kernel_rfl)
theorem fl_14_1 : FieldIs P 14 1 1 := .of (k := 0) (by kernel_rfl)
theorem pl_14 : PlacesAre P 14 #[(0, 1), (1, 1)] := .of (by kernel_rfl)
theorem one_15 : OneT P 15 true := by unfold OneT; kernel_rfl
theorem sz_15 : SizeIs P 15 1 := by unfold SizeIs; kernel_rfl
theorem ce_15 : P.cellsOf 15 = 1 := by kernel_rfl
theorem by_15 : BytesIs P 15 8 := by unfold BytesIs; kernel_rfl
theorem zr_15 : ZeroIs P 15 (.pointer none) := by unfold ZeroIs; kernel_rfl
theorem ty_15 : P.underlying 15 = some (.pointer 105) := by kernel_rfl
theorem one_16 : OneT P 16 true := by unfold OneT; kernel_rfl
theorem sz_16 : SizeIs P 16 1 := by unfold SizeIs; kernel_rfl
theorem ce_16 : P.cellsOf 16 = 1 := by kernel_rfl
theorem by_16 : BytesIs P 16 8 := by unfold BytesIs; kernel_rfl
theorem zr_16 : ZeroIs P 16 (.pointer none) := by unfold ZeroIs; kernel_rfl
theorem ty_16 : P.underlying 16 = some (.pointer 108) := by kernel_rfl
theorem one_17 : OneT P 17 true := by unfold OneT; kernel_rfl
theorem sz_17 : SizeIs P 17 1 := by unfold SizeIs; kernel_rfl
theorem ce_17 : P.cellsOf 17 = 1 := by kernel_rfl
theorem by_17 : BytesIs P 17 8 := by unfold BytesIs; kernel_rfl
theorem zr_17 : ZeroIs P 17 (.pointer none) := by unfold ZeroIs; kernel_rfl
theorem ty_17 : P.underlying 17 = some (.pointer 116) := by kernel_rfl
theorem one_19 : OneT P 19 false := by unfold OneT; kernel_rfl
theorem sz_19 : SizeIs P 19 1 := by unfold SizeIs; kernel_rfl
theorem ce_19 : P.cellsOf 19 = 1 := by kernel_rfl
theorem by_19 : BytesIs P 19 8 := by unfold BytesIs; kernel_rfl
theorem zr_19 : ZeroIs P 19 (.agg #[.pointer none]) := by unfold ZeroIs; kernel_rfl
theorem fl_19_0 : FieldIs P 19 0 0 := .of (k := 0) (by kernel_rfl)
theorem pl_19 : PlacesAre P 19 #[(0, 1)] := .of (by kernel_rfl)
theorem one_22 : OneT P 22 true := by unfold OneT; kernel_rfl
theorem sz_22 : SizeIs P 22 1 := by unfold SizeIs; kernel_rfl
theorem ce_22 : P.cellsOf 22 = 1 := by kernel_rfl
theorem by_22 : BytesIs P 22 24 := by unfold BytesIs; kernel_rfl
theorem zr_22 : ZeroIs P 22 (.slice none 0 0) := by unfold ZeroIs; kernel_rfl
theorem ty_22 : P.underlying 22 = some (.slice 33) := by kernel_rfl
theorem kd_22 : Kd P 22 := .inl ⟨_, ty_22⟩
theorem one_23 : OneT P 23 true := by unfold OneT; kernel_rfl
theorem sz_23 : SizeIs P 23 1 := by unfold SizeIs; kernel_rfl
theorem ce_23 : P.cellsOf 23 = 1 := by kernel_rfl
theorem by_23 : BytesIs P 23 24 := by unfold BytesIs; kernel_rfl
theorem zr_23 : ZeroIs P 23 (.slice none 0 0) := by unfold ZeroIs; kernel_rfl
theorem ty_23 : P.underlying 23 = some (.slice 4) := by kernel_rfl
theorem kd_23 : Kd P 23 := .inl ⟨_, ty_23⟩
theorem one_25 : OneT P 25 true := by unfold OneT; kernel_rfl
theorem sz_25 : SizeIs P 25 1 := by unfold SizeIs; kernel_rfl
theorem ce_25 : P.cellsOf 25 = 1 := by kernel_rfl
theorem by_25 : BytesIs P 25 8 := by unfold BytesIs; kernel_rfl
theorem zr_25 : ZeroIs P 25 (.pointer none) := by unfold ZeroIs; kernel_rfl
theorem ty_25 : P.underlying 25 = some (.pointer 53) := by kernel_rfl
theorem one_26 : OneT P 26 true := by unfold OneT; kernel_rfl
theorem sz_26 : SizeIs P 26 1 := by unfold SizeIs; kernel_rfl
theorem ce_26 : P.cellsOf 26 = 1 := by kernel_rfl
theorem by_26 : BytesIs P 26 8 := by unfold BytesIs; kernel_rfl
theorem zr_26 : ZeroIs P 26 (.int .i64 0) := by unfold ZeroIs; kernel_rfl
theorem ty_26 : P.underlying 26 = some (.int .i64) := by kernel_rfl
theorem one_27 : OneT P 27 true := by unfold OneT; kernel_rfl
theorem sz_27 : SizeIs P 27 1 := by unfold SizeIs; kernel_rfl
theorem ce_27 : P.cellsOf 27 = 1 := by kernel_rfl
theorem by_27 : BytesIs P 27 0 := by unfold BytesIs; kernel_rfl
theorem zr_27 : ZeroIs P 27 (.tuple #[.pointer none, .int .i64 0]) := by unfold ZeroIs; kernel_rfl
theorem one_29 : OneT P 29 true := by unfold OneT; kernel_rfl
theorem sz_29 : SizeIs P 29 1 := by unfold SizeIs; kernel_rfl
theorem ce_29 : P.cellsOf 29 = 1 := by kernel_rfl
theorem by_29 : BytesIs P 29 8 := by unfold BytesIs; kernel_rfl
theorem zr_29 : ZeroIs P 29 (.pointer none) := by unfold ZeroIs; kernel_rfl
theorem ty_29 : P.underlying 29 = some (.pointer 57) := by kernel_rfl
theorem one_30 : OneT P 30 true := by unfold OneT; kernel_rfl
theorem sz_30 : SizeIs P 30 1 := by unfold SizeIs; kernel_rfl
theorem ce_30 : P.cellsOf 30 = 1 := by kernel_rfl
theorem by_30 : BytesIs P 30 0 := by unfold BytesIs; kernel_rfl
theorem zr_30 : ZeroIs P 30 (.tuple #[.pointer none, .int .i64 0]) := by unfold ZeroIs; kernel_rfl
theorem one_32 : OneT P 32 true := by unfold OneT; kernel_rfl
theorem sz_32 : SizeIs P 32 1 := by unfold SizeIs; kernel_rfl
theorem ce_32 : P.cellsOf 32 = 1 := by kernel_rfl
theorem by_32 : BytesIs P 32 8 := by unfold BytesIs; kernel_rfl
theorem zr_32 : ZeroIs P 32 (.int .u64 0) := by unfold ZeroIs; kernel_rfl
theorem ty_32 : P.underlying 32 = some (.int .u64) := by kernel_rfl
theorem one_33 : OneT P 33 true := by unfold OneT; kernel_rfl
theorem sz_33 : SizeIs P 33 1 := by unfold SizeIs; kernel_rfl
theorem ce_33 : P.cellsOf 33 = 1 := by kernel_rfl
theorem by_33 : BytesIs P 33 24 := by unfold BytesIs; kernel_rfl
theorem zr_33 : ZeroIs P 33 (.slice none 0 0) := by unfold ZeroIs; kernel_rfl
theorem ty_33 : P.underlying 33 = some (.slice 5) := by kernel_rfl
theorem kd_33 : Kd P 33 := .inl ⟨_, ty_33⟩
theorem one_40 : OneT P 40 false := by unfold OneT; kernel_rfl
theorem sz_40 : SizeIs P 40 2 := by unfold SizeIs; kernel_rfl
theorem ce_40 : P.cellsOf 40 = 2 := by kernel_rfl
theorem by_40 : BytesIs P 40 24 := by unfold BytesIs; kernel_rfl
theorem zr_40 : ZeroIs P 40 (.agg #[.int .i64 0, .string ⟨#[]⟩]) := by unfold ZeroIs; kernel_rfl
theorem fl_40_0 : FieldIs P 40 0 0 := .of (k := 0) (by kernel_rfl)
theorem fl_40_1 : FieldIs P 40 1 1 := .of (k := 0) (by kernel_rfl)
theorem pl_40 : PlacesAre P 40 #[(0, 1), (1, 1)] := .of (by kernel_rfl)
theorem one_41 : OneT P 41 true := by unfold OneT; kernel_rfl
theorem sz_41 : SizeIs P 41 1 := by unfold SizeIs; kernel_rfl
theorem ce_41 : P.cellsOf 41 = 1 := by kernel_rfl
theorem by_41 : BytesIs P 41 0 := by unfold BytesIs; kernel_rfl
theorem zr_41 : ZeroIs P 41 (.tuple #[.agg #[.int .i64 0, .string ⟨#[]⟩], .int .i64 0]) := by unfold ZeroIs; kernel_rfl
theorem one_44 : OneT P 44 false := by unfold OneT; kernel_rfl
theorem sz_44 : SizeIs P 44 2 := by unfold SizeIs; kernel_rfl
theorem ce_44 : P.cellsOf 44 = 2 := by kernel_rfl
theorem by_44 : BytesIs P 44 24 := by unfold BytesIs; kernel_rfl
theorem zr_44 : ZeroIs P 44 (.agg #[.string ⟨#[]⟩, .int .i64 0]) := by unfold ZeroIs; kernel_rfl
theorem fl_44_0 : FieldIs P 44 0 0 := .of (k := 0) (by kernel_rfl)
theorem fl_44_1 : FieldIs P 44 1 1 := .of (k := 0) (by kernel_rfl)
theorem pl_44 : PlacesAre P 44 #[(0, 1), (1, 1)] := .of (by kernel_rfl)
theorem one_46 : OneT P 46 false := by unfold OneT; kernel_rfl
theorem sz_46 : SizeIs P 46 2 := by unfold SizeIs; kernel_rfl
theorem ce_46 : P.cellsOf 46 = 2 := by kernel_rfl
theorem by_46 : BytesIs P 46 48 := by unfold BytesIs; kernel_rfl
theorem zr_46 : ZeroIs P 46 (.agg #[.slice none 0 0, .slice none 0 0]) := by unfold ZeroIs; kernel_rfl
theorem ty_46 : P.underlying 46 = some (.array 2 33) := by kernel_rfl
theorem eg_46 : Program.eqGuardType P P.depth 46 = false := by kernel_rfl
theorem one_47 : OneT P 47 false := by unfold OneT; kernel_rfl
theorem sz_47 : SizeIs P 47 2 := by unfold SizeIs; kernel_rfl
theorem ce_47 : P.cellsOf 47 = 2 := by kernel_rfl
theorem by_47 : BytesIs P 47 16 := by unfold BytesIs; kernel_rfl
theorem zr_47 : ZeroIs P 47 (.agg #[.int .i64 0, .int .i64 0]) := by unfold ZeroIs; kernel_rfl
theorem ty_47 : P.underlying 47 = some (.array 2 3) := by kernel_rfl
theorem eg_47 : Program.eqGuardType P P.depth 47 = false := by kernel_rfl
theorem one_50 : OneT P 50 false := by unfold OneT; kernel_rfl
theorem sz_50 : SizeIs P 50 3 := by unfold SizeIs; kernel_rfl
theorem ce_50 : P.cellsOf 50 = 3 := by kernel_rfl
theorem by_50 : BytesIs P 50 72 := by unfold BytesIs; kernel_rfl
theorem zr_50 : ZeroIs P 50 (.agg #[.slice none 0 0, .slice none 0 0, .slice none 0 0]) := by unfold ZeroIs; kernel_rfl
theorem ty_50 : P.underlying 50 = some (.array 3 33) := by kernel_rfl
theorem eg_50 : Program.eqGuardType P P.depth 50 = false := by kernel_rfl
theorem one_53 : OneT P 53 false := by unfold OneT; kernel_rfl
theorem sz_53 : SizeIs P 53 2 := by unfold SizeIs; kernel_rfl
theorem ce_53 : P.cellsOf 53 = 2 := by kernel_rfl
theorem by_53 : BytesIs P 53 32 := by unfold BytesIs; kernel_rfl
theorem zr_53 : ZeroIs P 53 (.agg #[.slice none 0 0, .int .i64 0]) := by unfold ZeroIs; kernel_rfl
theorem fl_53_0 : FieldIs P 53 0 0 := .of (k := 0) (by kernel_rfl)
theorem fl_53_1 : FieldIs P 53 1 1 := .of (k := 0) (by kernel_rfl)
theorem pl_53 : PlacesAre P 53 #[(0, 1), (1, 1)] := .of (by kernel_rfl)
theorem one_55 : OneT P 55 false := by unfold OneT; kernel_rfl
theorem sz_55 : SizeIs P 55 2 := by unfold SizeIs; kernel_rfl
theorem ce_55 : P.cellsOf 55 = 2 := by kernel_rfl
theorem by_55 : BytesIs P 55 32 := by unfold BytesIs; kernel_rfl
theorem zr_55 : ZeroIs P 55 (.agg #[.int .u64 0, .slice none 0 0]) := by unfold ZeroIs; kernel_rfl
theorem fl_55_0 : FieldIs P 55 0 0 := .of (k := 0) (by kernel_rfl)
theorem fl_55_1 : FieldIs P 55 1 1 := .of (k := 0) (by kernel_rfl)
theorem pl_55 : PlacesAre P 55 #[(0, 1), (1, 1)] := .of (by kernel_rfl)
theorem one_57 : OneT P 57 false := by unfold OneT; kernel_rfl
theorem sz_57 : SizeIs P 57 3 := by unfold SizeIs; kernel_rfl
theorem ce_57 : P.cellsOf 57 = 3 := by kernel_rfl
theorem by_57 : BytesIs P 57 40 := by unfold BytesIs; kernel_rfl
theorem zr_57 : ZeroIs P 57 (.agg #[.int .u64 0, .slice none 0 0, .pointer none]) := by unfold ZeroIs; kernel_rfl
theorem fl_57_0 : FieldIs P 57 0 0 := .of (k := 1) (by kernel_rfl)
theorem fl_57_1 : FieldIs P 57 1 2 := .of (k := 0) (by kernel_rfl)
theorem pl_57 : PlacesAre P 57 #[(0, 2), (2, 1)] := .of (by kernel_rfl)
theorem one_58 : OneT P 58 true := by unfold OneT; kernel_rfl
theorem sz_58 : SizeIs P 58 1 := by unfold SizeIs; kernel_rfl
theorem ce_58 : P.cellsOf 58 = 1 := by kernel_rfl
theorem by_58 : BytesIs P 58 0 := by unfold BytesIs; kernel_rfl
theorem zr_58 : ZeroIs P 58 (.tuple #[.agg #[.int .u64 0, .slice none 0 0], .bool false]) := by unfold ZeroIs; kernel_rfl
theorem one_63 : OneT P 63 false := by unfold OneT; kernel_rfl
theorem sz_63 : SizeIs P 63 32 := by unfold SizeIs; kernel_rfl
theorem ce_63 : P.cellsOf 63 = 32 := by kernel_rfl
theorem by_63 : BytesIs P 63 32 := by unfold BytesIs; kernel_rfl
theorem zr_63 : ZeroIs P 63 (.agg #[.int .u8 0, .int .u8 0, .int .u8 0, .int .u8 0, .int .u8 0, .int .u8 0, .int .u8 0, .int .u8 0, .int .u8 0, .int .u8 0, .int .u8 0, .int .u8 0, .int .u8 0, .int .u8 0, .int .u8 0, .int .u8 0, .int .u8 0, .int .u8 0, .int .u8 0, .int .u8 0, .int .u8 0, .int .u8 0, .int .u8 0, .int .u8 0, .int .u8 0, .int .u8 0, .int .u8 0, .int .u8 0, .int .u8 0, .int .u8 0, .int .u8 0, .int .u8 0]) := by unfold ZeroIs; kernel_rfl
theorem ty_63 : P.underlying 63 = some (.array 32 5) := by kernel_rfl
theorem eg_63 : Program.eqGuardType P P.depth 63 = false := by kernel_rfl
theorem one_66 : OneT P 66 true := by unfold OneT; kernel_rfl
theorem sz_66 : SizeIs P 66 1 := by unfold SizeIs; kernel_rfl
theorem ce_66 : P.cellsOf 66 = 1 := by kernel_rfl
theorem by_66 : BytesIs P 66 0 := by unfold BytesIs; kernel_rfl
theorem zr_66 : ZeroIs P 66 (.tuple #[.agg #[.int .i64 0, .string ⟨#[]⟩], .bool false]) := by unfold ZeroIs; kernel_rfl
theorem one_70 : OneT P 70 true := by unfold OneT; kernel_rfl
theorem sz_70 : SizeIs P 70 1 := by unfold SizeIs; kernel_rfl
theorem ce_70 : P.cellsOf 70 = 1 := by kernel_rfl
theorem by_70 : BytesIs P 70 8 := by unfold BytesIs; kernel_rfl
theorem zr_70 : ZeroIs P 70 (.int .u64 0) := by unfold ZeroIs; kernel_rfl
theorem ty_70 : P.underlying 70 = some (.int .u64) := by kernel_rfl
theorem one_72 : OneT P 72 true := by unfold OneT; kernel_rfl
theorem sz_72 : SizeIs P 72 1 := by unfold SizeIs; kernel_rfl
theorem ce_72 : P.cellsOf 72 = 1 := by kernel_rfl
theorem by_72 : BytesIs P 72 8 := by unfold BytesIs; kernel_rfl
theorem zr_72 : ZeroIs P 72 (.pointer none) := by unfold ZeroIs; kernel_rfl
theorem ty_72 : P.underlying 72 = some (.pointer 82) := by kernel_rfl
theorem one_77 : OneT P 77 true := by unfold OneT; kernel_rfl
theorem sz_77 : SizeIs P 77 1 := by unfold SizeIs; kernel_rfl
theorem ce_77 : P.cellsOf 77 = 1 := by kernel_rfl
theorem by_77 : BytesIs P 77 4 := by unfold BytesIs; kernel_rfl
theorem zr_77 : ZeroIs P 77 (.int .u32 0) := by unfold ZeroIs; kernel_rfl
theorem ty_77 : P.underlying 77 = some (.int .u32) := by kernel_rfl
theorem one_78 : OneT P 78 false := by unfold OneT; kernel_rfl
theorem sz_78 : SizeIs P 78 8 := by unfold SizeIs; kernel_rfl
theorem ce_78 : P.cellsOf 78 = 8 := by kernel_rfl
theorem by_78 : BytesIs P 78 32 := by unfold BytesIs; kernel_rfl
theorem zr_78 : ZeroIs P 78 (.agg #[.int .u32 0, .int .u32 0, .int .u32 0, .int .u32 0, .int .u32 0, .int .u32 0, .int .u32 0, .int .u32 0]) := by unfold ZeroIs; kernel_rfl
theorem ty_78 : P.underlying 78 = some (.array 8 77) := by kernel_rfl
theorem eg_78 : Program.eqGuardType P P.depth 78 = false := by kernel_rfl
theorem one_80 : OneT P 80 false := by unfold OneT; kernel_rfl
theorem sz_80 : SizeIs P 80 2 := by unfold SizeIs; kernel_rfl
theorem ce_80 : P.cellsOf 80 = 2 := by kernel_rfl
theorem by_80 : BytesIs P 80 32 := by unfold BytesIs; kernel_rfl
theorem zr_80 : ZeroIs P 80 (.agg #[.slice none 0 0, .int .u64 0]) := by unfold ZeroIs; kernel_rfl
theorem fl_80_0 : FieldIs P 80 0 0 := .of (k := 0) (by kernel_rfl)
theorem fl_80_1 : FieldIs P 80 1 1 := .of (k := 0) (by kernel_rfl)
theorem pl_80 : PlacesAre P 80 #[(0, 1), (1, 1)] := .of (by kernel_rfl)
theorem one_82 : OneT P 82 false := by unfold OneT; kernel_rfl
theorem sz_82 : SizeIs P 82 10 := by unfold SizeIs; kernel_rfl
theorem ce_82 : P.cellsOf 82 = 10 := by kernel_rfl
theorem by_82 : BytesIs P 82 64 := by unfold BytesIs; kernel_rfl
theorem zr_82 : ZeroIs P 82 (.agg #[.slice none 0 0, .int .u64 0, .int .u32 0, .int .u32 0, .int .u32 0, .int .u32 0, .int .u32 0, .int .u32 0, .int .u32 0, .int .u32 0]) := by unfold ZeroIs; kernel_rfl
theorem fl_82_0 : FieldIs P 82 0 0 := .of (k := 1) (by kernel_rfl)
theorem fl_82_1 : FieldIs P 82 1 2 := .of (k := 7) (by kernel_rfl)
theorem pl_82 : PlacesAre P 82 #[(0, 2), (2, 8)] := .of (by kernel_rfl)
theorem one_84 : OneT P 84 true := by unfold OneT; kernel_rfl
theorem sz_84 : SizeIs P 84 1 := by unfold SizeIs; kernel_rfl
theorem ce_84 : P.cellsOf 84 = 1 := by kernel_rfl
theorem by_84 : BytesIs P 84 8 := by unfold BytesIs; kernel_rfl
theorem zr_84 : ZeroIs P 84 (.nilFunc) := by unfold ZeroIs; kernel_rfl
theorem one_88 : OneT P 88 true := by unfold OneT; kernel_rfl
theorem sz_88 : SizeIs P 88 1 := by unfold SizeIs; kernel_rfl
theorem ce_88 : P.cellsOf 88 = 1 := by kernel_rfl
theorem by_88 : BytesIs P 88 8 := by unfold BytesIs; kernel_rfl
theorem zr_88 : ZeroIs P 88 (.pointer none) := by unfold ZeroIs; kernel_rfl
theorem ty_88 : P.underlying 88 = some (.pointer 80) := by kernel_rfl
theorem one_89 : OneT P 89 false := by unfold OneT; kernel_rfl
theorem sz_89 : SizeIs P 89 64 := by unfold SizeIs; kernel_rfl
theorem ce_89 : P.cellsOf 89 = 64 := by kernel_rfl
theorem by_89 : BytesIs P 89 256 := by unfold BytesIs; kernel_rfl
theorem zr_89 : ZeroIs P 89 (.agg #[.int .u32 0, .int .u32 0, .int .u32 0, .int .u32 0, .int .u32 0, .int .u32 0, .int .u32 0, .int .u32 0, .int .u32 0, .int .u32 0, .int .u32 0, .int .u32 0, .int .u32 0, .int .u32 0, .int .u32 0, .int .u32 0, .int .u32 0, .int .u32 0, .int .u32 0, .int .u32 0, .int .u32 0, .int .u32 0, .int .u32 0, .int .u32 0, .int .u32 0, .int .u32 0, .int .u32 0, .int .u32 0, .int .u32 0, .int .u32 0, .int .u32 0, .int .u32 0, .int .u32 0, .int .u32 0, .int .u32 0, .int .u32 0, .int .u32 0, .int .u32 0, .int .u32 0, .int .u32 0, .int .u32 0, .int .u32 0, .int .u32 0, .int .u32 0, .int .u32 0, .int .u32 0, .int .u32 0, .int .u32 0, .int .u32 0, .int .u32 0, .int .u32 0, .int .u32 0, .int .u32 0, .int .u32 0, .int .u32 0, .int .u32 0, .int .u32 0, .int .u32 0, .int .u32 0, .int .u32 0, .int .u32 0, .int .u32 0, .int .u32 0, .int .u32 0]) := by unfold ZeroIs; kernel_rfl
theorem ty_89 : P.underlying 89 = some (.array 64 77) := by kernel_rfl
theorem eg_89 : Program.eqGuardType P P.depth 89 = false := by kernel_rfl
theorem one_91 : OneT P 91 false := by unfold OneT; kernel_rfl
theorem sz_91 : SizeIs P 91 80 := by unfold SizeIs; kernel_rfl
theorem ce_91 : P.cellsOf 91 = 80 := by kernel_rfl
theorem by_91 : BytesIs P 91 640 := by unfold BytesIs; kernel_rfl
theorem zr_91 : ZeroIs P 91 (.agg #[.int .u64 0, .int .u64 0, .int .u64 0, .int .u64 0, .int .u64 0, .int .u64 0, .int .u64 0, .int .u64 0, .int .u64 0, .int .u64 0, .int .u64 0, .int .u64 0, .int .u64 0, .int .u64 0, .int .u64 0, .int .u64 0, .int .u64 0, .int .u64 0, .int .u64 0, .int .u64 0, .int .u64 0, .int .u64 0, .int .u64 0, .int .u64 0, .int .u64 0, .int .u64 0, .int .u64 0, .int .u64 0, .int .u64 0, .int .u64 0, .int .u64 0, .int .u64 0, .int .u64 0, .int .u64 0, .int .u64 0, .int .u64 0, .int .u64 0, .int .u64 0, .int .u64 0, .int .u64 0, .int .u64 0, .int .u64 0, .int .u64 0, .int .u64 0, .int .u64 0, .int .u64 0, .int .u64 0, .int .u64 0, .int .u64 0, .int .u64 0, .int .u64 0, .int .u64 0, .int .u64 0, .int .u64 0, .int .u64 0, .int .u64 0, .int .u64 0, .int .u64 0, .int .u64 0, .int .u64 0, .int .u64 0, .int .u64 0, .int .u64 0, .int .u64 0, .int .u64 0, .int .u64 0, .int .u64 0, .int .u64 0, .int .u64 0, .int .u64 0, .int .u64 0, .int .u64 0, .int .u64 0, .int .u64 0, .int .u64 0, .int .u64 0, .int .u64 0, .int .u64 0, .int .u64 0, .int .u64 0]) := by unfold ZeroIs; kernel_rfl
theorem ty_91 : P.underlying 91 = some (.array 80 32) := by kernel_rfl
theorem eg_91 : Program.eqGuardType P P.depth 91 = false := by kernel_rfl
theorem one_93 : OneT P 93 true := by unfold OneT; kernel_rfl
theorem sz_93 : SizeIs P 93 1 := by unfold SizeIs; kernel_rfl
theorem ce_93 : P.cellsOf 93 = 1 := by kernel_rfl
theorem by_93 : BytesIs P 93 24 := by unfold BytesIs; kernel_rfl
theorem zr_93 : ZeroIs P 93 (.slice none 0 0) := by unfold ZeroIs; kernel_rfl
theorem ty_93 : P.underlying 93 = some (.slice 32) := by kernel_rfl
theorem kd_93 : Kd P 93 := .inl ⟨_, ty_93⟩
theorem one_94 : OneT P 94 false := by unfold OneT; kernel_rfl
theorem sz_94 : SizeIs P 94 12 := by unfold SizeIs; kernel_rfl
theorem ce_94 : P.cellsOf 94 = 12 := by kernel_rfl
theorem by_94 : BytesIs P 94 96 := by unfold BytesIs; kernel_rfl
theorem zr_94 : ZeroIs P 94 (.agg #[.int .i64 0, .int .i64 0, .int .i64 0, .int .i64 0, .int .i64 0, .int .i64 0, .int .i64 0, .int .i64 0, .int .i64 0, .int .i64 0, .int .i64 0, .int .i64 0]) := by unfold ZeroIs; kernel_rfl
theorem ty_94 : P.underlying 94 = some (.array 12 3) := by kernel_rfl
theorem eg_94 : Program.eqGuardType P P.depth 94 = false := by kernel_rfl
theorem one_96 : OneT P 96 false := by unfold OneT; kernel_rfl
theorem sz_96 : SizeIs P 96 16 := by unfold SizeIs; kernel_rfl
theorem ce_96 : P.cellsOf 96 = 16 := by kernel_rfl
theorem by_96 : BytesIs P 96 144 := by unfold BytesIs; kernel_rfl
theorem zr_96 : ZeroIs P 96 (.agg #[.int .i64 0, .int .i64 0, .int .i64 0, .slice none 0 0, .int .i64 0, .int .i64 0, .int .i64 0, .int .i64 0, .int .i64 0, .int .i64 0, .int .i64 0, .int .i64 0, .int .i64 0, .int .i64 0, .int .i64 0, .int .i64 0]) := by unfold ZeroIs; kernel_rfl
theorem fl_96_0 : FieldIs P 96 0 0 := .of (k := 0) (by kernel_rfl)
theorem fl_96_1 : FieldIs P 96 1 1 := .of (k := 0) (by kernel_rfl)
theorem fl_96_2 : FieldIs P 96 2 2 := .of (k := 0) (by kernel_rfl)
theorem fl_96_3 : FieldIs P 96 3 3 := .of (k := 0) (by kernel_rfl)
theorem fl_96_4 : FieldIs P 96 4 4 := .of (k := 11) (by kernel_rfl)
theorem pl_96 : PlacesAre P 96 #[(0, 1), (1, 1), (2, 1), (3, 1), (4, 12)] := .of (by kernel_rfl)
theorem one_110 : OneT P 110 true := by unfold OneT; kernel_rfl
theorem sz_110 : SizeIs P 110 1 := by unfold SizeIs; kernel_rfl
theorem ce_110 : P.cellsOf 110 = 1 := by kernel_rfl
theorem by_110 : BytesIs P 110 1 := by unfold BytesIs; kernel_rfl
theorem zr_110 : ZeroIs P 110 (.int .u8 0) := by unfold ZeroIs; kernel_rfl
theorem ty_110 : P.underlying 110 = some (.int .u8) := by kernel_rfl
theorem has_2 : Has P 2 := ⟨_, Go.Proofs.Try.func2, by kernel_rfl, by kernel_rfl⟩
theorem has_3 : Has P 3 := ⟨_, Go.Proofs.Try.func3, by kernel_rfl, by kernel_rfl⟩
theorem has_4 : Has P 4 := ⟨_, Go.Proofs.Try.func4, by kernel_rfl, by kernel_rfl⟩
theorem has_5 : Has P 5 := ⟨_, Go.Proofs.Try.func5, by kernel_rfl, by kernel_rfl⟩
theorem has_6 : Has P 6 := ⟨_, Go.Proofs.Try.func6, by kernel_rfl, by kernel_rfl⟩
theorem has_7 : Has P 7 := ⟨_, Go.Proofs.Try.func7, by kernel_rfl, by kernel_rfl⟩
theorem has_8 : Has P 8 := ⟨_, Go.Proofs.Try.func8, by kernel_rfl, by kernel_rfl⟩
theorem has_9 : Has P 9 := ⟨_, Go.Proofs.Try.func9, by kernel_rfl, by kernel_rfl⟩
theorem has_10 : Has P 10 := ⟨_, Go.Proofs.Try.func10, by kernel_rfl, by kernel_rfl⟩
theorem has_11 : Has P 11 := ⟨_, Go.Proofs.Try.func11, by kernel_rfl, by kernel_rfl⟩
theorem has_12 : Has P 12 := ⟨_, Go.Proofs.Try.func12, by kernel_rfl, by kernel_rfl⟩
theorem has_13 : Has P 13 := ⟨_, Go.Proofs.Try.func13, by kernel_rfl, by kernel_rfl⟩
theorem has_14 : Has P 14 := ⟨_, Go.Proofs.Try.func14, by kernel_rfl, by kernel_rfl⟩
theorem has_15 : Has P 15 := ⟨_, Go.Proofs.Try.func15, by kernel_rfl, by kernel_rfl⟩
theorem has_16 : Has P 16 := ⟨_, Go.Proofs.Try.func16, by kernel_rfl, by kernel_rfl⟩
theorem has_17 : Has P 17 := ⟨_, Go.Proofs.Try.func17, by kernel_rfl, by kernel_rfl⟩
theorem has_18 : Has P 18 := ⟨_, Go.Proofs.Try.func18, by kernel_rfl, by kernel_rfl⟩
theorem has_19 : Has P 19 := ⟨_, Go.Proofs.Try.func19, by kernel_rfl, by kernel_rfl⟩
theorem has_20 : Has P 20 := ⟨_, Go.Proofs.Try.func20, by kernel_rfl, by kernel_rfl⟩
theorem has_21 : Has P 21 := ⟨_, Go.Proofs.Try.func21, by kernel_rfl, by kernel_rfl⟩
theorem has_22 : Has P 22 := ⟨_, Go.Proofs.Try.func22, by kernel_rfl, by kernel_rfl⟩
theorem has_23 : Has P 23 := ⟨_, Go.Proofs.Try.func23, by kernel_rfl, by kernel_rfl⟩
theorem has_24 : Has P 24 := ⟨_, Go.Proofs.Try.func24, by kernel_rfl, by kernel_rfl⟩
theorem has_25 : Has P 25 := ⟨_, Go.Proofs.Try.func25, by kernel_rfl, by kernel_rfl⟩
theorem has_26 : Has P 26 := ⟨_, Go.Proofs.Try.func26, by kernel_rfl, by kernel_rfl⟩
theorem has_27 : Has P 27 := ⟨_, Go.Proofs.Try.func27, by kernel_rfl, by kernel_rfl⟩
theorem has_28 : Has P 28 := ⟨_, Go.Proofs.Try.func28, by kernel_rfl, by kernel_rfl⟩
theorem has_29 : Has P 29 := ⟨_, Go.Proofs.Try.func29, by kernel_rfl, by kernel_rfl⟩
theorem has_30 : Has P 30 := ⟨_, Go.Proofs.Try.func30, by kernel_rfl, by kernel_rfl⟩
theorem has_31 : Has P 31 := ⟨_, Go.Proofs.Try.func31, by kernel_rfl, by kernel_rfl⟩
theorem has_32 : Has P 32 := ⟨_, Go.Proofs.Try.func32, by kernel_rfl, by kernel_rfl⟩
theorem has_33 : Has P 33 := ⟨_, Go.Proofs.Try.func33, by kernel_rfl, by kernel_rfl⟩
theorem has_34 : Has P 34 := ⟨_, Go.Proofs.Try.func34, by kernel_rfl, by kernel_rfl⟩
theorem has_35 : Has P 35 := ⟨_, Go.Proofs.Try.func35, by kernel_rfl, by kernel_rfl⟩
theorem has_36 : Has P 36 := ⟨_, Go.Proofs.Try.func36, by kernel_rfl, by kernel_rfl⟩
theorem has_37 : Has P 37 := ⟨_, Go.Proofs.Try.func37, by kernel_rfl, by kernel_rfl⟩
theorem has_38 : Has P 38 := ⟨_, Go.Proofs.Try.func38, by kernel_rfl, by kernel_rfl⟩
theorem has_39 : Has P 39 := ⟨_, Go.Proofs.Try.func39, by kernel_rfl, by kernel_rfl⟩
theorem has_40 : Has P 40 := ⟨_, Go.Proofs.Try.func40, by kernel_rfl, by kernel_rfl⟩
theorem has_41 : Has P 41 := ⟨_, Go.Proofs.Try.func41, by kernel_rfl, by kernel_rfl⟩
theorem has_42 : Has P 42 := ⟨_, Go.Proofs.Try.func42, by kernel_rfl, by kernel_rfl⟩
theorem has_43 : Has P 43 := ⟨_, Go.Proofs.Try.func43, by kernel_rfl, by kernel_rfl⟩
theorem has_44 : Has P 44 := ⟨_, Go.Proofs.Try.func44, by kernel_rfl, by kernel_rfl⟩
end Go.Proofs.Ytmolpgnekcfimaa.S
