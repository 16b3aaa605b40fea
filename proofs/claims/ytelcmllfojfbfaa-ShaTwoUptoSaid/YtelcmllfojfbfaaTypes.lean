/- The closed facts of this seat's program: its types and functions, as the kernel reckons them. Written by a program of the prover's own (gen.py). -/
import Derived.Test.YtelcmllfojfbfaaOps8
import Derived.Test.YtelcmllfojfbfaaProg
namespace Go.Proofs.Ytelcmllfojfbfaa.S
noncomputable abbrev P : Program := Go.Proofs.Try.prog
theorem mixed : P.follows .mixedOrders = true := by kernel_rfl
theorem one_0 : OneT P 0 true := by unfold OneT; kernel_rfl
theorem sz_0 : SizeIs P 0 1 := by unfold SizeIs; kernel_rfl
theorem ce_0 : P.cellsOf 0 = 1 := by kernel_rfl
theorem by_0 : BytesIs P 0 0 := by unfold BytesIs; kernel_rfl
theorem zr_0 : ZeroIs P 0 (.tuple #[]) := by unfold ZeroIs; kernel_rfl
theorem one_2 : OneT P 2 true := by unfold OneT; kernel_rfl
theorem sz_2 : SizeIs P 2 1 := by unfold SizeIs; kernel_rfl
theorem ce_2 : P.cellsOf 2 = 1 := by kernel_rfl
theorem by_2 : BytesIs P 2 8 := by unfold BytesIs; kernel_rfl
theorem zr_2 : ZeroIs P 2 (.int .i64 0) := by unfold ZeroIs; kernel_rfl
theorem ty_2 : P.underlying 2 = some (.int .i64) := by kernel_rfl
theorem one_3 : OneT P 3 true := by unfold OneT; kernel_rfl
theorem sz_3 : SizeIs P 3 1 := by unfold SizeIs; kernel_rfl
theorem ce_3 : P.cellsOf 3 = 1 := by kernel_rfl
theorem by_3 : BytesIs P 3 8 := by unfold BytesIs; kernel_rfl
theorem zr_3 : ZeroIs P 3 (.int .i64 0) := by unfold ZeroIs; kernel_rfl
theorem ty_3 : P.underlying 3 = some (.int .i64) := by kernel_rfl
theorem one_4 : OneT P 4 true := by unfold OneT; kernel_rfl
theorem sz_4 : SizeIs P 4 1 := by unfold SizeIs; kernel_rfl
theorem ce_4 : P.cellsOf 4 = 1 := by kernel_rfl
theorem by_4 : BytesIs P 4 1 := by unfold BytesIs; kernel_rfl
theorem zr_4 : ZeroIs P 4 (.bool false) := by unfold ZeroIs; kernel_rfl
theorem ty_4 : P.underlying 4 = some .bool := by kernel_rfl
theorem one_5 : OneT P 5 true := by unfold OneT; kernel_rfl
theorem sz_5 : SizeIs P 5 1 := by unfold SizeIs; kernel_rfl
theorem ce_5 : P.cellsOf 5 = 1 := by kernel_rfl
theorem by_5 : BytesIs P 5 1 := by unfold BytesIs; kernel_rfl
theorem zr_5 : ZeroIs P 5 (.int .u8 0) := by unfold ZeroIs; kernel_rfl
theorem ty_5 : P.underlying 5 = some (.int .u8) := by kernel_rfl
theorem one_6 : OneT P 6 true := by unfold OneT; kernel_rfl
theorem sz_6 : SizeIs P 6 1 := by unfold SizeIs; kernel_rfl
theorem ce_6 : P.cellsOf 6 = 1 := by kernel_rfl
theorem by_6 : BytesIs P 6 1 := by unfold BytesIs; kernel_rfl
theorem zr_6 : ZeroIs P 6 (.int .u8 0) := by unfold ZeroIs; kernel_rfl
theorem ty_6 : P.underlying 6 = some (.int .u8) := by kernel_rfl
theorem one_8 : OneT P 8 false := by unfold OneT; kernel_rfl
theorem sz_8 : SizeIs P 8 4 := by unfold SizeIs; kernel_rfl
theorem ce_8 : P.cellsOf 8 = 4 := by kernel_rfl
theorem by_8 : BytesIs P 8 24 := by unfold BytesIs; kernel_rfl
theorem zr_8 : ZeroIs P 8 (.agg #[.int .i64 0, .int .i64 0, .bool false, .int .u8 0]) := by unfold ZeroIs; kernel_rfl
theorem fl_8_0 : FieldIs P 8 0 0 := .of (k := 0) (by kernel_rfl)
theorem fl_8_1 : FieldIs P 8 1 1 := .of (k := 0) (by kernel_rfl)
theorem fl_8_2 : FieldIs P 8 2 2 := .of (k := 0) (by kernel_rfl)
theorem fl_8_3 : FieldIs P 8 3 3 := .of (k := 0) (by kernel_rfl)
theorem pl_8 : PlacesAre P 8 #[(0, 1), (1, 1), (2, 1), (3, 1)] := .of (by kernel_rfl)
theorem one_9 : OneT P 9 true := by unfold OneT; kernel_rfl
theorem sz_9 : SizeIs P 9 1 := by unfold SizeIs; kernel_rfl
theorem ce_9 : P.cellsOf 9 = 1 := by kernel_rfl
theorem by_9 : BytesIs P 9 16 := by unfold BytesIs; kernel_rfl
theorem zr_9 : ZeroIs P 9 (.string ⟨#[]⟩) := by unfold ZeroIs; kernel_rfl
theorem ty_9 : P.underlying 9 = some .string := by kernel_rfl
theorem kd_9 : Kd P 9 := .inr ty_9
theorem one_10 : OneT P 10 true := by unfold OneT; kernel_rfl
theorem sz_10 : SizeIs P 10 1 := by unfold SizeIs; kernel_rfl
theorem ce_10 : P.cellsOf 10 = 1 := by kernel_rfl
theorem by_10 : BytesIs P 10 16 := by unfold BytesIs; kernel_rfl
theorem zr_10 : ZeroIs P 10 (.string ⟨#[]⟩) := by unfold ZeroIs; kernel_rfl
theorem ty_10 : P.underlying 10 = some .string := by kernel_rfl
theorem kd_10 : Kd P 10 := .inr ty_10
theorem one_11 : OneT P 11 true := by unfold OneT; kernel_rfl
theorem sz_11 : SizeIs P 11 1 := by unfold SizeIs; kernel_rfl
theorem ce_11 : P.cellsOf 11 = 1 := by kernel_rfl
theorem by_11 : BytesIs P 11 16 := by unfold BytesIs; kernel_rfl
theorem zr_11 : ZeroIs P 11 (.string ⟨#[]⟩) := by unfold ZeroIs; kernel_rfl
theorem ty_11 : P.underlying 11 = some .string := by kernel_rfl
theorem kd_11 : Kd P 11 := .inr ty_11
theorem one_12 : OneT P 12 true := by unfold OneT; kernel_rfl
theorem sz_12 : SizeIs P 12 1 := by unfold SizeIs; kernel_rfl
theorem ce_12 : P.cellsOf 12 = 1 := by kernel_rfl
theorem by_12 : BytesIs P 12 8 := by unfold BytesIs; kernel_rfl
theorem zr_12 : ZeroIs P 12 (.int .u64 0) := by unfold ZeroIs; kernel_rfl
theorem ty_12 : P.underlying 12 = some (.int .u64) := by kernel_rfl
theorem one_14 : OneT P 14 false := by unfold OneT; kernel_rfl
theorem sz_14 : SizeIs P 14 2 := by unfold SizeIs; kernel_rfl
theorem ce_14 : P.cellsOf 14 = 2 := by kernel_rfl
theorem by_14 : BytesIs P 14 24 := by unfold BytesIs; kernel_rfl
theorem zr_14 : ZeroIs P 14 (.agg #[.string ⟨#[]⟩, .int .u64 0]) := by unfold ZeroIs; kernel_rfl
theorem fl_14_0 : FieldIs P 14 0 0 := .of (k := 0) (by kernel_rfl)
theorem fl_14_1 : FieldIs P 14 1 1 := .of (k := 0) (by kernel_rfl)
theorem pl_14 : PlacesAre P 14 #[(0, 1), (1, 1)] := .of (by kernel_rfl)
theorem one_15 : OneT P 15 true := by unfold OneT; kernel_rfl
theorem sz_15 : SizeIs P 15 1 := by unfold SizeIs; kernel_rfl
theorem ce_15 : P.cellsOf 15 = 1 := by kernel_rfl
theorem by_15 : BytesIs P 15 8 := by unfold BytesIs; kernel_rfl
theorem zr_15 : ZeroIs P 15 (.pointer none) := by unfold ZeroIs; kernel_rfl
theorem ty_15 : P.underlying 15 = some (.pointer 102) := by kernel_rfl
theorem one_16 : OneT P 16 true := by unfold OneT; kernel_rfl
theorem sz_16 : SizeIs P 16 1 := by unfold SizeIs; kernel_rfl
theorem ce_16 : P.cellsOf 16 = 1 := by kernel_rfl
theorem by_16 : BytesIs P 16 8 := by unfold BytesIs; kernel_rfl
theorem zr_16 : ZeroIs P 16 (.pointer none) := by unfold ZeroIs; kernel_rfl
theorem ty_16 : P.underlying 16 = some (.pointer 105) := by kernel_rfl
theorem one_17 : OneT P 17 true := by unfold OneT; kernel_rfl
theorem sz_17 : SizeIs P 17 1 := by unfold SizeIs; kernel_rfl
theorem ce_17 : P.cellsOf 17 = 1 := by kernel_rfl
theorem by_17 : BytesIs P 17 8 := by unfold BytesIs; kernel_rfl
theorem zr_17 : ZeroIs P 17 (.pointer none) := by unfold ZeroIs; kernel_rfl
theorem ty_17 : P.underlying 17 = some (.pointer 113) := by kernel_rfl
theorem one_19 : OneT P 19 false := by unfold OneT; kernel_rfl
theorem sz_19 : SizeIs P 19 1 := by unfold SizeIs; kernel_rfl
theorem ce_19 : P.cellsOf 19 = 1 := by kernel_rfl
theorem by_19 : BytesIs P 19 8 := by unfold BytesIs; kernel_rfl
theorem zr_19 : ZeroIs P 19 (.agg #[.pointer none]) := by unfold ZeroIs; kernel_rfl
theorem fl_19_0 : FieldIs P 19 0 0 := .of (k := 0) (by kernel_rfl)
theorem pl_19 : PlacesAre P 19 #[(0, 1)] := .of (by kernel_rfl)
theorem one_22 : OneT P 22 true := by unfold OneT; kernel_rfl
theorem sz_22 : SizeIs P 22 1 := by unfold SizeIs; kernel_rfl
theorem ce_22 : P.cellsOf 22 = 1 := by kernel_rfl
theorem by_22 : BytesIs P 22 24 := by unfold BytesIs; kernel_rfl
theorem zr_22 : ZeroIs P 22 (.slice none 0 0) := by unfold ZeroIs; kernel_rfl
theorem ty_22 : P.underlying 22 = some (.slice 5) := by kernel_rfl
theorem kd_22 : Kd P 22 := .inl ⟨_, ty_22⟩
theorem one_26 : OneT P 26 false := by unfold OneT; kernel_rfl
theorem sz_26 : SizeIs P 26 32 := by unfold SizeIs; kernel_rfl
theorem ce_26 : P.cellsOf 26 = 32 := by kernel_rfl
theorem by_26 : BytesIs P 26 32 := by unfold BytesIs; kernel_rfl
theorem zr_26 : ZeroIs P 26 (.agg #[.int .u8 0, .int .u8 0, .int .u8 0, .int .u8 0, .int .u8 0, .int .u8 0, .int .u8 0, .int .u8 0, .int .u8 0, .int .u8 0, .int .u8 0, .int .u8 0, .int .u8 0, .int .u8 0, .int .u8 0, .int .u8 0, .int .u8 0, .int .u8 0, .int .u8 0, .int .u8 0, .int .u8 0, .int .u8 0, .int .u8 0, .int .u8 0, .int .u8 0, .int .u8 0, .int .u8 0, .int .u8 0, .int .u8 0, .int .u8 0, .int .u8 0, .int .u8 0]) := by unfold ZeroIs; kernel_rfl
theorem ty_26 : P.underlying 26 = some (.array 32 5) := by kernel_rfl
theorem eg_26 : Program.eqGuardType P P.depth 26 = false := by kernel_rfl
theorem one_30 : OneT P 30 false := by unfold OneT; kernel_rfl
theorem sz_30 : SizeIs P 30 64 := by unfold SizeIs; kernel_rfl
theorem ce_30 : P.cellsOf 30 = 64 := by kernel_rfl
theorem by_30 : BytesIs P 30 64 := by unfold BytesIs; kernel_rfl
theorem zr_30 : ZeroIs P 30 (.agg #[.int .u8 0, .int .u8 0, .int .u8 0, .int .u8 0, .int .u8 0, .int .u8 0, .int .u8 0, .int .u8 0, .int .u8 0, .int .u8 0, .int .u8 0, .int .u8 0, .int .u8 0, .int .u8 0, .int .u8 0, .int .u8 0, .int .u8 0, .int .u8 0, .int .u8 0, .int .u8 0, .int .u8 0, .int .u8 0, .int .u8 0, .int .u8 0, .int .u8 0, .int .u8 0, .int .u8 0, .int .u8 0, .int .u8 0, .int .u8 0, .int .u8 0, .int .u8 0, .int .u8 0, .int .u8 0, .int .u8 0, .int .u8 0, .int .u8 0, .int .u8 0, .int .u8 0, .int .u8 0, .int .u8 0, .int .u8 0, .int .u8 0, .int .u8 0, .int .u8 0, .int .u8 0, .int .u8 0, .int .u8 0, .int .u8 0, .int .u8 0, .int .u8 0, .int .u8 0, .int .u8 0, .int .u8 0, .int .u8 0, .int .u8 0, .int .u8 0, .int .u8 0, .int .u8 0, .int .u8 0, .int .u8 0, .int .u8 0, .int .u8 0, .int .u8 0]) := by unfold ZeroIs; kernel_rfl
theorem ty_30 : P.underlying 30 = some (.array 64 5) := by kernel_rfl
theorem eg_30 : Program.eqGuardType P P.depth 30 = false := by kernel_rfl
theorem one_31 : OneT P 31 false := by unfold OneT; kernel_rfl
theorem sz_31 : SizeIs P 31 64 := by unfold SizeIs; kernel_rfl
theorem ce_31 : P.cellsOf 31 = 64 := by kernel_rfl
theorem by_31 : BytesIs P 31 64 := by unfold BytesIs; kernel_rfl
theorem zr_31 : ZeroIs P 31 (.agg #[.int .u8 0, .int .u8 0, .int .u8 0, .int .u8 0, .int .u8 0, .int .u8 0, .int .u8 0, .int .u8 0, .int .u8 0, .int .u8 0, .int .u8 0, .int .u8 0, .int .u8 0, .int .u8 0, .int .u8 0, .int .u8 0, .int .u8 0, .int .u8 0, .int .u8 0, .int .u8 0, .int .u8 0, .int .u8 0, .int .u8 0, .int .u8 0, .int .u8 0, .int .u8 0, .int .u8 0, .int .u8 0, .int .u8 0, .int .u8 0, .int .u8 0, .int .u8 0, .int .u8 0, .int .u8 0, .int .u8 0, .int .u8 0, .int .u8 0, .int .u8 0, .int .u8 0, .int .u8 0, .int .u8 0, .int .u8 0, .int .u8 0, .int .u8 0, .int .u8 0, .int .u8 0, .int .u8 0, .int .u8 0, .int .u8 0, .int .u8 0, .int .u8 0, .int .u8 0, .int .u8 0, .int .u8 0, .int .u8 0, .int .u8 0, .int .u8 0, .int .u8 0, .int .u8 0, .int .u8 0, .int .u8 0, .int .u8 0, .int .u8 0, .int .u8 0]) := by unfold ZeroIs; kernel_rfl
theorem ty_31 : P.underlying 31 = some (.array 64 5) := by kernel_rfl
theorem eg_31 : Program.eqGuardType P P.depth 31 = false := by kernel_rfl
theorem one_37 : OneT P 37 true := by unfold OneT; kernel_rfl
theorem sz_37 : SizeIs P 37 1 := by unfold SizeIs; kernel_rfl
theorem ce_37 : P.cellsOf 37 = 1 := by kernel_rfl
theorem by_37 : BytesIs P 37 8 := by unfold BytesIs; kernel_rfl
theorem zr_37 : ZeroIs P 37 (.pointer none) := by unfold ZeroIs; kernel_rfl
theorem ty_37 : P.underlying 37 = some (.pointer 42) := by kernel_rfl
theorem one_40 : OneT P 40 true := by unfold OneT; kernel_rfl
theorem sz_40 : SizeIs P 40 1 := by unfold SizeIs; kernel_rfl
theorem ce_40 : P.cellsOf 40 = 1 := by kernel_rfl
theorem by_40 : BytesIs P 40 8 := by unfold BytesIs; kernel_rfl
theorem zr_40 : ZeroIs P 40 (.pointer none) := by unfold ZeroIs; kernel_rfl
theorem ty_40 : P.underlying 40 = some (.pointer 52) := by kernel_rfl
theorem one_42 : OneT P 42 false := by unfold OneT; kernel_rfl
theorem sz_42 : SizeIs P 42 65 := by unfold SizeIs; kernel_rfl
theorem ce_42 : P.cellsOf 42 = 65 := by kernel_rfl
theorem by_42 : BytesIs P 42 72 := by unfold BytesIs; kernel_rfl
theorem zr_42 : ZeroIs P 42 (.agg #[.pointer none, .int .u8 0, .int .u8 0, .int .u8 0, .int .u8 0, .int .u8 0, .int .u8 0, .int .u8 0, .int .u8 0, .int .u8 0, .int .u8 0, .int .u8 0, .int .u8 0, .int .u8 0, .int .u8 0, .int .u8 0, .int .u8 0, .int .u8 0, .int .u8 0, .int .u8 0, .int .u8 0, .int .u8 0, .int .u8 0, .int .u8 0, .int .u8 0, .int .u8 0, .int .u8 0, .int .u8 0, .int .u8 0, .int .u8 0, .int .u8 0, .int .u8 0, .int .u8 0, .int .u8 0, .int .u8 0, .int .u8 0, .int .u8 0, .int .u8 0, .int .u8 0, .int .u8 0, .int .u8 0, .int .u8 0, .int .u8 0, .int .u8 0, .int .u8 0, .int .u8 0, .int .u8 0, .int .u8 0, .int .u8 0, .int .u8 0, .int .u8 0, .int .u8 0, .int .u8 0, .int .u8 0, .int .u8 0, .int .u8 0, .int .u8 0, .int .u8 0, .int .u8 0, .int .u8 0, .int .u8 0, .int .u8 0, .int .u8 0, .int .u8 0, .int .u8 0]) := by unfold ZeroIs; kernel_rfl
theorem fl_42_0 : FieldIs P 42 0 0 := .of (k := 0) (by kernel_rfl)
theorem fl_42_1 : FieldIs P 42 1 1 := .of (k := 63) (by kernel_rfl)
theorem pl_42 : PlacesAre P 42 #[(0, 1), (1, 64)] := .of (by kernel_rfl)
theorem one_44 : OneT P 44 true := by unfold OneT; kernel_rfl
theorem sz_44 : SizeIs P 44 1 := by unfold SizeIs; kernel_rfl
theorem ce_44 : P.cellsOf 44 = 1 := by kernel_rfl
theorem by_44 : BytesIs P 44 24 := by unfold BytesIs; kernel_rfl
theorem zr_44 : ZeroIs P 44 (.slice none 0 0) := by unfold ZeroIs; kernel_rfl
theorem ty_44 : P.underlying 44 = some (.slice 22) := by kernel_rfl
theorem kd_44 : Kd P 44 := .inl ⟨_, ty_44⟩
theorem one_46 : OneT P 46 true := by unfold OneT; kernel_rfl
theorem sz_46 : SizeIs P 46 1 := by unfold SizeIs; kernel_rfl
theorem ce_46 : P.cellsOf 46 = 1 := by kernel_rfl
theorem by_46 : BytesIs P 46 8 := by unfold BytesIs; kernel_rfl
theorem zr_46 : ZeroIs P 46 (.int .u64 0) := by unfold ZeroIs; kernel_rfl
theorem ty_46 : P.underlying 46 = some (.int .u64) := by kernel_rfl
theorem one_48 : OneT P 48 false := by unfold OneT; kernel_rfl
theorem sz_48 : SizeIs P 48 2 := by unfold SizeIs; kernel_rfl
theorem ce_48 : P.cellsOf 48 = 2 := by kernel_rfl
theorem by_48 : BytesIs P 48 32 := by unfold BytesIs; kernel_rfl
theorem zr_48 : ZeroIs P 48 (.agg #[.slice none 0 0, .int .u64 0]) := by unfold ZeroIs; kernel_rfl
theorem fl_48_0 : FieldIs P 48 0 0 := .of (k := 0) (by kernel_rfl)
theorem fl_48_1 : FieldIs P 48 1 1 := .of (k := 0) (by kernel_rfl)
theorem pl_48 : PlacesAre P 48 #[(0, 1), (1, 1)] := .of (by kernel_rfl)
theorem one_49 : OneT P 49 true := by unfold OneT; kernel_rfl
theorem sz_49 : SizeIs P 49 1 := by unfold SizeIs; kernel_rfl
theorem ce_49 : P.cellsOf 49 = 1 := by kernel_rfl
theorem by_49 : BytesIs P 49 4 := by unfold BytesIs; kernel_rfl
theorem zr_49 : ZeroIs P 49 (.int .u32 0) := by unfold ZeroIs; kernel_rfl
theorem ty_49 : P.underlying 49 = some (.int .u32) := by kernel_rfl
theorem one_50 : OneT P 50 false := by unfold OneT; kernel_rfl
theorem sz_50 : SizeIs P 50 8 := by unfold SizeIs; kernel_rfl
theorem ce_50 : P.cellsOf 50 = 8 := by kernel_rfl
theorem by_50 : BytesIs P 50 32 := by unfold BytesIs; kernel_rfl
theorem zr_50 : ZeroIs P 50 (.agg #[.int .u32 0, .int .u32 0, .int .u32 0, .int .u32 0, .int .u32 0, .int .u32 0, .int .u32 0, .int .u32 0]) := by unfold ZeroIs; kernel_rfl
theorem ty_50 : P.underlying 50 = some (.array 8 49) := by kernel_rfl
theorem eg_50 : Program.eqGuardType P P.depth 50 = false := by kernel_rfl
theorem one_52 : OneT P 52 false := by unfold OneT; kernel_rfl
theorem sz_52 : SizeIs P 52 10 := by unfold SizeIs; kernel_rfl
theorem ce_52 : P.cellsOf 52 = 10 := by kernel_rfl
theorem by_52 : BytesIs P 52 64 := by unfold BytesIs; kernel_rfl
theorem zr_52 : ZeroIs P 52 (.agg #[.slice none 0 0, .int .u64 0, .int .u32 0, .int .u32 0, .int .u32 0, .int .u32 0, .int .u32 0, .int .u32 0, .int .u32 0, .int .u32 0]) := by unfold ZeroIs; kernel_rfl
theorem fl_52_0 : FieldIs P 52 0 0 := .of (k := 1) (by kernel_rfl)
theorem fl_52_1 : FieldIs P 52 1 2 := .of (k := 7) (by kernel_rfl)
theorem pl_52 : PlacesAre P 52 #[(0, 2), (2, 8)] := .of (by kernel_rfl)
theorem one_55 : OneT P 55 true := by unfold OneT; kernel_rfl
theorem sz_55 : SizeIs P 55 1 := by unfold SizeIs; kernel_rfl
theorem ce_55 : P.cellsOf 55 = 1 := by kernel_rfl
theorem by_55 : BytesIs P 55 8 := by unfold BytesIs; kernel_rfl
theorem zr_55 : ZeroIs P 55 (.int .i64 0) := by unfold ZeroIs; kernel_rfl
theorem ty_55 : P.underlying 55 = some (.int .i64) := by kernel_rfl
theorem one_56 : OneT P 56 true := by unfold OneT; kernel_rfl
theorem sz_56 : SizeIs P 56 1 := by unfold SizeIs; kernel_rfl
theorem ce_56 : P.cellsOf 56 = 1 := by kernel_rfl
theorem by_56 : BytesIs P 56 0 := by unfold BytesIs; kernel_rfl
theorem zr_56 : ZeroIs P 56 (.tuple #[.slice none 0 0, .int .i64 0]) := by unfold ZeroIs; kernel_rfl
theorem one_58 : OneT P 58 true := by unfold OneT; kernel_rfl
theorem sz_58 : SizeIs P 58 1 := by unfold SizeIs; kernel_rfl
theorem ce_58 : P.cellsOf 58 = 1 := by kernel_rfl
theorem by_58 : BytesIs P 58 0 := by unfold BytesIs; kernel_rfl
theorem zr_58 : ZeroIs P 58 (.tuple #[.string ⟨#[]⟩, .int .i64 0]) := by unfold ZeroIs; kernel_rfl
theorem one_61 : OneT P 61 false := by unfold OneT; kernel_rfl
theorem sz_61 : SizeIs P 61 2 := by unfold SizeIs; kernel_rfl
theorem ce_61 : P.cellsOf 61 = 2 := by kernel_rfl
theorem by_61 : BytesIs P 61 16 := by unfold BytesIs; kernel_rfl
theorem zr_61 : ZeroIs P 61 (.agg #[.int .i64 0, .int .i64 0]) := by unfold ZeroIs; kernel_rfl
theorem ty_61 : P.underlying 61 = some (.array 2 3) := by kernel_rfl
theorem eg_61 : Program.eqGuardType P P.depth 61 = false := by kernel_rfl
theorem one_66 : OneT P 66 true := by unfold OneT; kernel_rfl
theorem sz_66 : SizeIs P 66 1 := by unfold SizeIs; kernel_rfl
theorem ce_66 : P.cellsOf 66 = 1 := by kernel_rfl
theorem by_66 : BytesIs P 66 8 := by unfold BytesIs; kernel_rfl
theorem zr_66 : ZeroIs P 66 (.pointer none) := by unfold ZeroIs; kernel_rfl
theorem ty_66 : P.underlying 66 = some (.pointer 72) := by kernel_rfl
theorem one_70 : OneT P 70 false := by unfold OneT; kernel_rfl
theorem sz_70 : SizeIs P 70 8 := by unfold SizeIs; kernel_rfl
theorem ce_70 : P.cellsOf 70 = 8 := by kernel_rfl
theorem by_70 : BytesIs P 70 64 := by unfold BytesIs; kernel_rfl
theorem zr_70 : ZeroIs P 70 (.agg #[.int .u64 0, .int .u64 0, .int .u64 0, .int .u64 0, .int .u64 0, .int .u64 0, .int .u64 0, .int .u64 0]) := by unfold ZeroIs; kernel_rfl
theorem ty_70 : P.underlying 70 = some (.array 8 46) := by kernel_rfl
theorem eg_70 : Program.eqGuardType P P.depth 70 = false := by kernel_rfl
theorem one_72 : OneT P 72 false := by unfold OneT; kernel_rfl
theorem sz_72 : SizeIs P 72 10 := by unfold SizeIs; kernel_rfl
theorem ce_72 : P.cellsOf 72 = 10 := by kernel_rfl
theorem by_72 : BytesIs P 72 96 := by unfold BytesIs; kernel_rfl
theorem zr_72 : ZeroIs P 72 (.agg #[.slice none 0 0, .int .u64 0, .int .u64 0, .int .u64 0, .int .u64 0, .int .u64 0, .int .u64 0, .int .u64 0, .int .u64 0, .int .u64 0]) := by unfold ZeroIs; kernel_rfl
theorem fl_72_0 : FieldIs P 72 0 0 := .of (k := 1) (by kernel_rfl)
theorem fl_72_1 : FieldIs P 72 1 2 := .of (k := 7) (by kernel_rfl)
theorem pl_72 : PlacesAre P 72 #[(0, 2), (2, 8)] := .of (by kernel_rfl)
theorem one_74 : OneT P 74 true := by unfold OneT; kernel_rfl
theorem sz_74 : SizeIs P 74 1 := by unfold SizeIs; kernel_rfl
theorem ce_74 : P.cellsOf 74 = 1 := by kernel_rfl
theorem by_74 : BytesIs P 74 24 := by unfold BytesIs; kernel_rfl
theorem zr_74 : ZeroIs P 74 (.slice none 0 0) := by unfold ZeroIs; kernel_rfl
theorem ty_74 : P.underlying 74 = some (.slice 26) := by kernel_rfl
theorem kd_74 : Kd P 74 := .inl ⟨_, ty_74⟩
theorem one_75 : OneT P 75 true := by unfold OneT; kernel_rfl
theorem sz_75 : SizeIs P 75 1 := by unfold SizeIs; kernel_rfl
theorem ce_75 : P.cellsOf 75 = 1 := by kernel_rfl
theorem by_75 : BytesIs P 75 0 := by unfold BytesIs; kernel_rfl
theorem zr_75 : ZeroIs P 75 (.tuple #[.slice none 0 0, .int .i64 0]) := by unfold ZeroIs; kernel_rfl
theorem one_77 : OneT P 77 true := by unfold OneT; kernel_rfl
theorem sz_77 : SizeIs P 77 1 := by unfold SizeIs; kernel_rfl
theorem ce_77 : P.cellsOf 77 = 1 := by kernel_rfl
theorem by_77 : BytesIs P 77 0 := by unfold BytesIs; kernel_rfl
theorem zr_77 : ZeroIs P 77 (.tuple #[.slice none 0 0, .int .i64 0]) := by unfold ZeroIs; kernel_rfl
theorem one_80 : OneT P 80 true := by unfold OneT; kernel_rfl
theorem sz_80 : SizeIs P 80 1 := by unfold SizeIs; kernel_rfl
theorem ce_80 : P.cellsOf 80 = 1 := by kernel_rfl
theorem by_80 : BytesIs P 80 24 := by unfold BytesIs; kernel_rfl
theorem zr_80 : ZeroIs P 80 (.slice none 0 0) := by unfold ZeroIs; kernel_rfl
theorem ty_80 : P.underlying 80 = some (.slice 46) := by kernel_rfl
theorem kd_80 : Kd P 80 := .inl ⟨_, ty_80⟩
theorem one_81 : OneT P 81 false := by unfold OneT; kernel_rfl
theorem sz_81 : SizeIs P 81 12 := by unfold SizeIs; kernel_rfl
theorem ce_81 : P.cellsOf 81 = 12 := by kernel_rfl
theorem by_81 : BytesIs P 81 96 := by unfold BytesIs; kernel_rfl
theorem zr_81 : ZeroIs P 81 (.agg #[.int .i64 0, .int .i64 0, .int .i64 0, .int .i64 0, .int .i64 0, .int .i64 0, .int .i64 0, .int .i64 0, .int .i64 0, .int .i64 0, .int .i64 0, .int .i64 0]) := by unfold ZeroIs; kernel_rfl
theorem ty_81 : P.underlying 81 = some (.array 12 3) := by kernel_rfl
theorem eg_81 : Program.eqGuardType P P.depth 81 = false := by kernel_rfl
theorem one_83 : OneT P 83 false := by unfold OneT; kernel_rfl
theorem sz_83 : SizeIs P 83 16 := by unfold SizeIs; kernel_rfl
theorem ce_83 : P.cellsOf 83 = 16 := by kernel_rfl
theorem by_83 : BytesIs P 83 144 := by unfold BytesIs; kernel_rfl
theorem zr_83 : ZeroIs P 83 (.agg #[.int .i64 0, .int .i64 0, .int .i64 0, .slice none 0 0, .int .i64 0, .int .i64 0, .int .i64 0, .int .i64 0, .int .i64 0, .int .i64 0, .int .i64 0, .int .i64 0, .int .i64 0, .int .i64 0, .int .i64 0, .int .i64 0]) := by unfold ZeroIs; kernel_rfl
theorem fl_83_0 : FieldIs P 83 0 0 := .of (k := 0) (by kernel_rfl)
theorem fl_83_1 : FieldIs P 83 1 1 := .of (k := 0) (by kernel_rfl)
theorem fl_83_2 : FieldIs P 83 2 2 := .of (k := 0) (by kernel_rfl)
theorem fl_83_3 : FieldIs P 83 3 3 := .of (k := 0) (by kernel_rfl)
theorem fl_83_4 : FieldIs P 83 4 4 := .of (k := 11) (by kernel_rfl)
theorem pl_83 : PlacesAre P 83 #[(0, 1), (1, 1), (2, 1), (3, 1), (4, 12)] := .of (by kernel_rfl)
theorem one_87 : OneT P 87 true := by unfold OneT; kernel_rfl
theorem sz_87 : SizeIs P 87 1 := by unfold SizeIs; kernel_rfl
theorem ce_87 : P.cellsOf 87 = 1 := by kernel_rfl
theorem by_87 : BytesIs P 87 8 := by unfold BytesIs; kernel_rfl
theorem zr_87 : ZeroIs P 87 (.nilFunc) := by unfold ZeroIs; kernel_rfl
theorem one_88 : OneT P 88 true := by unfold OneT; kernel_rfl
theorem sz_88 : SizeIs P 88 1 := by unfold SizeIs; kernel_rfl
theorem ce_88 : P.cellsOf 88 = 1 := by kernel_rfl
theorem by_88 : BytesIs P 88 8 := by unfold BytesIs; kernel_rfl
theorem zr_88 : ZeroIs P 88 (.pointer none) := by unfold ZeroIs; kernel_rfl
theorem ty_88 : P.underlying 88 = some (.pointer 48) := by kernel_rfl
theorem one_95 : OneT P 95 false := by unfold OneT; kernel_rfl
theorem sz_95 : SizeIs P 95 64 := by unfold SizeIs; kernel_rfl
theorem ce_95 : P.cellsOf 95 = 64 := by kernel_rfl
theorem by_95 : BytesIs P 95 256 := by unfold BytesIs; kernel_rfl
theorem zr_95 : ZeroIs P 95 (.agg #[.int .u32 0, .int .u32 0, .int .u32 0, .int .u32 0, .int .u32 0, .int .u32 0, .int .u32 0, .int .u32 0, .int .u32 0, .int .u32 0, .int .u32 0, .int .u32 0, .int .u32 0, .int .u32 0, .int .u32 0, .int .u32 0, .int .u32 0, .int .u32 0, .int .u32 0, .int .u32 0, .int .u32 0, .int .u32 0, .int .u32 0, .int .u32 0, .int .u32 0, .int .u32 0, .int .u32 0, .int .u32 0, .int .u32 0, .int .u32 0, .int .u32 0, .int .u32 0, .int .u32 0, .int .u32 0, .int .u32 0, .int .u32 0, .int .u32 0, .int .u32 0, .int .u32 0, .int .u32 0, .int .u32 0, .int .u32 0, .int .u32 0, .int .u32 0, .int .u32 0, .int .u32 0, .int .u32 0, .int .u32 0, .int .u32 0, .int .u32 0, .int .u32 0, .int .u32 0, .int .u32 0, .int .u32 0, .int .u32 0, .int .u32 0, .int .u32 0, .int .u32 0, .int .u32 0, .int .u32 0, .int .u32 0, .int .u32 0, .int .u32 0, .int .u32 0]) := by unfold ZeroIs; kernel_rfl
theorem ty_95 : P.underlying 95 = some (.array 64 49) := by kernel_rfl
theorem eg_95 : Program.eqGuardType P P.depth 95 = false := by kernel_rfl
theorem one_96 : OneT P 96 true := by unfold OneT; kernel_rfl
theorem sz_96 : SizeIs P 96 1 := by unfold SizeIs; kernel_rfl
theorem ce_96 : P.cellsOf 96 = 1 := by kernel_rfl
theorem by_96 : BytesIs P 96 8 := by unfold BytesIs; kernel_rfl
theorem zr_96 : ZeroIs P 96 (.int .u64 0) := by unfold ZeroIs; kernel_rfl
theorem ty_96 : P.underlying 96 = some (.int .u64) := by kernel_rfl
theorem one_98 : OneT P 98 false := by unfold OneT; kernel_rfl
theorem sz_98 : SizeIs P 98 80 := by unfold SizeIs; kernel_rfl
theorem ce_98 : P.cellsOf 98 = 80 := by kernel_rfl
theorem by_98 : BytesIs P 98 640 := by unfold BytesIs; kernel_rfl
theorem zr_98 : ZeroIs P 98 (.agg #[.int .u64 0, .int .u64 0, .int .u64 0, .int .u64 0, .int .u64 0, .int .u64 0, .int .u64 0, .int .u64 0, .int .u64 0, .int .u64 0, .int .u64 0, .int .u64 0, .int .u64 0, .int .u64 0, .int .u64 0, .int .u64 0, .int .u64 0, .int .u64 0, .int .u64 0, .int .u64 0, .int .u64 0, .int .u64 0, .int .u64 0, .int .u64 0, .int .u64 0, .int .u64 0, .int .u64 0, .int .u64 0, .int .u64 0, .int .u64 0, .int .u64 0, .int .u64 0, .int .u64 0, .int .u64 0, .int .u64 0, .int .u64 0, .int .u64 0, .int .u64 0, .int .u64 0, .int .u64 0, .int .u64 0, .int .u64 0, .int .u64 0, .int .u64 0, .int .u64 0, .int .u64 0, .int .u64 0, .int .u64 0, .int .u64 0, .int .u64 0, .int .u64 0, .int .u64 0, .int .u64 0, .int .u64 0, .int .u64 0, .int .u64 0, .int .u64 0, .int .u64 0, .int .u64 0, .int .u64 0, .int .u64 0, .int .u64 0, .int .u64 0, .int .u64 0, .int .u64 0, .int .u64 0, .int .u64 0, .int .u64 0, .int .u64 0, .int .u64 0, .int .u64 0, .int .u64 0, .int .u64 0, .int .u64 0, .int .u64 0, .int .u64 0, .int .u64 0, .int .u64 0, .int .u64 0, .int .u64 0]) := by unfold ZeroIs; kernel_rfl
theorem ty_98 : P.underlying 98 = some (.array 80 46) := by kernel_rfl
theorem eg_98 : Program.eqGuardType P P.depth 98 = false := by kernel_rfl
theorem one_107 : OneT P 107 true := by unfold OneT; kernel_rfl
theorem sz_107 : SizeIs P 107 1 := by unfold SizeIs; kernel_rfl
theorem ce_107 : P.cellsOf 107 = 1 := by kernel_rfl
theorem by_107 : BytesIs P 107 1 := by unfold BytesIs; kernel_rfl
theorem zr_107 : ZeroIs P 107 (.int .u8 0) := by unfold ZeroIs; kernel_rfl
theorem ty_107 : P.underlying 107 = some (.int .u8) := by kernel_rfl
theorem has_2 : Has P 2 := ⟨_, Go.Proofs.Try.func2, by kernel_rfl, by kernel_rfl⟩
theorem has_3 : Has P 3 := ⟨_, Go.Proofs.Try.func3, by kernel_rfl, by kernel_rfl⟩
theorem has_4 : Has P 4 := ⟨_, Go.Proofs.Try.func4, by kernel_rfl, by kernel_rfl⟩
theorem has_5 : Has P 5 := ⟨_, Go.Proofs.Try.func5, by kernel_rfl, by kernel_rfl⟩
theorem has_6 : Has P 6 := ⟨_, Go.Proofs.Try.func6, by kernel_rfl, by kernel_rfl⟩
theorem has_7 : Has P 7 := ⟨_, Go.Proofs.Try.func7, by kernel_rfl, by kernel_rfl⟩
theorem has_8 : Has P 8 := ⟨_, Go.Proofs.Try.func8, by kernel_rfl, by kernel_rfl⟩
theorem has_9 : Has P 9 := ⟨_, Go.Proofs.Try.func9, by kernel_rfl, by kernel_rfl⟩
theorem has_10 : Has P 10 := ⟨_, Go.Proofs.Try.func10, by kernel_rfl, by kernel_rfl⟩
theorem has_11 : Has P 11 := ⟨_, Go.Proofs.Try.func11, by kernel_rfl, by kernel_rfl⟩
theorem has_12 : Has P 12 := ⟨_, Go.Proofs.Try.func12, by kernel_rfl, by kernel_rfl⟩
theorem has_13 : Has P 13 := ⟨_, Go.Proofs.Try.func13, by kernel_rfl, by kernel_rfl⟩
theorem has_14 : Has P 14 := ⟨_, Go.Proofs.Try.func14, by kernel_rfl, by kernel_rfl⟩
theorem has_15 : Has P 15 := ⟨_, Go.Proofs.Try.func15, by kernel_rfl, by kernel_rfl⟩
theorem has_16 : Has P 16 := ⟨_, Go.Proofs.Try.func16, by kernel_rfl, by kernel_rfl⟩
theorem has_17 : Has P 17 := ⟨_, Go.Proofs.Try.func17, by kernel_rfl, by kernel_rfl⟩
theorem has_18 : Has P 18 := ⟨_, Go.Proofs.Try.func18, by kernel_rfl, by kernel_rfl⟩
theorem has_19 : Has P 19 := ⟨_, Go.Proofs.Try.func19, by kernel_rfl, by kernel_rfl⟩
theorem has_20 : Has P 20 := ⟨_, Go.Proofs.Try.func20, by kernel_rfl, by kernel_rfl⟩
theorem has_21 : Has P 21 := ⟨_, Go.Proofs.Try.func21, by kernel_rfl, by kernel_rfl⟩
theorem has_22 : Has P 22 := ⟨_, Go.Proofs.Try.func22, by kernel_rfl, by kernel_rfl⟩
theorem has_23 : Has P 23 := ⟨_, Go.Proofs.Try.func23, by kernel_rfl, by kernel_rfl⟩
theorem has_24 : Has P 24 := ⟨_, Go.Proofs.Try.func24, by kernel_rfl, by kernel_rfl⟩
theorem has_25 : Has P 25 := ⟨_, Go.Proofs.Try.func25, by kernel_rfl, by kernel_rfl⟩
theorem has_26 : Has P 26 := ⟨_, Go.Proofs.Try.func26, by kernel_rfl, by kernel_rfl⟩
theorem has_27 : Has P 27 := ⟨_, Go.Proofs.Try.func27, by kernel_rfl, by kernel_rfl⟩
theorem has_28 : Has P 28 := ⟨_, Go.Proofs.Try.func28, by kernel_rfl, by kernel_rfl⟩
theorem has_29 : Has P 29 := ⟨_, Go.Proofs.Try.func29, by kernel_rfl, by kernel_rfl⟩
theorem has_30 : Has P 30 := ⟨_, Go.Proofs.Try.func30, by kernel_rfl, by kernel_rfl⟩
theorem has_31 : Has P 31 := ⟨_, Go.Proofs.Try.func31, by kernel_rfl, by kernel_rfl⟩
theorem has_32 : Has P 32 := ⟨_, Go.Proofs.Try.func32, by kernel_rfl, by kernel_rfl⟩
theorem has_33 : Has P 33 := ⟨_, Go.Proofs.Try.func33, by kernel_rfl, by kernel_rfl⟩
theorem has_34 : Has P 34 := ⟨_, Go.Proofs.Try.func34, by kernel_rfl, by kernel_rfl⟩
theorem has_35 : Has P 35 := ⟨_, Go.Proofs.Try.func35, by kernel_rfl, by kernel_rfl⟩
theorem has_36 : Has P 36 := ⟨_, Go.Proofs.Try.func36, by kernel_rfl, by kernel_rfl⟩
theorem has_37 : Has P 37 := ⟨_, Go.Proofs.Try.func37, by kernel_rfl, by kernel_rfl⟩
theorem has_38 : Has P 38 := ⟨_, Go.Proofs.Try.func38, by kernel_rfl, by kernel_rfl⟩
theorem has_39 : Has P 39 := ⟨_, Go.Proofs.Try.func39, by kernel_rfl, by kernel_rfl⟩
theorem has_40 : Has P 40 := ⟨_, Go.Proofs.Try.func40, by kernel_rfl, by kernel_rfl⟩
theorem has_41 : Has P 41 := ⟨_, Go.Proofs.Try.func41, by kernel_rfl, by kernel_rfl⟩
theorem has_42 : Has P 42 := ⟨_, Go.Proofs.Try.func42, by kernel_rfl, by kernel_rfl⟩
theorem has_43 : Has P 43 := ⟨_, Go.Proofs.Try.func43, by kernel_rfl, by kernel_rfl⟩
theorem has_44 : Has P 44 := ⟨_, Go.Proofs.Try.func44, by kernel_rfl, by kernel_rfl⟩
theorem has_45 : Has P 45 := ⟨_, Go.Proofs.Try.func45, by kernel_rfl, by kernel_rfl⟩
theorem has_46 : Has P 46 := ⟨_, Go.Proofs.Try.func46, by kernel_rfl, by kernel_rfl⟩
theorem has_47 : Has P 47 := ⟨_, Go.Proofs.Try.func47, by kernel_rfl, by kernel_rfl⟩
theorem has_48 : Has P 48 := ⟨_, Go.Proofs.Try.func48, by kernel_rfl, by kernel_rfl⟩
theorem has_49 : Has P 49 := ⟨_, Go.Proofs.Try.func49, by kernel_rfl, by kernel_rfl⟩
theorem has_50 : Has P 50 := ⟨_, Go.Proofs.Try.func50, by kernel_rfl, by kernel_rfl⟩
theorem has_51 : Has P 51 := ⟨_, Go.Proofs.Try.func51, by kernel_rfl, by kernel_rfl⟩
theorem has_52 : Has P 52 := ⟨_, Go.Proofs.Try.func52, by kernel_rfl, by kernel_rfl⟩
theorem has_53 : Has P 53 := ⟨_, Go.Proofs.Try.func53, by kernel_rfl, by kernel_rfl⟩
theorem has_54 : Has P 54 := ⟨_, Go.Proofs.Try.func54, by kernel_rfl, by kernel_rfl⟩
theorem has_55 : Has P 55 := ⟨_, Go.Proofs.Try.func55, by kernel_rfl, by kernel_rfl⟩
theorem has_56 : Has P 56 := ⟨_, Go.Proofs.Try.func56, by kernel_rfl, by kernel_rfl⟩
end Go.Proofs.Ytelcmllfojfbfaa.S
